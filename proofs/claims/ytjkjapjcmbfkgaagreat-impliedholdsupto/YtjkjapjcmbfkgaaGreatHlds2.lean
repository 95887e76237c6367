/-
  Part 2 of 8 of a proof.
-/
import Derived.Test.YtjkjapjcmbfkgaaGreatHlds1
import Derived.Orders
import Derived.Below
import Derived.Laws.AppendOwn
import Derived.Laws.MakeOwn
import Derived.Laws.CopyRow
import Derived.Laws.Rows
import Derived.Laws.Cells
import Derived.Tactics
import Derived.Laws.BitsLemmas

/-
  All operations in one; calls; pieces of code; functions.
-/
namespace Go.Proofs.YtjkjapjcmbfkgaaGreat.Vm
open Go
set_option linter.unusedVariables false
set_option linter.unusedSimpArgs false

/-! ### what a call comes to -/
/-- A call with these arguments ends so: a value and a state of the caller's. -/
def CallOk (P : Program) (pins : List Nat) (g : FuncId) (avs : List AV) (s : St) (K : AV → St → Prop) : Prop :=
  ∀ (fr : Fr) (ρ : Pl) (a : Act) (w : World) (vals : List Value), fr.pins = pins → Rep fr ρ s a w → Rps w (Av fr.F ρ) ρ avs vals →
    Calls P g vals.toArray w fun e w' => ∃ v x s' ρ', e = .returned v ∧ K x s' ∧ Rep fr ρ' s' a w' ∧ Rp w' (Av fr.F ρ') ρ' x v

/-- The function can be entered (it has a body, and is none of the model's own). -/
def enters (P : Program) (g : FuncId) : Bool :=
  match P.funcs[g]? with
  | some fn => !(fn.name == "runtime.NumGoroutine") && fn.body.isSome
  | none => false

theorem run_callFunc {P : Program} {g : FuncId} (h : enters P g = true) (args : Array Value) (w : World) : (callFunc g args).run P w = .ok (.enter g args) w := by
  unfold enters at h
  unfold callFunc
  cases hf : P.funcs[g]? with
  | none => rw [hf] at h; cases h
  | some fn =>
    rw [hf] at h
    simp only [Bool.and_eq_true, Bool.not_eq_true', beq_eq_false_iff_ne, ne_eq] at h
    obtain ⟨c, hb⟩ := Option.isSome_iff_exists.1 h.2
    simp [hf, h.1, hb]

section
variable {P : Program} {pins : List Nat}

def opW (P : Program) (pins : List Nat) (o : Oper) (s : St) (K : St → Prop) : Prop :=
  match o.op with
  | .move x => K (s.ret o.dst (ev s.env x))
  | .assign x => K (s.ret o.dst (ev s.env x))
  | .pick c x y => pickW (ev s.env c) (ev s.env x) (ev s.env y) fun z => K (s.ret o.dst z)
  | .alloc t => match o.dst with
    | some d => dead s d ∧ (tyOf P t).d ≠ .no ∧ (tyOf P t).hz = true ∧ K ((s.seth d (.arr t (tyOf P t).zero.length false [(tyOf P t).zero])).ret (some d) (.ptr d 0 0))
    | none => False
  | .box t x => match o.dst with
    | some d => dead s d ∧ storable (ev s.env x) = true ∧ K ((s.seth d (.arr t (cellsOf (ev s.env x)).length false [cellsOf (ev s.env x)])).ret (some d) (.ptr d 0 0))
    | none => False
  | .build t ps => buildW P (tyOf P t) (ps.toList.map fun p => (p.1, ev s.env p.2)) fun z => K (s.ret o.dst z)
  | .buildSlice t len ps => litW P (tyOf P t) o.dst len (ps.toList.map fun p => (p.1, ev s.env p.2)) s fun z s' => K (s'.ret o.dst z)
  | .load t x => (tyOf P t).d ≠ .no ∧ ((tyOf P t).isAgg = true ∨ (tyOf P t).size = 1) ∧ loadW (tyOf P t) (ev s.env x) s.hp fun z => K (s.ret o.dst z)
  | .store t x y => o.dst = none ∧ (tyOf P t).d ≠ .no ∧ storeW (tyOf P t) (ev s.env x) (ev s.env y) s K
  | .nilCheck x => nilCheckW (ev s.env x) fun z => K (s.ret o.dst z)
  | .binOp op t x y _ => binW P (tyOf P t) op (ev s.env x) (ev s.env y) fun z => K (s.ret o.dst z)
  | .unOp op _ x => unW op (ev s.env x) fun z => K (s.ret o.dst z)
  | .convert t u x => convW (tyOf P t) (tyOf P u) (ev s.env x) fun z => K (s.ret o.dst z)
  | .makeSlice t x y => makeW P (tyOf P t) o.dst (ev s.env x) (ev s.env y) s fun z s' => K (s'.ret o.dst z)
  | .slice t x lo hi mx => sliceW P (tyOf P t) (ev s.env x) (evo s.env lo) (evo s.env hi) (evo s.env mx) s.hp fun z => K (s.ret o.dst z)
  | .fieldAddr t x f => fieldAddrW P (tyOf P t) (ev s.env x) f fun z => K (s.ret o.dst z)
  | .field t x f => fieldW P (tyOf P t) (ev s.env x) f fun z => K (s.ret o.dst z)
  | .indexAddr t x y => indexAddrW P (tyOf P t) (ev s.env x) (ev s.env y) s.hp fun z => K (s.ret o.dst z)
  | .index t x y => indexW P (tyOf P t) (ev s.env x) (ev s.env y) fun z => K (s.ret o.dst z)
  | .extract x i => extractW (ev s.env x) i fun z => K (s.ret o.dst z)
  | .makeFunc f first cap => K (s.ret o.dst (.fn f (first.toList.map (ev s.env)) (cap.toList.map (ev s.env))))
  | .call ⟨.builtin .len, ⟨[x]⟩, ⟨[t]⟩⟩ => lenW (tyOf P t) (ev s.env x) fun z => K (s.ret o.dst z)
  | .call ⟨.builtin .append, ⟨[x, y]⟩, ⟨[t, u]⟩⟩ => t = u ∧ appendW P (tyOf P t) pins o.dst (ev s.env x) (ev s.env y) s fun z s' => K (s'.ret o.dst z)
  | .call ⟨.builtin .copy, ⟨[x, y]⟩, ⟨[t, u]⟩⟩ => copyW P (tyOf P t) (ev s.env x) (ev s.env y) s fun z s' => K (s'.ret o.dst z)
  | .call ⟨.builtin .clear, ⟨[x]⟩, ⟨[t]⟩⟩ => clearW P (tyOf P t) (ev s.env x) s fun s' => K (s'.ret o.dst .any)
  | .call ⟨.value f, ⟨xs⟩, _⟩ => match ev s.env f with
    | .fn (.func g) first cap => enters P g = true ∧ CallOk P pins g (first ++ xs.map (ev s.env) ++ cap) s fun z s' => K (s'.ret o.dst z)
    | _ => False
  | _ => False

theorem wp_of_val {fr : Fr} {a : Act} {w : World} {o : Oper} {s : St} {K : St → Prop} {Q : Exit → Act → World → Prop} (h : ∃ z, K (s.ret o.dst z) ∧ VOk P fr a w o z s) : o.wp P a w (Ends fr K) Q := by
  obtain ⟨z, h1, h2⟩ := h
  exact h2.wp h1
theorem wp_of_val2 {fr : Fr} {a : Act} {w : World} {o : Oper} {K : St → Prop} {Q : Exit → Act → World → Prop} (h : ∃ z s', K (s'.ret o.dst z) ∧ VOk P fr a w o z s') : o.wp P a w (Ends fr K) Q := by
  obtain ⟨z, s', h1, h2⟩ := h
  exact h2.wp h1

theorem Rps_map {w : World} {A : Nat → Prop} {ρ : Pl} {e : List AV} {a : Act} (h : Rps w A ρ e a.tmps.toList) : ∀ l : List Operand, Rps w A ρ (l.map (ev e)) (l.map a.eval)
  | [] => by simp only [List.map_nil, Rps]
  | x :: l => by simp only [List.map_cons, Rps]; exact ⟨_, _, rfl, ev_sound h x, Rps_map h l⟩

theorem opW_sound {fr : Fr} {ρ : Pl} {s : St} {a : Act} {w : World} {o : Oper} {K : St → Prop} {Q : Exit → Act → World → Prop} (hp : fr.pins = pins) (h : Rep fr ρ s a w) (hk : opW P pins o s K) : o.wp P a w (Ends fr K) Q := by
  subst hp
  unfold opW at hk
  split at hk
  · rename_i x ho
    exact (ok_move h x (.inl ho)).wp hk
  · rename_i x ho
    exact (ok_move h x (.inr ho)).wp hk
  · rename_i c x y ho
    exact wp_of_val (ok_pick h c x y ho hk)
  · rename_i t ho
    split at hk
    · rename_i d hd
      obtain ⟨h1, h2, h3, h4⟩ := hk
      refine (ok_alloc h hd h1 ho h2 h3).wp ?_
      rw [hd]
      exact h4
    · exact hk.elim
  · rename_i t x ho
    split at hk
    · rename_i d hd
      obtain ⟨h1, h2, h4⟩ := hk
      refine (ok_box h hd h1 ho h2).wp ?_
      rw [hd]
      exact h4
    · exact hk.elim
  · rename_i t ps ho
    exact wp_of_val (ok_build h ho hk)
  · rename_i t len ps ho
    exact wp_of_val2 (ok_lit h ho hk)
  · rename_i t x ho
    exact wp_of_val (ok_load h ho hk.1 hk.2.1 hk.2.2)
  · rename_i t x y ho
    exact ok_store h ho hk.1 hk.2.1 hk.2.2
  · rename_i x ho
    exact wp_of_val (ok_nilCheck h ho hk)
  · rename_i op t x y ty ho
    exact wp_of_val (ok_bin h ho hk)
  · rename_i op t x ho
    exact wp_of_val (ok_un h ho hk)
  · rename_i t u x ho
    exact wp_of_val (ok_conv h ho hk)
  · rename_i t x y ho
    exact wp_of_val2 (ok_make h ho hk)
  · rename_i t x lo hi mx ho
    exact wp_of_val (ok_slice h ho hk)
  · rename_i t x f ho
    exact wp_of_val (ok_fieldAddr h ho hk)
  · rename_i t x f ho
    exact wp_of_val (ok_field h ho hk)
  · rename_i t x y ho
    exact wp_of_val (ok_indexAddr h ho hk)
  · rename_i t x y ho
    exact wp_of_val (ok_index h ho hk)
  · rename_i x i ho
    exact wp_of_val (ok_extract h ho hk)
  · rename_i f first cap ho
    refine VOk.wp ⟨.func f (first.map a.eval) (cap.map a.eval), w, ρ, ?_, h, ?_⟩ hk
    · unfold execOp
      simp only [ho]
      rfl
    · simp only [Rp]
      exact ⟨first.toList.map a.eval, cap.toList.map a.eval, by rw [← Array.toList_map, ← Array.toList_map, Array.toArray_toList, Array.toArray_toList], Rps_map h.env _, Rps_map h.env _⟩
  · rename_i x t ho
    exact wp_of_val (ok_len h ho hk)
  · rename_i x y t u ho
    obtain ⟨rfl, hk⟩ := hk
    exact wp_of_val2 (ok_append h ho hk)
  · rename_i x y t u ho
    exact wp_of_val2 (ok_copy h ho hk)
  · rename_i x t ho
    obtain ⟨s', h1, h2⟩ := ok_clear h ho hk
    exact wp_of_val2 ⟨.any, s', h1, h2⟩
  · rename_i f xs tys ho
    split at hk
    · rename_i g first cap hf
      obtain ⟨hent, hk⟩ := hk
      have hf' := ev_sound h.env f
      rw [hf] at hf'
      simp only [Rp] at hf'
      obtain ⟨us, vs, he, hus, hvs⟩ := hf'
      have hargs : Rps w (Av fr.F ρ) ρ (first ++ xs.map (ev s.env) ++ cap) (us ++ xs.map a.eval ++ vs) := (hus.append (Rps_map h.env xs)).append hvs
      have hc := hk fr ρ a w _ rfl h hargs
      have hrun : (execOp a.eval o).run P w = .ok (.enter g (us ++ xs.map a.eval ++ vs).toArray) w := by
        unfold execOp
        simp only [ho, resolve, he, Deferred.ofValue]
        simp only [Sem.run_bind, Sem.run_pure, Result.andThen_ok, invoke]
        have := run_callFunc (P := P) hent (us.toArray ++ (xs.map a.eval).toArray ++ vs.toArray) w
        simpa using this
      unfold Oper.wp
      rw [hrun]
      refine hc.mono fun e w' hr => ?_
      obtain ⟨v, x, s', ρ', rfl, h1, h2, h3⟩ := hr
      exact ⟨_, ρ', h1, h2.put o.dst h3⟩
    · exact hk.elim
  · exact hk.elim

/-! ### lists of operations -/
/-- Is an operation wanted: by its guard's slot. 'some b': known. -/
def guardOf (ops : Array Oper) (e : List AV) (j : Nat) : AV :=
  match (ops[j]?).bind (·.dst) with
  | some d => e.getD d .und
  | none => .und
/-- What a guard's slot has been found to be. -/
def St.known (s : St) (ops : Array Oper) (j : Nat) (b : Bool) : St :=
  match (ops[j]?).bind (·.dst) with
  | some d => ⟨s.env.set d (.bool b), s.hp⟩
  | none => s
theorem known_eq {ops : Array Oper} {s : St} {j : Nat} {b : Bool} (h : guardOf ops s.env j = .bool b) : s.known ops j b = s := by
  unfold guardOf at h
  unfold St.known
  cases hd : (ops[j]?).bind (·.dst) with
  | none => rfl
  | some d =>
    rw [hd] at h
    simp only [List.getD_eq_getElem?_getD] at h
    have : s.env.set d (.bool b) = s.env := by
      refine List.ext_getElem? fun i => ?_
      rw [List.getElem?_set]
      split
      · rename_i hi
        subst hi
        cases he : s.env[d]? with
        | none => rw [he] at h; simp at h
        | some x =>
          rw [he] at h
          simp at h
          subst h
          simp [(List.getElem?_eq_some_iff.1 he).1]
      · rfl
    simp only [this]
def opsW (P : Program) (pins : List Nat) (ops : Array Oper) : List Oper → St → (St → Prop) → Prop
  | [], s, K => K s
  | o :: rest, s, K => match o.guard with
    | none => opW P pins o s fun s' => opsW P pins ops rest s' K
    | some (j, want) => match guardOf ops s.env j with
      | .bool b => (b = want → opW P pins o (s.known ops j want) fun s' => opsW P pins ops rest s' K) ∧ (b = (!want) → opsW P pins ops rest ((s.known ops j (!want)).ret o.dst .und) K)
      | .und => opsW P pins ops rest (s.ret o.dst .und) K
      | _ => False

theorem guard_sound {ops : Array Oper} {w : World} {A : Nat → Prop} {ρ : Pl} {e : List AV} {a : Act} (h : Rps w A ρ e a.tmps.toList) (j : Nat) :
    (∀ b, guardOf ops e j = .bool b → yielded ops a.tmps j = some b) ∧ (guardOf ops e j = .und → yielded ops a.tmps j = none) := by
  unfold guardOf yielded
  cases hd : (ops[j]?).bind (·.dst) with
  | none => simp
  | some d =>
    simp only [Option.bind_some, List.getD_eq_getElem?_getD]
    cases he : e[d]? with
    | none =>
      have : a.tmps[d]? = none := by
        rw [Array.getElem?_eq_none_iff]
        have := h.length
        rw [List.getElem?_eq_none_iff] at he
        simp at this
        omega
      simp [this]
    | some x =>
      obtain ⟨v, hv, hr⟩ := h.get he
      have hv' : a.tmps[d]? = some v := by simpa using hv
      rw [hv']
      refine ⟨fun b hb => ?_, fun hb => ?_⟩
      · simp at hb; subst hb; simp only [Rp] at hr; subst hr; rfl
      · simp at hb; subst hb; simp only [Rp] at hr; subst hr; rfl

theorem Ends.mono {fr : Fr} {K K' : St → Prop} {a : Act} {w : World} (h : Ends fr K a w) (hk : ∀ s, K s → K' s) : Ends fr K' a w := by
  obtain ⟨s, ρ, h1, h2⟩ := h
  exact ⟨s, ρ, hk s h1, h2⟩

theorem opsW_sound {ops : Array Oper} {fr : Fr} (hp : fr.pins = pins) {K : St → Prop} {Q : Exit → Act → World → Prop} (hQ : ∀ a w, Ends fr K a w → Q .normal a w) : ∀ (l : List Oper) (s : St) (a : Act) (w : World) (ρ : Pl), Rep fr ρ s a w → opsW P pins ops l s K → wpList P ops Q l a w
  | [], s, a, w, ρ, h, hk => hQ a w ⟨s, ρ, hk, h⟩
  | o :: rest, s, a, w, ρ, h, hk => by
    unfold opsW at hk
    have step : ∀ (hw : Region.wanted o (yielded ops a.tmps) = true), (opW P pins o s fun s' => opsW P pins ops rest s' K) → wpList P ops Q (o :: rest) a w := by
      intro hw hk
      have h1 := opW_sound (Q := Q) hp h hk
      unfold wpList
      rw [if_pos hw]
      refine .inl (Oper.wp_mono (fun a' w' he => ?_) h1)
      obtain ⟨s', ρ', h2, h3⟩ := he
      exact opsW_sound hp hQ rest s' a' w' ρ' h3 h2
    have skip : ∀ (hw : Region.wanted o (yielded ops a.tmps) = false), opsW P pins ops rest (s.ret o.dst .und) K → wpList P ops Q (o :: rest) a w := by
      intro hw hk
      unfold wpList
      rw [if_neg (by rw [hw]; simp)]
      exact opsW_sound hp hQ rest _ _ w ρ (h.put o.dst (x := .und) (v := undef) (by simp only [Rp])) hk
    split at hk
    · rename_i hg
      exact step (by simp [Region.wanted, hg]) hk
    · rename_i j want hg
      obtain ⟨g1, g2⟩ := guard_sound (ops := ops) h.env j
      split at hk
      · rename_i b hb
        have hy := g1 b hb
        by_cases hbw : b = want
        · have h1 := hk.1 hbw
          rw [← hbw, known_eq hb] at h1
          exact step (by simp [Region.wanted, hg, hy, hbw]) h1
        · have hb2 : b = !want := by cases b <;> cases want <;> simp_all
          have h2 := hk.2 hb2
          rw [← hb2, known_eq hb] at h2
          refine skip ?_ h2
          rw [hb2] at hy
          simp [Region.wanted, hg, hy]
      · rename_i hb
        have hy := g2 hb
        exact skip (by simp [Region.wanted, hg, hy]) hk
      · exact hk.elim

/-! ### pieces of code -/
/-- From every world that bears out s the code ends in one that bears out a state of Q's. -/
def W (P : Program) (pins : List Nat) (c : Code) (Q : Exit → St → Prop) (s : St) : Prop :=
  ∀ (fr : Fr) (ρ : Pl) (a : Act) (w : World), fr.pins = pins → Rep fr ρ s a w → c.wp P (fun e a' w' => Ends fr (Q e) a' w') a w

theorem W.mono {c : Code} {Q Q' : Exit → St → Prop} {s : St} (h : W P pins c Q s) (hq : ∀ e s, Q e s → Q' e s) : W P pins c Q' s :=
  fun fr ρ a w hp hr => Code.wp_mono (fun e a w he => he.mono (hq e)) (h fr ρ a w hp hr)

theorem W_skip {Q : Exit → St → Prop} {s : St} (h : Q .normal s) : W P pins .skip Q s := fun fr ρ a w hp hr => wp_skip ⟨s, ρ, h, hr⟩
theorem W_ret {Q : Exit → St → Prop} {s : St} (h : Q .ret s) : W P pins .ret Q s := fun fr ρ a w hp hr => wp_ret ⟨s, ρ, h, hr⟩
theorem W_exit {i : Nat} {Q : Exit → St → Prop} {s : St} (h : Q (.exit i) s) : W P pins (.exit i) Q s := fun fr ρ a w hp hr => wp_exit ⟨s, ρ, h, hr⟩
def thenW (next : St → Prop) (Q : Exit → St → Prop) : Exit → St → Prop
  | .normal, s => next s
  | e, s => Q e s
theorem W_seq {x y : Code} {Q : Exit → St → Prop} {s : St} (h : W P pins x (thenW (W P pins y Q) Q) s) : W P pins (.seq x y) Q s := by
  intro fr ρ a w hp hr
  refine wp_seq (Code.wp_mono (fun e a' w' he => ?_) (h fr ρ a w hp hr))
  cases e with
  | normal =>
    obtain ⟨s', ρ', h1, h2⟩ := he
    exact h1 fr ρ' a' w' hp h2
  | _ => exact he
theorem W_cond {c : Operand} {x y : Code} {Q : Exit → St → Prop} {s : St} {t : Bool} (hc : ev s.env c = .bool t) (ht : t = true → W P pins x Q s) (hf : t = false → W P pins y Q s) : W P pins (.cond c x y) Q s := by
  intro fr ρ a w hp hr
  have h1 := ev_sound hr.env c
  rw [hc] at h1
  simp only [Rp] at h1
  exact wp_cond_split h1 (fun h => ht h fr ρ a w hp hr) (fun h => hf h fr ρ a w hp hr)
def blockW (i : Nat) (Q : Exit → St → Prop) : Exit → St → Prop
  | .exit j, s => if j = i then Q .normal s else Q (.exit j) s
  | e, s => Q e s
theorem W_block {i : Nat} {c : Code} {Q : Exit → St → Prop} {s : St} (h : W P pins c (blockW i Q) s) : W P pins (.block i c) Q s := by
  intro fr ρ a w hp hr
  refine wp_block (Code.wp_mono (fun e a' w' he => ?_) (h fr ρ a w hp hr))
  cases e with
  | exit j =>
    simp only [Exit.inBlock]
    obtain ⟨s', ρ', h1, h2⟩ := he
    simp only [blockW] at h1
    split
    · rename_i hj; rw [if_pos hj] at h1; exact ⟨s', ρ', h1, h2⟩
    · rename_i hj; rw [if_neg hj] at h1; exact ⟨s', ρ', h1, h2⟩
  | _ => exact he
theorem W_region {i : Nat} {ops : Array Oper} {Q : Exit → St → Prop} {s : St} (h : opsW P pins ops ops.toList s (Q .normal)) : W P pins (.region i ops false) Q s := by
  intro fr ρ a w hp hr
  exact wp_region_list (opsW_sound hp (fun a w he => he) ops.toList s a w ρ hr h)

/-- Loops, over a kind of states. -/
theorem wp_loop_rel {ι : Type} {c : Code} {Q : Exit → Act → World → Prop} (I : ι → Act → World → Prop) (μ : ι → Nat)
    (round : ∀ i a w, I i a w → c.wp P (Exit.then (fun a' w' => ∃ j, I j a' w' ∧ μ j < μ i) Q) a w) (i : ι) {a : Act} {w : World} (h : I i a w) : (Code.loop c).wp P Q a w := by
  intro b k cs
  have key : ∀ n i a w, μ i = n → I i a w → ∃ e a' w', Q e a' w' ∧ Arrives P (lone (b.at a (.code c :: .inLoop c :: k)) cs w) b k cs e a' w' := by
    intro n
    induction n using Nat.strongRecOn with
    | _ n ih =>
      intro i a w hn hI
      obtain ⟨e, a₁, w₁, hq, harr⟩ := round i a w hI b (.inLoop c :: k) cs
      cases e with
      | normal =>
        obtain ⟨j, hI₁, hlt⟩ := hq
        obtain ⟨e₂, a₂, w₂, hq₂, harr₂⟩ := ih (μ j) (hn ▸ hlt) j a₁ w₁ rfl hI₁
        exact ⟨e₂, a₂, w₂, hq₂, .of_steps (Steps.trans harr (.one step_inLoop)) harr₂⟩
      | exit id => exact ⟨_, a₁, w₁, hq, .pass (x := .inLoop c) rfl (fun _ _ => .inl (by simp)) harr⟩
      | goto l => exact ⟨_, a₁, w₁, hq, .pass (x := .inLoop c) rfl (fun _ _ => .inl (by simp)) harr⟩
      | ret => exact ⟨_, a₁, w₁, hq, .pass (x := .inLoop c) rfl (fun _ _ => .inl (by simp)) harr⟩
      | panic ch => exact ⟨_, a₁, w₁, hq, .pass (x := .inLoop c) rfl (fun _ _ => .inl (by simp)) harr⟩
      | outgrown => exact ⟨_, a₁, w₁, hq, .pass (x := .inLoop c) rfl (fun _ _ => .inl (by simp)) harr⟩
  obtain ⟨e, a', w', hq, harr⟩ := key _ i a w rfl h
  exact ⟨e, a', w', hq, .of_steps (.one step_loop) harr⟩

/-- Fewer words about a state: a step that no world sees. -/
def Le (pins : List Nat) (s s' : St) : Prop := ∀ (fr : Fr) (ρ : Pl) (a : Act) (w : World), fr.pins = pins → Rep fr ρ s a w → ∃ ρ', Rep fr ρ' s' a w
theorem Le.trans {s t u : St} (h : Le pins s t) (h' : Le pins t u) : Le pins s u := fun fr ρ a w hp hr => by
  obtain ⟨ρ', h1⟩ := h fr ρ a w hp hr
  exact h' fr ρ' a w hp h1
theorem W.le {c : Code} {Q : Exit → St → Prop} {s s' : St} (h : W P pins c Q s') (hle : Le pins s s') : W P pins c Q s := fun fr ρ a w hp hr => by
  obtain ⟨ρ', h1⟩ := hle fr ρ a w hp hr
  exact h fr ρ' a w hp h1

theorem W_loop {ι : Type} {c : Code} {Q : Exit → St → Prop} (S : ι → St) (μ : ι → Nat) (i : ι) {s : St} (h0 : Le pins s (S i))
    (round : ∀ i, W P pins c (thenW (fun s' => ∃ j, Le pins s' (S j) ∧ μ j < μ i) Q) (S i)) : W P pins (.loop c) Q s := by
  intro fr ρ a w hp hr
  obtain ⟨ρ0, hr0⟩ := h0 fr ρ a w hp hr
  refine wp_loop_rel (fun i a w => ∃ ρ, Rep fr ρ (S i) a w) μ ?_ i ⟨ρ0, hr0⟩
  rintro i a w ⟨ρ, hr⟩
  refine Code.wp_mono (fun e a' w' he => ?_) (round i fr ρ a w hp hr)
  cases e with
  | normal =>
    obtain ⟨s', ρ', ⟨j, h1, h2⟩, h3⟩ := he
    exact ⟨j, h1 fr ρ' a' w' hp h3, h2⟩
  | _ => exact he
end
end Go.Proofs.YtjkjapjcmbfkgaaGreat.Vm

/-
  Functions: what a call of a function that keeps nothing comes to; data out of objects.
-/
namespace Go.Proofs.YtjkjapjcmbfkgaaGreat.Vm
open Go Go.RowKit
set_option linter.unusedVariables false
set_option linter.unusedSimpArgs false

/-! ### an object's content avs data -/
mutual
def view (hp : List Ob) : Nat → AV → AV
  | _, .nils => .sl []
  | n, .sref i off m => match hp.getD i .dead with
    | .arr _ _ true rows => .sl ((rows.drop off).take m)
    | .arr _ _ false rows => match n with
      | n + 1 => .sl (((rows.drop off).take m).map (views hp n))
      | 0 => .any
    | .dead => .any
  | _, .ptr _ _ _ => .any
  | _, .mp _ => .any
  | n, .agg cs => .agg (views hp n cs)
  | n, .tup cs => .tup (views hp n cs)
  | n, .fn f fs cs => .fn f (views hp n fs) (views hp n cs)
  | n, .ifc t x => .ifc t (view hp n x)
  | _, x => x
def views (hp : List Ob) : Nat → List AV → List AV
  | _, [] => []
  | n, x :: xs => view hp n x :: views hp n xs
end

/-- A plain value: of no memory. -/
def AV.flat : AV → Bool
  | .int _ _ | .bool _ | .str _ | .und | .nilp | .nilif | .nilfn | .nilmp | .nils | .gl _ => true
  | .tup l => l.all fun x => match x with | .int _ _ | .bool _ | .str _ | .und | .nilp | .nilif | .nilfn | .nilmp | .nils => true | _ => false
  | _ => false

/-- What is known when all objects are data: 'F' alone is avoided. -/
structure AsData (w : World) (F : Nat → Prop) (ρ : Pl) (hp : List Ob) : Prop where
  obj : ∀ i, HRo w (Av F ρ) ρ (hp.getD i .dead) (ρ i)
  lt : ∀ i p b, ρ i = some p → p.block = some b → b < w.heap.size
  free : ∀ i p b, ρ i = some p → p.block = some b → ¬ F b

theorem lat_F {w : World} {F : Nat → Prop} {ρ : Pl} : Later w (Av F ρ) noPl w F noPl := ⟨Nat.le_refl _, fun _ _ h => .inl h, fun _ _ _ => rfl, fun _ _ h => h⟩

mutual
theorem view_sound {w : World} {F : Nat → Prop} {ρ : Pl} {hp : List Ob} (H : AsData w F ρ hp) : ∀ (n : Nat) (x : AV) {v : Value}, Rp w (Av F ρ) ρ x v → Rp w F noPl (view hp n x) v
  | n, .any, _, h => by simp only [view, Rp]
  | n, .und, _, h => by simpa only [view, Rp] using h
  | n, .int _ _, _, h => by simpa only [view, Rp] using h
  | n, .bool _, _, h => by simpa only [view, Rp] using h
  | n, .str _, _, h => by simpa only [view, Rp] using h
  | n, .nils, _, h => by
    simp only [view, Rp] at h ⊢
    exact ⟨none, 0, h, by simp, by simp, .inl trivial⟩
  | n, .sl rows, v, h => by
    have := Rp.later (ρ := noPl) (ρ' := noPl) (.sl rows) (lat_F (ρ := ρ)) (by simpa only [Rp] using h)
    simpa only [view, Rp] using this
  | n, .ia row off, v, h => by
    have := Rp.later (ρ := noPl) (ρ' := noPl) (.ia row off) (lat_F (ρ := ρ)) (by simpa only [Rp] using h)
    simpa only [view, Rp] using this
  | n, .sref i off m, v, h => by
    simp only [view]
    split
    · rename_i T k rows hob
      have ho := H.obj i
      rw [hob] at ho
      simp only [Rp] at h ⊢
      rcases h with ⟨h1, rfl, rfl, rfl⟩ | ⟨b, s', cap, len, x, h1, h2, rfl, h4⟩
      · exact ⟨none, 0, by simp, by simp, by simp, .inl (by simp)⟩
      · have hlt := H.lt i _ b h1 rfl
        have hfr := H.free i _ b h1 rfl
        rw [h1] at ho
        obtain ⟨_, hlen0, hh⟩ := ho
        obtain ⟨vss, hr, hlens, hcells⟩ := hh.cells
        have hcap := hh.cap
        have hmax : cap ≤ maxLen := by obtain ⟨_, _, _, _, _, _, _, hm⟩ := hh; exact hm
        have hl : ((rows.drop off).take m).length = m := by simp; omega
        rw [hl]
        refine ⟨_, _, rfl, by omega, by omega, ?_⟩
        by_cases hm : m = 0
        · exact .inl (List.eq_nil_of_length_eq_zero (by omega))
        · refine .inr ⟨b, x, (vss.drop off).take m, rfl, hfr, hlt, ?_, (((show RpR w (Av F ρ) noPl rows vss from hr).later _ lat_F).drop off).take m⟩
          intro j u hj
          rw [h4 (.inl (by omega))]
          have := hcells _ u (flatten_drop_at hlens off m j hj)
          rwa [Nat.zero_add] at this
    · rename_i T k rows hob
      split
      · rename_i n'
        have ho := H.obj i
        rw [hob] at ho
        simp only [Rp] at h ⊢
        rcases h with ⟨h1, rfl, rfl, rfl⟩ | ⟨b, s', cap, len, x, h1, h2, rfl, h4⟩
        · exact ⟨none, 0, by simp, by simp, by simp, .inl (by simp)⟩
        · have hlt := H.lt i _ b h1 rfl
          have hfr := H.free i _ b h1 rfl
          rw [h1] at ho
          obtain ⟨_, hlen0, hh⟩ := ho
          obtain ⟨vss, hr, hlens, hcells⟩ := hh.cells
          have hcap := hh.cap
          have hmax : cap ≤ maxLen := by obtain ⟨_, _, _, _, _, _, _, hm⟩ := hh; exact hm
          have hl : (((rows.drop off).take m).map (views hp n')).length = m := by simp; omega
          rw [hl]
          refine ⟨_, _, rfl, by omega, by omega, ?_⟩
          by_cases hm : m = 0
          · exact .inl (List.eq_nil_of_length_eq_zero (by omega))
          · refine .inr ⟨b, x, (vss.drop off).take m, rfl, hfr, hlt, ?_, ?_⟩
            · intro j u hj
              rw [h4 (.inl (by omega))]
              have := hcells _ u (flatten_drop_at hlens off m j hj)
              rwa [Nat.zero_add] at this
            · have hr2 := ((show RpR w (Av F ρ) ρ rows vss from hr).drop off).take m
              refine RpR.mk (by simp [hr.length]) fun j y u hy hu => ?_
              rw [List.getElem?_map] at hy
              cases hj : ((rows.drop off).take m)[j]? with
              | none => rw [hj] at hy; cases hy
              | some r =>
                rw [hj] at hy
                cases hy
                obtain ⟨u', hu', hr3⟩ := hr2.get hj
                rw [hu] at hu'
                cases hu'
                exact views_sound H n' r hr3
      · simp only [Rp]
    · simp only [Rp]
  | n, .ptr _ _ _, _, h => by simp only [view, Rp]
  | n, .nilp, _, h => by simpa only [view, Rp] using h
  | n, .agg cs, v, h => by
    simp only [view, Rp] at h ⊢
    obtain ⟨vs, h1, h2⟩ := h
    exact ⟨vs, h1, views_sound H n cs h2⟩
  | n, .tup cs, v, h => by
    simp only [view, Rp] at h ⊢
    obtain ⟨vs, h1, h2⟩ := h
    exact ⟨vs, h1, views_sound H n cs h2⟩
  | n, .fn f fs cs, v, h => by
    simp only [view, Rp] at h ⊢
    obtain ⟨us, vs, h1, h2, h3⟩ := h
    exact ⟨us, vs, h1, views_sound H n fs h2, views_sound H n cs h3⟩
  | n, .nilfn, _, h => by simpa only [view, Rp] using h
  | n, .ifc t x, v, h => by
    simp only [view, Rp] at h ⊢
    obtain ⟨y, h1, h2⟩ := h
    exact ⟨y, h1, view_sound H n x h2⟩
  | n, .nilif, _, h => by simpa only [view, Rp] using h
  | n, .gl _, _, h => by simpa only [view, Rp] using h
  | n, .mp _, _, h => by simp only [view, Rp]
  | n, .nilmp, _, h => by simpa only [view, Rp] using h
theorem views_sound {w : World} {F : Nat → Prop} {ρ : Pl} {hp : List Ob} (H : AsData w F ρ hp) : ∀ (n : Nat) (l : List AV) {vs : List Value}, Rps w (Av F ρ) ρ l vs → Rps w F noPl (views hp n l) vs
  | n, [], _, h => by simpa only [views, Rps] using h
  | n, x :: xs, vs, h => by
    simp only [views, Rps] at h ⊢
    obtain ⟨v, us, h1, h2, h3⟩ := h
    exact ⟨v, us, h1, view_sound H n x h2, views_sound H n xs h3⟩
end

/-! ### functions that keep nothing -/
/-- Whatever the memory: called with data it returns one of R's, in memory of its own or the arguments', and nothing that was there has turned. -/
def Pure (P : Program) (g : FuncId) (args : List AV) (R : AV → Prop) : Prop :=
  ∀ (w : World) (vals : List Value) (F : Nat → Prop), (∀ k, F k → k < w.heap.size) → Rps w F noPl args vals →
    Calls P g vals.toArray w fun e w' => ∃ v r, e = .returned v ∧ R r ∧ Below w.heap.size w w' ∧ Rp w' F noPl r v

theorem Pure.mono {P : Program} {g : FuncId} {args : List AV} {R R' : AV → Prop} (h : Pure P g args R) (hr : ∀ r, R r → R' r) : Pure P g args R' := by
  intro w vals F hF hv
  refine (h w vals F hF hv).mono fun e w' he => ?_
  obtain ⟨v, r, h1, h2, h3⟩ := he
  exact ⟨v, r, h1, hr r h2, h3⟩

def resV (P : Program) (s : St) (r : ResultVar) (K : AV → Prop) : Prop :=
  match r with
  | .tmp t => K (s.env.getD t .any)
  | .cell ad t => (tyOf P t).d ≠ .no ∧ ((tyOf P t).isAgg = true ∨ (tyOf P t).size = 1) ∧ loadW (tyOf P t) (s.env.getD ad .any) s.hp K
def resW (P : Program) (s : St) : List ResultVar → (List AV → Prop) → Prop
  | [], K => K []
  | r :: rs, K => resV P s r fun x => resW P s rs fun xs => K (x :: xs)
def asOne : List AV → AV
  | [x] => x
  | xs => .tup xs

/-- What a function's end comes to: its result, all objects turned to data. -/
def retQ (P : Program) (fn : Func) (R : AV → Prop) : Exit → St → Prop
  | .normal, s => resW P s fn.results.toList fun xs => R (view s.hp 3 (asOne xs))
  | .ret, s => resW P s fn.results.toList fun xs => R (view s.hp 3 (asOne xs))
  | _, _ => False

def rdV (a : Act) (r : ResultVar) : Sem Value :=
  match r with
  | .tmp t => pure (a.tmps.getD t undef)
  | .cell ad t => do loadVar t (← asAddr (a.tmps.getD ad undef))

theorem resV_sound {P : Program} {fr : Fr} {ρ : Pl} {s : St} {a : Act} {w : World} (h : Rep fr ρ s a w) {r : ResultVar} {K : AV → Prop} (hk : resV P s r K) :
    ∃ x v, K x ∧ (rdV a r).run P w = .ok v w ∧ Rp w (Av fr.F ρ) ρ x v := by
  cases r with
  | tmp t => exact ⟨_, _, hk, rfl, ev_sound h.env (.tmp t)⟩
  | cell ad t =>
    obtain ⟨h1, h2, hk⟩ := hk
    obtain ⟨z, b, q, v, hz, he, hrun, hr⟩ := load_core h (ev_sound h.env (.tmp ad)) h1 h2 hk
    refine ⟨z, v, hz, ?_, hr⟩
    have he' : a.tmps.getD ad undef = .pointer (some ⟨b, q, none⟩) := he
    simp only [rdV, he', asAddr, Sem.run_bind, Sem.run_pure, Result.andThen_ok]
    exact hrun

theorem resW_sound {P : Program} {fr : Fr} {ρ : Pl} {s : St} {a : Act} {w : World} (h : Rep fr ρ s a w) : ∀ (rs : List ResultVar) {K : List AV → Prop}, resW P s rs K →
    ∃ xs vs, K xs ∧ (rs.mapM (rdV a)).run P w = .ok vs w ∧ Rps w (Av fr.F ρ) ρ xs vs
  | [], K, hk => ⟨[], [], hk, by simp, by simp only [Rps]⟩
  | r :: rs, K, hk => by
    obtain ⟨x, v, hk1, hr1, hr2⟩ := resV_sound h (show resV P s r _ from hk)
    obtain ⟨xs, vs, hk2, hr3, hr4⟩ := resW_sound h rs hk1
    refine ⟨x :: xs, v :: vs, hk2, ?_, by simp only [Rps]; exact ⟨v, vs, rfl, hr2, hr4⟩⟩
    simp only [List.mapM_cons, Sem.run_bind, hr1, Result.andThen_ok, hr3, Sem.run_pure]

theorem results_eq (fn : Func) (a : Act) : results fn a.tmps = (do let vs ← fn.results.mapM (rdV a); pure (if h : vs.size = 1 then vs[0] else .tuple vs)) := by
  unfold results
  congr 1

theorem results_sound {P : Program} {fr : Fr} {ρ : Pl} {s : St} {a : Act} {w : World} (h : Rep fr ρ s a w) (fn : Func) {K : List AV → Prop} (hk : resW P s fn.results.toList K) :
    ∃ xs v, K xs ∧ (results fn a.tmps).run P w = .ok v w ∧ Rp w (Av fr.F ρ) ρ (asOne xs) v := by
  obtain ⟨xs, vs, h1, h2, h3⟩ := resW_sound h fn.results.toList hk
  refine ⟨xs, if h : vs.toArray.size = 1 then vs.toArray[0] else .tuple vs.toArray, h1, ?_, ?_⟩
  · rw [results_eq, Array.mapM_eq_mapM_toList]
    simp only [Sem.run_bind, Sem.run_map, h2, Result.andThen_ok, Sem.run_pure]
  · have hl := h3.length
    match xs, vs, hl, h3 with
    | [x], [v], _, h3 =>
      simp only [Rps] at h3
      obtain ⟨v', us, h4, h5, h6⟩ := h3
      cases h4
      simpa [asOne] using h5
    | [], [], _, _ => simp [asOne, Rp, Rps]
    | x :: y :: xs, v :: u :: vs, _, h3 =>
      simp only [asOne, Rp]
      exact ⟨v :: u :: vs, by simp, h3⟩

/-- A function's body, walked from its arguments, gives what a call of it comes to. -/
theorem pure_of_W {P : Program} {g : FuncId} {fn : Func} {c : Code} {args : List AV} {R : AV → Prop} (hf : P.funcs[g]? = some fn) (hb : fn.body = some c)
    (h : W P [] c (retQ P fn R) ⟨args ++ List.replicate (fn.ntmps - args.length) .und, List.replicate fn.ntmps .dead⟩) : Pure P g args R := by
  intro w vals F hF hv
  have hlen := hv.length
  refine calls_of_wp hf hb ?_
  let fr : Fr := ⟨w.heap.size, w, F, fun _ => False, [], noPl⟩
  have hA : Av F noPl = F := by
    funext k
    simp [Av, noPl]
  have hrep : Rep fr noPl ⟨args ++ List.replicate (fn.ntmps - args.length) .und, List.replicate fn.ntmps .dead⟩ { tmps := vals.toArray ++ Array.replicate (fn.ntmps - vals.toArray.size) undef, defers := [] } w := by
    refine { keep := ⟨rfl, rfl, rfl, Nat.le_refl _, fun _ _ _ => rfl⟩, base := Nat.le_refl _, defers := rfl, heap := fun i => ?_, inj := (fun i j p q b hi => by cases hi), mine := (fun i p b hi => by cases hi), fF := hF, pin := (fun i hi => by cases hi), env := ?_ }
    · show HRo _ _ _ ((List.replicate fn.ntmps Ob.dead).getD i .dead) _
      rw [show (List.replicate fn.ntmps Ob.dead).getD i .dead = .dead by
        rw [List.getD_eq_getElem?_getD, List.getElem?_replicate]; split <;> rfl]
      rfl
    · show Rps w (Av F noPl) noPl _ _
      rw [hA]
      have h1 : (vals.toArray ++ Array.replicate (fn.ntmps - vals.toArray.size) undef).toList = vals ++ List.replicate (fn.ntmps - args.length) undef := by
        simp [hlen]
      rw [h1]
      refine hv.append (Rps.mk (by simp) fun i x v hx hv => ?_)
      rw [List.getElem?_replicate] at hx hv
      split at hx
      · rename_i hi; rw [if_pos hi] at hv; cases hx; cases hv; simp only [Rp]
      · cases hx
  refine Code.wp_mono (fun e a' w' he => ?_) (h fr noPl _ w rfl hrep)
  obtain ⟨s, ρ, hq, hr⟩ := he
  have fin : resW P s fn.results.toList (fun xs => R (view s.hp 3 (asOne xs))) → a'.defers = [] ∧ ∃ v, (results fn a'.tmps).run P w' = .ok v w' ∧ ∃ v2 r, Ending.returned v = .returned v2 ∧ R r ∧ Below w.heap.size w w' ∧ Rp w' F noPl r v2 := by
    intro hk
    obtain ⟨xs, v, h1, h2, h3⟩ := results_sound hr fn hk
    refine ⟨hr.defers, v, h2, v, _, rfl, h1, ⟨hr.keep.os, hr.keep.tape, hr.keep.output, hr.keep.size, fun k hk => hr.keep.block k hk (fun h => h)⟩, ?_⟩
    refine view_sound ⟨hr.heap, fun i p b hi hb => hr.lt hi hb, fun i p b hi hb hFb => ?_⟩ 3 _ h3
    rcases hr.mine i p b hi hb with h4 | h4
    · have := hF b hFb
      have h5 : w.heap.size ≤ b := h4
      omega
    · exact h4.2
  cases e with
  | normal => exact fin hq
  | ret => exact fin hq
  | _ => exact hq.elim

/-! ### calls of such functions -/
theorem flat_any {w w' : World} {A A' : Nat → Prop} {ρ ρ' : Pl} : ∀ (x : AV) {v : Value}, x.flat = true → Rp w A ρ x v → Rp w' A' ρ' x v
  | .und, _, _, h => by simpa only [Rp] using h
  | .int _ _, _, _, h => by simpa only [Rp] using h
  | .bool _, _, _, h => by simpa only [Rp] using h
  | .str _, _, _, h => by simpa only [Rp] using h
  | .nils, _, _, h => by simpa only [Rp] using h
  | .nilp, _, _, h => by simpa only [Rp] using h
  | .nilif, _, _, h => by simpa only [Rp] using h
  | .nilfn, _, _, h => by simpa only [Rp] using h
  | .nilmp, _, _, h => by simpa only [Rp] using h
  | .gl _, _, _, h => by simpa only [Rp] using h
  | .tup l, v, hf, h => by
    simp only [Rp] at h ⊢
    obtain ⟨vs, h1, h2⟩ := h
    refine ⟨vs, h1, Rps.mk h2.length fun i x u hx hu => ?_⟩
    obtain ⟨u', hu', hr⟩ := h2.get hx
    rw [hu] at hu'
    cases hu'
    simp only [AV.flat, List.all_eq_true] at hf
    have hm := hf x (List.mem_of_getElem? hx)
    cases x <;> simp at hm <;> simpa only [Rp] using hr

/-- A call that changes nothing that was there. -/
theorem Rep.below {fr : Fr} {ρ : Pl} {s : St} {a : Act} {w w' : World} (h : Rep fr ρ s a w) (hb : Below w.heap.size w w') : Rep fr ρ s a w' ∧ Later w (Av fr.F ρ) ρ w' (Av fr.F ρ) ρ := by
  have hlat : Later w (Av fr.F ρ) ρ w' (Av fr.F ρ) ρ := ⟨hb.size, fun _ _ h => h, fun k hk _ => hb.block k hk, fun _ _ h => h⟩
  refine ⟨{ keep := ⟨hb.os.trans h.keep.os, hb.tape.trans h.keep.tape, hb.output.trans h.keep.output, Nat.le_trans h.keep.size hb.size, fun k hk hm => ?_⟩, base := Nat.le_trans h.base hb.size, defers := h.defers, heap := fun i => ?_, inj := h.inj, mine := h.mine, fF := h.fF, pin := h.pin, env := h.env.later _ hlat }, hlat⟩
  · rw [hb.block k (Nat.lt_of_lt_of_le hk h.base)]
    exact h.keep.block k hk hm
  · exact (h.heap i).later hlat fun q b hq hb' => hb.block b (h.lt hq hb')

/-- The call's arguments avs data; its result is a plain value: the state is avs it was. -/
theorem call_flat {P : Program} {pins : List Nat} {g : FuncId} {avs : List AV} {s : St} {K : AV → St → Prop} {R : AV → Prop} (hpure : Pure P g (views s.hp 3 avs) R) (hk : ∀ r, R r → r.flat = true ∧ K r s) : CallOk P pins g avs s K := by
  intro fr ρ a w vals hp hr hv
  have hv' := hv.later (A' := Av (fun _ => False) ρ) (ρ' := ρ) avs ⟨Nat.le_refl _, fun k _ hk => by
    rcases hk with hk | hk
    · exact hk.elim
    · exact .inr hk, fun _ _ _ => rfl, fun _ _ h => h⟩
  have hD : AsData w (fun _ => False) ρ s.hp := by
    refine ⟨fun i => ?_, fun i p b hi hb => hr.lt hi hb, fun _ _ _ _ _ h => h⟩
    refine (hr.heap i).later ⟨Nat.le_refl _, fun k _ hk => by
      rcases hk with hk | hk
      · exact hk.elim
      · exact .inr hk, fun _ _ _ => rfl, fun _ _ h => h⟩ fun _ _ _ _ => rfl
  refine (hpure w vals (fun _ => False) (fun _ h => h.elim) (views_sound hD 3 avs hv')).mono fun e w' he => ?_
  obtain ⟨v, r, h1, h2, h3, h4⟩ := he
  obtain ⟨hf, hK⟩ := hk r h2
  exact ⟨v, r, s, ρ, h1, hK, (hr.below h3).1, flat_any r hf h4⟩

mutual
/-- Data: nil slices avs empty ones. -/
def AV.data : AV → AV
  | .nils => .sl []
  | .agg cs => .agg (AV.datas cs)
  | .tup cs => .tup (AV.datas cs)
  | .fn f fs cs => .fn f (AV.datas fs) (AV.datas cs)
  | .ifc t x => .ifc t (AV.data x)
  | x => x
def AV.datas : List AV → List AV
  | [] => []
  | x :: xs => AV.data x :: AV.datas xs
end
mutual
theorem Rp.data {w : World} {A : Nat → Prop} {ρ : Pl} : ∀ (x : AV) {v : Value}, Rp w A ρ x v → Rp w A ρ x.data v
  | .nils, _, h => by
    simp only [AV.data, Rp] at h ⊢
    exact ⟨none, 0, h, by simp, by simp, .inl trivial⟩
  | .agg cs, v, h => by
    simp only [AV.data, Rp] at h ⊢
    obtain ⟨vs, h1, h2⟩ := h
    exact ⟨vs, h1, Rps.data cs h2⟩
  | .tup cs, v, h => by
    simp only [AV.data, Rp] at h ⊢
    obtain ⟨vs, h1, h2⟩ := h
    exact ⟨vs, h1, Rps.data cs h2⟩
  | .fn f fs cs, v, h => by
    simp only [AV.data, Rp] at h ⊢
    obtain ⟨us, vs, h1, h2, h3⟩ := h
    exact ⟨us, vs, h1, Rps.data fs h2, Rps.data cs h3⟩
  | .ifc t x, v, h => by
    simp only [AV.data, Rp] at h ⊢
    obtain ⟨y, h1, h2⟩ := h
    exact ⟨y, h1, Rp.data x h2⟩
  | .any, _, h => h
  | .und, _, h => h
  | .int _ _, _, h => h
  | .bool _, _, h => h
  | .str _, _, h => h
  | .sl _, _, h => h
  | .ia _ _, _, h => h
  | .sref _ _ _, _, h => h
  | .ptr _ _ _, _, h => h
  | .nilp, _, h => h
  | .nilfn, _, h => h
  | .nilif, _, h => h
  | .gl _, _, h => h
  | .mp _, _, h => h
  | .nilmp, _, h => h
theorem Rps.data {w : World} {A : Nat → Prop} {ρ : Pl} : ∀ (l : List AV) {vs : List Value}, Rps w A ρ l vs → Rps w A ρ (AV.datas l) vs
  | [], _, h => h
  | x :: xs, vs, h => by
    simp only [AV.datas, Rps] at h ⊢
    obtain ⟨v, us, h1, h2, h3⟩ := h
    exact ⟨v, us, h1, Rp.data x h2, Rps.data xs h3⟩
end

/-- The call's arguments are data and so is its result: the state is avs it was. -/
theorem call_pure {P : Program} {pins : List Nat} {g : FuncId} {avs : List AV} {s : St} {K : AV → St → Prop} {R : AV → Prop} (ha : AV.pures avs = true) (hpure : Pure P g (AV.datas avs) R) (hk : ∀ r, R r → K r s) : CallOk P pins g avs s K := by
  intro fr ρ a w vals hp hr hv
  refine (hpure w vals (Av fr.F ρ) ?_ (Rps.data avs (Rps.pure noPl avs ha hv))).mono fun e w' he => ?_
  · rintro k (hk | ⟨i, p, h1, h2⟩)
    · exact Nat.lt_of_lt_of_le (hr.fF k hk) hr.base
    · exact hr.lt h1 h2
  obtain ⟨v, r, h1, h2, h3, h4⟩ := he
  exact ⟨v, r, s, ρ, h1, hk r h2, (hr.below h3).1, h4.later r (noPl_later ρ)⟩
end Go.Proofs.YtjkjapjcmbfkgaaGreat.Vm

/-
  Rules for walking a body piece by piece, with little in sight at each step.
-/
namespace Go.Proofs.YtjkjapjcmbfkgaaGreat.Vm
open Go
set_option linter.unusedVariables false
set_option linter.unusedSimpArgs false

section
variable {P : Program} {pins : List Nat} {Q : Exit → St → Prop} {s : St} {x y z : Code} {i : Nat} {ops : Array Oper}

theorem W_seqR (h : ∀ K : St → Prop, (∀ s, W P pins y Q s → K s) → opsW P pins ops ops.toList s K) : W P pins (.seq (.region i ops false) y) Q s :=
  W_seq (W_region (h (W P pins y Q) fun _ h => h))
theorem W_regR (h : ∀ K : St → Prop, (∀ s, Q .normal s → K s) → opsW P pins ops ops.toList s K) : W P pins (.region i ops false) Q s :=
  W_region (h (Q .normal) fun _ h => h)
/-- Both branches come to states of one kind. -/
theorem W_join (T : St → Prop) (h : W P pins x (thenW T Q) s) (hz : ∀ s', T s' → W P pins z Q s') : W P pins (.seq x z) Q s :=
  W_seq (h.mono fun e s' he => by
    cases e with
    | normal => exact hz s' he
    | _ => exact he)
end

/-! ### fewer words: slots of which nothing is said any more -/
def leE : List AV → List AV → Prop
  | [], [] => True
  | x :: xs, y :: ys => (y = .any ∨ x = y) ∧ leE xs ys
  | _, _ => False
theorem leE_sound {w : World} {A : Nat → Prop} {ρ : Pl} : ∀ {l m : List AV} {vs : List Value}, leE l m → Rps w A ρ l vs → Rps w A ρ m vs
  | [], [], _, _, h => h
  | [], _ :: _, _, h, _ => h.elim
  | _ :: _, [], _, h, _ => h.elim
  | x :: xs, y :: ys, vs, hl, h => by
    simp only [Rps] at h ⊢
    obtain ⟨v, us, h1, h2, h3⟩ := h
    refine ⟨v, us, h1, ?_, leE_sound hl.2 h3⟩
    rcases hl.1 with rfl | rfl
    · simp only [Rp]
    · exact h2
theorem Le_env {pins : List Nat} {e e' : List AV} {hp : List Ob} (h : leE e e') : Le pins ⟨e, hp⟩ ⟨e', hp⟩ := fun fr ρ a w _ hr =>
  ⟨ρ, { keep := hr.keep, base := hr.base, defers := hr.defers, heap := hr.heap, inj := hr.inj, mine := hr.mine, fF := hr.fF, pin := hr.pin, env := leE_sound h hr.env }⟩
theorem Le_of {pins : List Nat} {s s' : St} (h : leE s.env s'.env) (hh : s.hp = s'.hp) : Le pins s s' := by
  cases s; cases s'
  cases hh
  exact Le_env h

theorem Le_freeze {pins : List Nat} {s : St} (i : Nat) {T : TypeId} {k : Nat} {pf : Bool} {rows : List (List AV)} (hi : s.hp[i]? = some (.arr T k pf rows)) (hpin : i ∉ pins) (hpure : pf = true ∨ AllPure rows) : Le pins s (s.freeze i rows) :=
  fun fr ρ a w hp hr => ⟨_, hr.freeze hi (hp ▸ hpin) hpure⟩

/-! ### whole numbers of a kind -/
theorem wrap_i64 {x : Int} (h1 : -9223372036854775808 ≤ x) (h2 : x < 9223372036854775808) : IntKind.wrap .i64 x = x := by
  have h3 : IntKind.wrap .i64 x = if x % 18446744073709551616 ≥ 9223372036854775808 then x % 18446744073709551616 - 18446744073709551616 else x % 18446744073709551616 := by
    unfold IntKind.wrap
    simp [IntKind.bits, IntKind.signed]
  rw [h3]
  split <;> omega
theorem wrap_u64 {x : Int} (h1 : 0 ≤ x) (h2 : x < 18446744073709551616) : IntKind.wrap .u64 x = x := by
  simp only [IntKind.wrap, IntKind.bits, IntKind.signed, Bool.false_and, Bool.false_eq_true, if_false]
  omega
end Go.Proofs.YtjkjapjcmbfkgaaGreat.Vm

/-
  What an operation does, said so that it holds of all states alike where it looks.
-/
namespace Go.Proofs.YtjkjapjcmbfkgaaGreat.Vm
open Go
set_option linter.unusedVariables false
set_option linter.unusedSimpArgs false

/-! ### a name of an object that lies nowhere is no value's -/
mutual
theorem Rp.noName {w : World} {A : Nat → Prop} {ρ : Pl} {d : Nat} {rows : List (List AV)} (hd : ρ d = none) : ∀ (x : AV) {v : Value}, Rp w A ρ x v → x.froz d rows = x
  | .any, _, h => rfl
  | .und, _, h => rfl
  | .int _ _, _, h => rfl
  | .bool _, _, h => rfl
  | .str _, _, h => rfl
  | .nils, _, h => rfl
  | .sl _, _, h => rfl
  | .ia _ _, _, h => rfl
  | .sref j off n, v, h => by
    simp only [Rp] at h
    simp only [AV.froz]
    split
    · rename_i hj; subst hj; rcases h with ⟨h1, _⟩ | ⟨b, s, cap, len, x, h1, _⟩ <;> (rw [hd] at h1; cases h1)
    · rfl
  | .ptr j r off, v, h => by
    simp only [Rp] at h
    simp only [AV.froz]
    split
    · rename_i hj; subst hj; obtain ⟨b, s, cap, len, h1, _⟩ := h; rw [hd] at h1; cases h1
    · rfl
  | .nilp, _, h => rfl
  | .agg cs, v, h => by
    simp only [Rp] at h
    obtain ⟨vs, _, h2⟩ := h
    simp only [AV.froz, Rps.noName hd cs h2]
  | .tup cs, v, h => by
    simp only [Rp] at h
    obtain ⟨vs, _, h2⟩ := h
    simp only [AV.froz, Rps.noName hd cs h2]
  | .fn f fs cs, v, h => by
    simp only [Rp] at h
    obtain ⟨us, vs, _, h2, h3⟩ := h
    simp only [AV.froz, Rps.noName hd fs h2, Rps.noName hd cs h3]
  | .nilfn, _, h => rfl
  | .ifc t x, v, h => by
    simp only [Rp] at h
    obtain ⟨y, _, h2⟩ := h
    simp only [AV.froz, Rp.noName hd x h2]
  | .nilif, _, h => rfl
  | .gl _, _, h => rfl
  | .mp j, v, h => by
    simp only [Rp] at h
    simp only [AV.froz]
    split
    · rename_i hj; subst hj; obtain ⟨b, h1, _⟩ := h; rw [hd] at h1; cases h1
    · rfl
  | .nilmp, _, h => rfl
theorem Rps.noName {w : World} {A : Nat → Prop} {ρ : Pl} {d : Nat} {rows : List (List AV)} (hd : ρ d = none) : ∀ (l : List AV) {vs : List Value}, Rps w A ρ l vs → AV.frozs d rows l = l
  | [], _, h => rfl
  | x :: xs, vs, h => by
    simp only [Rps] at h
    obtain ⟨v, us, _, h2, h3⟩ := h
    simp only [AV.frozs, Rp.noName hd x h2, Rps.noName hd xs h3]
end
theorem RpR.noName {w : World} {A : Nat → Prop} {ρ : Pl} {d : Nat} {rows : List (List AV)} (hd : ρ d = none) : ∀ {l : List (List AV)} {vs : List (List Value)}, RpR w A ρ l vs → l.map (AV.frozs d rows) = l
  | [], _, h => rfl
  | x :: xs, vs, h => by
    simp only [RpR] at h
    obtain ⟨v, us, _, h2, h3⟩ := h
    simp only [List.map_cons, Rps.noName hd x h2, h3.noName hd]

theorem Rep.noName {fr : Fr} {ρ : Pl} {s : St} {a : Act} {w : World} (h : Rep fr ρ s a w) {d : Nat} (hd : ρ d = none) (rows : List (List AV)) : s.hp.map (Ob.froz d rows) = s.hp ∧ AV.frozs d rows s.env = s.env := by
  refine ⟨?_, h.env.noName hd⟩
  refine List.ext_getElem? fun i => ?_
  rw [List.getElem?_map]
  cases hi : s.hp[i]? with
  | none => rfl
  | some o =>
    have ho := h.heap i
    rw [show s.hp.getD i .dead = o by simp [List.getD_eq_getElem?_getD, hi]] at ho
    simp only [Option.map_some]
    congr 1
    cases o with
    | dead => rfl
    | arr T k p rs =>
      cases p with
      | true => rfl
      | false =>
        simp only [Ob.froz, Bool.false_eq_true, if_false]
        cases hp : ρ i with
        | none => rw [hp] at ho; exact ho.elim
        | some q =>
          rw [hp] at ho
          cases q with
          | nil => have : rs = [] := ho; subst this; rfl
          | mapb b => exact ho.elim
          | blk b s' cap len =>
            obtain ⟨_, _, vss, rest, _, h2, _⟩ := ho
            rw [RpR.noName hd (show RpR w (Av fr.F ρ) ρ rs vss from h2)]

/-- A slice's literal that nobody will write: data. -/
def litD (P : Program) (ti : TI) (d : Option Nat) (len : Nat) (parts : List (Nat × AV)) (hp : List Ob) (K : AV → Prop) : Prop :=
  match ti.d, d with
  | .slice e, some d => dead ⟨[], hp⟩ d ∧ (tyOf P e).d ≠ .no ∧ (tyOf P e).hz = true ∧ (tyOf P e).zero.length = (tyOf P e).size ∧ parts.map (·.1) = List.range len ∧ len * (tyOf P e).size ≤ 16777216 ∧ len ≤ 16777216 ∧
      (∀ p ∈ parts, storable p.2 = true ∧ (cellsOf p.2).length = (tyOf P e).size ∧ AV.pures (cellsOf p.2) = true) ∧
      K (.sl (parts.map fun p => cellsOf p.2))
  | _, _ => False
theorem litD_sound {P : Program} {pins : List Nat} {fr : Fr} {ρ : Pl} {s : St} {a : Act} {w : World} {o : Oper} {Q : Exit → Act → World → Prop} (hp : fr.pins = pins) (h : Rep fr ρ s a w) {t : TypeId} {len : Nat} {ps : Array (Nat × Operand)} (ho : o.op = .buildSlice t len ps) {K : AV → Prop} (hk : litD P (tyOf P t) o.dst len (ps.toList.map fun p => (p.1, ev s.env p.2)) s.hp K) : ∃ z, K z ∧ o.wp P a w (Ends fr (· = s.ret o.dst z)) Q := by
  unfold litD at hk
  split at hk
  · rename_i d' dd e d hd' hdd
    obtain ⟨h1, h2, h3, h4, h5, h6, h7, h8, hk⟩ := hk
    rw [hdd]
    refine ⟨_, hk, ?_⟩
    generalize hrows : ((ps.toList.map fun p => (p.1, ev s.env p.2)).map fun p => cellsOf p.2) = rows at *
    have hdead : ρ d = none := by
      have := h.heap d
      rw [show s.hp.getD d .dead = .dead by simp only [List.getD_eq_getElem?_getD]; rw [show s.hp[d]? = some .dead from h1]; rfl] at this
      exact this
    have hlen : rows.length = len := by
      have := congrArg List.length h5
      rw [← hrows]
      simpa using this
    have hpu : rows.all AV.pures = true := by
      rw [← hrows, List.all_eq_true]
      intro r hr
      obtain ⟨p, hp, rfl⟩ := List.mem_map.1 hr
      exact (h8 p hp).2.2
    obtain ⟨z, s', ⟨hz, hs'⟩, v, w', ρ', hrun, hrep, hrp⟩ := ok_lit (P := P) h ho (K := fun z s' => z = .sref d 0 len ∧ s' = s.seth d (.arr e (tyOf P e).size true rows)) (by
      unfold litW
      rw [hd', hdd]
      refine ⟨h1, h2, h3, h4, h5, h6, h7, fun p hp => ⟨(h8 p hp).1, (h8 p hp).2.1⟩, rfl, ?_⟩
      rw [hrows, hpu])
    subst hz; subst hs'
    have hput := hrep.put (some d) hrp
    have hil : d < s.hp.length := (List.getElem?_eq_some_iff.1 h1).1
    have hfz := hput.freeze (i := d) (T := e) (k0 := (tyOf P e).size) (pf := true) (rows := rows) (by simp [St.seth, hil]) (by
      intro hin
      have h9 := (h.pin d hin)
      exact h9.2 hdead) (.inl rfl)
    obtain ⟨hn1, hn2⟩ := h.noName hdead rows
    refine (show o.wp P a w (Ends fr (· = s.ret (some d) (.sl rows))) Q from ?_)
    unfold Oper.wp
    rw [hrun]
    simp only [Oper.upon, hdd]
    refine ⟨_, _, ?_, hfz⟩
    simp only [St.freeze, St.seth, St.ret]
    have e1 : AV.frozs d rows (s.env.set d (.sref d 0 len)) = s.env.set d (.sl rows) := by
      have e2 : ∀ (l : List AV) (k : Nat) (x : AV), AV.frozs d rows (l.set k x) = (AV.frozs d rows l).set k (x.froz d rows) := by
        intro l
        induction l with
        | nil => intro k x; rfl
        | cons y l ih =>
          intro k x
          cases k with
          | zero => rfl
          | succ k => simp only [List.set_cons_succ, AV.frozs, ih]
      rw [e2, hn2]
      simp only [AV.froz, if_true, List.drop_zero]
      rw [← hlen, List.take_length]
    rw [e1]
    congr 1
    rw [List.set_set]
    have e3 : s.hp.set d .dead = s.hp := by
      refine List.ext_getElem? fun j => ?_
      rw [List.getElem?_set]
      split
      · rename_i hj; subst hj; exact (show s.hp[d]? = some .dead from h1).symm
      · rfl
    rw [e3, hn1]
  · exact hk.elim
end Go.Proofs.YtjkjapjcmbfkgaaGreat.Vm

/-
  What an operation does, as an effect: one slot, one object; it is the same in all states that agree where it looks.
-/
namespace Go.Proofs.YtjkjapjcmbfkgaaGreat.Vm
open Go
set_option linter.unusedVariables false
set_option linter.unusedSimpArgs false

/-- One outcome, whatever is asked of it. -/
def Det {α : Type} (F : (α → Prop) → Prop) : Prop := ∀ K, F K → ∃ z, K z ∧ ∀ K', K' z → F K'

theorem pickW_det (c x y : AV) : Det (pickW c x y) := by
  intro K h
  cases c with
  | bool t =>
    by_cases hb : ∃ p q, x = .bool p ∧ y = .bool q
    · obtain ⟨p, q, rfl, rfl⟩ := hb
      exact ⟨_, h, fun K' h' => h'⟩
    · have he : ∀ K, pickW (.bool t) x y K = ((t = true → K x) ∧ (t = false → K y)) := by
        intro K
        unfold pickW
        dsimp only
        split
        · exact absurd ⟨_, _, rfl, rfl⟩ hb
        · rfl
      rw [he] at h
      cases t
      · exact ⟨_, h.2 rfl, fun K' h' => by rw [he]; exact ⟨(fun h => by cases h), fun _ => h'⟩⟩
      · exact ⟨_, h.1 rfl, fun K' h' => by rw [he]; exact ⟨fun _ => h', (fun h => by cases h)⟩⟩
  | _ => exact h.elim
theorem loadW_det (ti : TI) (x : AV) (hp : List Ob) : Det (loadW ti x hp) := by
  intro K h
  cases x with
  | ia row off => exact ⟨_, h.2, fun K' h' => ⟨h.1, h'⟩⟩
  | ptr i j off =>
    unfold loadW at h ⊢
    dsimp only at h ⊢
    generalize hp.getD i .dead = ob at h ⊢
    cases ob with
    | dead => exact h.elim
    | arr T k p rows => exact ⟨_, h.2.2, fun K' h' => ⟨h.1, h.2.1, h'⟩⟩
  | _ => exact h.elim
theorem intW_det (op : BinOp) (k : IntKind) (x y : Int) : Det (intW op k x y) := by
  intro K h
  cases op with
  | quo => exact ⟨_, h.2, fun K' h' => ⟨h.1, h'⟩⟩
  | rem => exact ⟨_, h.2, fun K' h' => ⟨h.1, h'⟩⟩
  | _ => first | exact ⟨_, h, fun K' h' => h'⟩ | exact h.elim
theorem binW_det (P : Program) (ti : TI) (op : BinOp) (x y : AV) : Det (binW P ti op x y) := by
  intro K h
  cases x with
  | int k m =>
    cases y with
    | int k' n =>
      cases op with
      | shl => exact ⟨_, h.2, fun K' h' => ⟨h.1, h'⟩⟩
      | shr => exact ⟨_, h.2, fun K' h' => ⟨h.1, h'⟩⟩
      | _ =>
        obtain ⟨h1, h2⟩ := h
        obtain ⟨z, h3, h4⟩ := intW_det _ _ _ _ K h2
        exact ⟨z, h3, fun K' h' => ⟨h1, h4 K' h'⟩⟩
    | _ => exact h.elim
  | bool p =>
    cases y with
    | bool q =>
      cases op with
      | eql => exact ⟨_, h.2, fun K' h' => ⟨h.1, h'⟩⟩
      | neq => exact ⟨_, h.2, fun K' h' => ⟨h.1, h'⟩⟩
      | _ => exact h.2.elim
    | _ => exact h.elim
  | str p =>
    cases y with
    | str q =>
      cases op with
      | eql => exact ⟨_, h, fun K' h' => h'⟩
      | neq => exact ⟨_, h, fun K' h' => h'⟩
      | add => exact ⟨_, h.2, fun K' h' => ⟨h.1, h'⟩⟩
      | _ => exact h.elim
    | _ => exact h.elim
  | _ => cases y <;> exact h.elim
theorem unW_det (op : UnOp) (x : AV) : Det (unW op x) := by
  intro K h
  cases op <;> cases x <;> first | exact ⟨_, h, fun K' h' => h'⟩ | exact h.elim
theorem convW_det (ts td : TI) (x : AV) : Det (convW ts td x) := by
  intro K h
  unfold convW at h ⊢
  generalize ts.d = d1 at h ⊢
  generalize td.d = d2 at h ⊢
  split at h
  · exact ⟨_, h, fun K' h' => h'⟩
  · exact ⟨_, h, fun K' h' => h'⟩
  · exact h.elim
theorem fieldAddrW_det (P : Program) (ti : TI) (x : AV) (f : Nat) : Det (fieldAddrW P ti x f) := by
  intro K h
  unfold fieldAddrW at h ⊢
  generalize ti.d = d at h ⊢
  cases d with
  | struct fs =>
    cases x with
    | ia row off => exact ⟨_, h.2.2.2, fun K' h' => ⟨h.1, h.2.1, h.2.2.1, h'⟩⟩
    | ptr i j off => exact ⟨_, h.2.2.2, fun K' h' => ⟨h.1, h.2.1, h.2.2.1, h'⟩⟩
    | _ => exact h.2.2.2.elim
  | _ => exact h.elim
theorem fieldW_det (P : Program) (ti : TI) (x : AV) (f : Nat) : Det (fieldW P ti x f) := by
  intro K h
  unfold fieldW at h ⊢
  generalize ti.d = d at h ⊢
  split at h
  · exact ⟨_, h.2.2.2.2, fun K' h' => ⟨h.1, h.2.1, h.2.2.1, h.2.2.2.1, h'⟩⟩
  · exact h.elim
theorem indexAddrW_det (P : Program) (ti : TI) (x y : AV) (hp : List Ob) : Det (indexAddrW P ti x y hp) := by
  intro K h
  unfold indexAddrW at h ⊢
  generalize ti.d = d at h ⊢
  split at h
  · cases x with
    | sl rows => exact ⟨_, h.2.2.2.2, fun K' h' => ⟨h.1, h.2.1, h.2.2.1, h.2.2.2.1, h'⟩⟩
    | sref i off m => exact ⟨_, h.2.2.2.2, fun K' h' => ⟨h.1, h.2.1, h.2.2.1, h.2.2.2.1, h'⟩⟩
    | _ => exact h.2.elim
  · cases x with
    | ptr i j off => exact ⟨_, h.2.2.2, fun K' h' => ⟨h.1, h.2.1, h.2.2.1, h'⟩⟩
    | ia row off => exact ⟨_, h.2.2.2, fun K' h' => ⟨h.1, h.2.1, h.2.2.1, h'⟩⟩
    | _ => exact h.2.2.2.elim
  · exact h.elim
theorem indexW_det (P : Program) (ti : TI) (x y : AV) : Det (indexW P ti x y) := by
  intro K h
  unfold indexW at h ⊢
  generalize ti.d = d at h ⊢
  split at h
  · exact ⟨_, h.2.2, fun K' h' => ⟨h.1, h.2.1, h'⟩⟩
  · exact ⟨_, h.2.2.2.2.2, fun K' h' => ⟨h.1, h.2.1, h.2.2.1, h.2.2.2.1, h.2.2.2.2.1, h'⟩⟩
  · exact h.elim
theorem extractW_det (x : AV) (i : Nat) : Det (extractW x i) := by
  intro K h
  cases x with
  | tup l => exact ⟨_, h.2, fun K' h' => ⟨h.1, h'⟩⟩
  | _ => exact h.elim
theorem nilCheckW_det (x : AV) : Det (nilCheckW x) := by
  intro K h
  cases x <;> first | exact ⟨_, h, fun K' h' => h'⟩ | exact h.elim
theorem lenW_det (ti : TI) (x : AV) : Det (lenW ti x) := by
  intro K h
  unfold lenW at h ⊢
  generalize ti.d = d at h ⊢
  split at h <;> first | exact ⟨_, h, fun K' h' => h'⟩ | exact h.elim
theorem buildW_det (P : Program) (ti : TI) (parts : List (Nat × AV)) : Det (buildW P ti parts) := by
  intro K h
  unfold buildW at h ⊢
  generalize ti.d = d at h ⊢
  cases d with
  | struct fs => exact ⟨_, h.2.2.2, fun K' h' => ⟨h.1, h.2.1, h.2.2.1, h'⟩⟩
  | arr n e => exact ⟨_, h.2.2.2, fun K' h' => ⟨h.1, h.2.1, h.2.2.1, h'⟩⟩
  | _ => exact h.elim
theorem sliceW_det (P : Program) (ti : TI) (x : AV) (lo hi mx : Option AV) (hp : List Ob) : Det (sliceW P ti x lo hi mx hp) := by
  intro K h
  unfold sliceW at h ⊢
  generalize ti.d = d at h ⊢
  split at h
  · obtain ⟨h1, h⟩ := h
    cases h2 : bnd lo 0 <;> cases h3 : bnd hi _ <;> rw [h2, h3] at h
    · exact h.elim
    · exact h.elim
    · exact h.elim
    · exact ⟨_, h.2.2.2, fun K' h' => ⟨h1, h.1, h.2.1, h.2.2.1, h'⟩⟩
  · obtain ⟨h1, h⟩ := h
    cases h2 : bnd lo 0 <;> cases h3 : bnd hi _ <;> rw [h2, h3] at h
    · exact h.elim
    · exact h.elim
    · exact h.elim
    · exact ⟨_, h.2.2.2.2.2.2, fun K' h' => ⟨h1, h.1, h.2.1, h.2.2.1, h.2.2.2.1, h.2.2.2.2.1, h.2.2.2.2.2.1, h'⟩⟩
  · obtain ⟨h1, h0, h01, h⟩ := h
    cases h2 : bnd lo 0 <;> cases h3 : bnd hi _ <;> rw [h2, h3] at h
    · exact h.elim
    · exact h.elim
    · exact h.elim
    · exact ⟨_, h.2.2.2, fun K' h' => ⟨h1, h0, h01, h.1, h.2.1, h.2.2.1, h'⟩⟩
  · exact ⟨_, h.2.2.2.2, fun K' h' => ⟨h.1, h.2.1, h.2.2.1, h.2.2.2.1, h'⟩⟩
  · exact h.elim
end Go.Proofs.YtjkjapjcmbfkgaaGreat.Vm

/-
  An operation's effect, and that it fits all states that agree where the operation looks.
-/
namespace Go.Proofs.YtjkjapjcmbfkgaaGreat.Vm
open Go
set_option linter.unusedVariables false
set_option linter.unusedSimpArgs false

structure Eff where
  dst : Option Nat
  x : AV
  rd : Option Nat
  wr : Option (Nat × Ob)
def Eff.app (f : Eff) (s : St) : St := ⟨(match f.dst with | some d => s.env.set d f.x | none => s.env), (match f.wr with | some (i, o) => s.hp.set i o | none => s.hp)⟩
def Eff.wi (f : Eff) : Option Nat := f.wr.map (·.1)

def objOf : AV → Option Nat
  | .sref i _ _ => some i
  | .ptr i _ _ => some i
  | _ => none

def storeF (ti : TI) (x y : AV) (hp : List Ob) (C : Nat × Ob → Prop) : Prop :=
  match x with
  | .ptr i j off => match hp.getD i .dead with
    | .arr T k pf rows => storable y = true ∧ (cellsOf y).length = ti.size ∧ (pf = true → AV.pures (cellsOf y) = true) ∧ j < rows.length ∧ off + ti.size ≤ (rows.getD j []).length ∧
        C (i, .arr T k pf (rows.set j (overlay (rows.getD j []) off (cellsOf y))))
    | .dead => False
  | _ => False

def Op.mr : Op → Bool
  | .load _ _ | .slice _ _ _ _ _ | .indexAddr _ _ _ | .buildSlice _ _ _ => true
  | _ => false
def Op.mw : Op → Bool
  | .store _ _ _ | .alloc _ | .box _ _ => true
  | _ => false

section
variable (P : Program) (pins : List Nat)

def opF (o : Oper) (s : St) (C : Eff → Prop) : Prop :=
  match o.op with
  | .move x => C ⟨o.dst, ev s.env x, none, none⟩
  | .assign x => C ⟨o.dst, ev s.env x, none, none⟩
  | .pick c x y => pickW (ev s.env c) (ev s.env x) (ev s.env y) fun z => C ⟨o.dst, z, none, none⟩
  | .alloc t => match o.dst with
    | some d => dead s d ∧ (tyOf P t).d ≠ .no ∧ (tyOf P t).hz = true ∧ C ⟨some d, .ptr d 0 0, none, some (d, .arr t (tyOf P t).zero.length false [(tyOf P t).zero])⟩
    | none => False
  | .box t x => match o.dst with
    | some d => dead s d ∧ storable (ev s.env x) = true ∧ C ⟨some d, .ptr d 0 0, none, some (d, .arr t (cellsOf (ev s.env x)).length false [cellsOf (ev s.env x)])⟩
    | none => False
  | .build t ps => buildW P (tyOf P t) (ps.toList.map fun p => (p.1, ev s.env p.2)) fun z => C ⟨o.dst, z, none, none⟩
  | .buildSlice t len ps => litD P (tyOf P t) o.dst len (ps.toList.map fun p => (p.1, ev s.env p.2)) s.hp fun z => C ⟨o.dst, z, o.dst, none⟩
  | .load t x => (tyOf P t).d ≠ .no ∧ ((tyOf P t).isAgg = true ∨ (tyOf P t).size = 1) ∧ loadW (tyOf P t) (ev s.env x) s.hp fun z => C ⟨o.dst, z, objOf (ev s.env x), none⟩
  | .store t x y => o.dst = none ∧ (tyOf P t).d ≠ .no ∧ storeF (tyOf P t) (ev s.env x) (ev s.env y) s.hp fun wr => C ⟨none, .any, none, some wr⟩
  | .nilCheck x => nilCheckW (ev s.env x) fun z => C ⟨o.dst, z, none, none⟩
  | .binOp op t x y _ => binW P (tyOf P t) op (ev s.env x) (ev s.env y) fun z => C ⟨o.dst, z, none, none⟩
  | .unOp op _ x => unW op (ev s.env x) fun z => C ⟨o.dst, z, none, none⟩
  | .convert t u x => convW (tyOf P t) (tyOf P u) (ev s.env x) fun z => C ⟨o.dst, z, none, none⟩
  | .slice t x lo hi mx => sliceW P (tyOf P t) (ev s.env x) (evo s.env lo) (evo s.env hi) (evo s.env mx) s.hp fun z => C ⟨o.dst, z, objOf (ev s.env x), none⟩
  | .fieldAddr t x f => fieldAddrW P (tyOf P t) (ev s.env x) f fun z => C ⟨o.dst, z, none, none⟩
  | .field t x f => fieldW P (tyOf P t) (ev s.env x) f fun z => C ⟨o.dst, z, none, none⟩
  | .indexAddr t x y => indexAddrW P (tyOf P t) (ev s.env x) (ev s.env y) s.hp fun z => C ⟨o.dst, z, objOf (ev s.env x), none⟩
  | .index t x y => indexW P (tyOf P t) (ev s.env x) (ev s.env y) fun z => C ⟨o.dst, z, none, none⟩
  | .extract x i => extractW (ev s.env x) i fun z => C ⟨o.dst, z, none, none⟩
  | .makeFunc f first cap => C ⟨o.dst, .fn f (first.toList.map (ev s.env)) (cap.toList.map (ev s.env)), none, none⟩
  | .call ⟨.builtin .len, ⟨[x]⟩, ⟨[t]⟩⟩ => lenW (tyOf P t) (ev s.env x) fun z => C ⟨o.dst, z, none, none⟩
  | .call ⟨.value f, ⟨xs⟩, _⟩ => match ev s.env f with
    | .fn (.func g) first cap => enters P g = true ∧ AV.pures (first ++ xs.map (ev s.env) ++ cap) = true ∧ ∃ r, Pure P g (AV.datas (first ++ xs.map (ev s.env) ++ cap)) (· = r) ∧ C ⟨o.dst, r, none, none⟩
    | _ => False
  | _ => False

/-- It does f in all states that agree with s where it looks. -/
def Fits (o : Oper) (f : Eff) (s : St) : Prop := ∀ (e' : List AV) (hp' : List Ob), (∀ x ∈ o.op.operands.toList, ev e' x = ev s.env x) → (∀ i, f.rd = some i ∨ f.wi = some i → hp'[i]? = s.hp[i]?) →
  ∀ (fr : Fr) (ρ : Pl) (a : Act) (w : World) (Q : Exit → Act → World → Prop), fr.pins = pins → Rep fr ρ ⟨e', hp'⟩ a w → o.wp P a w (Ends fr (· = f.app ⟨e', hp'⟩)) Q

variable {P pins} {o : Oper} {s : St} {C : Eff → Prop}

theorem fits_val (x : AV) (rd : Option Nat) (hrd : rd ≠ none → Op.mr o.op = true) (hC : C ⟨o.dst, x, rd, none⟩) (h : ∀ e' hp', (∀ x ∈ o.op.operands.toList, ev e' x = ev s.env x) → (∀ i, rd = some i → hp'[i]? = s.hp[i]?) → ∀ K : St → Prop, K (St.ret ⟨e', hp'⟩ o.dst x) → opW P pins o ⟨e', hp'⟩ K) :
    ∃ f, C f ∧ f.dst = o.dst ∧ (f.rd ≠ none → Op.mr o.op = true) ∧ (f.wi ≠ none → Op.mw o.op = true) ∧ Fits P pins o f s := by
  refine ⟨_, hC, rfl, hrd, (fun h => absurd rfl h), fun e' hp' he hh fr ρ a w Q hp hr => opW_sound hp hr (h e' hp' he (fun i hi => hh i (.inl hi)) _ ?_)⟩
  rfl

theorem getD_of {hp hp' : List Ob} {i : Nat} (h : hp'[i]? = hp[i]?) : hp'.getD i .dead = hp.getD i .dead := by simp only [List.getD_eq_getElem?_getD, h]

theorem loadW_hp {ti : TI} {x : AV} {hp hp' : List Ob} {K : AV → Prop} (h : ∀ i, objOf x = some i → hp'[i]? = hp[i]?) (hk : loadW ti x hp K) : loadW ti x hp' K := by
  cases x with
  | ptr i j off =>
    unfold loadW at hk ⊢
    dsimp only at hk ⊢
    rw [getD_of (h i rfl)]
    exact hk
  | ia row off => exact hk
  | _ => exact hk.elim
theorem indexAddrW_hp {ti : TI} {x y : AV} {hp hp' : List Ob} {K : AV → Prop} (h : ∀ i, objOf x = some i → hp'[i]? = hp[i]?) (hk : indexAddrW P ti x y hp K) : indexAddrW P ti x y hp' K := by
  unfold indexAddrW at hk ⊢
  generalize ti.d = d at hk ⊢
  split at hk
  · cases x with
    | sref i off n =>
      dsimp only at hk ⊢
      rw [getD_of (h i rfl)]
      exact hk
    | _ => exact hk
  · exact hk
  · exact hk.elim
theorem sliceW_hp {ti : TI} {x : AV} {lo hi mx : Option AV} {hp hp' : List Ob} {K : AV → Prop} (h : ∀ i, objOf x = some i → hp'[i]? = hp[i]?) (hk : sliceW P ti x lo hi mx hp K) : sliceW P ti x lo hi mx hp' K := by
  unfold sliceW at hk ⊢
  generalize ti.d = d at hk ⊢
  split at hk
  · exact hk
  · exact hk
  · rename_i e i off n
    rw [getD_of (h i rfl)]
    exact hk
  · exact hk
  · exact hk.elim
theorem litD_det (P : Program) (ti : TI) (d : Option Nat) (len : Nat) (parts : List (Nat × AV)) (hp : List Ob) : Det (litD P ti d len parts hp) := by
  intro K h
  unfold litD at h ⊢
  generalize ti.d = t at h ⊢
  split at h
  · exact ⟨_, h.2.2.2.2.2.2.2.2, fun K' h' => ⟨h.1, h.2.1, h.2.2.1, h.2.2.2.1, h.2.2.2.2.1, h.2.2.2.2.2.1, h.2.2.2.2.2.2.1, h.2.2.2.2.2.2.2.1, h'⟩⟩
  · exact h.elim
theorem litD_hp {P : Program} {ti : TI} {d : Option Nat} {len : Nat} {parts : List (Nat × AV)} {hp hp' : List Ob} {K : AV → Prop} (h : ∀ i, d = some i → hp'[i]? = hp[i]?) (hk : litD P ti d len parts hp K) : litD P ti d len parts hp' K := by
  unfold litD at hk ⊢
  generalize ti.d = t at hk ⊢
  split at hk
  · exact ⟨(h _ rfl).trans hk.1, hk.2⟩
  · exact hk.elim
theorem mem_pairs {ps : Array (Nat × Operand)} {e e' : List AV} (h : ∀ x ∈ (ps.map (·.2)).toList, ev e' x = ev e x) : (ps.toList.map fun p => (p.1, ev e' p.2)) = ps.toList.map fun p => (p.1, ev e p.2) := by
  refine List.map_congr_left fun p hp => ?_
  rw [h p.2 (by simp only [Array.toList_map, List.mem_map]; exact ⟨p, hp, rfl⟩)]
theorem map_ev {l : List Operand} {e e' : List AV} (h : ∀ x ∈ l, ev e' x = ev e x) : l.map (ev e') = l.map (ev e) := List.map_congr_left h
theorem evo_ev {x : Option Operand} {e e' : List AV} (h : ∀ y ∈ x.toList, ev e' y = ev e y) : evo e' x = evo e x := by
  cases x with
  | none => rfl
  | some y => simp only [evo, h y (by simp)]

theorem storeF_det (ti : TI) (x y : AV) (hp : List Ob) : Det (storeF ti x y hp) := by
  intro K h
  cases x with
  | ptr i j off =>
    unfold storeF at h ⊢
    dsimp only at h ⊢
    generalize hp.getD i .dead = ob at h ⊢
    cases ob with
    | dead => exact h.elim
    | arr T k p rows => exact ⟨_, h.2.2.2.2.2, fun K' h' => ⟨h.1, h.2.1, h.2.2.1, h.2.2.2.1, h.2.2.2.2.1, h'⟩⟩
  | _ => exact h.elim

theorem opF_fits (h : opF P o s C) : ∃ f, C f ∧ f.dst = o.dst ∧ (f.rd ≠ none → Op.mr o.op = true) ∧ (f.wi ≠ none → Op.mw o.op = true) ∧ Fits P pins o f s := by
  unfold opF at h
  split at h
  · rename_i x ho
    refine fits_val _ _ (by simp [ho, Op.mr]) h fun e' hp' he hh K hk => ?_
    unfold opW; simp only [ho]
    rw [ho] at he
    rw [he x (by simp [Op.operands])]; exact hk
  · rename_i x ho
    refine fits_val _ _ (by simp [ho, Op.mr]) h fun e' hp' he hh K hk => ?_
    unfold opW; simp only [ho]
    rw [ho] at he
    rw [he x (by simp [Op.operands])]; exact hk
  · rename_i c x y ho
    obtain ⟨z, h1, h2⟩ := pickW_det _ _ _ _ h
    refine fits_val _ _ (by simp [ho, Op.mr]) h1 fun e' hp' he hh K hk => ?_
    unfold opW; simp only [ho]
    rw [ho] at he
    rw [he c (by simp [Op.operands]), he x (by simp [Op.operands]), he y (by simp [Op.operands])]; exact h2 _ hk
  · rename_i t ho
    split at h
    · rename_i d hd
      obtain ⟨h1, h2, h3, h4⟩ := h
      refine ⟨_, h4, hd.symm, (fun h => absurd rfl h), (by simp [ho, Op.mw]), fun e' hp' he hh fr ρ a w Q hp hr => opW_sound hp hr ?_⟩
      unfold opW; simp only [ho, hd]
      exact ⟨(hh d (.inr rfl)).trans h1, h2, h3, rfl⟩
    · exact h.elim
  · rename_i t x ho
    split at h
    · rename_i d hd
      obtain ⟨h1, h2, h4⟩ := h
      refine ⟨_, h4, hd.symm, (fun h => absurd rfl h), (by simp [ho, Op.mw]), fun e' hp' he hh fr ρ a w Q hp hr => opW_sound hp hr ?_⟩
      unfold opW; simp only [ho, hd]
      rw [ho] at he
      rw [he x (by simp [Op.operands])]
      exact ⟨(hh d (.inr rfl)).trans h1, h2, rfl⟩
    · exact h.elim
  · rename_i t ps ho
    obtain ⟨z, h1, h2⟩ := buildW_det _ _ _ _ h
    refine fits_val _ _ (by simp [ho, Op.mr]) h1 fun e' hp' he hh K hk => ?_
    unfold opW; simp only [ho]
    rw [ho] at he
    rw [mem_pairs (e := s.env) (by simpa [Op.operands] using he)]; exact h2 _ hk
  · rename_i t len ps ho
    obtain ⟨z, h1, h2⟩ := litD_det _ _ _ _ _ _ _ h
    refine ⟨_, h1, rfl, (by simp [ho, Op.mr]), (fun h => absurd rfl h), fun e' hp' he hh fr ρ a w Q hp hr => ?_⟩
    rw [ho] at he
    have h3 := litD_hp (hp' := hp') (fun i hi => hh i (.inl hi)) (h2 (· = z) rfl)
    rw [← mem_pairs (e' := e') (by simpa [Op.operands] using he)] at h3
    obtain ⟨z', hz, h4⟩ := litD_sound (Q := Q) hp hr ho h3
    subst hz
    exact h4
  · rename_i t x ho
    obtain ⟨h1, h2, h3⟩ := h
    obtain ⟨z, h4, h5⟩ := loadW_det _ _ _ _ h3
    refine fits_val _ _ (by simp [ho, Op.mr]) h4 fun e' hp' he hh K hk => ?_
    unfold opW; simp only [ho]
    rw [ho] at he
    rw [he x (by simp [Op.operands])]; exact ⟨h1, h2, loadW_hp hh (h5 _ hk)⟩
  · rename_i t x y ho
    obtain ⟨h1, h2, h3⟩ := h
    obtain ⟨⟨i, ob⟩, h4, h5⟩ := storeF_det _ _ _ _ _ h3
    refine ⟨_, h4, h1.symm, (fun h => absurd rfl h), (by simp [ho, Op.mw]), fun e' hp' he hh fr ρ a w Q hp hr => opW_sound hp hr ?_⟩
    unfold opW; simp only [ho]
    rw [ho] at he
    rw [he x (by simp [Op.operands]), he y (by simp [Op.operands])]
    refine ⟨h1, h2, ?_⟩
    have h6 := h5 (fun wr => wr = (i, ob)) rfl
    generalize ev s.env x = x' at h6
    cases x' with
    | ptr i' j off =>
      unfold storeF at h6
      unfold storeW
      dsimp only at h6 ⊢
      cases hob : s.hp.getD i' .dead with
      | dead => rw [hob] at h6; exact h6.elim
      | arr T k pf rows =>
        rw [hob] at h6
        obtain ⟨h7, h8, h9, h10, h11, h12⟩ := h6
        cases h12
        rw [getD_of (hh i (.inr rfl)), hob]
        exact ⟨h7, h8, h9, h10, h11, rfl⟩
    | _ => exact h6.elim
  · rename_i x ho
    obtain ⟨z, h1, h2⟩ := nilCheckW_det _ _ h
    refine fits_val _ _ (by simp [ho, Op.mr]) h1 fun e' hp' he hh K hk => ?_
    unfold opW; simp only [ho]
    rw [ho] at he
    rw [he x (by simp [Op.operands])]; exact h2 _ hk
  · rename_i op t x y ty ho
    obtain ⟨z, h1, h2⟩ := binW_det _ _ _ _ _ _ h
    refine fits_val _ _ (by simp [ho, Op.mr]) h1 fun e' hp' he hh K hk => ?_
    unfold opW; simp only [ho]
    rw [ho] at he
    rw [he x (by simp [Op.operands]), he y (by simp [Op.operands])]; exact h2 _ hk
  · rename_i op t x ho
    obtain ⟨z, h1, h2⟩ := unW_det _ _ _ h
    refine fits_val _ _ (by simp [ho, Op.mr]) h1 fun e' hp' he hh K hk => ?_
    unfold opW; simp only [ho]
    rw [ho] at he
    rw [he x (by simp [Op.operands])]; exact h2 _ hk
  · rename_i t u x ho
    obtain ⟨z, h1, h2⟩ := convW_det _ _ _ _ h
    refine fits_val _ _ (by simp [ho, Op.mr]) h1 fun e' hp' he hh K hk => ?_
    unfold opW; simp only [ho]
    rw [ho] at he
    rw [he x (by simp [Op.operands])]; exact h2 _ hk
  · rename_i t x lo hi mx ho
    obtain ⟨z, h1, h2⟩ := sliceW_det _ _ _ _ _ _ _ _ h
    refine fits_val _ _ (by simp [ho, Op.mr]) h1 fun e' hp' he hh K hk => ?_
    unfold opW; simp only [ho]
    rw [ho] at he
    rw [he x (by simp [Op.operands]), evo_ev (x := lo) (e := s.env) (fun y hy => he y (by simp [Op.operands]; simp at hy; simp [hy])), evo_ev (x := hi) (e := s.env) (fun y hy => he y (by simp [Op.operands]; simp at hy; simp [hy])), evo_ev (x := mx) (e := s.env) (fun y hy => he y (by simp [Op.operands]; simp at hy; simp [hy]))]
    exact sliceW_hp hh (h2 _ hk)
  · rename_i t x f ho
    obtain ⟨z, h1, h2⟩ := fieldAddrW_det _ _ _ _ _ h
    refine fits_val _ _ (by simp [ho, Op.mr]) h1 fun e' hp' he hh K hk => ?_
    unfold opW; simp only [ho]
    rw [ho] at he
    rw [he x (by simp [Op.operands])]; exact h2 _ hk
  · rename_i t x f ho
    obtain ⟨z, h1, h2⟩ := fieldW_det _ _ _ _ _ h
    refine fits_val _ _ (by simp [ho, Op.mr]) h1 fun e' hp' he hh K hk => ?_
    unfold opW; simp only [ho]
    rw [ho] at he
    rw [he x (by simp [Op.operands])]; exact h2 _ hk
  · rename_i t x y ho
    obtain ⟨z, h1, h2⟩ := indexAddrW_det _ _ _ _ _ _ h
    refine fits_val _ _ (by simp [ho, Op.mr]) h1 fun e' hp' he hh K hk => ?_
    unfold opW; simp only [ho]
    rw [ho] at he
    rw [he x (by simp [Op.operands]), he y (by simp [Op.operands])]; exact indexAddrW_hp hh (h2 _ hk)
  · rename_i t x y ho
    obtain ⟨z, h1, h2⟩ := indexW_det _ _ _ _ _ h
    refine fits_val _ _ (by simp [ho, Op.mr]) h1 fun e' hp' he hh K hk => ?_
    unfold opW; simp only [ho]
    rw [ho] at he
    rw [he x (by simp [Op.operands]), he y (by simp [Op.operands])]; exact h2 _ hk
  · rename_i x i ho
    obtain ⟨z, h1, h2⟩ := extractW_det _ _ _ h
    refine fits_val _ _ (by simp [ho, Op.mr]) h1 fun e' hp' he hh K hk => ?_
    unfold opW; simp only [ho]
    rw [ho] at he
    rw [he x (by simp [Op.operands])]; exact h2 _ hk
  · rename_i f first cap ho
    refine fits_val _ _ (by simp [ho, Op.mr]) h fun e' hp' he hh K hk => ?_
    unfold opW; simp only [ho]
    rw [ho] at he
    rw [map_ev (l := first.toList) (e := s.env) (fun x hx => he x (by simp [Op.operands]; simp at hx; simp [hx])), map_ev (l := cap.toList) (e := s.env) (fun x hx => he x (by simp [Op.operands]; simp at hx; simp [hx]))]
    exact hk
  · rename_i x t ho
    obtain ⟨z, h1, h2⟩ := lenW_det _ _ _ h
    refine fits_val _ _ (by simp [ho, Op.mr]) h1 fun e' hp' he hh K hk => ?_
    unfold opW; simp only [ho]
    rw [ho] at he
    rw [he x (by simp [Op.operands, Call.operands])]; exact h2 _ hk
  · rename_i f xs tys ho
    split at h
    · rename_i g first cap hf
      obtain ⟨h1, h2, r, h3, h4⟩ := h
      refine fits_val _ _ (by simp [ho, Op.mr]) h4 fun e' hp' he hh K hk => ?_
      unfold opW; simp only [ho]
      rw [ho] at he
      rw [he f (by simp [Op.operands, Call.operands]), map_ev (l := xs) (e := s.env) (fun x hx => he x (by simp [Op.operands, Call.operands, hx])), hf]
      exact ⟨h1, call_pure h2 h3 fun r' hr' => by subst hr'; exact hk⟩
    · exact h.elim
  · exact h.elim
end
end Go.Proofs.YtjkjapjcmbfkgaaGreat.Vm

/-
  Regions whose order is open: what they do in the text's order they do in any order that is let.
-/
namespace Go.Proofs.YtjkjapjcmbfkgaaGreat.Vm
open Go
set_option linter.unusedVariables false
set_option linter.unusedSimpArgs false

def ordered (o : Oper) (j : Nat) : Bool := o.after.any fun e => Region.binds .any e && e.on == j
def memOk (x y : Oper) : Bool := !((Op.mw x.op && (Op.mr y.op || Op.mw y.op)) || (Op.mr x.op && Op.mw y.op))
def pairOk (ops : Array Oper) (L : List (Nat × Nat)) (j k : Nat) : Bool :=
  match ops[j]?, ops[k]? with
  | some x, some y => ordered y j || (Oper.apart ops x y && (memOk x y || L.contains (j, k)))
  | _, _ => true
def regOk (ops : Array Oper) (L : List (Nat × Nat)) : Bool :=
  (List.range ops.size).all fun k => ((ops[k]?).map fun o => o.after.all fun e => !Region.binds .any e || decide (e.on < k)).getD true && (List.range k).all fun j => pairOk ops L j k

/-! ### states of some of the effects -/
def Dst (S : Nat → Bool) : Nat → List Eff → St → St
  | _, [], s => s
  | k, f :: fs, s => Dst S (k + 1) fs (if S k then f.app s else s)

theorem app_env_ne (f : Eff) (s : St) {t : Nat} (h : f.dst ≠ some t) : (f.app s).env[t]? = s.env[t]? := by
  unfold Eff.app
  cases hd : f.dst with
  | none => rfl
  | some d =>
    have : d ≠ t := fun e => h (by rw [hd, e])
    simp only [List.getElem?_set_ne this]
theorem app_hp_ne (f : Eff) (s : St) {i : Nat} (h : f.wi ≠ some i) : (f.app s).hp[i]? = s.hp[i]? := by
  unfold Eff.app
  unfold Eff.wi at h
  cases hd : f.wr with
  | none => rfl
  | some p =>
    have : p.1 ≠ i := fun e => h (by rw [hd, Option.map_some, e])
    simp only [List.getElem?_set_ne this]
theorem set_self_congr {α : Type} {l m : List α} {t : Nat} {x : α} (h : l[t]? = m[t]?) : (l.set t x)[t]? = (m.set t x)[t]? := by
  rw [List.getElem?_set_self', List.getElem?_set_self', h]
theorem app_env_congr (f : Eff) {s s' : St} {t : Nat} (h : s.env[t]? = s'.env[t]?) : (f.app s).env[t]? = (f.app s').env[t]? := by
  by_cases hd : f.dst = some t
  · unfold Eff.app
    simp only [hd]
    exact set_self_congr h
  · rw [app_env_ne f s hd, app_env_ne f s' hd, h]
theorem app_hp_congr (f : Eff) {s s' : St} {t : Nat} (h : s.hp[t]? = s'.hp[t]?) : (f.app s).hp[t]? = (f.app s').hp[t]? := by
  by_cases hd : f.wi = some t
  · unfold Eff.app
    unfold Eff.wi at hd
    cases hw : f.wr with
    | none => rw [hw] at hd; cases hd
    | some p =>
      obtain ⟨i, o⟩ := p
      rw [hw] at hd
      cases hd
      exact set_self_congr h
  · rw [app_hp_ne f s hd, app_hp_ne f s' hd, h]

theorem Dst_env {S S' : Nat → Bool} {t : Nat} : ∀ (fs : List Eff) (k : Nat) (s s' : St), s.env[t]? = s'.env[t]? → (∀ j f, fs[j]? = some f → f.dst = some t → S (k + j) = S' (k + j)) → (Dst S k fs s).env[t]? = (Dst S' k fs s').env[t]?
  | [], k, s, s', h, _ => h
  | f :: fs, k, s, s', h, hS => by
    unfold Dst
    refine Dst_env fs (k + 1) _ _ ?_ fun j g hg hd => by
      have := hS (j + 1) g hg hd
      rwa [show k + (j + 1) = k + 1 + j by omega] at this
    by_cases hd : f.dst = some t
    · have := hS 0 f rfl hd
      simp only [Nat.add_zero] at this
      rw [this]
      split
      · exact app_env_congr f h
      · exact h
    · split <;> split <;> simp only [app_env_ne f _ hd, h]
theorem Dst_hp {S S' : Nat → Bool} {t : Nat} : ∀ (fs : List Eff) (k : Nat) (s s' : St), s.hp[t]? = s'.hp[t]? → (∀ j f, fs[j]? = some f → f.wi = some t → S (k + j) = S' (k + j)) → (Dst S k fs s).hp[t]? = (Dst S' k fs s').hp[t]?
  | [], k, s, s', h, _ => h
  | f :: fs, k, s, s', h, hS => by
    unfold Dst
    refine Dst_hp fs (k + 1) _ _ ?_ fun j g hg hd => by
      have := hS (j + 1) g hg hd
      rwa [show k + (j + 1) = k + 1 + j by omega] at this
    by_cases hd : f.wi = some t
    · have := hS 0 f rfl hd
      simp only [Nat.add_zero] at this
      rw [this]
      split
      · exact app_hp_congr f h
      · exact h
    · split <;> split <;> simp only [app_hp_ne f _ hd, h]

def apartE (f g : Eff) : Prop := (∀ d, f.dst = some d → g.dst ≠ some d) ∧ (∀ i, f.wi = some i → g.wi ≠ some i)
theorem app_comm {f g : Eff} (h : apartE f g) (s : St) : f.app (g.app s) = g.app (f.app s) := by
  unfold apartE Eff.wi at h
  obtain ⟨fd, fx, fr, fw⟩ := f
  obtain ⟨gd, gx, gr, gw⟩ := g
  unfold Eff.app
  simp only at h ⊢
  congr 1
  · cases fd with
    | none => rfl
    | some d =>
      cases gd with
      | none => rfl
      | some e => exact List.set_comm _ _ (fun he => h.1 d rfl (by rw [he]))
  · cases fw with
    | none => rfl
    | some p =>
      cases gw with
      | none => rfl
      | some q => exact List.set_comm _ _ (fun he => h.2 p.1 rfl (by simp [he]))
theorem Dst_app {S : Nat → Bool} {f : Eff} : ∀ (fs : List Eff) (k : Nat) (s : St), (∀ j g, fs[j]? = some g → S (k + j) = true → apartE f g) → Dst S k fs (f.app s) = f.app (Dst S k fs s)
  | [], k, s, _ => rfl
  | g :: fs, k, s, h => by
    unfold Dst
    have h0 := h 0 g rfl
    simp only [Nat.add_zero] at h0
    have hrec : ∀ s, Dst S (k + 1) fs (f.app s) = f.app (Dst S (k + 1) fs s) := fun s => Dst_app fs (k + 1) s fun j g' hg hS => h (j + 1) g' hg (by rwa [show k + (j + 1) = k + 1 + j by omega])
    split
    · rename_i hk
      rw [← app_comm (h0 hk), hrec]
    · exact hrec s
theorem Dst_congr {S S' : Nat → Bool} : ∀ (fs : List Eff) (k : Nat) (s : St), (∀ j, j < fs.length → S (k + j) = S' (k + j)) → Dst S k fs s = Dst S' k fs s
  | [], k, s, _ => rfl
  | g :: fs, k, s, h => by
    unfold Dst
    have h0 := h 0 (by simp)
    simp only [Nat.add_zero] at h0
    rw [h0]
    exact Dst_congr fs (k + 1) _ fun j hj => by
      have := h (j + 1) (by simp; omega)
      rwa [show k + (j + 1) = k + 1 + j by omega] at this
theorem Dst_insert {S S' : Nat → Bool} {f : Eff} : ∀ (fs : List Eff) (m k : Nat) (s : St), fs[m]? = some f → S (k + m) = false → S' (k + m) = true → (∀ j, j ≠ m → S' (k + j) = S (k + j)) →
    (∀ j g, m < j → fs[j]? = some g → S (k + j) = true → apartE f g) → Dst S' k fs s = f.app (Dst S k fs s)
  | [], m, k, s, h, _, _, _, _ => by simp at h
  | g :: fs, 0, k, s, h, h0, h1, hS, ha => by
    simp at h
    subst h
    simp only [Nat.add_zero] at h0 h1
    unfold Dst
    rw [h0, h1]
    simp only [if_true, Bool.false_eq_true, if_false]
    rw [Dst_congr (S := S') (S' := S) fs (k + 1) _ fun j hj => by
      have := hS (j + 1) (by omega)
      rwa [show k + (j + 1) = k + 1 + j by omega] at this]
    exact Dst_app fs (k + 1) s fun j g' hg hS' => ha (j + 1) g' (by omega) hg (by rwa [show k + (j + 1) = k + 1 + j by omega])
  | g :: fs, m + 1, k, s, h, h0, h1, hS, ha => by
    unfold Dst
    have h2 := hS 0 (by omega)
    simp only [Nat.add_zero] at h2
    rw [h2]
    exact Dst_insert fs m (k + 1) _ (by simpa using h) (by rwa [show k + 1 + m = k + (m + 1) by omega]) (by rwa [show k + 1 + m = k + (m + 1) by omega])
      (fun j hj => by have := hS (j + 1) (by omega); rwa [show k + (j + 1) = k + 1 + j by omega] at this)
      (fun j g' hj hg hS' => ha (j + 1) g' (by omega) (by simpa using hg) (by rwa [show k + (j + 1) = k + 1 + j by omega]))

/-! ### how many are left -/
def unl (listed : Array Bool) (n : Nat) : Nat := (List.range n).countP fun i => !listed.getD i true
theorem countP_lt {α : Type} {p q : α → Bool} : ∀ {l : List α}, (∀ x ∈ l, p x = true → q x = true) → (∃ x ∈ l, q x = true ∧ p x = false) → l.countP p < l.countP q
  | [], _, ⟨x, hx, _⟩ => by cases hx
  | y :: l, h, ⟨x, hx, h1, h2⟩ => by
    have hle : l.countP p ≤ l.countP q := List.countP_mono_left fun x hx => h x (List.mem_cons_of_mem _ hx)
    simp only [List.countP_cons]
    rcases List.mem_cons.1 hx with rfl | hx'
    · simp [h1, h2]; omega
    · have := countP_lt (fun x hx => h x (List.mem_cons_of_mem _ hx)) ⟨x, hx', h1, h2⟩
      have := h y List.mem_cons_self
      cases hp : p y <;> cases hq : q y <;> simp_all <;> omega

section
variable {P : Program} {pins : List Nat} {ops : Array Oper}

def wantB (ops : Array Oper) (o : Oper) (e : List AV) : Option Bool :=
  match o.guard with
  | none => some true
  | some (j, want) => match guardOf ops e j with
    | .bool b => some (b == want)
    | .und => some false
    | _ => none
theorem wantB_sound {w : World} {A : Nat → Prop} {ρ : Pl} {e : List AV} {a : Act} (h : Rps w A ρ e a.tmps.toList) {o : Oper} {b : Bool} (hb : wantB ops o e = some b) : Region.wanted o (yielded ops a.tmps) = b := by
  unfold wantB at hb
  unfold Region.wanted
  split at hb
  · rename_i hg
    simp only [hg]
    cases hb; rfl
  · rename_i j want hg
    simp only [hg]
    obtain ⟨g1, g2⟩ := guard_sound (ops := ops) h j
    split at hb
    · rename_i b' hb'
      rw [g1 b' hb']
      cases hb
      cases b' <;> cases want <;> rfl
    · rename_i hb'
      rw [g2 hb']
      cases hb
      rfl
    · cases hb
theorem wantB_congr {o : Oper} {e e' : List AV} (h : ∀ t ∈ o.looksAt ops, e'[t]? = e[t]?) : wantB ops o e' = wantB ops o e := by
  unfold wantB
  cases hg : o.guard with
  | none => rfl
  | some p =>
    obtain ⟨j, want⟩ := p
    have : guardOf ops e' j = guardOf ops e j := by
      unfold guardOf
      cases hd : (ops[j]?).bind (·.dst) with
      | none => rfl
      | some d =>
        simp only [List.getD_eq_getElem?_getD]
        rw [h d (by simp [Oper.looksAt, hg, hd])]
    simp only [this]

/-- It is f that operation o does to s. -/
def Does (P : Program) (pins : List Nat) (ops : Array Oper) (o : Oper) (f : Eff) (s : St) : Prop :=
  f.dst = o.dst ∧ (f.rd ≠ none → Op.mr o.op = true) ∧ (f.wi ≠ none → Op.mw o.op = true) ∧
  ((wantB ops o s.env = some true ∧ Fits P pins o f s) ∨ (wantB ops o s.env = some false ∧ f = ⟨o.dst, .und, none, none⟩))

def sepP (f g : Option Nat × Option Nat) : Prop := (f.2 = none ∨ (f.2 ≠ g.1 ∧ f.2 ≠ g.2)) ∧ (g.2 = none ∨ g.2 ≠ f.1)

structure Good (P : Program) (pins : List Nat) (ops : Array Oper) (L : List (Nat × Nat)) (fs : List Eff) (s0 : St) : Prop where
  len : fs.length = ops.size
  does : ∀ k f o, fs[k]? = some f → ops[k]? = some o → Does P pins ops o f (Dst (fun i => decide (i < k)) 0 fs s0)
  sep : ∀ j k f g, (j, k) ∈ L → fs[j]? = some f → fs[k]? = some g → sepP (f.rd, f.wi) (g.rd, g.wi)

theorem regOk_at {L : List (Nat × Nat)} (h : regOk ops L = true) {k : Nat} {o : Oper} (ho : ops[k]? = some o) : (∀ e ∈ o.after, Region.binds .any e = true → e.on < k) ∧ ∀ j x, j < k → ops[j]? = some x → ordered o j = true ∨ (Oper.apart ops x o = true ∧ (memOk x o = true ∨ (j, k) ∈ L)) := by
  have hk : k < ops.size := (Array.getElem?_eq_some_iff.1 ho).1
  unfold regOk at h
  have h1 := List.all_eq_true.1 h k (by simpa using hk)
  rw [Bool.and_eq_true, ho] at h1
  refine ⟨fun e he hb => ?_, fun j x hj hx => ?_⟩
  · have h2 := h1.1
    simp only [Option.map_some, Option.getD_some, Array.all_eq_true_iff_forall_mem] at h2
    have := h2 e he
    rw [hb] at this
    simpa using this
  · have h2 := List.all_eq_true.1 h1.2 j (by simpa using hj)
    unfold pairOk at h2
    rw [hx, ho] at h2
    simpa using h2

theorem any_sound {L : List (Nat × Nat)} {fs : List Eff} {s0 : St} {fr : Fr} {Q : Exit → Act → World → Prop} (hp : fr.pins = pins) (hok : regOk ops L = true) (hg : Good P pins ops L fs s0) (hQ : ∀ a w ρ, Rep fr ρ (Dst (fun _ => true) 0 fs s0) a w → Q .normal a w) :
    ∀ (fuel : Nat) (listed : Array Bool) (a : Act) (w : World) (ρ : Pl), listed.size = ops.size → (∀ k o, ops[k]? = some o → listed.getD k false = true → ∀ e ∈ o.after, Region.binds .any e = true → listed.getD e.on false = true) →
      unl listed ops.size ≤ fuel → Rep fr ρ (Dst (fun i => listed.getD i false) 0 fs s0) a w → wpAny P .any ops Q fuel listed a w := by
  have gd : ∀ (listed : Array Bool) (i : Nat), listed.size = ops.size → i < ops.size → listed.getD i true = listed.getD i false := by
    intro listed i hs hi
    have : i < listed.size := by omega
    simp [this]
  have done : ∀ (listed : Array Bool) (a : Act) (w : World) (ρ : Pl), listed.size = ops.size → Region.ready .any ops listed = [] → Rep fr ρ (Dst (fun i => listed.getD i false) 0 fs s0) a w → Q .normal a w := by
    intro listed a w ρ hs hr hrep
    refine hQ a w ρ ?_
    rw [Dst_congr (S := fun _ => true) (S' := fun i => listed.getD i false)]
    · exact hrep
    · intro j hj
      rw [hg.len] at hj
      simp only [Nat.zero_add]
      have key : ∀ n j, j < n → j < ops.size → listed.getD j false = true := by
        intro n
        induction n with
        | zero => intro j hj; omega
        | succ n ih =>
          intro j hj hjs
          cases hl : listed.getD j false with
          | true => rfl
          | false =>
            exfalso
            have ho : ops[j]? = some ops[j] := Array.getElem?_eq_getElem hjs
            have : j ∈ Region.ready .any ops listed := by
              rw [mem_ready]
              refine ⟨by rw [gd listed j hs hjs]; exact hl, _, ho, fun e he hb => ?_⟩
              have := (regOk_at hok ho).1 e he hb
              exact ih e.on (by omega) (by omega)
            rw [hr] at this
            cases this
      exact (key (j + 1) j (by omega) hj).symm
  intro fuel
  induction fuel with
  | zero =>
    intro listed a w ρ hs hcl hu hrep
    have hnil : Region.ready .any ops listed = [] := by
      cases hr : Region.ready .any ops listed with
      | nil => rfl
      | cons x xs =>
        exfalso
        have hx : x ∈ Region.ready .any ops listed := by rw [hr]; simp
        rw [mem_ready] at hx
        obtain ⟨h1, o, ho, _⟩ := hx
        have hlt : x < ops.size := (Array.getElem?_eq_some_iff.1 ho).1
        have : 0 < unl listed ops.size := by
          unfold unl
          rw [List.countP_pos_iff]
          exact ⟨x, by simpa using hlt, by simp only [h1, Bool.not_false]⟩
        omega
    exact ⟨hnil, done listed a w ρ hs hnil hrep⟩
  | succ fuel ih =>
    intro listed a w ρ hs hcl hu hrep
    refine ⟨fun hr => done listed a w ρ hs hr hrep, fun k hk => ?_⟩
    rw [mem_ready] at hk
    obtain ⟨hk1, o, ho, hdep⟩ := hk
    have hks : k < ops.size := (Array.getElem?_eq_some_iff.1 ho).1
    have hk0 : listed.getD k false = false := by rw [← gd listed k hs hks]; exact hk1
    have hkl : k < listed.size := by omega
    obtain ⟨f, hf⟩ : ∃ f, fs[k]? = some f := ⟨_, List.getElem?_eq_getElem (by rw [hg.len]; exact hks)⟩
    obtain ⟨hd1, hd2, hd3, hd4⟩ := hg.does k f o hf ho
    have hlisted : ∀ j, ordered o j = true → listed.getD j false = true := by
      intro j hj
      unfold ordered at hj
      rw [Array.any_eq_true'] at hj
      obtain ⟨e, he, hb⟩ := hj
      simp only [Bool.and_eq_true, beq_iff_eq] at hb
      rw [← hb.2]
      exact hdep e he hb.1
    have hopen : ∀ j x, ops[j]? = some x → ordered x k = true → listed.getD j false = false := by
      intro j x hx hj
      cases hl : listed.getD j false with
      | false => rfl
      | true =>
        exfalso
        unfold ordered at hj
        rw [Array.any_eq_true'] at hj
        obtain ⟨e, he, hb⟩ := hj
        simp only [Bool.and_eq_true, beq_iff_eq] at hb
        have := hcl j x hx hl e he hb.1
        rw [hb.2, hk0] at this
        cases this
    -- whoever else is about: apart, or on the right side
    have rel : ∀ j g x, j ≠ k → fs[j]? = some g → ops[j]? = some x → (listed.getD j false = decide (j < k)) ∨
        ((∀ t, g.dst = some t → t ∉ o.looksAt ops) ∧ (∀ d, g.dst = some d → f.dst ≠ some d) ∧ (∀ i, g.wi = some i → f.rd ≠ some i ∧ f.wi ≠ some i)) := by
      intro j g x hjk hgj hxj
      obtain ⟨hx1, hx2, hx3, _⟩ := hg.does j g x hgj hxj
      rcases Nat.lt_or_gt_of_ne hjk with hlt | hgt
      · rcases (regOk_at hok ho).2 j x hlt hxj with h1 | ⟨h1, h2⟩
        · exact .inl (by rw [hlisted j h1]; simp [hlt])
        · right
          obtain ⟨a1, a2, a3⟩ := Oper.apart_spec h1
          refine ⟨fun t ht => a1 t (hx1 ▸ ht), fun d hd => by rw [hd1]; exact a2 d (hx1 ▸ hd), fun i hi => ?_⟩
          rcases h2 with h2 | h2
          · have hxw : Op.mw x.op = true := hx3 (by rw [hi]; simp)
            unfold memOk at h2
            rw [hxw] at h2
            simp only [Bool.true_and, Bool.not_or, Bool.and_eq_true, Bool.not_eq_true'] at h2
            refine ⟨fun hr => ?_, fun hr => ?_⟩
            · have := hd2 (by rw [hr]; simp)
              rw [this] at h2; exact absurd h2.1.1 (by simp)
            · have := hd3 (by rw [hr]; simp)
              rw [this] at h2; exact absurd h2.1.2 (by simp)
          · have h3 := (hg.sep j k g f h2 hgj hf).1
            simp only [hi] at h3
            rcases h3 with h3 | h3
            · cases h3
            · exact ⟨fun h => h3.1 h.symm, fun h => h3.2 h.symm⟩
      · rcases (regOk_at hok hxj).2 k o hgt ho with h1 | ⟨h1, h2⟩
        · exact .inl (by rw [hopen j x hxj h1]; simp; omega)
        · right
          obtain ⟨a1, a2, a3⟩ := Oper.apart_spec h1
          refine ⟨fun t ht => a3 t (hx1 ▸ ht), fun d hd hfd => a2 d (hd1 ▸ hfd) (hx1 ▸ hd), fun i hi => ?_⟩
          rcases h2 with h2 | h2
          · have hxw : Op.mw x.op = true := hx3 (by rw [hi]; simp)
            unfold memOk at h2
            rw [hxw] at h2
            simp only [Bool.or_true, Bool.and_true, Bool.not_or, Bool.and_eq_true, Bool.not_eq_true'] at h2
            refine ⟨fun hr => ?_, fun hr => ?_⟩
            · have := hd2 (by rw [hr]; simp)
              rw [this] at h2; exact absurd h2.2 (by simp)
            · have := hd3 (by rw [hr]; simp)
              rw [this] at h2; exact absurd h2.1 (by simp)
          · obtain ⟨h4, h3⟩ := hg.sep k j f g h2 hf hgj
            simp only [hi] at h3 h4
            refine ⟨fun h => ?_, fun h => ?_⟩
            · rcases h3 with h3 | h3
              · cases h3
              · exact h3 h.symm
            · rcases h4 with h4 | h4
              · rw [h] at h4; cases h4
              · exact h4.2 h
    have opAt : ∀ j g, fs[j]? = some g → ∃ x, ops[j]? = some x := fun j g hj => by
      have : j < fs.length := (List.getElem?_eq_some_iff.1 hj).1
      exact ⟨_, Array.getElem?_eq_getElem (by rw [← hg.len]; exact this)⟩
    have henv : ∀ t ∈ o.looksAt ops, (Dst (fun i => listed.getD i false) 0 fs s0).env[t]? = (Dst (fun i => decide (i < k)) 0 fs s0).env[t]? := by
      intro t ht
      refine Dst_env fs 0 s0 s0 rfl fun j g hj hd => ?_
      simp only [Nat.zero_add]
      by_cases hjk : j = k
      · subst hjk; rw [hk0]; simp
      · obtain ⟨x, hx⟩ := opAt j g hj
        rcases rel j g x hjk hj hx with h1 | h1
        · exact h1
        · exact absurd ht (h1.1 t hd)
    have hhp : ∀ i, f.rd = some i ∨ f.wi = some i → (Dst (fun i => listed.getD i false) 0 fs s0).hp[i]? = (Dst (fun i => decide (i < k)) 0 fs s0).hp[i]? := by
      intro i hi
      refine Dst_hp fs 0 s0 s0 rfl fun j g hj hd => ?_
      simp only [Nat.zero_add]
      by_cases hjk : j = k
      · subst hjk; rw [hk0]; simp
      · obtain ⟨x, hx⟩ := opAt j g hj
        rcases rel j g x hjk hj hx with h1 | h1
        · exact h1
        · obtain ⟨h2, h3⟩ := h1.2.2 i hd
          rcases hi with hi | hi
          · exact absurd hi h2
          · exact absurd hi h3
    have hins : Dst (fun i => (listed.setIfInBounds k true).getD i false) 0 fs s0 = f.app (Dst (fun i => listed.getD i false) 0 fs s0) := by
      refine Dst_insert fs k 0 s0 hf (by simpa using hk0) (by simp [hkl]) (fun j hj => ?_) fun j g hj hgj hS => ?_
      · simp only [Nat.zero_add]
        exact getD_set_ne false (Ne.symm hj)
      · simp only [Nat.zero_add] at hS
        obtain ⟨x, hx⟩ := opAt j g hgj
        rcases rel j g x (by omega) hgj hx with h1 | h1
        · rw [h1] at hS; simp at hS; omega
        · exact ⟨fun d hd hgd => h1.2.1 d hgd hd, fun i hi hgi => (h1.2.2 i hgi).2 hi⟩
    have next : ∀ a' w', Ends fr (· = f.app (Dst (fun i => listed.getD i false) 0 fs s0)) a' w' → wpAny P .any ops Q fuel (listed.setIfInBounds k true) a' w' := by
      rintro a' w' ⟨s', ρ', rfl, hrep'⟩
      refine ih _ a' w' ρ' (by simpa using hs) ?_ ?_ (by rw [hins]; exact hrep')
      · intro j x hx hl e he hb
        by_cases hjk : j = k
        · subst hjk
          rw [ho] at hx
          cases hx
          exact getD_set_true (hdep e he hb)
        · rw [getD_set_ne false (Ne.symm hjk)] at hl
          exact getD_set_true (hcl j x hx hl e he hb)
      · have : unl (listed.setIfInBounds k true) ops.size < unl listed ops.size := by
          refine countP_lt (fun i hi h => ?_) ⟨k, by simpa using hks, by rw [hk1]; rfl, by simp [hkl]⟩
          by_cases hik : i = k
          · subst hik; simp [hkl] at h
          · rw [getD_set_ne true (Ne.symm hik)] at h; exact h
        omega
    unfold wpOp
    rw [ho]
    simp only
    rcases hd4 with ⟨hw, hfit⟩ | ⟨hw, hfe⟩
    · rw [← wantB_congr henv] at hw
      rw [if_pos (wantB_sound hrep.env hw)]
      refine .inl (Oper.wp_mono next (hfit _ _ (fun x hx => ?_) hhp fr ρ a w Q hp hrep))
      cases x with
      | tmp t =>
        simp only [ev, List.getD_eq_getElem?_getD]
        rw [henv t (List.mem_append_left _ (List.mem_filterMap.2 ⟨.tmp t, hx, rfl⟩))]
      | _ => rfl
    · rw [← wantB_congr henv] at hw
      rw [if_neg (by rw [wantB_sound hrep.env hw]; simp)]
      refine next _ _ ⟨_, ρ, rfl, ?_⟩
      have := hrep.put o.dst (x := .und) (v := undef) (by simp only [Rp])
      rw [hfe]
      exact this

/-! ### what is to be shown -/
def effW (P : Program) (ops : Array Oper) (o : Oper) (s : St) (C : Eff → St → Prop) : Prop :=
  match o.guard with
  | none => opF P o s fun f => C f s
  | some (j, want) => match guardOf ops s.env j with
    | .bool b => (b = want → opF P o (s.known ops j want) fun f => C f (s.known ops j want)) ∧ (b = (!want) → C ⟨o.dst, .und, none, none⟩ (s.known ops j (!want)))
    | .und => C ⟨o.dst, .und, none, none⟩ s
    | _ => False
def sepL (L : List (Nat × Nat)) (acc : List (Option Nat × Option Nat)) : Prop := ∀ p ∈ L, match acc[p.1]?, acc[p.2]? with
  | some f, some g => sepP f g
  | _, _ => True
def regV (P : Program) (ops : Array Oper) (L : List (Nat × Nat)) : List Oper → St → List (Option Nat × Option Nat) → (St → Prop) → Prop
  | [], s, acc, K => sepL L acc ∧ K s
  | o :: rest, s, acc, K => effW P ops o s fun f s' => regV P ops L rest (f.app s') (acc ++ [(f.rd, f.wi)]) K
end
end Go.Proofs.YtjkjapjcmbfkgaaGreat.Vm

/-
  Regions whose order is open: the rule.
-/
namespace Go.Proofs.YtjkjapjcmbfkgaaGreat.Vm
open Go
set_option linter.unusedVariables false
set_option linter.unusedSimpArgs false

section
variable {P : Program} {pins : List Nat} {ops : Array Oper} {L : List (Nat × Nat)}

theorem effW_does {o : Oper} {s : St} {C0 : Eff → St → Prop} (h : effW P ops o s C0) : ∃ f, C0 f s ∧ Does P pins ops o f s := by
  let C : Eff → Prop := fun f => C0 f s
  have yes : ∀ (hw : wantB ops o s.env = some true), opF P o s C → ∃ f, C f ∧ Does P pins ops o f s := by
    intro hw h
    obtain ⟨f, h1, h2, h3, h4, h5⟩ := opF_fits (pins := pins) h
    exact ⟨f, h1, h2, h3, h4, .inl ⟨hw, h5⟩⟩
  have no : ∀ (hw : wantB ops o s.env = some false), C ⟨o.dst, .und, none, none⟩ → ∃ f, C f ∧ Does P pins ops o f s := by
    intro hw h
    exact ⟨_, h, rfl, (fun h => absurd rfl h), (fun h => absurd rfl h), .inr ⟨hw, rfl⟩⟩
  unfold effW at h
  split at h
  · rename_i hg
    exact yes (by simp [wantB, hg]) h
  · rename_i j want hg
    split at h
    · rename_i b hb
      by_cases hbw : b = want
      · have h1 := h.1 hbw
        rw [← hbw, known_eq hb] at h1
        exact yes (by simp [wantB, hg, hb, hbw]) h1
      · have hb2 : b = !want := by cases b <;> cases want <;> simp_all
        have h2 := h.2 hb2
        rw [← hb2, known_eq hb] at h2
        exact no (by simp [wantB, hg, hb, hb2]) h2
    · rename_i hb
      exact no (by simp [wantB, hg, hb]) h
    · exact h.elim

theorem regV_steps : ∀ (l : List Oper) (s : St) (acc : List (Option Nat × Option Nat)) {K : St → Prop}, regV P ops L l s acc K →
    ∃ fs : List Eff, fs.length = l.length ∧ (∀ k f o, fs[k]? = some f → l[k]? = some o → Does P pins ops o f (Dst (fun i => decide (i < k)) 0 fs s)) ∧ sepL L (acc ++ fs.map fun f => (f.rd, f.wi)) ∧ K (Dst (fun _ => true) 0 fs s)
  | [], s, acc, K, h => ⟨[], rfl, fun k f o hk => by simp at hk, by simpa using h.1, h.2⟩
  | o :: rest, s, acc, K, h => by
    obtain ⟨f, h1, h2⟩ := effW_does (pins := pins) (s := s) (o := o) (ops := ops) (P := P) (C0 := fun f s' => regV P ops L rest (f.app s') (acc ++ [(f.rd, f.wi)]) K) h
    obtain ⟨fs, h3, h4, h5, h6⟩ := regV_steps rest (f.app s) _ h1
    have sh : ∀ (S S' : Nat → Bool) (k k' : Nat) (s : St), (∀ j, S (k + j) = S' (k' + j)) → ∀ fs : List Eff, Dst S k fs s = Dst S' k' fs s := by
      intro S S' k k' s hS fs
      induction fs generalizing k k' s with
      | nil => rfl
      | cons g fs ih =>
        unfold Dst
        have := hS 0
        simp only [Nat.add_zero] at this
        rw [this]
        exact ih _ _ _ fun j => by have := hS (j + 1); rwa [show k + (j + 1) = k + 1 + j by omega, show k' + (j + 1) = k' + 1 + j by omega] at this
    refine ⟨f :: fs, by simp [h3], fun k g o' hk ho => ?_, ?_, ?_⟩
    · cases k with
      | zero =>
        simp at hk ho
        subst hk; subst ho
        have : Dst (fun i => decide (i < 0)) 0 (f :: fs) s = s := by
          rw [Dst_congr (S' := fun _ => false) _ _ _ (fun j _ => by simp)]
          have : ∀ (l : List Eff) (k : Nat), Dst (fun _ => false) k l s = s := by
            intro l
            induction l with
            | nil => intro k; rfl
            | cons g l ih => intro k; unfold Dst; simp [ih]
          exact this _ _
        rw [this]
        exact h2
      | succ k =>
        have := h4 k g o' (by simpa using hk) (by simpa using ho)
        have he : Dst (fun i => decide (i < k + 1)) 0 (f :: fs) s = Dst (fun i => decide (i < k)) 0 fs (f.app s) := by
          show Dst _ (0 + 1) fs (if decide (0 < k + 1) = true then f.app s else s) = _
          rw [if_pos (by simp)]
          exact sh _ _ _ _ _ (fun j => by simp; omega) fs
        rw [he]
        exact this
    · simpa using h5
    · show K (Dst _ (0 + 1) fs (if true = true then f.app s else s))
      rw [if_pos rfl, sh (fun _ => true) (fun _ => true) (0 + 1) 0 _ (fun _ => rfl) fs]
      exact h6

theorem W_regionD (hm : P.follows .mixedOrders = true) {i : Nat} {Q : Exit → St → Prop} {s : St} (L : List (Nat × Nat)) (hok : regOk ops L = true) (h : regV P ops L ops.toList s [] (Q .normal)) : W P pins (.region i ops true) Q s := by
  intro fr ρ a w hp hr
  obtain ⟨fs, h1, h2, h3, h4⟩ := regV_steps (pins := pins) _ _ _ h
  have hg : Good P pins ops L fs s := by
    refine ⟨by simpa using h1, fun k f o hk ho => h2 k f o hk (by simpa using ho), fun j k f g hj hf hg => ?_⟩
    have := h3 (j, k) hj
    simp only [List.nil_append, List.getElem?_map, hf, hg, Option.map_some] at this
    exact this
  refine wp_region_any hm (any_sound (fr := fr) hp hok hg (fun a w ρ hr => ⟨_, ρ, h4, hr⟩) ops.size _ a _ ρ (by simp) ?_ ?_ ?_)
  · intro k o ho hl
    simp only [Array.getD_eq_getD_getElem?, Array.getElem?_replicate] at hl
    split at hl <;> simp at hl
  · unfold unl
    refine Nat.le_trans List.countP_le_length (by simp)
  · have : Dst (fun i => (Array.replicate ops.size false).getD i false) 0 fs s = s := by
      rw [Dst_congr (S' := fun _ => false) _ _ _ (fun j _ => by
        simp only [Array.getD_eq_getD_getElem?, Array.getElem?_replicate]
        split <;> rfl)]
      have : ∀ (l : List Eff) (k : Nat), Dst (fun _ => false) k l s = s := by
        intro l
        induction l with
        | nil => intro k; rfl
        | cons g l ih => intro k; unfold Dst; simp [ih]
      exact this _ _
    rw [this]
    exact hr.heapEq rfl rfl rfl rfl
theorem W_seqD (hm : P.follows .mixedOrders = true) {i : Nat} {Q : Exit → St → Prop} {y : Code} {s : St} (L : List (Nat × Nat)) (hok : regOk ops L = true) (h : ∀ K : St → Prop, (∀ s, W P pins y Q s → K s) → regV P ops L ops.toList s [] K) : W P pins (.seq (.region i ops true) y) Q s :=
  W_seq (W_regionD hm L hok (h (W P pins y Q) fun _ h => h))
theorem W_regD (hm : P.follows .mixedOrders = true) {i : Nat} {Q : Exit → St → Prop} {s : St} (L : List (Nat × Nat)) (hok : regOk ops L = true) (h : ∀ K : St → Prop, (∀ s, Q .normal s → K s) → regV P ops L ops.toList s [] K) : W P pins (.region i ops true) Q s :=
  W_regionD hm L hok (h (Q .normal) fun _ h => h)

/-! ### a region in the text's order, by effects -/
theorem regV_list {fr : Fr} (hp : fr.pins = pins) {K : St → Prop} {Q : Exit → Act → World → Prop} (hQ : ∀ a w, Ends fr K a w → Q .normal a w) : ∀ (l : List Oper) (s : St) (acc : List (Option Nat × Option Nat)) (a : Act) (w : World) (ρ : Pl), Rep fr ρ s a w → regV P ops L l s acc K → wpList P ops Q l a w
  | [], s, acc, a, w, ρ, h, hk => hQ a w ⟨s, ρ, hk.2, h⟩
  | o :: rest, s, acc, a, w, ρ, h, hk => by
    obtain ⟨f, h1, h2, h3, h4, h5⟩ := effW_does (pins := pins) (s := s) (o := o) (ops := ops) (P := P) (C0 := fun f s' => regV P ops L rest (f.app s') (acc ++ [(f.rd, f.wi)]) K) hk
    unfold wpList
    rcases h5 with ⟨hw, hfit⟩ | ⟨hw, hfe⟩
    · rw [if_pos (wantB_sound h.env hw)]
      refine .inl (Oper.wp_mono (fun a' w' he => ?_) (hfit _ _ (fun _ _ => rfl) (fun _ _ => rfl) fr ρ a w Q hp h))
      obtain ⟨s', ρ', rfl, hr⟩ := he
      exact regV_list hp hQ rest _ _ a' w' ρ' hr h1
    · rw [if_neg (by rw [wantB_sound h.env hw]; simp)]
      subst hfe
      exact regV_list hp hQ rest _ _ _ w ρ (h.put o.dst (x := .und) (v := undef) (by simp only [Rp])) h1
theorem W_regionV {i : Nat} {Q : Exit → St → Prop} {s : St} (h : regV P ops [] ops.toList s [] (Q .normal)) : W P pins (.region i ops false) Q s := by
  intro fr ρ a w hp hr
  exact wp_region_list (regV_list (fr := fr) hp (fun a w he => he) ops.toList s [] a w ρ hr h)
theorem W_seqV {i : Nat} {Q : Exit → St → Prop} {y : Code} {s : St} (h : ∀ K : St → Prop, (∀ s, W P pins y Q s → K s) → regV P ops [] ops.toList s [] K) : W P pins (.seq (.region i ops false) y) Q s :=
  W_seq (W_regionV (h (W P pins y Q) fun _ h => h))
theorem W_regV {i : Nat} {Q : Exit → St → Prop} {s : St} (h : ∀ K : St → Prop, (∀ s, Q .normal s → K s) → regV P ops [] ops.toList s [] K) : W P pins (.region i ops false) Q s :=
  W_regionV (h (Q .normal) fun _ h => h)
end

theorem unW_neg (k : IntKind) (n : Int) (K : AV → Prop) : unW .neg (.int k n) K = K (.int k (k.wrap (0 - n))) := propext ⟨fun h => h, fun h => h⟩
theorem unW_not (b : Bool) (K : AV → Prop) : unW .not (.bool b) K = K (.bool (!b)) := propext ⟨fun h => h, fun h => h⟩
theorem unW_xor (k : IntKind) (n : Int) (K : AV → Prop) : unW .xor (.int k n) K = K (.int k (bnotI k n)) := propext ⟨fun h => h, fun h => h⟩
end Go.Proofs.YtjkjapjcmbfkgaaGreat.Vm

/-
  Rows of one cell each: lists of limbs.
-/
namespace Go.Proofs.YtjkjapjcmbfkgaaGreat.Vm
open Go
set_option linter.unusedVariables false
set_option linter.unusedSimpArgs false

def u32s (l : List Nat) : List (List AV) := l.map fun (x : Nat) => [.int .u32 (x : Int)]
def cNat (l : List Nat) : AV := .sl (u32s l)
theorem u32s_length (l : List Nat) : (u32s l).length = l.length := by simp [u32s]
theorem u32s_all (l : List Nat) : AllLen 1 (u32s l) := by
  intro r hr
  simp only [u32s, List.mem_map] at hr
  obtain ⟨x, _, rfl⟩ := hr
  rfl
theorem u32s_getD {l : List Nat} {i : Nat} (h : i < l.length) : (u32s l).getD i [] = [.int .u32 ((l.getD i 0 : Nat) : Int)] := by
  simp [u32s, List.getD_eq_getElem?_getD, h]
theorem u32s_getD_set {l : List Nat} {i j v : Nat} (h : i < l.length) : (u32s (l.set j v)).getD i [] = [.int .u32 (((l.set j v).getD i 0 : Nat) : Int)] := u32s_getD (by simpa using h)
theorem u32s_take (l : List Nat) (n : Nat) : (u32s l).take n = u32s (l.take n) := by simp [u32s, List.map_take]
theorem u32s_drop (l : List Nat) (n : Nat) : (u32s l).drop n = u32s (l.drop n) := by simp [u32s, List.map_drop]
theorem u32s_set (l : List Nat) (n x : Nat) : (u32s l).set n [.int .u32 (x : Int)] = u32s (l.set n x) := by simp [u32s, List.map_set]
theorem u32s_rep (n : Nat) : List.replicate n [AV.int .u32 0] = u32s (List.replicate n 0) := by simp [u32s, List.map_replicate]
theorem u32s_one (l : List Nat) : AllOne (u32s l) := by
  intro r hr
  simp only [u32s, List.mem_map] at hr
  obtain ⟨y, _, rfl⟩ := hr
  rfl
theorem toNat_natCast (n : Nat) : ((n : Int)).toNat = n := rfl
theorem nat_lt_int (m n : Nat) : ((m : Int) < (n : Int)) = (m < n) := by simp
theorem nat_le_int (m n : Nat) : ((m : Int) ≤ (n : Int)) = (m ≤ n) := by simp
theorem nat_nonneg (n : Nat) : (0 ≤ (n : Int)) = True := by simp
theorem wrap_i64_nat {n : Nat} (h : n < 9223372036854775808) : IntKind.wrap .i64 (n : Int) = n := wrap_i64 (by omega) (by omega)
theorem wrap_i64_add {n m : Nat} (h : n + m < 9223372036854775808) : IntKind.wrap .i64 ((n : Int) + (m : Int)) = ((n + m : Nat) : Int) := by
  rw [wrap_i64 (by omega) (by omega)]; omega
theorem wrap_i64_one {n : Nat} (h : n + 1 < 9223372036854775808) : IntKind.wrap .i64 ((n : Int) + 1) = ((n + 1 : Nat) : Int) := by
  rw [wrap_i64 (by omega) (by omega)]; omega
theorem wrap_i64_sub {n m : Nat} (h : m ≤ n) (h' : n < 9223372036854775808) : IntKind.wrap .i64 ((n : Int) - (m : Int)) = ((n - m : Nat) : Int) := by
  rw [wrap_i64 (by omega) (by omega)]; omega
theorem wrap_i64_pred {n : Nat} (h : 1 ≤ n) (h' : n < 9223372036854775808) : IntKind.wrap .i64 ((n : Int) - 1) = ((n - 1 : Nat) : Int) := by
  rw [wrap_i64 (by omega) (by omega)]; omega

theorem wrap_u64_nat {n : Nat} (h : n < 18446744073709551616) : IntKind.wrap .u64 (n : Int) = n := wrap_u64 (by omega) (by omega)
theorem wrap_u64_add {n m : Nat} (h : n + m < 18446744073709551616) : IntKind.wrap .u64 ((n : Int) + (m : Int)) = ((n + m : Nat) : Int) := by
  rw [wrap_u64 (by omega) (by omega)]; omega
theorem wrap_u64_mul {n m : Nat} (h : n * m < 18446744073709551616) : IntKind.wrap .u64 ((n : Int) * (m : Int)) = ((n * m : Nat) : Int) := by
  rw [← Int.natCast_mul, wrap_u64 (by omega) (by omega)]
theorem wrap_u64_sub {n m : Nat} (h : m ≤ n) (h' : n < 18446744073709551616) : IntKind.wrap .u64 ((n : Int) - (m : Int)) = ((n - m : Nat) : Int) := by
  rw [wrap_u64 (by omega) (by omega)]; omega
theorem wrap_u32_nat (n : Nat) : IntKind.wrap .u32 (n : Int) = ((n % 4294967296 : Nat) : Int) := by
  have h3 : IntKind.wrap .u32 (n : Int) = (n : Int) % 4294967296 := by
    unfold IntKind.wrap
    simp [IntKind.bits, IntKind.signed]
  rw [h3]; omega
theorem wrap_u8_nat (n : Nat) : IntKind.wrap .u8 (n : Int) = ((n % 256 : Nat) : Int) := by
  have h3 : IntKind.wrap .u8 (n : Int) = (n : Int) % 256 := by
    unfold IntKind.wrap
    simp [IntKind.bits, IntKind.signed]
  rw [h3]; omega
theorem fdiv_pow (n k : Nat) : ((n : Int)).fdiv (2 ^ k) = ((n / 2 ^ k : Nat) : Int) := by
  rw [show ((2 : Int) ^ k) = ((2 ^ k : Nat) : Int) by simp, Int.fdiv_eq_ediv_of_nonneg _ (Int.natCast_nonneg _)]
  rfl
theorem tdiv_nat (n m : Nat) : Int.tdiv (n : Int) (m : Int) = ((n / m : Nat) : Int) := id rfl
theorem tmod_nat (n m : Nat) : Int.tmod (n : Int) (m : Int) = ((n % m : Nat) : Int) := id rfl
/-- 2 to the k, hidden from the unifier. -/
def p2 (k : Nat) : Int := 2 ^ k
theorem shl_u64 {n k : Nat} (h : n * 2 ^ k < 18446744073709551616) : IntKind.wrap .u64 ((n : Int) * p2 k) = ((n * 2 ^ k : Nat) : Int) := by
  unfold p2
  rw [show ((n : Int) * 2 ^ k) = ((n * 2 ^ k : Nat) : Int) by simp, wrap_u64_nat h]
theorem shl_u32 {n k : Nat} : IntKind.wrap .u32 ((n : Int) * p2 k) = ((n * 2 ^ k % 4294967296 : Nat) : Int) := by
  unfold p2
  rw [show ((n : Int) * 2 ^ k) = ((n * 2 ^ k : Nat) : Int) by simp, wrap_u32_nat]
theorem wrap_i64_32 {n : Nat} (h : n ≤ 32) : IntKind.wrap .i64 (32 - (n : Int)) = ((32 - n : Nat) : Int) := by
  rw [wrap_i64 (by omega) (by omega)]; omega
theorem min_u64 {n : Nat} (h : n ≤ 64) : min n (IntKind.bits .u64) = n := Nat.min_eq_left h
theorem min_u32 {n : Nat} (h : n ≤ 32) : min n (IntKind.bits .u32) = n := Nat.min_eq_left h
theorem ofInt_toNat (w n : Nat) : (BitVec.ofInt w (n : Int)).toNat = n % 2 ^ w := by
  rw [BitVec.toNat_ofInt]
  have : ((n : Int) % ((2 ^ w : Nat) : Int)) = ((n % 2 ^ w : Nat) : Int) := by omega
  rw [this]; rfl
theorem and_u32 {x y : Nat} (hx : x < 4294967296) (hy : y < 4294967296) : (BitVec.ofInt (IntKind.bits .u32) (x : Int) &&& BitVec.ofInt (IntKind.bits .u32) (y : Int)).toNat = (x &&& y) := by
  have h1 : x % 2 ^ IntKind.bits .u32 = x := Nat.mod_eq_of_lt hx
  have h2 : y % 2 ^ IntKind.bits .u32 = y := Nat.mod_eq_of_lt hy
  rw [BitVec.toNat_and, ofInt_toNat, ofInt_toNat, h1, h2]
theorem or_u32 {x y : Nat} (hx : x < 4294967296) (hy : y < 4294967296) : (BitVec.ofInt (IntKind.bits .u32) (x : Int) ||| BitVec.ofInt (IntKind.bits .u32) (y : Int)).toNat = (x ||| y) := by
  have h1 : x % 2 ^ IntKind.bits .u32 = x := Nat.mod_eq_of_lt hx
  have h2 : y % 2 ^ IntKind.bits .u32 = y := Nat.mod_eq_of_lt hy
  rw [BitVec.toNat_or, ofInt_toNat, ofInt_toNat, h1, h2]
theorem xor_u32 {x y : Nat} (hx : x < 4294967296) (hy : y < 4294967296) : (BitVec.ofInt (IntKind.bits .u32) (x : Int) ^^^ BitVec.ofInt (IntKind.bits .u32) (y : Int)).toNat = (x ^^^ y) := by
  have h1 : x % 2 ^ IntKind.bits .u32 = x := Nat.mod_eq_of_lt hx
  have h2 : y % 2 ^ IntKind.bits .u32 = y := Nat.mod_eq_of_lt hy
  rw [BitVec.toNat_xor, ofInt_toNat, ofInt_toNat, h1, h2]
theorem or_u64 {x y : Nat} (hx : x < 18446744073709551616) (hy : y < 18446744073709551616) : (BitVec.ofInt (IntKind.bits .u64) (x : Int) ||| BitVec.ofInt (IntKind.bits .u64) (y : Int)).toNat = (x ||| y) := by
  have h1 : x % 2 ^ IntKind.bits .u64 = x := Nat.mod_eq_of_lt hx
  have h2 : y % 2 ^ IntKind.bits .u64 = y := Nat.mod_eq_of_lt hy
  rw [BitVec.toNat_or, ofInt_toNat, ofInt_toNat, h1, h2]
theorem xor_ones (n x : Nat) (h : x < 2 ^ n) : (2 ^ n - 1) ^^^ x = 2 ^ n - 1 - x := by
  refine Nat.eq_of_testBit_eq fun i => ?_
  rw [Nat.testBit_xor, Nat.testBit_two_pow_sub_one, Nat.sub_sub, Nat.add_comm 1 x, Nat.testBit_two_pow_sub_succ h]
  cases hi : decide (i < n) with
  | true => simp
  | false =>
    simp at hi
    rw [Nat.testBit_lt_two_pow (Nat.lt_of_lt_of_le h (Nat.pow_le_pow_right (by omega) hi))]
    simp
theorem not_u32 {x : Nat} (hx : x < 4294967296) : (BitVec.ofInt (IntKind.bits .u32) (if IntKind.signed .u32 = true then -1 else IntKind.max .u32) ^^^ BitVec.ofInt (IntKind.bits .u32) (x : Int)).toNat = 4294967295 - x := by
  have h1 : x % 2 ^ IntKind.bits .u32 = x := Nat.mod_eq_of_lt hx
  have h2 : (BitVec.ofInt (IntKind.bits .u32) (if IntKind.signed .u32 = true then -1 else IntKind.max .u32)).toNat = 2 ^ 32 - 1 := by decide
  rw [BitVec.toNat_xor, ofInt_toNat, h1, h2, xor_ones 32 x hx]
theorem band_u32 {x y : Nat} (hx : x < 4294967296) (hy : y < 4294967296) : bandI .u32 x y = ((x &&& y : Nat) : Int) := by
  unfold bandI
  rw [and_u32 hx hy, wrap_u32_nat, Nat.mod_eq_of_lt (Nat.lt_of_le_of_lt Nat.and_le_left hx)]
theorem bor_u32 {x y : Nat} (hx : x < 4294967296) (hy : y < 4294967296) : borI .u32 x y = ((x ||| y : Nat) : Int) := by
  unfold borI
  rw [or_u32 hx hy, wrap_u32_nat, Nat.mod_eq_of_lt (Nat.or_lt_two_pow (n := 32) hx hy)]
theorem bxor_u32 {x y : Nat} (hx : x < 4294967296) (hy : y < 4294967296) : bxorI .u32 x y = ((x ^^^ y : Nat) : Int) := by
  unfold bxorI
  rw [xor_u32 hx hy, wrap_u32_nat, Nat.mod_eq_of_lt (Nat.xor_lt_two_pow (n := 32) hx hy)]
theorem bor_u64 {x y : Nat} (hx : x < 18446744073709551616) (hy : y < 18446744073709551616) : borI .u64 x y = ((x ||| y : Nat) : Int) := by
  unfold borI
  rw [or_u64 hx hy, wrap_u64_nat (Nat.or_lt_two_pow (n := 64) hx hy)]
theorem bnot_u32 {x : Nat} (hx : x < 4294967296) : bnotI .u32 x = ((4294967295 - x : Nat) : Int) := by
  unfold bnotI
  rw [not_u32 hx, wrap_u32_nat, Nat.mod_eq_of_lt (by omega)]
theorem wrap_u32_sub {x y : Nat} (hy : y ≤ 4294967296) : IntKind.wrap .u32 ((x : Int) - (y : Int)) = ((x + 4294967296 - y) % 4294967296 : Nat) := by
  have h3 : IntKind.wrap .u32 ((x : Int) - y) = ((x : Int) - y) % 4294967296 := by
    unfold IntKind.wrap
    simp [IntKind.bits, IntKind.signed]
  rw [h3]; omega
theorem range0 : List.range 0 = [] := rfl
theorem range1 : List.range 1 = [0] := rfl
theorem range2 : List.range 2 = [0, 1] := rfl
theorem range3 : List.range 3 = [0, 1, 2] := rfl
theorem range4 : List.range 4 = [0, 1, 2, 3] := rfl

/-! ### a function's walk begins -/
def retR (P : Program) (rs : List ResultVar) (R : AV → Prop) : Exit → St → Prop
  | .normal, s => resW P s rs fun xs => R (view s.hp 3 (asOne xs))
  | .ret, s => resW P s rs fun xs => R (view s.hp 3 (asOne xs))
  | _, _ => False
def viewRef (o : Ob) (hp : List Ob) (n off m : Nat) : AV :=
  match o with
  | .arr _ _ true rows => .sl ((rows.drop off).take m)
  | .arr _ _ false rows => match n with
    | n + 1 => .sl (((rows.drop off).take m).map (views hp n))
    | 0 => .any
  | .dead => .any
theorem view_sref (hp : List Ob) (n i off m : Nat) : view hp n (.sref i off m) = viewRef (hp.getD i .dead) hp n off m := by
  cases n <;> (unfold view viewRef; generalize hp.getD i .dead = ob; cases ob with
    | dead => rfl
    | arr T k p rows => cases p <;> rfl)
theorem view_sl (hp : List Ob) (n : Nat) (rows : List (List AV)) : view hp n (.sl rows) = .sl rows := by cases n <;> simp [view]
theorem view_int (hp : List Ob) (n : Nat) (k : IntKind) (x : Int) : view hp n (.int k x) = .int k x := by cases n <;> simp [view]
theorem view_bool (hp : List Ob) (n : Nat) (b : Bool) : view hp n (.bool b) = .bool b := by cases n <;> simp [view]
theorem view_str (hp : List Ob) (n : Nat) (b : ByteArray) : view hp n (.str b) = .str b := by cases n <;> simp [view]
theorem view_nils (hp : List Ob) (n : Nat) : view hp n .nils = .sl [] := by cases n <;> simp [view]
theorem view_agg (hp : List Ob) (n : Nat) (l : List AV) : view hp n (.agg l) = .agg (views hp n l) := by cases n <;> simp [view]
theorem view_tup (hp : List Ob) (n : Nat) (l : List AV) : view hp n (.tup l) = .tup (views hp n l) := by cases n <;> simp [view]
theorem view_nilif (hp : List Ob) (n : Nat) : view hp n .nilif = .nilif := by cases n <;> simp [view]
theorem views_nil (hp : List Ob) (n : Nat) : views hp n [] = [] := by cases n <;> simp [views]
theorem views_cons (hp : List Ob) (n : Nat) (x : AV) (l : List AV) : views hp n (x :: l) = view hp n x :: views hp n l := by cases n <;> simp [views]
theorem asOne_one (x : AV) : asOne [x] = x := rfl
theorem asOne_two (x y : AV) : asOne [x, y] = .tup [x, y] := rfl
theorem asOne_three (x y z : AV) : asOne [x, y, z] = .tup [x, y, z] := rfl
theorem pureW {P : Program} {g : FuncId} {fn : Func} {c : Code} {args : List AV} {R : AV → Prop} (hf : P.funcs[g]? = some fn) (hb : fn.body = some c) {rs : List ResultVar} (hr : fn.results.toList = rs) {n : Nat} (hn : fn.ntmps = n)
    (h : W P [] c (retR P rs R) ⟨args ++ List.replicate (n - args.length) .und, List.replicate n .dead⟩) : Pure P g args R := by
  subst hr; subst hn
  refine pure_of_W hf hb (h.mono fun e s he => ?_)
  cases e <;> exact he
end Go.Proofs.YtjkjapjcmbfkgaaGreat.Vm

/-
  The rules avs equations, one for each kind of operation: for the simplifier.
-/
namespace Go.Proofs.YtjkjapjcmbfkgaaGreat.Vm
open Go
set_option linter.unusedVariables false
set_option linter.unusedSimpArgs false

def retK (K : St → Prop) (s : St) (d : Option Tmp) : AV → Prop := fun z => K (s.ret d z)
def retK2 (K : St → Prop) (d : Option Tmp) : AV → St → Prop := fun z s' => K (s'.ret d z)
def valK (C : Eff → Prop) (d rd : Option Nat) : AV → Prop := fun z => C ⟨d, z, rd, none⟩
def wrK (C : Eff → Prop) : Nat × Ob → Prop := fun wr => C ⟨none, .any, none, some wr⟩
def sethK (K : St → Prop) (s : St) : Nat × Ob → Prop := fun wr => K (s.seth wr.1 wr.2)
def atK (C : Eff → St → Prop) (s : St) : Eff → Prop := fun f => C f s
def restV (P : Program) (ops : Array Oper) (L : List (Nat × Nat)) (rest : List Oper) (acc : List (Option Nat × Option Nat)) (K : St → Prop) : Eff → St → Prop := fun f s' => regV P ops L rest (f.app s') (acc ++ [(f.rd, f.wi)]) K
def restO (P : Program) (pins : List Nat) (ops : Array Oper) (rest : List Oper) (K : St → Prop) : St → Prop := fun s' => opsW P pins ops rest s' K
theorem retK_ap {K : St → Prop} {s : St} {d : Option Tmp} {z : AV} : retK K s d z = K (s.ret d z) := id rfl
theorem retK2_ap {K : St → Prop} {s : St} {d : Option Tmp} {z : AV} : retK2 K d z s = K (s.ret d z) := id rfl
theorem valK_ap {C : Eff → Prop} {d rd : Option Nat} {z : AV} : valK C d rd z = C ⟨d, z, rd, none⟩ := id rfl
theorem wrK_ap {C : Eff → Prop} {wr : Nat × Ob} : wrK C wr = C ⟨none, .any, none, some wr⟩ := id rfl
theorem sethK_ap {K : St → Prop} {s : St} {i : Nat} {o : Ob} : sethK K s (i, o) = K (s.seth i o) := id rfl
theorem atK_ap {C : Eff → St → Prop} {s : St} {f : Eff} : atK C s f = C f s := id rfl
theorem restV_ap {P : Program} {ops : Array Oper} {L : List (Nat × Nat)} {rest : List Oper} {acc : List (Option Nat × Option Nat)} {K : St → Prop} {f : Eff} {s : St} : restV P ops L rest acc K f s = regV P ops L rest (f.app s) (acc ++ [(f.rd, f.wi)]) K := id rfl
theorem restO_ap {P : Program} {pins : List Nat} {ops : Array Oper} {rest : List Oper} {K : St → Prop} {s : St} : restO P pins ops rest K s = opsW P pins ops rest s K := id rfl

section
variable {P : Program} {pins : List Nat} {ops : Array Oper} {L : List (Nat × Nat)} {d : Option Tmp} {ty t u : TypeId} {p : String} {a : Array Edge} {g : Option (Nat × Bool)} {s : St} {C : Eff → Prop} {C2 : Eff → St → Prop} {K : St → Prop} {A : AV → Prop}
theorem opF_move {x : Operand} : (opF P ⟨d, .move x, ty, p, a, g⟩ s C = (C ⟨d, ev s.env x, none, none⟩)) := propext Iff.rfl
theorem opW_move {x : Operand} : (opW P pins ⟨d, .move x, ty, p, a, g⟩ s K = (K (s.ret d (ev s.env x)))) := propext Iff.rfl
theorem opF_assign {x : Operand} : (opF P ⟨d, .assign x, ty, p, a, g⟩ s C = (C ⟨d, ev s.env x, none, none⟩)) := propext Iff.rfl
theorem opW_assign {x : Operand} : (opW P pins ⟨d, .assign x, ty, p, a, g⟩ s K = (K (s.ret d (ev s.env x)))) := propext Iff.rfl
theorem opF_pick {c x y : Operand} : (opF P ⟨d, .pick c x y, ty, p, a, g⟩ s C = (pickW (ev s.env c) (ev s.env x) (ev s.env y) (valK C d none))) := propext Iff.rfl
theorem opW_pick {c x y : Operand} : (opW P pins ⟨d, .pick c x y, ty, p, a, g⟩ s K = (pickW (ev s.env c) (ev s.env x) (ev s.env y) (retK K s d))) := propext Iff.rfl
theorem opF_build {ps : Array (Nat × Operand)} : (opF P ⟨d, .build t ps, ty, p, a, g⟩ s C = (buildW P (tyOf P t) (ps.toList.map fun p => (p.1, ev s.env p.2)) (valK C d none))) := propext Iff.rfl
theorem opW_build {ps : Array (Nat × Operand)} : (opW P pins ⟨d, .build t ps, ty, p, a, g⟩ s K = (buildW P (tyOf P t) (ps.toList.map fun p => (p.1, ev s.env p.2)) (retK K s d))) := propext Iff.rfl
theorem opF_buildSlice {n : Nat} {ps : Array (Nat × Operand)} : (opF P ⟨d, .buildSlice t n ps, ty, p, a, g⟩ s C = (litD P (tyOf P t) d n (ps.toList.map fun p => (p.1, ev s.env p.2)) s.hp (valK C d d))) := propext Iff.rfl
theorem opW_buildSlice {n : Nat} {ps : Array (Nat × Operand)} : (opW P pins ⟨d, .buildSlice t n ps, ty, p, a, g⟩ s K = (litW P (tyOf P t) d n (ps.toList.map fun p => (p.1, ev s.env p.2)) s (retK2 K d))) := propext Iff.rfl
theorem opF_load {x : Operand} : (opF P ⟨d, .load t x, ty, p, a, g⟩ s C = ((tyOf P t).d ≠ .no ∧ ((tyOf P t).isAgg = true ∨ (tyOf P t).size = 1) ∧ loadW (tyOf P t) (ev s.env x) s.hp (valK C d (objOf (ev s.env x))))) := propext Iff.rfl
theorem opW_load {x : Operand} : (opW P pins ⟨d, .load t x, ty, p, a, g⟩ s K = ((tyOf P t).d ≠ .no ∧ ((tyOf P t).isAgg = true ∨ (tyOf P t).size = 1) ∧ loadW (tyOf P t) (ev s.env x) s.hp (retK K s d))) := propext Iff.rfl
theorem opF_store {x y : Operand} : (opF P ⟨d, .store t x y, ty, p, a, g⟩ s C = (d = none ∧ (tyOf P t).d ≠ .no ∧ storeF (tyOf P t) (ev s.env x) (ev s.env y) s.hp (wrK C))) := propext Iff.rfl
theorem opW_store {x y : Operand} : (opW P pins ⟨d, .store t x y, ty, p, a, g⟩ s K = (d = none ∧ (tyOf P t).d ≠ .no ∧ storeW (tyOf P t) (ev s.env x) (ev s.env y) s K)) := propext Iff.rfl
theorem opF_nilCheck {x : Operand} : (opF P ⟨d, .nilCheck x, ty, p, a, g⟩ s C = (nilCheckW (ev s.env x) (valK C d none))) := propext Iff.rfl
theorem opW_nilCheck {x : Operand} : (opW P pins ⟨d, .nilCheck x, ty, p, a, g⟩ s K = (nilCheckW (ev s.env x) (retK K s d))) := propext Iff.rfl
theorem opF_binOp {op : BinOp} {x y : Operand} : (opF P ⟨d, .binOp op t x y u, ty, p, a, g⟩ s C = (binW P (tyOf P t) op (ev s.env x) (ev s.env y) (valK C d none))) := propext Iff.rfl
theorem opW_binOp {op : BinOp} {x y : Operand} : (opW P pins ⟨d, .binOp op t x y u, ty, p, a, g⟩ s K = (binW P (tyOf P t) op (ev s.env x) (ev s.env y) (retK K s d))) := propext Iff.rfl
theorem opF_unOp {op : UnOp} {x : Operand} : (opF P ⟨d, .unOp op t x, ty, p, a, g⟩ s C = (unW op (ev s.env x) (valK C d none))) := propext Iff.rfl
theorem opW_unOp {op : UnOp} {x : Operand} : (opW P pins ⟨d, .unOp op t x, ty, p, a, g⟩ s K = (unW op (ev s.env x) (retK K s d))) := propext Iff.rfl
theorem opF_convert {x : Operand} : (opF P ⟨d, .convert t u x, ty, p, a, g⟩ s C = (convW (tyOf P t) (tyOf P u) (ev s.env x) (valK C d none))) := propext Iff.rfl
theorem opW_convert {x : Operand} : (opW P pins ⟨d, .convert t u x, ty, p, a, g⟩ s K = (convW (tyOf P t) (tyOf P u) (ev s.env x) (retK K s d))) := propext Iff.rfl
theorem opF_slice {x : Operand} {lo hi mx : Option Operand} : (opF P ⟨d, .slice t x lo hi mx, ty, p, a, g⟩ s C = (sliceW P (tyOf P t) (ev s.env x) (evo s.env lo) (evo s.env hi) (evo s.env mx) s.hp (valK C d (objOf (ev s.env x))))) := propext Iff.rfl
theorem opW_slice {x : Operand} {lo hi mx : Option Operand} : (opW P pins ⟨d, .slice t x lo hi mx, ty, p, a, g⟩ s K = (sliceW P (tyOf P t) (ev s.env x) (evo s.env lo) (evo s.env hi) (evo s.env mx) s.hp (retK K s d))) := propext Iff.rfl
theorem opF_fieldAddr {x : Operand} {f : Nat} : (opF P ⟨d, .fieldAddr t x f, ty, p, a, g⟩ s C = (fieldAddrW P (tyOf P t) (ev s.env x) f (valK C d none))) := propext Iff.rfl
theorem opW_fieldAddr {x : Operand} {f : Nat} : (opW P pins ⟨d, .fieldAddr t x f, ty, p, a, g⟩ s K = (fieldAddrW P (tyOf P t) (ev s.env x) f (retK K s d))) := propext Iff.rfl
theorem opF_field {x : Operand} {f : Nat} : (opF P ⟨d, .field t x f, ty, p, a, g⟩ s C = (fieldW P (tyOf P t) (ev s.env x) f (valK C d none))) := propext Iff.rfl
theorem opW_field {x : Operand} {f : Nat} : (opW P pins ⟨d, .field t x f, ty, p, a, g⟩ s K = (fieldW P (tyOf P t) (ev s.env x) f (retK K s d))) := propext Iff.rfl
theorem opF_indexAddr {x y : Operand} : (opF P ⟨d, .indexAddr t x y, ty, p, a, g⟩ s C = (indexAddrW P (tyOf P t) (ev s.env x) (ev s.env y) s.hp (valK C d (objOf (ev s.env x))))) := propext Iff.rfl
theorem opW_indexAddr {x y : Operand} : (opW P pins ⟨d, .indexAddr t x y, ty, p, a, g⟩ s K = (indexAddrW P (tyOf P t) (ev s.env x) (ev s.env y) s.hp (retK K s d))) := propext Iff.rfl
theorem opF_index {x y : Operand} : (opF P ⟨d, .index t x y, ty, p, a, g⟩ s C = (indexW P (tyOf P t) (ev s.env x) (ev s.env y) (valK C d none))) := propext Iff.rfl
theorem opW_index {x y : Operand} : (opW P pins ⟨d, .index t x y, ty, p, a, g⟩ s K = (indexW P (tyOf P t) (ev s.env x) (ev s.env y) (retK K s d))) := propext Iff.rfl
theorem opF_extract {x : Operand} {i : Nat} : (opF P ⟨d, .extract x i, ty, p, a, g⟩ s C = (extractW (ev s.env x) i (valK C d none))) := propext Iff.rfl
theorem opW_extract {x : Operand} {i : Nat} : (opW P pins ⟨d, .extract x i, ty, p, a, g⟩ s K = (extractW (ev s.env x) i (retK K s d))) := propext Iff.rfl
theorem opF_makeFunc {f : Fn} {fs cs : Array Operand} : (opF P ⟨d, .makeFunc f fs cs, ty, p, a, g⟩ s C = (C ⟨d, .fn f (fs.toList.map (ev s.env)) (cs.toList.map (ev s.env)), none, none⟩)) := propext Iff.rfl
theorem opW_makeFunc {f : Fn} {fs cs : Array Operand} : (opW P pins ⟨d, .makeFunc f fs cs, ty, p, a, g⟩ s K = (K (s.ret d (.fn f (fs.toList.map (ev s.env)) (cs.toList.map (ev s.env)))))) := propext Iff.rfl
theorem opF_len {x : Operand} : (opF P ⟨d, .call ⟨.builtin .len, ⟨[x]⟩, ⟨[t]⟩⟩, ty, p, a, g⟩ s C = (lenW (tyOf P t) (ev s.env x) (valK C d none))) := propext Iff.rfl
theorem opW_len {x : Operand} : (opW P pins ⟨d, .call ⟨.builtin .len, ⟨[x]⟩, ⟨[t]⟩⟩, ty, p, a, g⟩ s K = (lenW (tyOf P t) (ev s.env x) (retK K s d))) := propext Iff.rfl
theorem opW_append {x y : Operand} : (opW P pins ⟨d, .call ⟨.builtin .append, ⟨[x, y]⟩, ⟨[t, u]⟩⟩, ty, p, a, g⟩ s K = (t = u ∧ appendW P (tyOf P t) pins d (ev s.env x) (ev s.env y) s (retK2 K d))) := propext Iff.rfl
theorem opW_copy {x y : Operand} : (opW P pins ⟨d, .call ⟨.builtin .copy, ⟨[x, y]⟩, ⟨[t, u]⟩⟩, ty, p, a, g⟩ s K = (copyW P (tyOf P t) (ev s.env x) (ev s.env y) s (retK2 K d))) := propext Iff.rfl
theorem opW_clear {x : Operand} : (opW P pins ⟨d, .call ⟨.builtin .clear, ⟨[x]⟩, ⟨[t]⟩⟩, ty, p, a, g⟩ s K = (clearW P (tyOf P t) (ev s.env x) s (fun s' => K (s'.ret d .any)))) := propext Iff.rfl
def clrO (P : Program) (e : TypeId) (i off n : Nat) (s : St) (K : St → Prop) (o : Ob) : Prop :=
  match o with
  | .arr T k pf rows => k = (tyOf P e).size ∧ off + n ≤ rows.length ∧ K (s.seth i (.arr T k pf (rows.take off ++ List.replicate n (tyOf P e).zero ++ rows.drop (off + n))))
  | .dead => False
theorem clearW_sref {e : TypeId} {n0 b : Nat} {hz : Bool} {z : List AV} {i off n : Nat} : (clearW P ⟨.slice e, n0, b, hz, z⟩ (.sref i off n) s K = ((tyOf P e).d ≠ .no ∧ (tyOf P e).hz = true ∧ (tyOf P e).zero.length = (tyOf P e).size ∧ (tyOf P e).zero.all AV.one = true ∧ clrO P e i off n s K (s.hp.getD i .dead))) := by
  unfold clearW clrO
  rfl
theorem clrO_arr {e : TypeId} {i off n : Nat} {T : TypeId} {k : Nat} {pf : Bool} {rows : List (List AV)} : (clrO P e i off n s K (.arr T k pf rows) = (k = (tyOf P e).size ∧ off + n ≤ rows.length ∧ K (s.seth i (.arr T k pf (rows.take off ++ List.replicate n (tyOf P e).zero ++ rows.drop (off + n)))))) := propext Iff.rfl
theorem opW_makeSlice {x y : Operand} : (opW P pins ⟨d, .makeSlice t x y, ty, p, a, g⟩ s K = (makeW P (tyOf P t) d (ev s.env x) (ev s.env y) s (retK2 K d))) := propext Iff.rfl
theorem opF_alloc {d : Tmp} : (opF P ⟨some d, .alloc t, ty, p, a, g⟩ s C = (dead s d ∧ (tyOf P t).d ≠ .no ∧ (tyOf P t).hz = true ∧ C ⟨some d, .ptr d 0 0, none, some (d, .arr t (tyOf P t).zero.length false [(tyOf P t).zero])⟩)) := propext Iff.rfl
theorem opF_box {d : Tmp} {x : Operand} : (opF P ⟨some d, .box t x, ty, p, a, g⟩ s C = (dead s d ∧ storable (ev s.env x) = true ∧ C ⟨some d, .ptr d 0 0, none, some (d, .arr t (cellsOf (ev s.env x)).length false [cellsOf (ev s.env x)])⟩)) := propext Iff.rfl
theorem opW_alloc {d : Tmp} : (opW P pins ⟨some d, .alloc t, ty, p, a, g⟩ s K = (dead s d ∧ (tyOf P t).d ≠ .no ∧ (tyOf P t).hz = true ∧ K ((s.seth d (.arr t (tyOf P t).zero.length false [(tyOf P t).zero])).ret (some d) (.ptr d 0 0)))) := propext Iff.rfl
theorem opW_box {d : Tmp} {x : Operand} : (opW P pins ⟨some d, .box t x, ty, p, a, g⟩ s K = (dead s d ∧ storable (ev s.env x) = true ∧ K ((s.seth d (.arr t (cellsOf (ev s.env x)).length false [cellsOf (ev s.env x)])).ret (some d) (.ptr d 0 0)))) := propext Iff.rfl

/-- A call's rule, when what is called is known. -/
def callF (P : Program) (d : Option Tmp) (f : AV) (avs : List AV) (C : Eff → Prop) : Prop :=
  match f with
  | .fn (.func g) first cap => enters P g = true ∧ AV.pures (first ++ avs ++ cap) = true ∧ ∃ r, Pure P g (AV.datas (first ++ avs ++ cap)) (· = r) ∧ C ⟨d, r, none, none⟩
  | _ => False
def callW (P : Program) (pins : List Nat) (d : Option Tmp) (f : AV) (avs : List AV) (s : St) (K : St → Prop) : Prop :=
  match f with
  | .fn (.func g) first cap => enters P g = true ∧ CallOk P pins g (first ++ avs ++ cap) s (retK2 K d)
  | _ => False
theorem opF_call {f : Operand} {xs : List Operand} {tys : Array TypeId} : (opF P ⟨d, .call ⟨.value f, ⟨xs⟩, tys⟩, ty, p, a, g⟩ s C = callF P d (ev s.env f) (xs.map (ev s.env)) C) := propext Iff.rfl
theorem opW_call {f : Operand} {xs : List Operand} {tys : Array TypeId} : (opW P pins ⟨d, .call ⟨.value f, ⟨xs⟩, tys⟩, ty, p, a, g⟩ s K = callW P pins d (ev s.env f) (xs.map (ev s.env)) s K) := propext Iff.rfl
theorem callF_fn {g : FuncId} {first cap avs : List AV} : (callF P d (.fn (.func g) first cap) avs C = (enters P g = true ∧ AV.pures (first ++ avs ++ cap) = true ∧ ∃ r, Pure P g (AV.datas (first ++ avs ++ cap)) (· = r) ∧ C ⟨d, r, none, none⟩)) := propext Iff.rfl
theorem callW_fn {g : FuncId} {first cap avs : List AV} : (callW P pins d (.fn (.func g) first cap) avs s K = (enters P g = true ∧ CallOk P pins g (first ++ avs ++ cap) s (retK2 K d))) := propext Iff.rfl

def effG (P : Program) (ops : Array Oper) (o : Oper) (j : Nat) (want : Bool) (x : AV) (s : St) (C : Eff → St → Prop) : Prop :=
  match x with
  | .bool b => (b = want → opF P o (s.known ops j want) (atK C (s.known ops j want))) ∧ (b = (!want) → C ⟨o.dst, .und, none, none⟩ (s.known ops j (!want)))
  | .und => C ⟨o.dst, .und, none, none⟩ s
  | _ => False
def opsG (P : Program) (pins : List Nat) (ops : Array Oper) (o : Oper) (rest : List Oper) (j : Nat) (want : Bool) (x : AV) (s : St) (K : St → Prop) : Prop :=
  match x with
  | .bool b => (b = want → opW P pins o (s.known ops j want) (restO P pins ops rest K)) ∧ (b = (!want) → opsW P pins ops rest ((s.known ops j (!want)).ret o.dst .und) K)
  | .und => opsW P pins ops rest (s.ret o.dst .und) K
  | _ => False
/-- A guarded operation, by its guard's value. -/
def effH (P : Program) (ops : Array Oper) (o : Oper) (want : Bool) (x : AV) (s : St) (C : Eff → St → Prop) : Prop :=
  match x with
  | .bool b => bif b == want then opF P o s (atK C s) else C ⟨o.dst, .und, none, none⟩ s
  | .und => C ⟨o.dst, .und, none, none⟩ s
  | _ => False
def opsH (P : Program) (pins : List Nat) (ops : Array Oper) (o : Oper) (rest : List Oper) (want : Bool) (x : AV) (s : St) (K : St → Prop) : Prop :=
  match x with
  | .bool b => bif b == want then opW P pins o s (restO P pins ops rest K) else opsW P pins ops rest (s.ret o.dst .und) K
  | .und => opsW P pins ops rest (s.ret o.dst .und) K
  | _ => False
theorem effH_tt {o : Oper} : (effH P ops o true (.bool true) s C2 = opF P o s (atK C2 s)) := propext Iff.rfl
theorem effH_ff {o : Oper} : (effH P ops o false (.bool false) s C2 = opF P o s (atK C2 s)) := propext Iff.rfl
theorem effH_tf {o : Oper} : (effH P ops o true (.bool false) s C2 = C2 ⟨o.dst, .und, none, none⟩ s) := propext Iff.rfl
theorem effH_ft {o : Oper} : (effH P ops o false (.bool true) s C2 = C2 ⟨o.dst, .und, none, none⟩ s) := propext Iff.rfl
theorem effH_und {o : Oper} {want : Bool} : (effH P ops o want .und s C2 = C2 ⟨o.dst, .und, none, none⟩ s) := propext Iff.rfl
theorem opsH_tt {o : Oper} {rest : List Oper} : (opsH P pins ops o rest true (.bool true) s K = opW P pins o s (restO P pins ops rest K)) := propext Iff.rfl
theorem opsH_ff {o : Oper} {rest : List Oper} : (opsH P pins ops o rest false (.bool false) s K = opW P pins o s (restO P pins ops rest K)) := propext Iff.rfl
theorem opsH_tf {o : Oper} {rest : List Oper} : (opsH P pins ops o rest true (.bool false) s K = opsW P pins ops rest (s.ret o.dst .und) K) := propext Iff.rfl
theorem opsH_ft {o : Oper} {rest : List Oper} : (opsH P pins ops o rest false (.bool true) s K = opsW P pins ops rest (s.ret o.dst .und) K) := propext Iff.rfl
theorem opsH_und {o : Oper} {rest : List Oper} {want : Bool} : (opsH P pins ops o rest want .und s K = opsW P pins ops rest (s.ret o.dst .und) K) := propext Iff.rfl
theorem effW_free {op : Op} : (effW P ops ⟨d, op, ty, p, a, none⟩ s C2 = opF P ⟨d, op, ty, p, a, none⟩ s (atK C2 s)) := propext Iff.rfl
theorem effW_guard {op : Op} {j : Nat} {want : Bool} : (effW P ops ⟨d, op, ty, p, a, some (j, want)⟩ s C2 = effH P ops ⟨d, op, ty, p, a, some (j, want)⟩ want (guardOf ops s.env j) s C2) := by
  refine propext ?_
  show effG P ops ⟨d, op, ty, p, a, some (j, want)⟩ j want (guardOf ops s.env j) s C2 ↔ _
  cases hx : guardOf ops s.env j with
  | bool b =>
    show ((b = want → opF P _ (s.known ops j want) (atK C2 (s.known ops j want))) ∧ (b = (!want) → C2 _ (s.known ops j (!want)))) ↔ _
    by_cases hb : b = want
    · subst hb
      rw [known_eq hx]
      cases b <;> simp [effH]
    · have hb2 : b = !want := by cases b <;> cases want <;> simp_all
      subst hb2
      rw [known_eq hx]
      cases want <;> simp [effH]
  | _ => exact Iff.rfl
theorem opsW_nil  : (opsW P pins ops [] s K = K s) := propext Iff.rfl
theorem opsW_free {op : Op} {rest : List Oper} : (opsW P pins ops (⟨d, op, ty, p, a, none⟩ :: rest) s K = opW P pins ⟨d, op, ty, p, a, none⟩ s (restO P pins ops rest K)) := propext Iff.rfl
theorem opsW_guard {op : Op} {rest : List Oper} {j : Nat} {want : Bool} : (opsW P pins ops (⟨d, op, ty, p, a, some (j, want)⟩ :: rest) s K = opsH P pins ops ⟨d, op, ty, p, a, some (j, want)⟩ rest want (guardOf ops s.env j) s K) := by
  refine propext ?_
  show opsG P pins ops ⟨d, op, ty, p, a, some (j, want)⟩ rest j want (guardOf ops s.env j) s K ↔ _
  cases hx : guardOf ops s.env j with
  | bool b =>
    show ((b = want → opW P pins _ (s.known ops j want) (restO P pins ops rest K)) ∧ (b = (!want) → opsW P pins ops rest ((s.known ops j (!want)).ret _ .und) K)) ↔ _
    by_cases hb : b = want
    · subst hb
      rw [known_eq hx]
      cases b <;> simp [opsH]
    · have hb2 : b = !want := by cases b <;> cases want <;> simp_all
      subst hb2
      rw [known_eq hx]
      cases want <;> simp [opsH]
  | _ => exact Iff.rfl
theorem regV_nil {acc : List (Option Nat × Option Nat)} : (regV P ops L [] s acc K = (sepL L acc ∧ K s)) := propext Iff.rfl
theorem regV_cons {acc : List (Option Nat × Option Nat)} {o : Oper} {rest : List Oper} : (regV P ops L (o :: rest) s acc K = effW P ops o s (restV P ops L rest acc K)) := propext Iff.rfl
theorem binW_add {k : IntKind} {x y : Int} {ti : TI} : binW P ti .add (.int k x) (.int k y) A = A (.int k (k.wrap (x + y))) := propext ⟨fun h => h.2, fun h => ⟨rfl, h⟩⟩
theorem binW_sub {k : IntKind} {x y : Int} {ti : TI} : binW P ti .sub (.int k x) (.int k y) A = A (.int k (k.wrap (x - y))) := propext ⟨fun h => h.2, fun h => ⟨rfl, h⟩⟩
theorem binW_mul {k : IntKind} {x y : Int} {ti : TI} : binW P ti .mul (.int k x) (.int k y) A = A (.int k (k.wrap (x * y))) := propext ⟨fun h => h.2, fun h => ⟨rfl, h⟩⟩
theorem binW_and {k : IntKind} {x y : Int} {ti : TI} : binW P ti .and (.int k x) (.int k y) A = A (.int k (bandI k x y)) := propext ⟨fun h => h.2, fun h => ⟨rfl, h⟩⟩
theorem binW_or {k : IntKind} {x y : Int} {ti : TI} : binW P ti .or (.int k x) (.int k y) A = A (.int k (borI k x y)) := propext ⟨fun h => h.2, fun h => ⟨rfl, h⟩⟩
theorem binW_xor {k : IntKind} {x y : Int} {ti : TI} : binW P ti .xor (.int k x) (.int k y) A = A (.int k (bxorI k x y)) := propext ⟨fun h => h.2, fun h => ⟨rfl, h⟩⟩
theorem binW_andNot {k : IntKind} {x y : Int} {ti : TI} : binW P ti .andNot (.int k x) (.int k y) A = A (.int k (bandnI k x y)) := propext ⟨fun h => h.2, fun h => ⟨rfl, h⟩⟩
theorem binW_eql {k : IntKind} {x y : Int} {ti : TI} : binW P ti .eql (.int k x) (.int k y) A = A (.bool (x == y)) := propext ⟨fun h => h.2, fun h => ⟨rfl, h⟩⟩
theorem binW_neq {k : IntKind} {x y : Int} {ti : TI} : binW P ti .neq (.int k x) (.int k y) A = A (.bool (x != y)) := propext ⟨fun h => h.2, fun h => ⟨rfl, h⟩⟩
theorem binW_lss {k : IntKind} {x y : Int} {ti : TI} : binW P ti .lss (.int k x) (.int k y) A = A (.bool (decide (x < y))) := propext ⟨fun h => h.2, fun h => ⟨rfl, h⟩⟩
theorem binW_leq {k : IntKind} {x y : Int} {ti : TI} : binW P ti .leq (.int k x) (.int k y) A = A (.bool (decide (x ≤ y))) := propext ⟨fun h => h.2, fun h => ⟨rfl, h⟩⟩
theorem binW_gtr {k : IntKind} {x y : Int} {ti : TI} : binW P ti .gtr (.int k x) (.int k y) A = A (.bool (decide (x > y))) := propext ⟨fun h => h.2, fun h => ⟨rfl, h⟩⟩
theorem binW_geq {k : IntKind} {x y : Int} {ti : TI} : binW P ti .geq (.int k x) (.int k y) A = A (.bool (decide (x ≥ y))) := propext ⟨fun h => h.2, fun h => ⟨rfl, h⟩⟩
theorem binW_quo {k : IntKind} {x y : Int} {ti : TI} : binW P ti .quo (.int k x) (.int k y) A = (y ≠ 0 ∧ A (.int k (k.wrap (x.tdiv y)))) := propext ⟨fun h => h.2, fun h => ⟨rfl, h⟩⟩
theorem binW_rem {k : IntKind} {x y : Int} {ti : TI} : binW P ti .rem (.int k x) (.int k y) A = (y ≠ 0 ∧ A (.int k (x.tmod y))) := propext ⟨fun h => h.2, fun h => ⟨rfl, h⟩⟩
theorem binW_shl {k k2 : IntKind} {x y : Int} {ti : TI} : (binW P ti .shl (.int k x) (.int k2 y) A = (0 ≤ y ∧ A (.int k (k.wrap (x * p2 (min y.toNat k.bits)))))) := propext Iff.rfl
theorem binW_shr {k k2 : IntKind} {x y : Int} {ti : TI} : (binW P ti .shr (.int k x) (.int k2 y) A = (0 ≤ y ∧ A (.int k (x.fdiv (2 ^ min y.toNat k.bits))))) := propext Iff.rfl
theorem binW_beql {b c : Bool} {ti : TI} : (binW P ti .eql (.bool b) (.bool c) A = (ti.d = .bool ∧ A (.bool (b == c)))) := propext Iff.rfl
theorem binW_bneq {b c : Bool} {ti : TI} : (binW P ti .neq (.bool b) (.bool c) A = (ti.d = .bool ∧ A (.bool (!(b == c))))) := propext Iff.rfl
theorem binW_seql {b c : ByteArray} {ti : TI} : (binW P ti .eql (.str b) (.str c) A = A (.bool (b.toList == c.toList))) := propext Iff.rfl
theorem binW_sneq {b c : ByteArray} {ti : TI} : (binW P ti .neq (.str b) (.str c) A = A (.bool (!(b.toList == c.toList)))) := propext Iff.rfl
theorem pickW_bool {c x y : Bool} : (pickW (.bool c) (.bool x) (.bool y) A = A (.bool (bif c then x else y))) := propext Iff.rfl

theorem pickW_yes {x y : AV} : pickW (.bool true) x y A = A x := by
  refine propext ⟨fun h => ?_, fun h => ?_⟩
  · obtain ⟨z, h1, h2⟩ := pickW_det _ _ _ _ h
    cases x <;> cases y <;> first | exact h | exact h.1 rfl
  · cases x <;> cases y <;> first | exact h | exact ⟨fun _ => h, (fun h => by cases h)⟩
theorem pickW_no {x y : AV} : pickW (.bool false) x y A = A y := by
  refine propext ⟨fun h => ?_, fun h => ?_⟩
  · cases x <;> cases y <;> first | exact h | exact h.2 rfl
  · cases x <;> cases y <;> first | exact h | exact ⟨(fun h => by cases h), fun _ => h⟩
theorem extractW_tup {l : List AV} {i : Nat} : (extractW (.tup l) i A = (i < l.length ∧ A (l.getD i .any))) := propext Iff.rfl
theorem nilCheckW_ptr {i j off : Nat} : (nilCheckW (.ptr i j off) A = A (.ptr i j off)) := propext Iff.rfl
theorem nilCheckW_ia {row : List AV} {off : Nat} : (nilCheckW (.ia row off) A = A (.ia row off)) := propext Iff.rfl
theorem loadW_ia {ti : TI} {row : List AV} {off : Nat} {hp : List Ob} : (loadW ti (.ia row off) hp A = (off + ti.size ≤ row.length ∧ A (ofCells ti ((row.drop off).take ti.size)))) := propext Iff.rfl

def loadO (ti : TI) (j off : Nat) (o : Ob) (A : AV → Prop) : Prop :=
  match o with
  | .arr _ _ _ rows => j < rows.length ∧ off + ti.size ≤ (rows.getD j []).length ∧ A (ofCells ti (((rows.getD j []).drop off).take ti.size))
  | .dead => False
def storeO (ti : TI) (i j off : Nat) (y : AV) (o : Ob) (C : Nat × Ob → Prop) : Prop :=
  match o with
  | .arr T k pf rows => storable y = true ∧ (cellsOf y).length = ti.size ∧ (pf = true → AV.pures (cellsOf y) = true) ∧ j < rows.length ∧ off + ti.size ≤ (rows.getD j []).length ∧
        C (i, .arr T k pf (rows.set j (overlay (rows.getD j []) off (cellsOf y))))
  | .dead => False
def kOk (o : Ob) (n : Nat) : Prop := match o with | .arr _ k _ _ => k = n | .dead => False
theorem kOk_arr {T : TypeId} {k n : Nat} {pf : Bool} {rows : List (List AV)} : (kOk (.arr T k pf rows) n = (k = n)) := propext Iff.rfl
theorem loadW_ptr {ti : TI} {i j off : Nat} {hp : List Ob} : (loadW ti (.ptr i j off) hp A = loadO ti j off (hp.getD i .dead) A) := propext Iff.rfl
theorem loadO_arr {ti : TI} {j off : Nat} {T : TypeId} {k : Nat} {pf : Bool} {rows : List (List AV)} : (loadO ti j off (.arr T k pf rows) A = (j < rows.length ∧ off + ti.size ≤ (rows.getD j []).length ∧ A (ofCells ti (((rows.getD j []).drop off).take ti.size)))) := propext Iff.rfl
theorem storeF_ptr {ti : TI} {i j off : Nat} {y : AV} {hp : List Ob} {C : Nat × Ob → Prop} : (storeF ti (.ptr i j off) y hp C = storeO ti i j off y (hp.getD i .dead) C) := propext Iff.rfl
theorem storeW_ptr {ti : TI} {i j off : Nat} {y : AV} : (storeW ti (.ptr i j off) y s K = storeO ti i j off y (s.hp.getD i .dead) (sethK K s)) := propext Iff.rfl
theorem storeO_arr {ti : TI} {i j off : Nat} {y : AV} {T : TypeId} {k : Nat} {pf : Bool} {rows : List (List AV)} {C : Nat × Ob → Prop} : (storeO ti i j off y (.arr T k pf rows) C = (storable y = true ∧ (cellsOf y).length = ti.size ∧ (pf = true → AV.pures (cellsOf y) = true) ∧ j < rows.length ∧ off + ti.size ≤ (rows.getD j []).length ∧ C (i, .arr T k pf (rows.set j (overlay (rows.getD j []) off (cellsOf y)))))) := propext Iff.rfl
theorem fieldAddrW_ia {n b : Nat} {hz : Bool} {z : List AV} {fs : List (Nat × TypeId)} {row : List AV} {off f : Nat} : (fieldAddrW P ⟨.struct fs, n, b, hz, z⟩ (.ia row off) f A = (f < fs.length ∧ (tyOf P (fs.getD f (0, 0)).2).d ≠ .no ∧ (tyOf P (fs.getD f (0, 0)).2).size ≠ 0 ∧ A (.ia row (off + (fs.getD f (0, 0)).1)))) := propext Iff.rfl
theorem fieldAddrW_ptr {n b : Nat} {hz : Bool} {z : List AV} {fs : List (Nat × TypeId)} {i j off f : Nat} : (fieldAddrW P ⟨.struct fs, n, b, hz, z⟩ (.ptr i j off) f A = (f < fs.length ∧ (tyOf P (fs.getD f (0, 0)).2).d ≠ .no ∧ (tyOf P (fs.getD f (0, 0)).2).size ≠ 0 ∧ A (.ptr i j (off + (fs.getD f (0, 0)).1)))) := propext Iff.rfl
theorem fieldW_agg {n b : Nat} {hz : Bool} {z : List AV} {fs : List (Nat × TypeId)} {cs : List AV} {f : Nat} : (fieldW P ⟨.struct fs, n, b, hz, z⟩ (.agg cs) f A = (f < fs.length ∧ (tyOf P (fs.getD f (0, 0)).2).d ≠ .no ∧ ((tyOf P (fs.getD f (0, 0)).2).isAgg = true ∨ (tyOf P (fs.getD f (0, 0)).2).size = 1) ∧ (fs.getD f (0, 0)).1 + (tyOf P (fs.getD f (0, 0)).2).size ≤ cs.length ∧ A (ofCells (tyOf P (fs.getD f (0, 0)).2) ((cs.drop (fs.getD f (0, 0)).1).take (tyOf P (fs.getD f (0, 0)).2).size)))) := propext Iff.rfl
theorem indexAddrW_sl {n b : Nat} {hz : Bool} {z : List AV} {e : TypeId} {rows : List (List AV)} {k : IntKind} {m : Int} {hp : List Ob} : (indexAddrW P ⟨.slice e, n, b, hz, z⟩ (.sl rows) (.int k m) hp A = ((tyOf P e).d ≠ .no ∧ 0 ≤ m ∧ m < rows.length ∧ AllLen (tyOf P e).size rows ∧ A (.ia (rows.getD m.toNat []) 0))) := propext Iff.rfl
theorem indexAddrW_sref {n b : Nat} {hz : Bool} {z : List AV} {e : TypeId} {i off c : Nat} {k : IntKind} {m : Int} {hp : List Ob} : (indexAddrW P ⟨.slice e, n, b, hz, z⟩ (.sref i off c) (.int k m) hp A = ((tyOf P e).d ≠ .no ∧ 0 ≤ m ∧ m < c ∧ kOk (hp.getD i .dead) (tyOf P e).size ∧ A (.ptr i (off + m.toNat) 0))) := propext Iff.rfl
theorem indexAddrW_aptr {n b : Nat} {hz : Bool} {z : List AV} {e : TypeId} {len i j off : Nat} {k : IntKind} {m : Int} {hp : List Ob} : (indexAddrW P ⟨.arr len e, n, b, hz, z⟩ (.ptr i j off) (.int k m) hp A = ((tyOf P e).d ≠ .no ∧ 0 ≤ m ∧ m < len ∧ A (.ptr i j (off + m.toNat * (tyOf P e).size)))) := propext Iff.rfl
theorem indexAddrW_aia {n b : Nat} {hz : Bool} {z : List AV} {e : TypeId} {len off : Nat} {row : List AV} {k : IntKind} {m : Int} {hp : List Ob} : (indexAddrW P ⟨.arr len e, n, b, hz, z⟩ (.ia row off) (.int k m) hp A = ((tyOf P e).d ≠ .no ∧ 0 ≤ m ∧ m < len ∧ A (.ia row (off + m.toNat * (tyOf P e).size)))) := propext Iff.rfl
theorem indexW_str {n b : Nat} {hz : Bool} {z : List AV} {s : ByteArray} {k : IntKind} {m : Int} : (indexW P ⟨.str, n, b, hz, z⟩ (.str s) (.int k m) A = (0 ≤ m ∧ m < s.size ∧ A (.int .u8 ((s.get! m.toNat).toNat)))) := propext Iff.rfl
theorem lenW_str {n b : Nat} {hz : Bool} {z : List AV} {s : ByteArray} : (lenW ⟨.str, n, b, hz, z⟩ (.str s) A = A (.int .i64 s.size)) := propext Iff.rfl
theorem lenW_sl {n b : Nat} {hz : Bool} {z : List AV} {e : TypeId} {rows : List (List AV)} : (lenW ⟨.slice e, n, b, hz, z⟩ (.sl rows) A = A (.int .i64 rows.length)) := propext Iff.rfl
theorem lenW_sref {n b : Nat} {hz : Bool} {z : List AV} {e : TypeId} {i off c : Nat} : (lenW ⟨.slice e, n, b, hz, z⟩ (.sref i off c) A = A (.int .i64 c)) := propext Iff.rfl
theorem lenW_nils {n b : Nat} {hz : Bool} {z : List AV} {e : TypeId} : (lenW ⟨.slice e, n, b, hz, z⟩ .nils A = A (.int .i64 0)) := propext Iff.rfl
theorem convW_int {n b n2 b2 : Nat} {hz hz2 : Bool} {z z2 : List AV} {k1 k2 k3 : IntKind} {m : Int} : (convW ⟨.int k1, n, b, hz, z⟩ ⟨.int k2, n2, b2, hz2, z2⟩ (.int k3 m) A = A (.int k2 (k2.wrap m))) := propext Iff.rfl
theorem convW_str {n b n2 b2 : Nat} {hz hz2 : Bool} {z z2 : List AV} {s : ByteArray} : (convW ⟨.str, n, b, hz, z⟩ ⟨.str, n2, b2, hz2, z2⟩ (.str s) A = A (.str s)) := propext Iff.rfl
theorem buildW_struct {n b : Nat} {hz : Bool} {z : List AV} {fs : List (Nat × TypeId)} {parts : List (Nat × AV)} : (buildW P ⟨.struct fs, n, b, hz, z⟩ parts A = (hz = true ∧ (∀ p ∈ parts, storable p.2 = true ∧ p.1 < fs.length ∧ (tyOf P (fs.getD p.1 (0, 0)).2).d ≠ .no ∧ (cellsOf p.2).length = (tyOf P (fs.getD p.1 (0, 0)).2).size ∧ (fs.getD p.1 (0, 0)).1 + (cellsOf p.2).length ≤ z.length) ∧ (∀ f ∈ fs, (tyOf P f.2).d ≠ .no) ∧ A (.agg (parts.foldl (fun cs p => laid cs (fs.getD p.1 (0, 0)).1 (cellsOf p.2)) z)))) := propext Iff.rfl
theorem buildW_arr {n b : Nat} {hz : Bool} {z : List AV} {k : Nat} {e : TypeId} {parts : List (Nat × AV)} : (buildW P ⟨.arr k e, n, b, hz, z⟩ parts A = (hz = true ∧ (tyOf P e).d ≠ .no ∧ (∀ p ∈ parts, storable p.2 = true ∧ (cellsOf p.2).length = (tyOf P e).size ∧ p.1 * (tyOf P e).size + (cellsOf p.2).length ≤ z.length) ∧ A (.agg (parts.foldl (fun cs p => laid cs (p.1 * (tyOf P e).size) (cellsOf p.2)) z)))) := propext Iff.rfl
theorem indexW_arr {n b : Nat} {hz : Bool} {z : List AV} {len : Nat} {e : TypeId} {cs : List AV} {k : IntKind} {m : Int} : (indexW P ⟨.arr len e, n, b, hz, z⟩ (.agg cs) (.int k m) A = ((tyOf P e).d ≠ .no ∧ ((tyOf P e).isAgg = true ∨ (tyOf P e).size = 1) ∧ 0 ≤ m ∧ m < len ∧ m.toNat * (tyOf P e).size + (tyOf P e).size ≤ cs.length ∧ A (ofCells (tyOf P e) ((cs.drop (m.toNat * (tyOf P e).size)).take (tyOf P e).size)))) := propext Iff.rfl
theorem litD_slice {n b : Nat} {hz : Bool} {z : List AV} {e : TypeId} {d : Nat} {len : Nat} {parts : List (Nat × AV)} {hp : List Ob} : (litD P ⟨.slice e, n, b, hz, z⟩ (some d) len parts hp A = (dead ⟨[], hp⟩ d ∧ (tyOf P e).d ≠ .no ∧ (tyOf P e).hz = true ∧ (tyOf P e).zero.length = (tyOf P e).size ∧ parts.map (·.1) = List.range len ∧ len * (tyOf P e).size ≤ 16777216 ∧ len ≤ 16777216 ∧ (∀ p ∈ parts, storable p.2 = true ∧ (cellsOf p.2).length = (tyOf P e).size ∧ AV.pures (cellsOf p.2) = true) ∧ A (.sl (parts.map fun p => cellsOf p.2)))) := propext Iff.rfl
theorem makeW_slice {n b : Nat} {hz : Bool} {z : List AV} {e : TypeId} {d : Nat} {k1 k2 : IntKind} {m1 m2 : Int} {A : AV → St → Prop} : (makeW P ⟨.slice e, n, b, hz, z⟩ (some d) (.int k1 m1) (.int k2 m2) s A = (m1 = m2 ∧ dead s d ∧ (tyOf P e).d ≠ .no ∧ (tyOf P e).hz = true ∧ (tyOf P e).zero.length = (tyOf P e).size ∧ 0 ≤ m1 ∧ ((tyOf P e).bytes : Int) * m1 ≤ 281474976710656 ∧ m1 ≤ 9223372036854775807 ∧ A (.sref d 0 m1.toNat) (s.seth d (.arr e (tyOf P e).size true (List.replicate m1.toNat (tyOf P e).zero))))) := propext Iff.rfl
theorem ev_tmp {e : List AV} {i : Nat} : ev e (.tmp i) = e.getD i .any := id rfl
theorem ev_const {e : List AV} {v : Value} : ev e (.const v) = cstV v := id rfl
theorem ev_global {e : List AV} {i : Nat} : ev e (.global i) = .gl i := id rfl
theorem ev_func {e : List AV} {i : FuncId} : ev e (.func i) = .fn (.func i) [] [] := id rfl
theorem evo_none {e : List AV} : evo e none = none := id rfl
theorem evo_some {e : List AV} {x : Operand} : evo e (some x) = some (ev e x) := id rfl
theorem cst_int {k : IntKind} {m : Int} : cstV (.int k m) = .int k m := id rfl
theorem cst_bool {b : Bool} : cstV (.bool b) = .bool b := id rfl
theorem cst_str {b : ByteArray} : cstV (.string b) = .str b := id rfl
theorem cst_nils  : cstV (.slice none 0 0) = .nils := id rfl
theorem cst_nilp  : cstV (.pointer none) = .nilp := id rfl
theorem cst_nilif  : cstV .nilIface = .nilif := id rfl
theorem cst_nilfn  : cstV .nilFunc = .nilfn := id rfl
theorem cst_agg {cs : List Value} : cstV (.agg ⟨cs⟩) = .agg (cs.map cst1) := id rfl
theorem froz_any {i : Nat} {rows : List (List AV)}  : AV.froz i rows (.any) = (.any) := by simp only [AV.froz]
theorem froz_und {i : Nat} {rows : List (List AV)}  : AV.froz i rows (.und) = (.und) := by simp only [AV.froz]
theorem froz_int {i : Nat} {rows : List (List AV)} {k : IntKind} {m : Int} : AV.froz i rows (.int k m) = (.int k m) := by simp only [AV.froz]
theorem froz_bool {i : Nat} {rows : List (List AV)} {b : Bool} : AV.froz i rows (.bool b) = (.bool b) := by simp only [AV.froz]
theorem froz_str {i : Nat} {rows : List (List AV)} {b : ByteArray} : AV.froz i rows (.str b) = (.str b) := by simp only [AV.froz]
theorem froz_nils {i : Nat} {rows : List (List AV)}  : AV.froz i rows (.nils) = (.nils) := by simp only [AV.froz]
theorem froz_sl {i : Nat} {rows : List (List AV)} {l : List (List AV)} : AV.froz i rows (.sl l) = (.sl l) := by simp only [AV.froz]
theorem froz_ia {i : Nat} {rows : List (List AV)} {l : List AV} {o : Nat} : AV.froz i rows (.ia l o) = (.ia l o) := by simp only [AV.froz]
theorem froz_nilp {i : Nat} {rows : List (List AV)}  : AV.froz i rows (.nilp) = (.nilp) := by simp only [AV.froz]
theorem froz_nilif {i : Nat} {rows : List (List AV)}  : AV.froz i rows (.nilif) = (.nilif) := by simp only [AV.froz]
theorem froz_nilfn {i : Nat} {rows : List (List AV)}  : AV.froz i rows (.nilfn) = (.nilfn) := by simp only [AV.froz]
theorem froz_nilmp {i : Nat} {rows : List (List AV)}  : AV.froz i rows (.nilmp) = (.nilmp) := by simp only [AV.froz]
theorem froz_gl {i : Nat} {rows : List (List AV)} {g : Nat} : AV.froz i rows (.gl g) = (.gl g) := by simp only [AV.froz]
theorem froz_sref {i : Nat} {rows : List (List AV)} {j off n : Nat} : AV.froz i rows (.sref j off n) = (if j = i then .sl ((rows.drop off).take n) else .sref j off n) := by simp only [AV.froz]
theorem froz_ptr {i : Nat} {rows : List (List AV)} {j r off : Nat} : AV.froz i rows (.ptr j r off) = (if j = i then .ia (rows.getD r []) off else .ptr j r off) := by simp only [AV.froz]
theorem froz_agg {i : Nat} {rows : List (List AV)} {l : List AV} : AV.froz i rows (.agg l) = (.agg (AV.frozs i rows l)) := by simp only [AV.froz]
theorem froz_tup {i : Nat} {rows : List (List AV)} {l : List AV} : AV.froz i rows (.tup l) = (.tup (AV.frozs i rows l)) := by simp only [AV.froz]
theorem froz_fn {i : Nat} {rows : List (List AV)} {f : Fn} {l m : List AV} : AV.froz i rows (.fn f l m) = (.fn f (AV.frozs i rows l) (AV.frozs i rows m)) := by simp only [AV.froz]
theorem froz_ifc {i : Nat} {rows : List (List AV)} {t : TypeId} {x : AV} : AV.froz i rows (.ifc t x) = (.ifc t (AV.froz i rows x)) := by simp only [AV.froz]
theorem frozs_nil {i : Nat} {rows : List (List AV)} : AV.frozs i rows [] = [] := id rfl
theorem frozs_cons {i : Nat} {rows : List (List AV)} {x : AV} {l : List AV} : AV.frozs i rows (x :: l) = AV.froz i rows x :: AV.frozs i rows l := by simp only [AV.frozs]
theorem froz_dead {i : Nat} {rows : List (List AV)} : Ob.froz i rows .dead = .dead := id rfl
theorem froz_arr {i : Nat} {rows rs : List (List AV)} {T : TypeId} {k : Nat} : Ob.froz i rows (.arr T k true rs) = .arr T k true rs := id rfl
end
end Go.Proofs.YtjkjapjcmbfkgaaGreat.Vm

/-
  Calls that write into one object of the caller's.
-/
namespace Go.Proofs.YtjkjapjcmbfkgaaGreat.Vm
open Go
set_option linter.unusedVariables false
set_option linter.unusedSimpArgs false

/-- How the callee ends: a plain result, and what its object 0 has become. -/
def mutQ (P : Program) (rs : List ResultVar) (T : TypeId) (k : Nat) (R : AV → List (List AV) → Prop) : Exit → St → Prop
  | .normal, s => resW P s rs fun xs => ∃ rows', s.hp[0]? = some (.arr T k true rows') ∧ (asOne xs).flat = true ∧ R (asOne xs) rows'
  | .ret, s => resW P s rs fun xs => ∃ rows', s.hp[0]? = some (.arr T k true rows') ∧ (asOne xs).flat = true ∧ R (asOne xs) rows'
  | _, _ => False

/-- Results that name the object 0 name another one. -/
def AV.ren (i : Nat) : AV → AV
  | .sref 0 off n => .sref i off n
  | x => x
def AV.okR (x : AV) : Prop := x.flat = true ∨ ∃ off n, x = .sref 0 off n
theorem ren_flat {x : AV} (h : x.flat = true) (i : Nat) : x.ren i = x := by
  unfold AV.ren
  split
  · simp [AV.flat] at h
  · rfl
def mutQ2 (P : Program) (rs : List ResultVar) (T : TypeId) (k : Nat) (R : AV → List (List AV) → Prop) : Exit → St → Prop
  | .normal, s => resW P s rs fun xs => ∃ rows', s.hp[0]? = some (.arr T k true rows') ∧ (asOne xs).okR ∧ R (asOne xs) rows'
  | .ret, s => resW P s rs fun xs => ∃ rows', s.hp[0]? = some (.arr T k true rows') ∧ (asOne xs).okR ∧ R (asOne xs) rows'
  | _, _ => False
theorem call_mut2 {P : Program} {pins : List Nat} {g : FuncId} {fn : Func} {c : Code} (hf : P.funcs[g]? = some fn) (hb : fn.body = some c) {rs : List ResultVar} (hrs : fn.results.toList = rs) {nt : Nat} (hn : fn.ntmps = nt) (hn0 : 0 < nt)
    {s : St} {i off n : Nat} {rest : List AV} {T : TypeId} {k : Nat} {rows : List (List AV)} (hi : s.hp[i]? = some (.arr T k true rows)) (hpure : AV.pures rest = true) {R : AV → List (List AV) → Prop}
    (h : W P [0] c (mutQ2 P rs T k R) ⟨.sref 0 off n :: AV.datas rest ++ List.replicate (nt - (rest.length + 1)) .und, (List.replicate nt .dead).set 0 (.arr T k true rows)⟩)
    {K : AV → St → Prop} (hk : ∀ r rows', R r rows' → K (r.ren i) (s.seth i (.arr T k true rows'))) : CallOk P pins g (.sref i off n :: rest) s K := by
  subst hrs; subst hn
  intro fr ρ a w vals hp hr hv
  have hil : i < s.hp.length := (List.getElem?_eq_some_iff.1 hi).1
  have hob := hr.heap i
  rw [show s.hp.getD i .dead = .arr T k true rows by simp [List.getD_eq_getElem?_getD, hi]] at hob
  simp only [Rps] at hv
  obtain ⟨v0, vs, rfl, hv0, hvs⟩ := hv
  have hvs' := Rps.data rest (Rps.pure noPl rest hpure hvs)
  obtain ⟨p, hpl⟩ : ∃ p, ρ i = some p := by
    cases hpi : ρ i with
    | none => rw [hpi] at hob; exact hob.elim
    | some p => exact ⟨p, rfl⟩
  let M : Nat → Prop := fun b => p.block = some b
  let ρ0 : Pl := fun j => if j = 0 then some p else none
  let fr' : Fr := ⟨w.heap.size, w, fun b => Av fr.F ρ b ∧ ¬ M b, M, [0], ρ0⟩
  have hav : ∀ b, Av fr'.F ρ0 b ↔ Av fr.F ρ b := by
    intro b
    constructor
    · rintro (h1 | ⟨j, q, h1, h2⟩)
      · exact h1.1
      · have : j = 0 := by
          by_cases hj : j = 0
          · exact hj
          · simp [ρ0, hj] at h1
        subst this
        simp [ρ0] at h1
        subst h1
        exact .inr ⟨i, p, hpl, h2⟩
    · intro h1
      by_cases hM : M b
      · exact .inr ⟨0, p, by simp [ρ0], hM⟩
      · exact .inl ⟨h1, hM⟩
  have hMlt : ∀ b, M b → b < w.heap.size := fun b hb => hr.lt hpl hb
  have hvl := hvs.length
  refine calls_of_wp hf hb ?_
  have hlatF : Later w (Av fr.F ρ) noPl w (Av fr'.F ρ0) noPl := ⟨Nat.le_refl _, fun b _ hb => (hav b).1 hb, fun _ _ _ => rfl, fun _ _ h => h⟩
  have hob0 : HRo w (Av fr'.F ρ0) ρ0 (.arr T k true rows) (some p) := by
    rw [hpl] at hob
    cases p with
    | nil => exact hob
    | mapb b => exact hob.elim
    | blk b s' cap len =>
      obtain ⟨h1, h2, vss, rst, h3, h4, h5⟩ := hob
      exact ⟨h1, h2, vss, rst, h3, RpR.later _ hlatF h4, h5⟩
  have hrep : Rep fr' ρ0 ⟨.sref 0 off n :: AV.datas rest ++ List.replicate (fn.ntmps - (rest.length + 1)) .und, (List.replicate fn.ntmps .dead).set 0 (.arr T k true rows)⟩ { tmps := (v0 :: vs).toArray ++ Array.replicate (fn.ntmps - (v0 :: vs).toArray.size) undef, defers := [] } w := by
    refine { keep := ⟨rfl, rfl, rfl, Nat.le_refl _, fun _ _ _ => rfl⟩, base := Nat.le_refl _, defers := rfl, heap := fun j => ?_, inj := ?_, mine := ?_, fF := ?_, pin := ?_, env := ?_ }
    · by_cases hj : j = 0
      · subst hj
        rw [show ((List.replicate fn.ntmps Ob.dead).set 0 (.arr T k true rows)).getD 0 .dead = .arr T k true rows by simp [List.getD_eq_getElem?_getD, hn0]]
        simpa [ρ0] using hob0
      · rw [show ((List.replicate fn.ntmps Ob.dead).set 0 (.arr T k true rows)).getD j .dead = .dead by
          rw [List.getD_eq_getElem?_getD, List.getElem?_set_ne (by omega), List.getElem?_replicate]; split <;> rfl]
        show ρ0 j = none
        simp [ρ0, hj]
    · intro j l q r b h1 h2 _ _
      have e1 : j = 0 := by
        by_cases hj : j = 0
        · exact hj
        · simp [ρ0, hj] at h1
      have e2 : l = 0 := by
        by_cases hj : l = 0
        · exact hj
        · simp [ρ0, hj] at h2
      rw [e1, e2]
    · intro j q b h1 h2
      have e1 : j = 0 := by
        by_cases hj : j = 0
        · exact hj
        · simp [ρ0, hj] at h1
      subst e1
      simp [ρ0] at h1
      subst h1
      exact .inr ⟨by simp [fr'], h2⟩
    · intro b hb
      rcases hb.1 with h1 | ⟨j, q, h1, h2⟩
      · exact Nat.lt_of_lt_of_le (hr.fF b h1) hr.base
      · exact hr.lt h1 h2
    · intro j hj
      simp [fr'] at hj
      subst hj
      exact ⟨rfl, by simp [ρ0]⟩
    · show Rps w (Av fr'.F ρ0) ρ0 _ _
      have h1 : ((v0 :: vs).toArray ++ Array.replicate (fn.ntmps - (v0 :: vs).toArray.size) undef).toList = v0 :: vs ++ List.replicate (fn.ntmps - (rest.length + 1)) undef := by
        simp [hvl]
      rw [h1]
      have hv0' : Rp w (Av fr'.F ρ0) ρ0 (.sref 0 off n) v0 := by
        simp only [Rp] at hv0 ⊢
        rw [hpl] at hv0
        simpa [ρ0] using hv0
      have hvs2 : Rps w (Av fr'.F ρ0) ρ0 (AV.datas rest) vs := Rps.pure' (hvs'.later _ hlatF) ρ0
      refine Rps.append (l := .sref 0 off n :: AV.datas rest) (by simp only [Rps]; exact ⟨v0, vs, rfl, hv0', hvs2⟩) (Rps.mk (by simp) fun j x u hx hu => ?_)
      rw [List.getElem?_replicate] at hx hu
      split at hx
      · rename_i hj; rw [if_pos hj] at hu; cases hx; cases hu; simp only [Rp]
      · cases hx
  refine Code.wp_mono (fun e a' w' he => ?_) (h fr' ρ0 _ w rfl hrep)
  obtain ⟨s', ρ', hq, hr'⟩ := he
  have fin : resW P s' fn.results.toList (fun xs => ∃ rows', s'.hp[0]? = some (.arr T k true rows') ∧ (asOne xs).okR ∧ R (asOne xs) rows') → a'.defers = [] ∧ ∃ v, (results fn a'.tmps).run P w' = .ok v w' ∧
      ∃ v2 x s2 ρ2, Ending.returned v = .returned v2 ∧ K x s2 ∧ Rep fr ρ2 s2 a w' ∧ Rp w' (Av fr.F ρ2) ρ2 x v2 := by
    intro hq
    obtain ⟨xs, v, ⟨rows', h1, h2, h3⟩, h4, h5⟩ := results_sound hr' fn hq
    refine ⟨hr'.defers, v, h4, v, (asOne xs).ren i, s.seth i (.arr T k true rows'), ρ, rfl, hk _ _ h3, ?_, ?_⟩; rotate_left
    · rcases h2 with h2 | ⟨off', n', h2⟩
      · rw [ren_flat h2]; exact flat_any _ h2 h5
      · have hp0 : ρ' 0 = some p := by
          have := (hr'.pin 0 (by simp [fr'])).1
          simpa [fr', ρ0] using this
        rw [h2] at h5 ⊢
        simp only [AV.ren, Rp] at h5 ⊢
        rw [hp0] at h5
        rw [hpl]
        exact h5
    have hp0 : ρ' 0 = some p := by
      have := (hr'.pin 0 (by simp [fr'])).1
      simpa [fr', ρ0] using this
    have hsz : w.heap.size ≤ w'.heap.size := hr'.keep.size
    have hblk : ∀ b, b < w.heap.size → ¬ M b → w'.heap[b]? = w.heap[b]? := fun b h1 h2 => hr'.keep.block b h1 h2
    have hMA : ∀ b, M b → Av fr.F ρ b := fun b hb => .inr ⟨i, p, hpl, hb⟩
    have hlat : Later w (Av fr.F ρ) ρ w' (Av fr.F ρ) ρ := ⟨hsz, fun _ _ h => h, fun b h1 h2 => hblk b h1 fun hM => h2 (hMA b hM), fun _ _ h => h⟩
    have hav' : ∀ b, Av fr.F ρ b → Av fr'.F ρ' b := by
      intro b hb
      by_cases hM : M b
      · exact .inr ⟨0, p, hp0, hM⟩
      · exact .inl ⟨hb, hM⟩
    have ho' := hr'.heap 0
    rw [show s'.hp.getD 0 .dead = .arr T k true rows' by simp [List.getD_eq_getElem?_getD, h1], hp0] at ho'
    refine { keep := ⟨hr'.keep.os.trans hr.keep.os, hr'.keep.tape.trans hr.keep.tape, hr'.keep.output.trans hr.keep.output, Nat.le_trans hr.keep.size hsz, fun b hb hm => ?_⟩, base := Nat.le_trans hr.base hsz, defers := hr.defers, heap := fun j => ?_, inj := hr.inj, mine := hr.mine, fF := hr.fF, pin := hr.pin, env := hr.env.later _ hlat }
    · rw [hblk b (Nat.lt_of_lt_of_le hb hr.base)]
      · exact hr.keep.block b hb hm
      · intro hM
        rcases hr.mine i p b hpl hM with h6 | h6
        · omega
        · exact hm h6.2
    · by_cases hj : j = i
      · subst hj
        rw [show (s.seth j (.arr T k true rows')).hp.getD j .dead = .arr T k true rows' by simp [St.seth, List.getD_eq_getElem?_getD, hil], hpl]
        cases p with
        | nil => exact ho'
        | mapb b => exact ho'.elim
        | blk b s2 cap len =>
          obtain ⟨g1, g2, vss, rst, g3, g4, g5⟩ := ho'
          refine ⟨g1, g2, vss, rst, g3, RpR.later (ρ := noPl) _ ⟨Nat.le_refl _, fun b _ hb => hav' b hb, fun _ _ _ => rfl, fun _ _ h => h⟩ g4, g5⟩
      · rw [show (s.seth i (.arr T k true rows')).hp.getD j .dead = s.hp.getD j .dead by
          simp only [St.seth, List.getD_eq_getElem?_getD, List.getElem?_set_ne (Ne.symm hj)]]
        refine (hr.heap j).later hlat fun q b hq hqb => hblk b (hr.lt hq hqb) fun hM => ?_
        exact hj (hr.inj j i q p b hq hpl hqb hM)
  cases e with
  | normal => exact fin hq
  | ret => exact fin hq
  | _ => exact hq.elim
theorem resW_mono {P : Program} {s : St} : ∀ {rs : List ResultVar} {K K' : List AV → Prop}, resW P s rs K → (∀ xs, K xs → K' xs) → resW P s rs K'
  | [], K, K', h, hk => by simp only [resW] at h ⊢; exact hk _ h
  | r :: rs, K, K', h, hk => by
    simp only [resW] at h ⊢
    cases r with
    | tmp t => simp only [resV] at h ⊢; exact resW_mono h fun xs => hk _
    | cell ad t =>
      simp only [resV] at h ⊢
      refine ⟨h.1, h.2.1, ?_⟩
      have h3 := h.2.2
      generalize s.env.getD ad .any = x at h3 ⊢
      unfold loadW at h3 ⊢
      split at h3
      · exact ⟨h3.1, resW_mono h3.2 fun xs => hk _⟩
      · split at h3
        · rename_i heq; simp only [heq] at *; exact ⟨h3.1, h3.2.1, resW_mono h3.2.2 fun xs => hk _⟩
        · exact h3.elim
      · exact h3.elim
theorem call_mut {P : Program} {pins : List Nat} {g : FuncId} {fn : Func} {c : Code} (hf : P.funcs[g]? = some fn) (hb : fn.body = some c) {rs : List ResultVar} (hrs : fn.results.toList = rs) {nt : Nat} (hn : fn.ntmps = nt) (hn0 : 0 < nt)
    {s : St} {i off n : Nat} {rest : List AV} {T : TypeId} {k : Nat} {rows : List (List AV)} (hi : s.hp[i]? = some (.arr T k true rows)) (hpure : AV.pures rest = true) {R : AV → List (List AV) → Prop}
    (h : W P [0] c (mutQ P rs T k R) ⟨.sref 0 off n :: AV.datas rest ++ List.replicate (nt - (rest.length + 1)) .und, (List.replicate nt .dead).set 0 (.arr T k true rows)⟩)
    {K : AV → St → Prop} (hk : ∀ r rows', R r rows' → K r (s.seth i (.arr T k true rows'))) : CallOk P pins g (.sref i off n :: rest) s K := by
  have hres : ∀ s', resW P s' rs (fun xs => ∃ rows', s'.hp[0]? = some (.arr T k true rows') ∧ (asOne xs).flat = true ∧ R (asOne xs) rows') → resW P s' rs (fun xs => ∃ rows', s'.hp[0]? = some (.arr T k true rows') ∧ (asOne xs).okR ∧ ((asOne xs).flat = true ∧ R (asOne xs) rows')) :=
    fun s' h => resW_mono h fun xs ⟨rows', h1, h2, h3⟩ => ⟨rows', h1, .inl h2, h2, h3⟩
  refine call_mut2 (R := fun r rows' => r.flat = true ∧ R r rows') hf hb hrs hn hn0 hi hpure (h.mono fun e s' he => ?_) fun r rows' hr => ?_
  · cases e with
    | normal => exact hres s' he
    | ret => exact hres s' he
    | _ => exact he.elim
  · rw [ren_flat hr.1]
    exact hk r rows' hr.2
end Go.Proofs.YtjkjapjcmbfkgaaGreat.Vm

/-
  Calls whose result is a new slice: it becomes an object of the caller's own.
-/
namespace Go.Proofs.YtjkjapjcmbfkgaaGreat.Vm
open Go Go.RowKit
set_option linter.unusedVariables false
set_option linter.unusedSimpArgs false

/-- v is a slice of all of a block from base on, with these rows (or nil). -/
def NewA (base : Nat) (w : World) (F : Nat → Prop) (T : TypeId) (k : Nat) (rows : List (List AV)) (v : Value) : Prop :=
  (v = .slice none 0 0 ∧ rows = []) ∨ ∃ b cap, base ≤ b ∧ v = .slice (some ⟨b, 0, none⟩) rows.length cap ∧ Holds w (fun c => F c ∨ c = b) noPl T rows b k cap

/-- Called with data the function returns a new slice of one of R's rows. -/
def New (P : Program) (g : FuncId) (args : List AV) (T : TypeId) (k : Nat) (R : List (List AV) → Prop) : Prop :=
  ∀ (w : World) (vals : List Value) (F : Nat → Prop), (∀ k, F k → k < w.heap.size) → Rps w F noPl args vals →
    Calls P g vals.toArray w fun e w' => ∃ v rows, e = .returned v ∧ R rows ∧ Below w.heap.size w w' ∧ NewA w.heap.size w' F T k rows v

def newK (T : TypeId) (k : Nat) (R : List (List AV) → Prop) (hp : List Ob) : AV → Prop
  | .nils => R []
  | .sref i off n => ∃ rows, off = 0 ∧ n = rows.length ∧ hp[i]? = some (.arr T k true rows) ∧ R rows
  | _ => False
def newQ (P : Program) (rs : List ResultVar) (T : TypeId) (k : Nat) (R : List (List AV) → Prop) : Exit → St → Prop
  | .normal, s => resW P s rs fun xs => newK T k R s.hp (asOne xs)
  | .ret, s => resW P s rs fun xs => newK T k R s.hp (asOne xs)
  | _, _ => False

theorem new_of_W {P : Program} {g : FuncId} {fn : Func} {c : Code} {args : List AV} {T : TypeId} {k : Nat} {R : List (List AV) → Prop} (hf : P.funcs[g]? = some fn) (hb : fn.body = some c) {rs : List ResultVar} (hrs : fn.results.toList = rs) {nt : Nat} (hn : fn.ntmps = nt)
    (h : W P [] c (newQ P rs T k R) ⟨args ++ List.replicate (nt - args.length) .und, List.replicate nt .dead⟩) : New P g args T k R := by
  subst hrs; subst hn
  intro w vals F hF hv
  have hlen := hv.length
  refine calls_of_wp hf hb ?_
  let fr : Fr := ⟨w.heap.size, w, F, fun _ => False, [], noPl⟩
  have hA : Av F noPl = F := by
    funext k
    simp [Av, noPl]
  have hrep : Rep fr noPl ⟨args ++ List.replicate (fn.ntmps - args.length) .und, List.replicate fn.ntmps .dead⟩ { tmps := vals.toArray ++ Array.replicate (fn.ntmps - vals.toArray.size) undef, defers := [] } w := by
    refine { keep := ⟨rfl, rfl, rfl, Nat.le_refl _, fun _ _ _ => rfl⟩, base := Nat.le_refl _, defers := rfl, heap := fun i => ?_, inj := (fun i j p q b hi => by cases hi), mine := (fun i p b hi => by cases hi), fF := hF, pin := (fun i hi => by cases hi), env := ?_ }
    · show HRo _ _ _ ((List.replicate fn.ntmps Ob.dead).getD i .dead) _
      rw [show (List.replicate fn.ntmps Ob.dead).getD i .dead = .dead by
        rw [List.getD_eq_getElem?_getD, List.getElem?_replicate]; split <;> rfl]
      rfl
    · show Rps w (Av F noPl) noPl _ _
      rw [hA]
      have h1 : (vals.toArray ++ Array.replicate (fn.ntmps - vals.toArray.size) undef).toList = vals ++ List.replicate (fn.ntmps - args.length) undef := by
        simp [hlen]
      rw [h1]
      refine hv.append (Rps.mk (by simp) fun i x v hx hv => ?_)
      rw [List.getElem?_replicate] at hx hv
      split at hx
      · rename_i hi; rw [if_pos hi] at hv; cases hx; cases hv; simp only [Rp]
      · cases hx
  refine Code.wp_mono (fun e a' w' he => ?_) (h fr noPl _ w rfl hrep)
  obtain ⟨s, ρ, hq, hr⟩ := he
  have fin : resW P s fn.results.toList (fun xs => newK T k R s.hp (asOne xs)) → a'.defers = [] ∧ ∃ v, (results fn a'.tmps).run P w' = .ok v w' ∧ ∃ v2 rows, Ending.returned v = .returned v2 ∧ R rows ∧ Below w.heap.size w w' ∧ NewA w.heap.size w' F T k rows v2 := by
    intro hk
    obtain ⟨xs, v, h1, h2, h3⟩ := results_sound hr fn hk
    have hbel : Below w.heap.size w w' := ⟨hr.keep.os, hr.keep.tape, hr.keep.output, hr.keep.size, fun k hk => hr.keep.block k hk (fun h => h)⟩
    refine ⟨hr.defers, v, h2, ?_⟩
    cases hx : asOne xs with
    | nils =>
      rw [hx] at h1 h3
      simp only [Rp] at h3
      exact ⟨v, [], rfl, h1, hbel, .inl ⟨h3, rfl⟩⟩
    | sref i off n =>
      rw [hx] at h1 h3
      obtain ⟨rows, rfl, rfl, hi, hR⟩ := h1
      have ho := hr.heap i
      rw [show s.hp.getD i .dead = .arr T k true rows by simp [List.getD_eq_getElem?_getD, hi]] at ho
      simp only [Rp] at h3
      rcases h3 with ⟨g1, g2, g3, g4⟩ | ⟨b, s', cap, len, x, g1, g2, g3, g4⟩
      · exact ⟨v, rows, rfl, hR, hbel, .inl ⟨g4, List.eq_nil_of_length_eq_zero g3⟩⟩
      · rw [g1] at ho
        obtain ⟨e1, e2, vss, rest, e3, e4, e5⟩ := ho
        subst e1
        have hx0 := g4 (.inr trivial)
        rw [Nat.zero_mul] at hx0
        subst hx0
        refine ⟨v, rows, rfl, hR, hbel, .inr ⟨b, cap, ?_, by rw [g3, Nat.sub_zero], vss, rest, e3, ?_, e5⟩⟩
        · rcases hr.mine i _ b g1 rfl with h4 | h4
          · exact h4
          · exact absurd h4.1 (by simp [fr])
        · exact RpR.later (ρ := noPl) _ ⟨Nat.le_refl _, fun c _ hc => by
            rcases hc with hc | rfl
            · exact .inl hc
            · exact .inr ⟨i, _, g1, rfl⟩, fun _ _ _ => rfl, fun _ _ h => h⟩ e4
    | _ => rw [hx] at h1; exact h1.elim
  cases e with
  | normal => exact fin hq
  | ret => exact fin hq
  | _ => exact hq.elim

/-- A block that is new to the caller becomes its object d. -/
theorem Rep.adopt {fr : Fr} {ρ : Pl} {s : St} {a : Act} {w w' : World} (h0 : Rep fr ρ s a w) (hbel : Below w.heap.size w w') {d : Nat} (hd : s.hp[d]? = some .dead) {T : TypeId} {k : Nat} {rows : List (List AV)} {v : Value}
    (hn : NewA w.heap.size w' (Av fr.F ρ) T k rows v) : ∃ ρ', Rep fr ρ' ⟨s.env, s.hp.set d (.arr T k true rows)⟩ a w' ∧ Rp w' (Av fr.F ρ') ρ' (.sref d 0 rows.length) v := by
  obtain ⟨h, hlat0⟩ := h0.below hbel
  have hdl : d < s.hp.length := (List.getElem?_eq_some_iff.1 hd).1
  have hρd : ρ d = none := by
    have := h.heap d
    rw [show s.hp.getD d .dead = .dead by simp [List.getD_eq_getElem?_getD, hd]] at this
    exact this
  rcases hn with ⟨rfl, rfl⟩ | ⟨b, cap, hb, rfl, vss, rest, e1, e2, e3, e4, e5, e6⟩
  · have hav : ∀ k', Av fr.F (ρ.put d (some .nil)) k' → Av fr.F ρ k' := by
      rintro k' (h1 | ⟨i, p, h1, h2⟩)
      · exact .inl h1
      · by_cases hi : i = d
        · subst hi; rw [Pl.put_same] at h1; cases h1; simp [Place.block] at h2
        · rw [Pl.put_ne _ _ hi] at h1; exact .inr ⟨i, p, h1, h2⟩
    have hlat : Later w' (Av fr.F ρ) ρ w' (Av fr.F (ρ.put d (some .nil))) (ρ.put d (some .nil)) :=
      ⟨Nat.le_refl _, fun k' _ => hav k', fun _ _ _ => rfl, fun i p hp => by
        by_cases hi : i = d
        · subst hi; rw [hρd] at hp; cases hp
        · rw [Pl.put_ne _ _ hi]; exact hp⟩
    refine ⟨ρ.put d (some .nil), { keep := h.keep, base := h.base, defers := h.defers, heap := fun i => ?_, inj := ?_, mine := ?_, fF := h.fF, pin := fun i hi => ?_, env := h.env.later _ hlat }, ?_⟩
    · by_cases hi : i = d
      · subst hi
        rw [getD_set_same _ _ _ _ hdl, Pl.put_same]
        rfl
      · show HRo _ _ _ ((s.hp.set d (.arr T k true [])).getD i .dead) _
        rw [getD_set_other _ _ _ _ _ hi, Pl.put_ne _ _ hi]
        exact (h.heap i).later hlat fun q b hq hb => rfl
    · intro i j p q b hi hj hp hq
      by_cases hid : i = d
      · subst hid; rw [Pl.put_same] at hi; cases hi; simp [Place.block] at hp
      · by_cases hjd : j = d
        · subst hjd; rw [Pl.put_same] at hj; cases hj; simp [Place.block] at hq
        · rw [Pl.put_ne _ _ hid] at hi; rw [Pl.put_ne _ _ hjd] at hj; exact h.inj i j p q b hi hj hp hq
    · intro i p b hi hp
      by_cases hid : i = d
      · subst hid; rw [Pl.put_same] at hi; cases hi; simp [Place.block] at hp
      · rw [Pl.put_ne _ _ hid] at hi; exact h.mine i p b hi hp
    · by_cases hid : i = d
      · subst hid; exact absurd hρd (h.pin i hi).2
      · rw [Pl.put_ne _ _ hid]; exact h.pin i hi
    · simp only [Rp, Pl.put_same]
      exact .inl ⟨trivial, trivial, rfl, trivial⟩
  · let p0 : Place := .blk b k cap rows.length
    have hbw : b < w'.heap.size := (Array.getElem?_eq_some_iff.1 e1).1
    have hnew : ∀ i q c, ρ i = some q → q.block = some c → c < w.heap.size := fun i q c hq hc => h0.lt hq hc
    have hav : ∀ k', k' < w'.heap.size → k' ≠ b → Av fr.F (ρ.put d (some p0)) k' → Av fr.F ρ k' := by
      rintro k' _ hkb (h1 | ⟨i, p, h1, h2⟩)
      · exact .inl h1
      · by_cases hi : i = d
        · subst hi; rw [Pl.put_same] at h1; cases h1; simp [Place.block, p0] at h2; omega
        · rw [Pl.put_ne _ _ hi] at h1; exact .inr ⟨i, p, h1, h2⟩
    -- what was known before the call speaks of older blocks alone
    have hlat : Later w (Av fr.F ρ) ρ w' (Av fr.F (ρ.put d (some p0))) (ρ.put d (some p0)) :=
      ⟨hbel.size, fun k' hk' => hav k' (Nat.lt_of_lt_of_le hk' hbel.size) (by omega), fun k' hk' _ => hbel.block k' hk', fun i p hp => by
        by_cases hi : i = d
        · subst hi; rw [hρd] at hp; cases hp
        · rw [Pl.put_ne _ _ hi]; exact hp⟩
    refine ⟨ρ.put d (some p0), { keep := h.keep, base := h.base, defers := h.defers, heap := fun i => ?_, inj := ?_, mine := ?_, fF := h.fF, pin := fun i hi => ?_, env := h0.env.later _ hlat }, ?_⟩
    · by_cases hi : i = d
      · subst hi
        rw [getD_set_same _ _ _ _ hdl, Pl.put_same]
        refine ⟨rfl, rfl, vss, rest, e1, RpR.later (ρ := noPl) _ ⟨Nat.le_refl _, fun c hc hc2 => ?_, fun _ _ _ => rfl, fun _ _ h => h⟩ e2, e3, e4, e5, e6⟩
        by_cases hcb : c = b
        · exact .inr hcb
        · exact .inl (hav c hc hcb hc2)
      · show HRo _ _ _ ((s.hp.set d (.arr T k true rows)).getD i .dead) _
        rw [getD_set_other _ _ _ _ _ hi, Pl.put_ne _ _ hi]
        exact (h0.heap i).later hlat fun q c hq hc => hbel.block c (h0.lt hq hc)
    · intro i j p q c hi hj hp hq
      by_cases hid : i = d
      · by_cases hjd : j = d
        · rw [hid, hjd]
        · subst hid
          rw [Pl.put_same] at hi
          cases hi
          rw [Pl.put_ne _ _ hjd] at hj
          simp [Place.block, p0] at hp
          have := hnew _ _ _ hj hq
          omega
      · rw [Pl.put_ne _ _ hid] at hi
        by_cases hjd : j = d
        · subst hjd
          rw [Pl.put_same] at hj
          cases hj
          simp [Place.block, p0] at hq
          have := hnew _ _ _ hi hp
          omega
        · rw [Pl.put_ne _ _ hjd] at hj
          exact h.inj i j p q c hi hj hp hq
    · intro i p c hi hp
      by_cases hid : i = d
      · subst hid
        rw [Pl.put_same] at hi
        cases hi
        simp [Place.block, p0] at hp
        subst hp
        exact .inl (Nat.le_trans h0.base hb)
      · rw [Pl.put_ne _ _ hid] at hi
        exact h.mine i p c hi hp
    · by_cases hid : i = d
      · subst hid; exact absurd hρd (h.pin i hi).2
      · rw [Pl.put_ne _ _ hid]; exact h.pin i hi
    · simp only [Rp, Pl.put_same]
      exact .inr ⟨b, k, cap, rows.length, 0, rfl, by omega, by simp, fun _ => by simp⟩

/-- The call's result is a new object, d, of the caller's. -/
theorem call_new {P : Program} {pins : List Nat} {g : FuncId} {avs : List AV} {s : St} {K : AV → St → Prop} {T : TypeId} {k : Nat} {R : List (List AV) → Prop} (d : Nat) (hd : s.hp[d]? = some .dead) (ha : AV.pures avs = true) (hnew : New P g (AV.datas avs) T k R)
    (hk : ∀ rows, R rows → K (.sref d 0 rows.length) (s.seth d (.arr T k true rows))) : CallOk P pins g avs s K := by
  intro fr ρ a w vals hp hr hv
  refine (hnew w vals (Av fr.F ρ) ?_ (Rps.data avs (Rps.pure noPl avs ha hv))).mono fun e w' he => ?_
  · rintro k (hk | ⟨i, p, h1, h2⟩)
    · exact Nat.lt_of_lt_of_le (hr.fF k hk) hr.base
    · exact hr.lt h1 h2
  obtain ⟨v, rows, h1, h2, h3, h4⟩ := he
  obtain ⟨ρ', h5, h6⟩ := hr.adopt h3 hd h4
  exact ⟨v, _, _, ρ', h1, hk rows h2, h5, h6⟩

/-- What makes a new slice returns that data. -/
theorem New.pure {P : Program} {g : FuncId} {args : List AV} {T : TypeId} {k : Nat} {R : List (List AV) → Prop} (h : New P g args T k R) : Pure P g args (fun r => ∃ rows, R rows ∧ r = .sl rows) := by
  intro w vals F hF hv
  refine (h w vals F hF hv).mono fun e w' he => ?_
  obtain ⟨v, rows, h1, h2, h3, h4⟩ := he
  refine ⟨v, .sl rows, h1, ⟨rows, h2, rfl⟩, h3, ?_⟩
  simp only [Rp]
  rcases h4 with ⟨rfl, rfl⟩ | ⟨b, cap, hb, rfl, vss, rest, e1, e2, e3, e4, e5, e6⟩
  · exact ⟨none, 0, by simp, by simp, by simp [maxLen], .inl rfl⟩
  · refine ⟨_, cap, rfl, e5, e6, .inr ⟨b, 0, vss, rfl, fun hFb => ?_, (Array.getElem?_eq_some_iff.1 e1).1, ?_, RpR.later (ρ := noPl) _ ⟨Nat.le_refl _, fun c _ hc => .inl hc, fun _ _ _ => rfl, fun _ _ h => h⟩ e2⟩⟩
    · have := hF b hFb
      omega
    · intro j u hj
      have h5 := (List.getElem?_eq_some_iff.1 hj).1
      simp only [World.cell?, Nat.zero_add]
      rw [e1]
      simp [List.getElem?_append_left h5, hj]

/-- Called with a window of an object and data the function gives one of R's results and rows. -/
def Mut (P : Program) (g : FuncId) (T : TypeId) (k : Nat) (rows : List (List AV)) (off n : Nat) (rest : List AV) (R : AV → List (List AV) → Prop) : Prop :=
  ∃ fn c, P.funcs[g]? = some fn ∧ fn.body = some c ∧ 0 < fn.ntmps ∧
    W P [0] c (mutQ P fn.results.toList T k R) ⟨.sref 0 off n :: AV.datas rest ++ List.replicate (fn.ntmps - (rest.length + 1)) .und, (List.replicate fn.ntmps .dead).set 0 (.arr T k true rows)⟩
theorem mut_of_W {P : Program} {g : FuncId} {fn : Func} {c : Code} {T : TypeId} {k : Nat} {rows : List (List AV)} {off n : Nat} {rest : List AV} {R : AV → List (List AV) → Prop} (hf : P.funcs[g]? = some fn) (hb : fn.body = some c) {rs : List ResultVar} (hrs : fn.results.toList = rs) {nt : Nat} (hn : fn.ntmps = nt) (hn0 : 0 < nt)
    (h : W P [0] c (mutQ P rs T k R) ⟨.sref 0 off n :: AV.datas rest ++ List.replicate (nt - (rest.length + 1)) .und, (List.replicate nt .dead).set 0 (.arr T k true rows)⟩) : Mut P g T k rows off n rest R := by
  subst hrs; subst hn
  exact ⟨fn, c, hf, hb, hn0, h⟩
theorem call_mutC {P : Program} {pins : List Nat} {g : FuncId} {s : St} {i off n : Nat} {rest : List AV} {T : TypeId} {k : Nat} {rows : List (List AV)} {R : AV → List (List AV) → Prop} (hm : Mut P g T k rows off n rest R) (hi : s.hp[i]? = some (.arr T k true rows)) (hpure : AV.pures rest = true)
    {K : AV → St → Prop} (hk : ∀ r rows', R r rows' → K r (s.seth i (.arr T k true rows'))) : CallOk P pins g (.sref i off n :: rest) s K := by
  obtain ⟨fn, c, hf, hb, hn0, h⟩ := hm
  exact call_mut hf hb rfl rfl hn0 hi hpure h hk
end Go.Proofs.YtjkjapjcmbfkgaaGreat.Vm

/-
  A state may forget objects that nothing names; a nil slice begins to be an object; append's rules as equations.
-/
namespace Go.Proofs.YtjkjapjcmbfkgaaGreat.Vm
open Go Go.RowKit
set_option linter.unusedVariables false
set_option linter.unusedSimpArgs false

def live (hp : List Ob) (i : Nat) : Bool := match hp.getD i .dead with | .dead => false | .arr _ _ _ _ => true
mutual
/-- All objects that it names are there. -/
def AV.named (hp : List Ob) : AV → Bool
  | .sref j _ _ => live hp j
  | .ptr j _ _ => live hp j
  | .mp j => live hp j
  | .agg cs => AV.nameds hp cs
  | .tup cs => AV.nameds hp cs
  | .fn _ fs cs => AV.nameds hp fs && AV.nameds hp cs
  | .ifc _ x => AV.named hp x
  | _ => true
def AV.nameds (hp : List Ob) : List AV → Bool
  | [] => true
  | x :: xs => AV.named hp x && AV.nameds hp xs
end
structure Fewer (hp : List Ob) (w : World) (A : Nat → Prop) (ρ : Pl) (A' : Nat → Prop) (ρ' : Pl) : Prop where
  av : ∀ k, A' k → A k
  pl : ∀ j, live hp j = true → ρ' j = ρ j
theorem Fewer.later {hp : List Ob} {w : World} {A : Nat → Prop} {ρ : Pl} {A' : Nat → Prop} {ρ' : Pl} (h : Fewer hp w A ρ A' ρ') : Later w A noPl w A' noPl :=
  ⟨Nat.le_refl _, fun k _ hk => h.av k hk, fun _ _ _ => rfl, fun _ _ h => by cases h⟩
mutual
theorem Rp.named {hp : List Ob} {w : World} {A A' : Nat → Prop} {ρ ρ' : Pl} (hl : Fewer hp w A ρ A' ρ') : ∀ (x : AV) {v : Value}, x.named hp = true → Rp w A ρ x v → Rp w A' ρ' x v
  | .any, _, _, h => by simp only [Rp]
  | .und, _, _, h => by simpa only [Rp] using h
  | .int _ _, _, _, h => by simpa only [Rp] using h
  | .bool _, _, _, h => by simpa only [Rp] using h
  | .str _, _, _, h => by simpa only [Rp] using h
  | .nils, _, _, h => by simpa only [Rp] using h
  | .nilp, _, _, h => by simpa only [Rp] using h
  | .nilfn, _, _, h => by simpa only [Rp] using h
  | .nilif, _, _, h => by simpa only [Rp] using h
  | .gl _, _, _, h => by simpa only [Rp] using h
  | .nilmp, _, _, h => by simpa only [Rp] using h
  | .sl rows, _, _, h => by
    have := Rp.later (ρ := noPl) (ρ' := noPl) (.sl rows) hl.later (by simpa only [Rp] using h)
    simpa only [Rp] using this
  | .ia row off, _, _, h => by
    have := Rp.later (ρ := noPl) (ρ' := noPl) (.ia row off) hl.later (by simpa only [Rp] using h)
    simpa only [Rp] using this
  | .sref j off n, v, hn, h => by
    simp only [AV.named] at hn
    simp only [Rp] at h ⊢
    rw [hl.pl j hn]
    exact h
  | .ptr j r off, v, hn, h => by
    simp only [AV.named] at hn
    simp only [Rp] at h ⊢
    rw [hl.pl j hn]
    exact h
  | .mp j, v, hn, h => by
    simp only [AV.named] at hn
    simp only [Rp] at h ⊢
    rw [hl.pl j hn]
    exact h
  | .agg cs, v, hn, h => by
    simp only [AV.named] at hn
    simp only [Rp] at h ⊢
    obtain ⟨vs, h1, h2⟩ := h
    exact ⟨vs, h1, Rps.named hl cs hn h2⟩
  | .tup cs, v, hn, h => by
    simp only [AV.named] at hn
    simp only [Rp] at h ⊢
    obtain ⟨vs, h1, h2⟩ := h
    exact ⟨vs, h1, Rps.named hl cs hn h2⟩
  | .fn f fs cs, v, hn, h => by
    simp only [AV.named, Bool.and_eq_true] at hn
    simp only [Rp] at h ⊢
    obtain ⟨us, vs, h1, h2, h3⟩ := h
    exact ⟨us, vs, h1, Rps.named hl fs hn.1 h2, Rps.named hl cs hn.2 h3⟩
  | .ifc t x, v, hn, h => by
    simp only [AV.named] at hn
    simp only [Rp] at h ⊢
    obtain ⟨y, h1, h2⟩ := h
    exact ⟨y, h1, Rp.named hl x hn h2⟩
theorem Rps.named {hp : List Ob} {w : World} {A A' : Nat → Prop} {ρ ρ' : Pl} (hl : Fewer hp w A ρ A' ρ') : ∀ (l : List AV) {vs : List Value}, AV.nameds hp l = true → Rps w A ρ l vs → Rps w A' ρ' l vs
  | [], _, _, h => by simpa only [Rps] using h
  | x :: xs, vs, hn, h => by
    simp only [AV.nameds, Bool.and_eq_true] at hn
    simp only [Rps] at h ⊢
    obtain ⟨v, us, h1, h2, h3⟩ := h
    exact ⟨v, us, h1, Rp.named hl x hn.1 h2, Rps.named hl xs hn.2 h3⟩
end
theorem RpR.named {hp : List Ob} {w : World} {A A' : Nat → Prop} {ρ ρ' : Pl} (hl : Fewer hp w A ρ A' ρ') : ∀ {l : List (List AV)} {vs : List (List Value)}, l.all (AV.nameds hp) = true → RpR w A ρ l vs → RpR w A' ρ' l vs
  | [], _, _, h => by simpa only [RpR] using h
  | x :: xs, vs, hn, h => by
    simp only [List.all_cons, Bool.and_eq_true] at hn
    simp only [RpR] at h ⊢
    obtain ⟨v, us, h1, h2, h3⟩ := h
    exact ⟨v, us, h1, Rps.named hl x hn.1 h2, h3.named hl hn.2⟩

def leH (pins : List Nat) : Nat → List Ob → List Ob → Prop
  | _, [], [] => True
  | k, x :: xs, y :: ys => (x = y ∨ (y = .dead ∧ k ∉ pins)) ∧ leH pins (k + 1) xs ys
  | _, _, _ => False
theorem leH_at {pins : List Nat} : ∀ {k : Nat} {hp hp' : List Ob}, leH pins k hp hp' → ∀ i, hp.getD i .dead = hp'.getD i .dead ∨ (hp'.getD i .dead = .dead ∧ k + i ∉ pins)
  | _, [], [], _, i => .inl rfl
  | _, [], _ :: _, h, _ => h.elim
  | _, _ :: _, [], h, _ => h.elim
  | k, x :: xs, y :: ys, h, i => by
    cases i with
    | zero => simpa using h.1
    | succ i =>
      have := leH_at h.2 i
      rwa [show k + 1 + i = k + (i + 1) by omega] at this
def obsOk (hp : List Ob) : Bool := hp.all fun o => match o with
  | .arr _ _ pf rows => pf || rows.all (AV.nameds hp)
  | .dead => true

theorem Le_drop {pins : List Nat} {e e' : List AV} {hp hp' : List Ob} (h : leE e e') (hh : leH pins 0 hp hp') (hn : AV.nameds hp' e' = true) (ho : obsOk hp' = true) : Le pins ⟨e, hp⟩ ⟨e', hp'⟩ := by
  intro fr ρ a w hpins hr
  subst hpins
  have hat := leH_at hh
  let ρ' : Pl := fun i => if live hp' i = true then ρ i else none
  have hsub : ∀ i p, ρ' i = some p → ρ i = some p ∧ live hp' i = true := by
    intro i p hi
    by_cases hl : live hp' i = true
    · simp only [ρ', hl, if_true] at hi; exact ⟨hi, hl⟩
    · simp only [ρ', hl] at hi; cases hi
  have hfew : Fewer hp' w (Av fr.F ρ) ρ (Av fr.F ρ') ρ' := by
    refine ⟨?_, fun j hj => by simp only [ρ', hj, if_true]⟩
    rintro k (h1 | ⟨i, p, h1, h2⟩)
    · exact .inl h1
    · exact .inr ⟨i, p, (hsub i p h1).1, h2⟩
  refine ⟨ρ', { keep := hr.keep, base := hr.base, defers := hr.defers, heap := fun i => ?_, inj := fun i j p q b hi hj hp hq => hr.inj i j p q b (hsub i p hi).1 (hsub j q hj).1 hp hq, mine := fun i p b hi hp => hr.mine i p b (hsub i p hi).1 hp, fF := hr.fF, pin := fun i hi => ?_, env := Rps.named hfew e' hn (leE_sound h hr.env) }⟩
  · have hri := hr.heap i
    show HRo _ _ _ (hp'.getD i .dead) (ρ' i)
    cases hob : hp'.getD i .dead with
    | dead =>
      show ρ' i = none
      have hl : live hp' i = false := by simp only [live, hob]
      simp only [ρ', hl]
      rfl
    | arr T k pf rows =>
      have hl : live hp' i = true := by simp only [live, hob]
      have he : hp.getD i .dead = .arr T k pf rows := by
        rcases hat i with h1 | ⟨h1, _⟩
        · exact h1.trans hob
        · rw [hob] at h1; cases h1
      have hri' : HRo w (Av fr.F ρ) ρ (.arr T k pf rows) (ρ i) := by rw [← he]; exact hri
      have hρ : ρ' i = ρ i := hfew.pl i hl
      rw [hρ]
      have hall : pf = true ∨ rows.all (AV.nameds hp') = true := by
        have hm : Ob.arr T k pf rows ∈ hp' := by
          have hi : hp'[i]? = some (.arr T k pf rows) := getD_arr hob
          exact List.mem_of_getElem? hi
        have := List.all_eq_true.1 ho _ hm
        simpa using this
      match hpi : ρ i, hri' with
      | some .nil, hri' => exact hri'
      | some (.blk b s cap len), hri' =>
        obtain ⟨g1, g2, vss, rest, g3, g4, g5, g6, g7, g8⟩ := hri'
        refine ⟨g1, g2, vss, rest, g3, ?_, g5, g6, g7, g8⟩
        cases pf with
        | true => exact RpR.later (ρ := noPl) _ hfew.later g4
        | false => exact g4.named hfew (hall.resolve_left (by simp))
      | some (.mapb b), hri' => exact hri'.elim
      | none, hri' => exact hri'.elim
  · have hpi := hr.pin i hi
    have hl : live hp' i = true := by
      rcases hat i with h1 | ⟨_, h1⟩
      · cases hob : hp'.getD i .dead with
        | dead =>
          have := hr.heap i
          rw [show (St.mk e hp).hp.getD i .dead = .dead from h1.trans hob] at this
          exact absurd this hpi.2
        | arr T k pf rows => simp only [live, hob]
      · exact absurd hi (by simpa using h1)
    rw [hfew.pl i hl]
    exact hpi

/-- A slot that is nil becomes the name of an object without rows. -/
theorem Le_nil {pins : List Nat} {e : List AV} {hp : List Ob} (j d : Nat) (T : TypeId) (k : Nat) (pf : Bool) (hj : e[j]? = some .nils) (hd : hp[d]? = some .dead) : Le pins ⟨e, hp⟩ ⟨e.set j (.sref d 0 0), hp.set d (.arr T k pf [])⟩ := by
  intro fr ρ a w hpins hr
  have hr' := hr.nilObj (d := d) hd T k pf
  refine ⟨_, { hr' with env := ?_ }⟩
  have henv := hr'.env
  obtain ⟨v, hv, hr1⟩ := henv.get (show e[j]? = some .nils from hj)
  simp only [Rp] at hr1
  subst hr1
  have h2 : Rp w (Av fr.F (ρ.put d (some .nil))) (ρ.put d (some .nil)) (.sref d 0 0) (.slice none 0 0) := by
    simp only [Rp]; exact .inl ⟨Pl.put_same _ _ _, by simp, by simp, by simp⟩
  have h3 := henv.set j h2
  have h4 : a.tmps.toList.set j (.slice none 0 0) = a.tmps.toList := by
    obtain ⟨hlt, he⟩ := List.getElem?_eq_some_iff.1 hv
    rw [← he, List.set_getElem_self]
  rwa [h4] at h3

theorem allLen_lit {k : Nat} {l : List (List AV)} (h : (l.all fun r => r.length == k) = true) : AllLen k l := fun r hr => by
  have := List.all_eq_true.1 h r hr
  simpa using this
theorem allOne_lit {l : List (List AV)} (h : (l.all fun r => r.all AV.one) = true) : AllOne l := fun r hr => List.all_eq_true.1 h r hr
section
variable {P : Program} {pins : List Nat} {s : St} {A : AV → St → Prop} {d : Option Tmp} {x y : AV} {e : TypeId}
def appO (P : Program) (e : TypeId) (pins : List Nat) (i n : Nat) (pf' : Bool) (new : List (List AV)) (o : Ob) (s : St) (A : AV → St → Prop) : Prop :=
  match o with
  | .arr T k pf rows => T = e ∧ k = (tyOf P e).size ∧ i ∉ pins ∧ (pf = true → pf' = true ∨ AllPure new) ∧ n ≤ rows.length ∧ (n + new.length) * (tyOf P e).bytes ≤ 140737488355328 ∧ n + new.length ≤ 140737488355328 ∧
          A (.sref i 0 (n + new.length)) ⟨AV.kills i s.env, (s.hp.set i (.arr T k pf (rows.take n ++ new))).map (Ob.kill i)⟩
  | .dead => False
def appR (P : Program) (e : TypeId) (pins : List Nat) (d : Option Tmp) (x : AV) (s : St) (A : AV → St → Prop) (r : Option (Bool × List (List AV))) : Prop :=
  match r with
  | some (pf', new) => (tyOf P e).d ≠ .no ∧ (tyOf P e).hz = true ∧ (tyOf P e).zero.length = (tyOf P e).size ∧ (tyOf P e).size ≠ 0 ∧ AllLen (tyOf P e).size new ∧ AllOne new ∧ (match x with
    | .sref i 0 n => appO P e pins i n pf' new (s.hp.getD i .dead) s A
    | .nils => match d with
      | some d => dead s d ∧ d ∉ pins ∧ new.length * (tyOf P e).bytes ≤ 140737488355328 ∧ new.length ≤ 140737488355328 ∧ A (.sref d 0 new.length) ⟨AV.kills d s.env, (s.hp.set d (.arr e (tyOf P e).size pf' new)).map (Ob.kill d)⟩
      | none => False
    | _ => False)
  | none => False
theorem appendW_eq {n b : Nat} {hz : Bool} {z : List AV} : (appendW P ⟨.slice e, n, b, hz, z⟩ pins d x y s A = appR P e pins d x s A (rowsOf y s.hp)) := by
  unfold appendW appR
  dsimp only
  cases rowsOf y s.hp <;> first | rfl | (rename_i q; rfl)
theorem appR_sref {i n : Nat} {pf' : Bool} {new : List (List AV)} : (appR P e pins d (.sref i 0 n) s A (some (pf', new)) = ((tyOf P e).d ≠ .no ∧ (tyOf P e).hz = true ∧ (tyOf P e).zero.length = (tyOf P e).size ∧ (tyOf P e).size ≠ 0 ∧ AllLen (tyOf P e).size new ∧ AllOne new ∧ appO P e pins i n pf' new (s.hp.getD i .dead) s A)) := propext Iff.rfl
theorem appR_nils {d : Tmp} {pf' : Bool} {new : List (List AV)} : (appR P e pins (some d) .nils s A (some (pf', new)) = ((tyOf P e).d ≠ .no ∧ (tyOf P e).hz = true ∧ (tyOf P e).zero.length = (tyOf P e).size ∧ (tyOf P e).size ≠ 0 ∧ AllLen (tyOf P e).size new ∧ AllOne new ∧ dead s d ∧ d ∉ pins ∧ new.length * (tyOf P e).bytes ≤ 140737488355328 ∧ new.length ≤ 140737488355328 ∧ A (.sref d 0 new.length) ⟨AV.kills d s.env, (s.hp.set d (.arr e (tyOf P e).size pf' new)).map (Ob.kill d)⟩)) := propext Iff.rfl
theorem appO_arr {i n : Nat} {pf' : Bool} {new : List (List AV)} {T : TypeId} {k : Nat} {pf : Bool} {rows : List (List AV)} : (appO P e pins i n pf' new (.arr T k pf rows) s A = (T = e ∧ k = (tyOf P e).size ∧ i ∉ pins ∧ (pf = true → pf' = true ∨ AllPure new) ∧ n ≤ rows.length ∧ (n + new.length) * (tyOf P e).bytes ≤ 140737488355328 ∧ n + new.length ≤ 140737488355328 ∧
          A (.sref i 0 (n + new.length)) ⟨AV.kills i s.env, (s.hp.set i (.arr T k pf (rows.take n ++ new))).map (Ob.kill i)⟩)) := propext Iff.rfl
def rowsO (off n : Nat) (o : Ob) : Option (Bool × List (List AV)) :=
  match o with
  | .arr _ _ pf rows => some (pf, (rows.drop off).take n)
  | .dead => none
theorem rowsOf_sl {rows : List (List AV)} {hp : List Ob} : rowsOf (.sl rows) hp = some (true, rows) := id rfl
theorem rowsOf_nils {hp : List Ob} : rowsOf .nils hp = some (true, []) := id rfl
theorem rowsOf_sref {i off n : Nat} {hp : List Ob} : rowsOf (.sref i off n) hp = rowsO off n (hp.getD i .dead) := id rfl
theorem rowsO_arr {off n : Nat} {T : TypeId} {k : Nat} {pf : Bool} {rows : List (List AV)} : rowsO off n (.arr T k pf rows) = some (pf, (rows.drop off).take n) := id rfl
theorem kill_any {i : Nat}  : AV.kill i (.any) = (.any) := by simp only [AV.kill]
theorem kill_und {i : Nat}  : AV.kill i (.und) = (.und) := by simp only [AV.kill]
theorem kill_int {i : Nat} {k : IntKind} {m : Int} : AV.kill i (.int k m) = (.int k m) := by simp only [AV.kill]
theorem kill_bool {i : Nat} {b : Bool} : AV.kill i (.bool b) = (.bool b) := by simp only [AV.kill]
theorem kill_str {i : Nat} {b : ByteArray} : AV.kill i (.str b) = (.str b) := by simp only [AV.kill]
theorem kill_nils {i : Nat}  : AV.kill i (.nils) = (.nils) := by simp only [AV.kill]
theorem kill_sl {i : Nat} {l : List (List AV)} : AV.kill i (.sl l) = (.sl l) := by simp only [AV.kill]
theorem kill_ia {i : Nat} {l : List AV} {o : Nat} : AV.kill i (.ia l o) = (.ia l o) := by simp only [AV.kill]
theorem kill_nilp {i : Nat}  : AV.kill i (.nilp) = (.nilp) := by simp only [AV.kill]
theorem kill_nilif {i : Nat}  : AV.kill i (.nilif) = (.nilif) := by simp only [AV.kill]
theorem kill_nilfn {i : Nat}  : AV.kill i (.nilfn) = (.nilfn) := by simp only [AV.kill]
theorem kill_nilmp {i : Nat}  : AV.kill i (.nilmp) = (.nilmp) := by simp only [AV.kill]
theorem kill_gl {i : Nat} {g : Nat} : AV.kill i (.gl g) = (.gl g) := by simp only [AV.kill]
theorem kill_sref {i : Nat} {j off n : Nat} : AV.kill i (.sref j off n) = (if j = i then .any else .sref j off n) := by simp only [AV.kill]
theorem kill_ptr {i : Nat} {j r off : Nat} : AV.kill i (.ptr j r off) = (if j = i then .any else .ptr j r off) := by simp only [AV.kill]
theorem kill_agg {i : Nat} {l : List AV} : AV.kill i (.agg l) = (.agg (AV.kills i l)) := by simp only [AV.kill]
theorem kill_tup {i : Nat} {l : List AV} : AV.kill i (.tup l) = (.tup (AV.kills i l)) := by simp only [AV.kill]
theorem kill_fn {i : Nat} {f : Fn} {l m : List AV} : AV.kill i (.fn f l m) = (.fn f (AV.kills i l) (AV.kills i m)) := by simp only [AV.kill]
theorem kill_ifc {i : Nat} {t : TypeId} {x : AV} : AV.kill i (.ifc t x) = (.ifc t (AV.kill i x)) := by simp only [AV.kill]
theorem kills_nil {i : Nat} : AV.kills i [] = [] := id rfl
theorem kills_cons {i : Nat} {x : AV} {l : List AV} : AV.kills i (x :: l) = AV.kill i x :: AV.kills i l := by simp only [AV.kills]
theorem kill_dead {i : Nat} : Ob.kill i .dead = .dead := id rfl
theorem kill_arr {i : Nat} {rs : List (List AV)} {T : TypeId} {k : Nat} : Ob.kill i (.arr T k true rs) = .arr T k true rs := id rfl
theorem kill_arrf {i : Nat} {rs : List (List AV)} {T : TypeId} {k : Nat} : Ob.kill i (.arr T k false rs) = .arr T k false (rs.map (AV.kills i)) := id rfl
end
end Go.Proofs.YtjkjapjcmbfkgaaGreat.Vm

