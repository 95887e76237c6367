/-
  The law TableauChecks holds of the given program, for all arguments of bulk at most 1048576: no further conditions.
-/
import Derived.Test.YtjmpajgjaefcjaaGreatChks8
import Derived.Orders
import Derived.Below
import Derived.Laws.AppendOwn
import Derived.Laws.MakeOwn
import Derived.Laws.CopyRow
import Derived.Laws.Rows
import Derived.Laws.Cells
import Derived.Tactics
import Derived.Laws.BitsLemmas
import Derived.Maps.Range
import Derived.Carry
import Derived.Sort.Row
import Derived.Sort.Grow
import Derived.Test.YtjmpajgjaefcjaaGreatProg
import Derived.Shelf.Sort.Plain
import Derived.Shelf.Slices.In.SortNone
import Derived.Ground.NamesProg
import Derived.Test.YtjmpajgjaefcjaaGreatRows
import Derived.WalkKit
import Derived.ProofKit
import Derived.OpenShut
import Derived.JoinedCond

namespace Go.Proofs.YtjmpajgjaefcjaaGreat.Vm
open Go Go.RowKit
set_option maxRecDepth 100000
set_option linter.unusedVariables false
set_option linter.unusedSimpArgs false
section
variable {H : Type} {encH : TypeId × Value → H} {w : World}
def row_good (r : Int × List (Int × RR)) : Prop := form_good r.2
def row_wt (r : Int × List (Int × RR)) : Nat := form_wt r.2
theorem opens_rowT : Opens encH Tryz.prog w 84 rowT row_good row_wt :=
 (Opens.two Tryz.underlying84 (by kernel_rfl) (by kernel_rfl) (by kernel_rfl) (Opens.i64 Tryz.underlying3) opens_form).map id (fun p => rfl) (fun _ h => h.2) (fun p => by simp only [id,row_wt];omega)
def tab_good (p : Int × TR) : Prop := ∀ r ∈ p.2,row_good r
def tab_wt (p : Int × TR) : Nat := sumW row_wt p.2 + 1
theorem opens_rowsT : Opens encH Tryz.prog w 22 (fun t : TR => [.sl (tab rowT t)]) (fun t => ∀ r ∈ t,row_good r) (fun t => sumW row_wt t + 1) :=
 Opens.slice Tryz.underlying22 (by show 0 < Tryz.prog.cellsOf 84;rw [show Tryz.prog.cellsOf 84 = 2 by kernel_rfl];decide) opens_rowT
def cellsT (p : Int × TR) : List AV := [.int .i64 p.1,.sl (tab rowT p.2)]
theorem opens_tab : Opens encH Tryz.prog w 24 cellsT tab_good tab_wt :=
 (Opens.two Tryz.underlying24 (by kernel_rfl) (by kernel_rfl) (by kernel_rfl) (Opens.i64 Tryz.underlying3) opens_rowsT).map id (fun p => rfl) (fun _ h => h.2) (fun p => by simp only [id,tab_wt];omega)
end
theorem tab_tb : ∀ {t : TR},(∀ r ∈ t,row_good r) → tb (t.map fun r => (r.1,vals r.2)) ≤ 33 * sumW row_wt t
 | [],_ => Nat.le_refl _
 | r::t,h => by
  have h1 := tab_tb (t := t) fun x hx => h x (List.mem_cons_of_mem _ hx)
  have h2 := form_nbs (h r List.mem_cons_self)
  simp only [List.map_cons,tb,sumW,row_wt,form_wt] at *
  omega
theorem tab_ok {p : Int × TR} (h : tab_good p) (hb : tab_wt p ≤ 1048576) : TOk p.2 := by
 unfold tab_wt at hb
 refine ⟨fun r hr q hq => (form_ok (h r hr) ?_).1.1 q hq,?_⟩
 ·have := sumW_mem (wt := row_wt) hr
  have e : form_wt r.2 = row_wt r := rfl
  omega
 ·have := tab_tb h
  omega
end Go.Proofs.YtjmpajgjaefcjaaGreat.Vm
namespace Go.Proofs.YtjmpajgjaefcjaaGreat.Vm
open Go Go.RowKit Go.ChangeShapes Go.WideShapes Go.ChangeAt
set_option maxRecDepth 100000
set_option linter.unusedVariables false
def joinedRest (P : Program) (fn : Func) (s : ChangeSpec) (c : OpenClaim) : Bool :=
 (c.wf (OpenSpec.ofChange s)) && (fn.params.all (P.readableRec ·)) && (namedTie P c.named s.vars) && ((c.stops == [])) && ((c.knobs == [])) && ((c.maps == (fn.params.toList ++ s.plain.varTypes P).any (P.mapsRec ·))) && ((c.ifaces == (fn.params.toList ++ s.plain.varTypes P).any (P.ifacesRec ·))) && ((c.mapsOut == P.mapsAmong fn.resultTypes.toList)) && ((c.loops == (fn.params.toList ++ s.plain.varTypes P).any (P.loopsFrom ·))) && ((c.wideKeys == (fn.params.toList ++ s.plain.varTypes P ++ fn.resultTypes.toList).any (P.wideKeysFrom ·))) && (s.vars.all (P.varReadable ·)) && (fn.resultTypes.all (fun t => P.readableRec t && decide (t < P.types.size))) && ((c.ifacesOut == fn.resultTypes.toList.any (P.ifacesRec ·))) && ((c.loopsOut == fn.resultTypes.toList.any (P.loopsFrom ·))) && (c.shortTexts.isNone) && ((c.kinds == (if c.domain.isEmpty then [] else fn.params.toList.map fun t => match P.underlying t with|some (.int k) => some k|_ => none))) && ((c.pinned == c.pinnedBy)) && ((c.veiled == (fn.params.toList ++ s.plain.varTypes P ++ fn.resultTypes.toList).any (P.veiledRec ·))) && (c.veiledFits P fn.params.toList (fn.params.toList ++ s.plain.varTypes P ++ fn.resultTypes.toList))
theorem joined_of {P : Program} {f : FuncId} {fn : Func} {s : ChangeSpec} {c : OpenClaim} (h1 : (laidOutB P) = true) (h2 : (mapsRowed P) = true) (h6 : ((P.stops == [])) = true) (h8 : ((P.stopKnobs == [])) = true) (h24 : (P.stopsHeard) = true) (h25 : (P.mayEnter) = true) (h9 : ((c.inPlace == P.inPlace f)) = true) (h10 : ((c.unfollowed == P.unfollowed f)) = true) (h11 : ((c.recurses == P.recurses f)) = true) (h12 : ((c.named == P.varsNamed f)) = true) (h22 : ((c.plainKeys == P.plainKeys)) = true) (h26 : ((c.lifted == P.liftsFinal)) = true) (h27 : ((P.make == some c.make)) = true)
  (h : joinedRest P fn s c = true) : joinedFacts P f fn s c = true := by
 unfold joinedRest at h
 unfold joinedFacts
 simp only [Bool.and_eq_true] at h ⊢
 obtain ⟨⟨⟨⟨⟨⟨⟨⟨⟨⟨⟨⟨⟨⟨⟨⟨⟨⟨r0,r3⟩,r4⟩,r5⟩,r7⟩,r13⟩,r14⟩,r15⟩,r16⟩,r17⟩,r18⟩,r19⟩,r20⟩,r21⟩,r23⟩,r28⟩,r29⟩,r30⟩,r31⟩ := h
 exact ⟨⟨⟨⟨⟨⟨⟨⟨⟨⟨⟨⟨⟨⟨⟨⟨⟨⟨⟨⟨⟨⟨⟨⟨⟨⟨⟨⟨⟨⟨⟨r0,h1⟩,h2⟩,r3⟩,r4⟩,r5⟩,h6⟩,r7⟩,h8⟩,h9⟩,h10⟩,h11⟩,h12⟩,r13⟩,r14⟩,r15⟩,r16⟩,r17⟩,r18⟩,r19⟩,r20⟩,r21⟩,h22⟩,r23⟩,h24⟩,h25⟩,h26⟩,h27⟩,r28⟩,r29⟩,r30⟩,r31⟩
def plainClaim : OpenClaim := { program := "", sum := "", func := "", spec := "" }
theorem pf_laid : laidOutB Tryz.prog = true := by kernel_rfl
theorem pf_maps : mapsRowed Tryz.prog = true := by kernel_rfl
theorem pf_stops : (Tryz.prog.stops == []) = true := by kernel_rfl
theorem pf_knobs : (Tryz.prog.stopKnobs == []) = true := by kernel_rfl
theorem pf_heard : Tryz.prog.stopsHeard = true := by kernel_rfl
theorem pf_enter : Tryz.prog.mayEnter = true := by kernel_rfl
theorem pf_keys : (plainClaim.plainKeys == Tryz.prog.plainKeys) = true := by kernel_rfl
theorem pf_lifts : (plainClaim.lifted == Tryz.prog.liftsFinal) = true := by kernel_rfl
theorem pf_make : (Tryz.prog.make == some plainClaim.make) = true := by kernel_rfl
theorem pf_own : ownKnob Tryz.prog.godebug = none := by kernel_rfl
end Go.Proofs.YtjmpajgjaefcjaaGreat.Vm
namespace Go.Proofs.YtjmpajgjaefcjaaGreat.Vm
open Go Go.RowKit Go.ChangeShapes Go.WideShapes Go.ChangeAt
set_option maxRecDepth 100000
set_option linter.unusedVariables false
set_option linter.unusedSimpArgs false
namespace tableauChecks_
theorem own : ownKnob Tryz.prog.godebug = none := pf_own
theorem laidOut : laidOutB Tryz.prog = true := pf_laid
theorem pf_place : (Rows.tableauChecksUptoRow.inPlace == Tryz.prog.inPlace 5) = true := by kernel_rfl
theorem pf_foll : (Rows.tableauChecksUptoRow.unfollowed == Tryz.prog.unfollowed 5) = true := by kernel_rfl
theorem pf_rec : (Rows.tableauChecksUptoRow.recurses == Tryz.prog.recurses 5) = true := by kernel_rfl
theorem pf_nam : (Rows.tableauChecksUptoRow.named == Tryz.prog.varsNamed 5) = true := by kernel_rfl
theorem pf_rest : joinedRest Tryz.prog Tryz.f5 (Rows.OpenSpec.upto Rows.tableauChecksSpec).bare Rows.tableauChecksUptoRow = true := by kernel_rfl
theorem facts : joinedFacts Tryz.prog 5 Tryz.f5 (Rows.OpenSpec.upto Rows.tableauChecksSpec).bare Rows.tableauChecksUptoRow = true := joined_of pf_laid pf_maps pf_stops pf_knobs pf_heard pf_enter pf_place pf_foll pf_rec pf_nam pf_keys pf_lifts pf_make pf_rest
theorem contract (H : Type) (encH : TypeId × Value → H) (W : World) (base : Nat) (args : Array Value) (ds gs : List (DataW H)) (before : List MemPlace)
  (hval : ∀ (j : Nat) t v,Tryz.f5.params[j]? = some t → args[j]? = some v → Value.okWide Tryz.prog W .any base t v)
  (hW : DataW.Whole encH Tryz.prog Tryz.f5.params.toList Rows.tableauChecksSpec.vars false W args.toList ds gs before) (hk : Rows.uptoSmall H (ds ++ gs) = true) :
  Calls Tryz.prog 5 args W fun e W' => ∃ v,e = .returned v ∧ Rows.tableauChecksSpec.post encH Tryz.prog Tryz.f5 false true false false W args v W' := by
 have hW' := hW
 obtain ⟨p,q,hA0,hV,rfl,hfz,hnd⟩ := hW
 have hA : DataW.TrodAll encH Tryz.prog W 0 (fun _ => true) true Tryz.f5.params.toList args.toList ds p := hA0
 rw [Tryz.params5] at hA hval
 obtain ⟨v0,v1,d0,d1,p0,p1,rfl,rfl,rfl,h0,h1⟩ := trodAll_two hA
 obtain ⟨rfl,rfl⟩ := trodVars_none hV
 simp only [List.append_nil] at hW' hk
 have hlt : ∀ x ∈ p0 ++ p1,x.block < W.heap.size := fun x hx => hW'.lt x (by simpa using hx)
 obtain ⟨a0,r0,g0,b0⟩ := par_struct Tryz.underlying24 opens_tab (hval 0 24 v0 rfl rfl) h0
 obtain ⟨a1,r1,g1,b1⟩ := par_int Tryz.underlying3 (Opens.i64 Tryz.underlying3) (hval 1 3 v1 rfl rfl) h1
 have hbulk : Rows.uptoBulkAll [d0,d1] ≤ 1048576 := of_decide_eq_true hk
 simp only [Rows.uptoBulkAll] at hbulk
 have hlaw := checks_law a0.1 a0.2 a1 (tab_ok g0 (by omega))
 refine (hlaw W [v0,v1] (fun _ => False) (fun _ h => h.elim) ⟨_,_,rfl,r0,_,_,rfl,r1,rfl⟩).mono fun e W' he => ?_
 obtain ⟨v,r,rfl,rfl,hbel,hrp⟩ := he
 have hv : v = .bool true := hrp
 subst hv
 exact ⟨_,rfl,⟨_,_,_,[],_,[],hW',trodAll_mk1 (shut_bool Tryz.underlying4 _),trodAll_mk2 (Below.trod laidOut (by kernel_rfl) (of_decide_eq_true (by kernel_rfl)) h0 hbel (fun x hx => hlt x (by simp [hx]))) (Below.trod laidOut (by kernel_rfl) (of_decide_eq_true (by kernel_rfl)) h1 hbel (fun x hx => hlt x (by simp [hx]))),rfl,hbel.frame _,fun h => by cases h⟩⟩
theorem lifted (os : Os) (started : os.Started) (H : Type) (enc : TypeId × Value → H) (F : Stop.Interp) :
  ReturnsInHanded {} Tryz.checked os 5 .any ((Rows.OpenSpec.upto Rows.tableauChecksSpec).pre6 enc Tryz.prog Tryz.f5 Rows.tableauChecksUptoRow.domain false) (((Rows.OpenSpec.upto Rows.tableauChecksSpec).at F).post enc Tryz.prog Tryz.f5 false true false false) := by
 refine returnsInHanded_of_cond (C := Tryz.checked) (s := Rows.OpenSpec.upto Rows.tableauChecksSpec) (k := Rows.uptoSmall) rfl own started (by kernel_rfl) Tryz.func5
  (OpenSpec.witness (enc := enc) (C := Tryz.checked) (s := Rows.OpenSpec.upto Rows.tableauChecksSpec) (k := Rows.uptoSmall) rfl false ⟨#[],#[.agg #[.int .i64 0,.slice none 0 0],.int .i64 0],[]⟩ 8 (by kernel_rfl) (by kernel_rfl) (by kernel_rfl)
   (x := ([.agg [.lit (.int .i64 0),.nil],.lit (.int .i64 0)],[],[])) (by kernel_rfl) rfl (by kernel_rfl)) ?_
 intro W base args ds gs before hval hW _ hk _
 exact contract H enc W base args ds gs before hval hW hk
end tableauChecks_
theorem tableauChecks_holds : Rows.TableauChecksUptoSaid :=
 OpenClaim.holds_of_cond 5 Tryz.f5 rfl rfl rfl rfl rfl rfl rfl ⟨rfl,rfl,rfl,rfl,rfl⟩ rfl rfl rfl rfl rfl (by kernel_rfl) Tryz.func5 tableauChecks_.facts
  (of_decide_eq_true (by kernel_rfl)) (by unfold Func.isWrapper;first | (rw [if_pos (by decide +kernel)];kernel_rfl) | (rw [if_neg (by decide +kernel)];exact ⟨rfl,rfl⟩))
  (fun os started H enc _ F => tableauChecks_.lifted os started H enc F)
end Go.Proofs.YtjmpajgjaefcjaaGreat.Vm
