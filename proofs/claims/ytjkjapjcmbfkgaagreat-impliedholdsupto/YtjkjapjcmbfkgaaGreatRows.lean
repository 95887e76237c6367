/-
  No cell of these rows narrows 'for every input' (looked for: loops, veiled, ifaces, maps, wideKeys, modest, calm, conditions, laid).
  DERIVED. THE GIVEN ROWS OF THIS SEAT. 6 by the template 'for every input the law returns true; each argument reads behind the call as it read before'; 0 by the template 'total and deterministic' (their statements: YtjkjapjcmbfkgaaGreatTotals.lean).
  GIVEN WITH THE SEED: the statements are not yours to turn. If you find one false, say at which input.
  Laid BY PROGRAM, IN A SANDBOX (cutbox-rows.mjs): the forced cells as the released guide's own fill.sh prints them over the translation a5f5aacb2d658ebe… (all of the seat's roots in one cut). By AI agents, Wed Nov 11 2026. No macro, syntax, notation, axiom, sorry.
-/
import Derived.Test.YtjkjapjcmbfkgaaGreatChecked
import GoSem.Claim
import GoSem.ClaimJoined
import GoSem.ClaimMapViews
import Derived.JoinedTies
import Derived.KernelRfl
namespace Go.Proofs.YtjkjapjcmbfkgaaGreat
/- THE CELL 'sum', in the pinned program and in every row, IS THE sha256 OF THE DUMP (.gsa) THAT YtjkjapjcmbfkgaaGreatProg.lean LOADS. Nothing in Lean hashes anything: it is a label: what it is worth is what the hold of that sum in a sandbox is worth. -/
noncomputable def Tryz.pinned : Pinned := { name := "ytjkjapjcmbfkgaagreat", sum := "a5f5aacb2d658ebecf7b3789d2727ea878ad8883a6530fbbdeb7a421331d9574", checked := Tryz.checked }
namespace Rows
def none {H : Type} : Left H := { results := [], args := [] }

/-- 'fulcrumlaw10.ImpliedAtoms': WHATEVER THE INPUT: true; the input reads as it did. -/
def impliedAtomsSpec : ChangeSpec := { name := "impliedAtoms", fn := fun _ => fun
  | [d1, d2, d3] => { results := [.lit (.bool true)], args := [d1, d2, d3] }
  | _ => none }
def impliedAtomsRow : OpenClaim := { program := "ytjkjapjcmbfkgaagreat", sum := "a5f5aacb2d658ebecf7b3789d2727ea878ad8883a6530fbbdeb7a421331d9574", func := "fulcrum/fulcrumlaw10.ImpliedAtoms", spec := "impliedAtoms", unfollowed := true, recurses := true, named := ["math/bits.overflowError"], apart := false }
def ImpliedAtomsSaid : Prop := impliedAtomsRow.holds Tryz.pinned (OpenSpec.ofChange impliedAtomsSpec)

/-- ITS FALSE NEIGHBOUR: 'it returns false'. Refute it at one input. -/
def impliedAtomsWrong : ChangeSpec := { name := "impliedAtoms", fn := fun _ => fun
  | [d1, d2, d3] => { results := [.lit (.bool false)], args := [d1, d2, d3] }
  | _ => none }
def ImpliedAtomsWrongFalsely : Prop := impliedAtomsRow.holds Tryz.pinned (OpenSpec.ofChange impliedAtomsWrong)

/-- 'fulcrumlaw10.ImpliedSums': WHATEVER THE INPUT: true; the input reads as it did. -/
def impliedSumsSpec : ChangeSpec := { name := "impliedSums", fn := fun _ => fun
  | [d1, d2] => { results := [.lit (.bool true)], args := [d1, d2] }
  | _ => none }
def impliedSumsRow : OpenClaim := { program := "ytjkjapjcmbfkgaagreat", sum := "a5f5aacb2d658ebecf7b3789d2727ea878ad8883a6530fbbdeb7a421331d9574", func := "fulcrum/fulcrumlaw10.ImpliedSums", spec := "impliedSums", unfollowed := true, recurses := true, named := ["math/bits.overflowError"], apart := false }
def ImpliedSumsSaid : Prop := impliedSumsRow.holds Tryz.pinned (OpenSpec.ofChange impliedSumsSpec)

/-- ITS FALSE NEIGHBOUR: 'it returns false'. Refute it at one input. -/
def impliedSumsWrong : ChangeSpec := { name := "impliedSums", fn := fun _ => fun
  | [d1, d2] => { results := [.lit (.bool false)], args := [d1, d2] }
  | _ => none }
def ImpliedSumsWrongFalsely : Prop := impliedSumsRow.holds Tryz.pinned (OpenSpec.ofChange impliedSumsWrong)

/-- 'fulcrumlaw10.ImpliedOwn': WHATEVER THE INPUT: true; the input reads as it did. -/
def impliedOwnSpec : ChangeSpec := { name := "impliedOwn", fn := fun _ => fun
  | [d1, d2] => { results := [.lit (.bool true)], args := [d1, d2] }
  | _ => none }
def impliedOwnRow : OpenClaim := { program := "ytjkjapjcmbfkgaagreat", sum := "a5f5aacb2d658ebecf7b3789d2727ea878ad8883a6530fbbdeb7a421331d9574", func := "fulcrum/fulcrumlaw10.ImpliedOwn", spec := "impliedOwn", unfollowed := true, recurses := true, named := ["math/bits.overflowError"], apart := false }
def ImpliedOwnSaid : Prop := impliedOwnRow.holds Tryz.pinned (OpenSpec.ofChange impliedOwnSpec)

/-- ITS FALSE NEIGHBOUR: 'it returns false'. Refute it at one input. -/
def impliedOwnWrong : ChangeSpec := { name := "impliedOwn", fn := fun _ => fun
  | [d1, d2] => { results := [.lit (.bool false)], args := [d1, d2] }
  | _ => none }
def ImpliedOwnWrongFalsely : Prop := impliedOwnRow.holds Tryz.pinned (OpenSpec.ofChange impliedOwnWrong)

/-- 'fulcrumlaw10.ImpliedRows': WHATEVER THE INPUT: true; the input reads as it did. -/
def impliedRowsSpec : ChangeSpec := { name := "impliedRows", fn := fun _ => fun
  | [d1, d2] => { results := [.lit (.bool true)], args := [d1, d2] }
  | _ => none }
def impliedRowsRow : OpenClaim := { program := "ytjkjapjcmbfkgaagreat", sum := "a5f5aacb2d658ebecf7b3789d2727ea878ad8883a6530fbbdeb7a421331d9574", func := "fulcrum/fulcrumlaw10.ImpliedRows", spec := "impliedRows", unfollowed := true, recurses := true, named := ["math/bits.overflowError"], apart := false }
def ImpliedRowsSaid : Prop := impliedRowsRow.holds Tryz.pinned (OpenSpec.ofChange impliedRowsSpec)

/-- ITS FALSE NEIGHBOUR: 'it returns false'. Refute it at one input. -/
def impliedRowsWrong : ChangeSpec := { name := "impliedRows", fn := fun _ => fun
  | [d1, d2] => { results := [.lit (.bool false)], args := [d1, d2] }
  | _ => none }
def ImpliedRowsWrongFalsely : Prop := impliedRowsRow.holds Tryz.pinned (OpenSpec.ofChange impliedRowsWrong)

/-- 'fulcrumlaw10.ImpliedChecks': WHATEVER THE INPUT: true; the input reads as it did. -/
def impliedChecksSpec : ChangeSpec := { name := "impliedChecks", fn := fun _ => fun
  | [d1, d2, d3] => { results := [.lit (.bool true)], args := [d1, d2, d3] }
  | _ => none }
def impliedChecksRow : OpenClaim := { program := "ytjkjapjcmbfkgaagreat", sum := "a5f5aacb2d658ebecf7b3789d2727ea878ad8883a6530fbbdeb7a421331d9574", func := "fulcrum/fulcrumlaw10.ImpliedChecks", spec := "impliedChecks", unfollowed := true, recurses := true, named := ["math/bits.overflowError"], apart := false }
def ImpliedChecksSaid : Prop := impliedChecksRow.holds Tryz.pinned (OpenSpec.ofChange impliedChecksSpec)

/-- ITS FALSE NEIGHBOUR: 'it returns false'. Refute it at one input. -/
def impliedChecksWrong : ChangeSpec := { name := "impliedChecks", fn := fun _ => fun
  | [d1, d2, d3] => { results := [.lit (.bool false)], args := [d1, d2, d3] }
  | _ => none }
def ImpliedChecksWrongFalsely : Prop := impliedChecksRow.holds Tryz.pinned (OpenSpec.ofChange impliedChecksWrong)

/-- 'fulcrumlaw10.ImpliedHolds': WHATEVER THE INPUT: true; the input reads as it did. -/
def impliedHoldsSpec : ChangeSpec := { name := "impliedHolds", fn := fun _ => fun
  | [d1, d2, d3] => { results := [.lit (.bool true)], args := [d1, d2, d3] }
  | _ => none }
def impliedHoldsRow : OpenClaim := { program := "ytjkjapjcmbfkgaagreat", sum := "a5f5aacb2d658ebecf7b3789d2727ea878ad8883a6530fbbdeb7a421331d9574", func := "fulcrum/fulcrumlaw10.ImpliedHolds", spec := "impliedHolds", unfollowed := true, recurses := true, named := ["math/bits.overflowError"], apart := false }
def ImpliedHoldsSaid : Prop := impliedHoldsRow.holds Tryz.pinned (OpenSpec.ofChange impliedHoldsSpec)

/-- ITS FALSE NEIGHBOUR: 'it returns false'. Refute it at one input. -/
def impliedHoldsWrong : ChangeSpec := { name := "impliedHolds", fn := fun _ => fun
  | [d1, d2, d3] => { results := [.lit (.bool false)], args := [d1, d2, d3] }
  | _ => none }
def ImpliedHoldsWrongFalsely : Prop := impliedHoldsRow.holds Tryz.pinned (OpenSpec.ofChange impliedHoldsWrong)

/- THE SECOND FORM. 'bulk': how many values and letters a reading holds, each counted each time it is reached (what is shared counts as often as it is met; a slice's spare places count too). A statement '..UptoSaid' is the law's where the arguments, and the package variables that the reading takes, are together of bulk at most 1048576: NARROWER than '..Said'. Prove '..Said' where nothing that the law and all that it calls make is longer than what came in: it says more and counts as full. Else prove '..UptoSaid'. A law counts once. -/
mutual
def uptoBulk {H : Type} : DataW H → Nat
  | .lit (.string bytes) => bytes.length + 1
  | .lit _ => 1
  | .nil => 1
  | .ptr d => uptoBulk d + 1
  | .slice elems spare => uptoBulkAll elems + uptoBulkAll spare + 1
  | .agg parts => uptoBulkAll parts + 1
  | .iface _ d => uptoBulk d + 1
  | .map entries => uptoBulkEntries entries + 1
  | .held _ => 1
def uptoBulkAll {H : Type} : List (DataW H) → Nat
  | [] => 0
  | d :: r => uptoBulk d + uptoBulkAll r
def uptoBulkEntries {H : Type} : List (Lit × DataW H) → Nat
  | [] => 0
  | x :: r => uptoBulkEntry x + uptoBulkEntries r
def uptoBulkEntry {H : Type} : Lit × DataW H → Nat
  | (.string bytes, d) => bytes.length + uptoBulk d + 1
  | (_, d) => uptoBulk d + 1
 end
def uptoSmall : (H : Type) → List (DataW H) → Bool := fun _ ds => decide (uptoBulkAll ds ≤ 1048576)
def OpenSpec.upto (s : _root_.Go.ChangeSpec) : _root_.Go.OpenSpec := { _root_.Go.OpenSpec.ofChange s with cond := some uptoSmall }

/-- 'fulcrumlaw10.ImpliedAtoms', WHERE WHAT IT READS IS OF BULK AT MOST 1048576: true; the input reads as it did. -/
def impliedAtomsUptoRow : OpenClaim := { program := "ytjkjapjcmbfkgaagreat", sum := "a5f5aacb2d658ebecf7b3789d2727ea878ad8883a6530fbbdeb7a421331d9574", func := "fulcrum/fulcrumlaw10.ImpliedAtoms", spec := "impliedAtoms", unfollowed := true, recurses := true, named := ["math/bits.overflowError"], apart := false, narrowed := true }
def ImpliedAtomsUptoSaid : Prop := impliedAtomsUptoRow.holds Tryz.pinned (OpenSpec.upto impliedAtomsSpec)

/-- 'fulcrumlaw10.ImpliedSums', WHERE WHAT IT READS IS OF BULK AT MOST 1048576: true; the input reads as it did. -/
def impliedSumsUptoRow : OpenClaim := { program := "ytjkjapjcmbfkgaagreat", sum := "a5f5aacb2d658ebecf7b3789d2727ea878ad8883a6530fbbdeb7a421331d9574", func := "fulcrum/fulcrumlaw10.ImpliedSums", spec := "impliedSums", unfollowed := true, recurses := true, named := ["math/bits.overflowError"], apart := false, narrowed := true }
def ImpliedSumsUptoSaid : Prop := impliedSumsUptoRow.holds Tryz.pinned (OpenSpec.upto impliedSumsSpec)

/-- 'fulcrumlaw10.ImpliedOwn', WHERE WHAT IT READS IS OF BULK AT MOST 1048576: true; the input reads as it did. -/
def impliedOwnUptoRow : OpenClaim := { program := "ytjkjapjcmbfkgaagreat", sum := "a5f5aacb2d658ebecf7b3789d2727ea878ad8883a6530fbbdeb7a421331d9574", func := "fulcrum/fulcrumlaw10.ImpliedOwn", spec := "impliedOwn", unfollowed := true, recurses := true, named := ["math/bits.overflowError"], apart := false, narrowed := true }
def ImpliedOwnUptoSaid : Prop := impliedOwnUptoRow.holds Tryz.pinned (OpenSpec.upto impliedOwnSpec)

/-- 'fulcrumlaw10.ImpliedRows', WHERE WHAT IT READS IS OF BULK AT MOST 1048576: true; the input reads as it did. -/
def impliedRowsUptoRow : OpenClaim := { program := "ytjkjapjcmbfkgaagreat", sum := "a5f5aacb2d658ebecf7b3789d2727ea878ad8883a6530fbbdeb7a421331d9574", func := "fulcrum/fulcrumlaw10.ImpliedRows", spec := "impliedRows", unfollowed := true, recurses := true, named := ["math/bits.overflowError"], apart := false, narrowed := true }
def ImpliedRowsUptoSaid : Prop := impliedRowsUptoRow.holds Tryz.pinned (OpenSpec.upto impliedRowsSpec)

/-- 'fulcrumlaw10.ImpliedChecks', WHERE WHAT IT READS IS OF BULK AT MOST 1048576: true; the input reads as it did. -/
def impliedChecksUptoRow : OpenClaim := { program := "ytjkjapjcmbfkgaagreat", sum := "a5f5aacb2d658ebecf7b3789d2727ea878ad8883a6530fbbdeb7a421331d9574", func := "fulcrum/fulcrumlaw10.ImpliedChecks", spec := "impliedChecks", unfollowed := true, recurses := true, named := ["math/bits.overflowError"], apart := false, narrowed := true }
def ImpliedChecksUptoSaid : Prop := impliedChecksUptoRow.holds Tryz.pinned (OpenSpec.upto impliedChecksSpec)

/-- 'fulcrumlaw10.ImpliedHolds', WHERE WHAT IT READS IS OF BULK AT MOST 1048576: true; the input reads as it did. -/
def impliedHoldsUptoRow : OpenClaim := { program := "ytjkjapjcmbfkgaagreat", sum := "a5f5aacb2d658ebecf7b3789d2727ea878ad8883a6530fbbdeb7a421331d9574", func := "fulcrum/fulcrumlaw10.ImpliedHolds", spec := "impliedHolds", unfollowed := true, recurses := true, named := ["math/bits.overflowError"], apart := false, narrowed := true }
def ImpliedHoldsUptoSaid : Prop := impliedHoldsUptoRow.holds Tryz.pinned (OpenSpec.upto impliedHoldsSpec)

end Rows
end Go.Proofs.YtjkjapjcmbfkgaaGreat
