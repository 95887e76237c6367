/-
  No cell of these rows narrows 'for every input' (looked for: loops, veiled, ifaces, maps, wideKeys, modest, calm, conditions, laid).
  DERIVED. THE GIVEN ROWS OF THIS SEAT. 14 by the template 'for every input the law returns true; each argument reads behind the call as it read before'; 0 by the template 'total and deterministic' (their statements: YtjmpajgjaefcjaaGreatTotals.lean).
  GIVEN WITH THE SEED: the statements are not yours to turn. If you find one false, say at which input.
  Laid BY PROGRAM, IN A SANDBOX (cutbox-rows.mjs): the forced cells as the released guide's own fill.sh prints them over the translation 610f3bc8ca7077aa… (all of the seat's roots in one cut). By AI agents, Wed Nov 11 2026. No macro, syntax, notation, axiom, sorry.
-/
import Derived.Test.YtjmpajgjaefcjaaGreatChecked
import GoSem.Claim
import GoSem.ClaimJoined
import GoSem.ClaimMapViews
import Derived.JoinedTies
import Derived.KernelRfl
namespace Go.Proofs.YtjmpajgjaefcjaaGreat
/- THE CELL 'sum', in the pinned program and in every row, IS THE sha256 OF THE DUMP (.gsa) THAT YtjmpajgjaefcjaaGreatProg.lean LOADS. Nothing in Lean hashes anything: it is a label: what it is worth is what the hold of that sum in a sandbox is worth. -/
noncomputable def Tryz.pinned : Pinned := { name := "ytjmpajgjaefcjaagreat", sum := "610f3bc8ca7077aa1253a9808d5a130b4b212f76381ba3d30af6c4de37f1e385", checked := Tryz.checked }
namespace Rows
def none {H : Type} : Left H := { results := [], args := [] }

/-- 'fulcrumlaw07.TableauGrows': WHATEVER THE INPUT: true; the input reads as it did. -/
def tableauGrowsSpec : ChangeSpec := { name := "tableauGrows", fn := fun _ => fun
  | [d1, d2] => { results := [.lit (.bool true)], args := [d1, d2] }
  | _ => none }
def tableauGrowsRow : OpenClaim := { program := "ytjmpajgjaefcjaagreat", sum := "610f3bc8ca7077aa1253a9808d5a130b4b212f76381ba3d30af6c4de37f1e385", func := "fulcrum/fulcrumlaw07.TableauGrows", spec := "tableauGrows", unfollowed := true, recurses := true, named := ["math/bits.overflowError"], apart := false }
def TableauGrowsSaid : Prop := tableauGrowsRow.holds Tryz.pinned (OpenSpec.ofChange tableauGrowsSpec)

/-- ITS FALSE NEIGHBOUR: 'it returns false'. Refute it at one input. -/
def tableauGrowsWrong : ChangeSpec := { name := "tableauGrows", fn := fun _ => fun
  | [d1, d2] => { results := [.lit (.bool false)], args := [d1, d2] }
  | _ => none }
def TableauGrowsWrongFalsely : Prop := tableauGrowsRow.holds Tryz.pinned (OpenSpec.ofChange tableauGrowsWrong)

/-- 'fulcrumlaw07.TableauExpresses': WHATEVER THE INPUT: true; the input reads as it did. -/
def tableauExpressesSpec : ChangeSpec := { name := "tableauExpresses", fn := fun _ => fun
  | [d1, d2] => { results := [.lit (.bool true)], args := [d1, d2] }
  | _ => none }
def tableauExpressesRow : OpenClaim := { program := "ytjmpajgjaefcjaagreat", sum := "610f3bc8ca7077aa1253a9808d5a130b4b212f76381ba3d30af6c4de37f1e385", func := "fulcrum/fulcrumlaw07.TableauExpresses", spec := "tableauExpresses", unfollowed := true, recurses := true, named := ["math/bits.overflowError"], apart := false }
def TableauExpressesSaid : Prop := tableauExpressesRow.holds Tryz.pinned (OpenSpec.ofChange tableauExpressesSpec)

/-- ITS FALSE NEIGHBOUR: 'it returns false'. Refute it at one input. -/
def tableauExpressesWrong : ChangeSpec := { name := "tableauExpresses", fn := fun _ => fun
  | [d1, d2] => { results := [.lit (.bool false)], args := [d1, d2] }
  | _ => none }
def TableauExpressesWrongFalsely : Prop := tableauExpressesRow.holds Tryz.pinned (OpenSpec.ofChange tableauExpressesWrong)

/-- 'fulcrumlaw07.TableauChecks': WHATEVER THE INPUT: true; the input reads as it did. -/
def tableauChecksSpec : ChangeSpec := { name := "tableauChecks", fn := fun _ => fun
  | [d1, d2] => { results := [.lit (.bool true)], args := [d1, d2] }
  | _ => none }
def tableauChecksRow : OpenClaim := { program := "ytjmpajgjaefcjaagreat", sum := "610f3bc8ca7077aa1253a9808d5a130b4b212f76381ba3d30af6c4de37f1e385", func := "fulcrum/fulcrumlaw07.TableauChecks", spec := "tableauChecks", unfollowed := true, recurses := true, named := ["math/bits.overflowError"], apart := false }
def TableauChecksSaid : Prop := tableauChecksRow.holds Tryz.pinned (OpenSpec.ofChange tableauChecksSpec)

/-- ITS FALSE NEIGHBOUR: 'it returns false'. Refute it at one input. -/
def tableauChecksWrong : ChangeSpec := { name := "tableauChecks", fn := fun _ => fun
  | [d1, d2] => { results := [.lit (.bool false)], args := [d1, d2] }
  | _ => none }
def TableauChecksWrongFalsely : Prop := tableauChecksRow.holds Tryz.pinned (OpenSpec.ofChange tableauChecksWrong)

/-- 'fulcrumlaw07.TableauSays': WHATEVER THE INPUT: true; the input reads as it did. -/
def tableauSaysSpec : ChangeSpec := { name := "tableauSays", fn := fun _ => fun
  | [d1, d2, d3] => { results := [.lit (.bool true)], args := [d1, d2, d3] }
  | _ => none }
def tableauSaysRow : OpenClaim := { program := "ytjmpajgjaefcjaagreat", sum := "610f3bc8ca7077aa1253a9808d5a130b4b212f76381ba3d30af6c4de37f1e385", func := "fulcrum/fulcrumlaw07.TableauSays", spec := "tableauSays", unfollowed := true, recurses := true, named := ["math/bits.overflowError"], apart := false }
def TableauSaysSaid : Prop := tableauSaysRow.holds Tryz.pinned (OpenSpec.ofChange tableauSaysSpec)

/-- ITS FALSE NEIGHBOUR: 'it returns false'. Refute it at one input. -/
def tableauSaysWrong : ChangeSpec := { name := "tableauSays", fn := fun _ => fun
  | [d1, d2, d3] => { results := [.lit (.bool false)], args := [d1, d2, d3] }
  | _ => none }
def TableauSaysWrongFalsely : Prop := tableauSaysRow.holds Tryz.pinned (OpenSpec.ofChange tableauSaysWrong)

/-- 'fulcrumlaw07.TableauSames': WHATEVER THE INPUT: true; the input reads as it did. -/
def tableauSamesSpec : ChangeSpec := { name := "tableauSames", fn := fun _ => fun
  | [d1, d2] => { results := [.lit (.bool true)], args := [d1, d2] }
  | _ => none }
def tableauSamesRow : OpenClaim := { program := "ytjmpajgjaefcjaagreat", sum := "610f3bc8ca7077aa1253a9808d5a130b4b212f76381ba3d30af6c4de37f1e385", func := "fulcrum/fulcrumlaw07.TableauSames", spec := "tableauSames", unfollowed := true, recurses := true, named := ["math/bits.overflowError"], apart := false }
def TableauSamesSaid : Prop := tableauSamesRow.holds Tryz.pinned (OpenSpec.ofChange tableauSamesSpec)

/-- ITS FALSE NEIGHBOUR: 'it returns false'. Refute it at one input. -/
def tableauSamesWrong : ChangeSpec := { name := "tableauSames", fn := fun _ => fun
  | [d1, d2] => { results := [.lit (.bool false)], args := [d1, d2] }
  | _ => none }
def TableauSamesWrongFalsely : Prop := tableauSamesRow.holds Tryz.pinned (OpenSpec.ofChange tableauSamesWrong)

/-- 'fulcrumlaw07.TableauRows': WHATEVER THE INPUT: true; the input reads as it did. -/
def tableauRowsSpec : ChangeSpec := { name := "tableauRows", fn := fun _ => fun
  | [d1, d2] => { results := [.lit (.bool true)], args := [d1, d2] }
  | _ => none }
def tableauRowsRow : OpenClaim := { program := "ytjmpajgjaefcjaagreat", sum := "610f3bc8ca7077aa1253a9808d5a130b4b212f76381ba3d30af6c4de37f1e385", func := "fulcrum/fulcrumlaw07.TableauRows", spec := "tableauRows", unfollowed := true, recurses := true, named := ["math/bits.overflowError"], apart := false }
def TableauRowsSaid : Prop := tableauRowsRow.holds Tryz.pinned (OpenSpec.ofChange tableauRowsSpec)

/-- ITS FALSE NEIGHBOUR: 'it returns false'. Refute it at one input. -/
def tableauRowsWrong : ChangeSpec := { name := "tableauRows", fn := fun _ => fun
  | [d1, d2] => { results := [.lit (.bool false)], args := [d1, d2] }
  | _ => none }
def TableauRowsWrongFalsely : Prop := tableauRowsRow.holds Tryz.pinned (OpenSpec.ofChange tableauRowsWrong)

/-- 'fulcrumlaw07.TableauPivots': WHATEVER THE INPUT: true; the input reads as it did. -/
def tableauPivotsSpec : ChangeSpec := { name := "tableauPivots", fn := fun _ => fun
  | [d1, d2, d3] => { results := [.lit (.bool true)], args := [d1, d2, d3] }
  | _ => none }
def tableauPivotsRow : OpenClaim := { program := "ytjmpajgjaefcjaagreat", sum := "610f3bc8ca7077aa1253a9808d5a130b4b212f76381ba3d30af6c4de37f1e385", func := "fulcrum/fulcrumlaw07.TableauPivots", spec := "tableauPivots", unfollowed := true, recurses := true, named := ["math/bits.overflowError"], apart := false }
def TableauPivotsSaid : Prop := tableauPivotsRow.holds Tryz.pinned (OpenSpec.ofChange tableauPivotsSpec)

/-- ITS FALSE NEIGHBOUR: 'it returns false'. Refute it at one input. -/
def tableauPivotsWrong : ChangeSpec := { name := "tableauPivots", fn := fun _ => fun
  | [d1, d2, d3] => { results := [.lit (.bool false)], args := [d1, d2, d3] }
  | _ => none }
def TableauPivotsWrongFalsely : Prop := tableauPivotsRow.holds Tryz.pinned (OpenSpec.ofChange tableauPivotsWrong)

/-- 'fulcrumlaw07.TableauPlays': WHATEVER THE INPUT: true; the input reads as it did. -/
def tableauPlaysSpec : ChangeSpec := { name := "tableauPlays", fn := fun _ => fun
  | [d1, d2] => { results := [.lit (.bool true)], args := [d1, d2] }
  | _ => none }
def tableauPlaysRow : OpenClaim := { program := "ytjmpajgjaefcjaagreat", sum := "610f3bc8ca7077aa1253a9808d5a130b4b212f76381ba3d30af6c4de37f1e385", func := "fulcrum/fulcrumlaw07.TableauPlays", spec := "tableauPlays", unfollowed := true, recurses := true, named := ["math/bits.overflowError"], apart := false }
def TableauPlaysSaid : Prop := tableauPlaysRow.holds Tryz.pinned (OpenSpec.ofChange tableauPlaysSpec)

/-- ITS FALSE NEIGHBOUR: 'it returns false'. Refute it at one input. -/
def tableauPlaysWrong : ChangeSpec := { name := "tableauPlays", fn := fun _ => fun
  | [d1, d2] => { results := [.lit (.bool false)], args := [d1, d2] }
  | _ => none }
def TableauPlaysWrongFalsely : Prop := tableauPlaysRow.holds Tryz.pinned (OpenSpec.ofChange tableauPlaysWrong)

/-- 'fulcrumlaw07.TableauExtends': WHATEVER THE INPUT: true; the input reads as it did. -/
def tableauExtendsSpec : ChangeSpec := { name := "tableauExtends", fn := fun _ => fun
  | [d1, d2] => { results := [.lit (.bool true)], args := [d1, d2] }
  | _ => none }
def tableauExtendsRow : OpenClaim := { program := "ytjmpajgjaefcjaagreat", sum := "610f3bc8ca7077aa1253a9808d5a130b4b212f76381ba3d30af6c4de37f1e385", func := "fulcrum/fulcrumlaw07.TableauExtends", spec := "tableauExtends", unfollowed := true, recurses := true, named := ["math/bits.overflowError"], apart := false }
def TableauExtendsSaid : Prop := tableauExtendsRow.holds Tryz.pinned (OpenSpec.ofChange tableauExtendsSpec)

/-- ITS FALSE NEIGHBOUR: 'it returns false'. Refute it at one input. -/
def tableauExtendsWrong : ChangeSpec := { name := "tableauExtends", fn := fun _ => fun
  | [d1, d2] => { results := [.lit (.bool false)], args := [d1, d2] }
  | _ => none }
def TableauExtendsWrongFalsely : Prop := tableauExtendsRow.holds Tryz.pinned (OpenSpec.ofChange tableauExtendsWrong)

/-- 'fulcrumlaw07.TableauOwn': WHATEVER THE INPUT: true; the input reads as it did. -/
def tableauOwnSpec : ChangeSpec := { name := "tableauOwn", fn := fun _ => fun
  | [d1, d2, d3] => { results := [.lit (.bool true)], args := [d1, d2, d3] }
  | _ => none }
def tableauOwnRow : OpenClaim := { program := "ytjmpajgjaefcjaagreat", sum := "610f3bc8ca7077aa1253a9808d5a130b4b212f76381ba3d30af6c4de37f1e385", func := "fulcrum/fulcrumlaw07.TableauOwn", spec := "tableauOwn", unfollowed := true, recurses := true, named := ["math/bits.overflowError"], apart := false }
def TableauOwnSaid : Prop := tableauOwnRow.holds Tryz.pinned (OpenSpec.ofChange tableauOwnSpec)

/-- ITS FALSE NEIGHBOUR: 'it returns false'. Refute it at one input. -/
def tableauOwnWrong : ChangeSpec := { name := "tableauOwn", fn := fun _ => fun
  | [d1, d2, d3] => { results := [.lit (.bool false)], args := [d1, d2, d3] }
  | _ => none }
def TableauOwnWrongFalsely : Prop := tableauOwnRow.holds Tryz.pinned (OpenSpec.ofChange tableauOwnWrong)

/-- 'fulcrumlaw07.TableauOnly': WHATEVER THE INPUT: true; the input reads as it did. -/
def tableauOnlySpec : ChangeSpec := { name := "tableauOnly", fn := fun _ => fun
  | [d1, d2] => { results := [.lit (.bool true)], args := [d1, d2] }
  | _ => none }
def tableauOnlyRow : OpenClaim := { program := "ytjmpajgjaefcjaagreat", sum := "610f3bc8ca7077aa1253a9808d5a130b4b212f76381ba3d30af6c4de37f1e385", func := "fulcrum/fulcrumlaw07.TableauOnly", spec := "tableauOnly", unfollowed := true, recurses := true, named := ["math/bits.overflowError"], apart := false }
def TableauOnlySaid : Prop := tableauOnlyRow.holds Tryz.pinned (OpenSpec.ofChange tableauOnlySpec)

/-- ITS FALSE NEIGHBOUR: 'it returns false'. Refute it at one input. -/
def tableauOnlyWrong : ChangeSpec := { name := "tableauOnly", fn := fun _ => fun
  | [d1, d2] => { results := [.lit (.bool false)], args := [d1, d2] }
  | _ => none }
def TableauOnlyWrongFalsely : Prop := tableauOnlyRow.holds Tryz.pinned (OpenSpec.ofChange tableauOnlyWrong)

/-- 'fulcrumlaw07.TableauBack': WHATEVER THE INPUT: true; the input reads as it did. -/
def tableauBackSpec : ChangeSpec := { name := "tableauBack", fn := fun _ => fun
  | [d1, d2, d3] => { results := [.lit (.bool true)], args := [d1, d2, d3] }
  | _ => none }
def tableauBackRow : OpenClaim := { program := "ytjmpajgjaefcjaagreat", sum := "610f3bc8ca7077aa1253a9808d5a130b4b212f76381ba3d30af6c4de37f1e385", func := "fulcrum/fulcrumlaw07.TableauBack", spec := "tableauBack", unfollowed := true, recurses := true, named := ["math/bits.overflowError"], apart := false }
def TableauBackSaid : Prop := tableauBackRow.holds Tryz.pinned (OpenSpec.ofChange tableauBackSpec)

/-- ITS FALSE NEIGHBOUR: 'it returns false'. Refute it at one input. -/
def tableauBackWrong : ChangeSpec := { name := "tableauBack", fn := fun _ => fun
  | [d1, d2, d3] => { results := [.lit (.bool false)], args := [d1, d2, d3] }
  | _ => none }
def TableauBackWrongFalsely : Prop := tableauBackRow.holds Tryz.pinned (OpenSpec.ofChange tableauBackWrong)

/-- 'fulcrumlaw10.ImpliedTableaus': WHATEVER THE INPUT: true; the input reads as it did. -/
def impliedTableausSpec : ChangeSpec := { name := "impliedTableaus", fn := fun _ => fun
  | [d1, d2] => { results := [.lit (.bool true)], args := [d1, d2] }
  | _ => none }
def impliedTableausRow : OpenClaim := { program := "ytjmpajgjaefcjaagreat", sum := "610f3bc8ca7077aa1253a9808d5a130b4b212f76381ba3d30af6c4de37f1e385", func := "fulcrum/fulcrumlaw10.ImpliedTableaus", spec := "impliedTableaus", unfollowed := true, recurses := true, named := ["math/bits.overflowError"], apart := false }
def ImpliedTableausSaid : Prop := impliedTableausRow.holds Tryz.pinned (OpenSpec.ofChange impliedTableausSpec)

/-- ITS FALSE NEIGHBOUR: 'it returns false'. Refute it at one input. -/
def impliedTableausWrong : ChangeSpec := { name := "impliedTableaus", fn := fun _ => fun
  | [d1, d2] => { results := [.lit (.bool false)], args := [d1, d2] }
  | _ => none }
def ImpliedTableausWrongFalsely : Prop := impliedTableausRow.holds Tryz.pinned (OpenSpec.ofChange impliedTableausWrong)

/-- 'fulcrumlaw07.TableauEquivalent': WHATEVER THE INPUT: true; the input reads as it did. -/
def tableauEquivalentSpec : ChangeSpec := { name := "tableauEquivalent", fn := fun _ => fun
  | [d1, d2, d3] => { results := [.lit (.bool true)], args := [d1, d2, d3] }
  | _ => none }
def tableauEquivalentRow : OpenClaim := { program := "ytjmpajgjaefcjaagreat", sum := "610f3bc8ca7077aa1253a9808d5a130b4b212f76381ba3d30af6c4de37f1e385", func := "fulcrum/fulcrumlaw07.TableauEquivalent", spec := "tableauEquivalent", unfollowed := true, recurses := true, named := ["math/bits.overflowError"], apart := false }
def TableauEquivalentSaid : Prop := tableauEquivalentRow.holds Tryz.pinned (OpenSpec.ofChange tableauEquivalentSpec)

/-- ITS FALSE NEIGHBOUR: 'it returns false'. Refute it at one input. -/
def tableauEquivalentWrong : ChangeSpec := { name := "tableauEquivalent", fn := fun _ => fun
  | [d1, d2, d3] => { results := [.lit (.bool false)], args := [d1, d2, d3] }
  | _ => none }
def TableauEquivalentWrongFalsely : Prop := tableauEquivalentRow.holds Tryz.pinned (OpenSpec.ofChange tableauEquivalentWrong)

/- THE SECOND FORM. 'bulk': how many values and letters a reading holds, each counted each time it is reached (what is shared counts as often as it is met; a slice's spare places count too). A statement '..UptoSaid' is the law's where the arguments, and the package variables that the reading takes, are together of bulk at most 1048576: NARROWER than '..Said'. Prove '..Said' where nothing that the law and all that it calls make is longer than what came in: it says more and counts as full. Else prove '..UptoSaid'. A law counts once. -/
mutual
def uptoBulk {H : Type} : DataW H → Nat
  | .lit (.string bytes) => bytes.length + 1
  | .lit _ => 1
  | .nil => 1
  | .ptr d => uptoBulk d + 1
  | .slice elems spare => uptoBulkAll elems + uptoBulkAll spare + 1
  | .agg parts => uptoBulkAll parts + 1
  | .iface _ d => uptoBulk d + 1
  | .map entries => uptoBulkEntries entries + 1
  | .held _ => 1
def uptoBulkAll {H : Type} : List (DataW H) → Nat
  | [] => 0
  | d :: r => uptoBulk d + uptoBulkAll r
def uptoBulkEntries {H : Type} : List (Lit × DataW H) → Nat
  | [] => 0
  | x :: r => uptoBulkEntry x + uptoBulkEntries r
def uptoBulkEntry {H : Type} : Lit × DataW H → Nat
  | (.string bytes, d) => bytes.length + uptoBulk d + 1
  | (_, d) => uptoBulk d + 1
 end
def uptoSmall : (H : Type) → List (DataW H) → Bool := fun _ ds => decide (uptoBulkAll ds ≤ 1048576)
def OpenSpec.upto (s : _root_.Go.ChangeSpec) : _root_.Go.OpenSpec := { _root_.Go.OpenSpec.ofChange s with cond := some uptoSmall }

/-- 'fulcrumlaw07.TableauGrows', WHERE WHAT IT READS IS OF BULK AT MOST 1048576: true; the input reads as it did. -/
def tableauGrowsUptoRow : OpenClaim := { program := "ytjmpajgjaefcjaagreat", sum := "610f3bc8ca7077aa1253a9808d5a130b4b212f76381ba3d30af6c4de37f1e385", func := "fulcrum/fulcrumlaw07.TableauGrows", spec := "tableauGrows", unfollowed := true, recurses := true, named := ["math/bits.overflowError"], apart := false, narrowed := true }
def TableauGrowsUptoSaid : Prop := tableauGrowsUptoRow.holds Tryz.pinned (OpenSpec.upto tableauGrowsSpec)

/-- 'fulcrumlaw07.TableauExpresses', WHERE WHAT IT READS IS OF BULK AT MOST 1048576: true; the input reads as it did. -/
def tableauExpressesUptoRow : OpenClaim := { program := "ytjmpajgjaefcjaagreat", sum := "610f3bc8ca7077aa1253a9808d5a130b4b212f76381ba3d30af6c4de37f1e385", func := "fulcrum/fulcrumlaw07.TableauExpresses", spec := "tableauExpresses", unfollowed := true, recurses := true, named := ["math/bits.overflowError"], apart := false, narrowed := true }
def TableauExpressesUptoSaid : Prop := tableauExpressesUptoRow.holds Tryz.pinned (OpenSpec.upto tableauExpressesSpec)

/-- 'fulcrumlaw07.TableauChecks', WHERE WHAT IT READS IS OF BULK AT MOST 1048576: true; the input reads as it did. -/
def tableauChecksUptoRow : OpenClaim := { program := "ytjmpajgjaefcjaagreat", sum := "610f3bc8ca7077aa1253a9808d5a130b4b212f76381ba3d30af6c4de37f1e385", func := "fulcrum/fulcrumlaw07.TableauChecks", spec := "tableauChecks", unfollowed := true, recurses := true, named := ["math/bits.overflowError"], apart := false, narrowed := true }
def TableauChecksUptoSaid : Prop := tableauChecksUptoRow.holds Tryz.pinned (OpenSpec.upto tableauChecksSpec)

/-- 'fulcrumlaw07.TableauSays', WHERE WHAT IT READS IS OF BULK AT MOST 1048576: true; the input reads as it did. -/
def tableauSaysUptoRow : OpenClaim := { program := "ytjmpajgjaefcjaagreat", sum := "610f3bc8ca7077aa1253a9808d5a130b4b212f76381ba3d30af6c4de37f1e385", func := "fulcrum/fulcrumlaw07.TableauSays", spec := "tableauSays", unfollowed := true, recurses := true, named := ["math/bits.overflowError"], apart := false, narrowed := true }
def TableauSaysUptoSaid : Prop := tableauSaysUptoRow.holds Tryz.pinned (OpenSpec.upto tableauSaysSpec)

/-- 'fulcrumlaw07.TableauSames', WHERE WHAT IT READS IS OF BULK AT MOST 1048576: true; the input reads as it did. -/
def tableauSamesUptoRow : OpenClaim := { program := "ytjmpajgjaefcjaagreat", sum := "610f3bc8ca7077aa1253a9808d5a130b4b212f76381ba3d30af6c4de37f1e385", func := "fulcrum/fulcrumlaw07.TableauSames", spec := "tableauSames", unfollowed := true, recurses := true, named := ["math/bits.overflowError"], apart := false, narrowed := true }
def TableauSamesUptoSaid : Prop := tableauSamesUptoRow.holds Tryz.pinned (OpenSpec.upto tableauSamesSpec)

/-- 'fulcrumlaw07.TableauRows', WHERE WHAT IT READS IS OF BULK AT MOST 1048576: true; the input reads as it did. -/
def tableauRowsUptoRow : OpenClaim := { program := "ytjmpajgjaefcjaagreat", sum := "610f3bc8ca7077aa1253a9808d5a130b4b212f76381ba3d30af6c4de37f1e385", func := "fulcrum/fulcrumlaw07.TableauRows", spec := "tableauRows", unfollowed := true, recurses := true, named := ["math/bits.overflowError"], apart := false, narrowed := true }
def TableauRowsUptoSaid : Prop := tableauRowsUptoRow.holds Tryz.pinned (OpenSpec.upto tableauRowsSpec)

/-- 'fulcrumlaw07.TableauPivots', WHERE WHAT IT READS IS OF BULK AT MOST 1048576: true; the input reads as it did. -/
def tableauPivotsUptoRow : OpenClaim := { program := "ytjmpajgjaefcjaagreat", sum := "610f3bc8ca7077aa1253a9808d5a130b4b212f76381ba3d30af6c4de37f1e385", func := "fulcrum/fulcrumlaw07.TableauPivots", spec := "tableauPivots", unfollowed := true, recurses := true, named := ["math/bits.overflowError"], apart := false, narrowed := true }
def TableauPivotsUptoSaid : Prop := tableauPivotsUptoRow.holds Tryz.pinned (OpenSpec.upto tableauPivotsSpec)

/-- 'fulcrumlaw07.TableauPlays', WHERE WHAT IT READS IS OF BULK AT MOST 1048576: true; the input reads as it did. -/
def tableauPlaysUptoRow : OpenClaim := { program := "ytjmpajgjaefcjaagreat", sum := "610f3bc8ca7077aa1253a9808d5a130b4b212f76381ba3d30af6c4de37f1e385", func := "fulcrum/fulcrumlaw07.TableauPlays", spec := "tableauPlays", unfollowed := true, recurses := true, named := ["math/bits.overflowError"], apart := false, narrowed := true }
def TableauPlaysUptoSaid : Prop := tableauPlaysUptoRow.holds Tryz.pinned (OpenSpec.upto tableauPlaysSpec)

/-- 'fulcrumlaw07.TableauExtends', WHERE WHAT IT READS IS OF BULK AT MOST 1048576: true; the input reads as it did. -/
def tableauExtendsUptoRow : OpenClaim := { program := "ytjmpajgjaefcjaagreat", sum := "610f3bc8ca7077aa1253a9808d5a130b4b212f76381ba3d30af6c4de37f1e385", func := "fulcrum/fulcrumlaw07.TableauExtends", spec := "tableauExtends", unfollowed := true, recurses := true, named := ["math/bits.overflowError"], apart := false, narrowed := true }
def TableauExtendsUptoSaid : Prop := tableauExtendsUptoRow.holds Tryz.pinned (OpenSpec.upto tableauExtendsSpec)

/-- 'fulcrumlaw07.TableauOwn', WHERE WHAT IT READS IS OF BULK AT MOST 1048576: true; the input reads as it did. -/
def tableauOwnUptoRow : OpenClaim := { program := "ytjmpajgjaefcjaagreat", sum := "610f3bc8ca7077aa1253a9808d5a130b4b212f76381ba3d30af6c4de37f1e385", func := "fulcrum/fulcrumlaw07.TableauOwn", spec := "tableauOwn", unfollowed := true, recurses := true, named := ["math/bits.overflowError"], apart := false, narrowed := true }
def TableauOwnUptoSaid : Prop := tableauOwnUptoRow.holds Tryz.pinned (OpenSpec.upto tableauOwnSpec)

/-- 'fulcrumlaw07.TableauOnly', WHERE WHAT IT READS IS OF BULK AT MOST 1048576: true; the input reads as it did. -/
def tableauOnlyUptoRow : OpenClaim := { program := "ytjmpajgjaefcjaagreat", sum := "610f3bc8ca7077aa1253a9808d5a130b4b212f76381ba3d30af6c4de37f1e385", func := "fulcrum/fulcrumlaw07.TableauOnly", spec := "tableauOnly", unfollowed := true, recurses := true, named := ["math/bits.overflowError"], apart := false, narrowed := true }
def TableauOnlyUptoSaid : Prop := tableauOnlyUptoRow.holds Tryz.pinned (OpenSpec.upto tableauOnlySpec)

/-- 'fulcrumlaw07.TableauBack', WHERE WHAT IT READS IS OF BULK AT MOST 1048576: true; the input reads as it did. -/
def tableauBackUptoRow : OpenClaim := { program := "ytjmpajgjaefcjaagreat", sum := "610f3bc8ca7077aa1253a9808d5a130b4b212f76381ba3d30af6c4de37f1e385", func := "fulcrum/fulcrumlaw07.TableauBack", spec := "tableauBack", unfollowed := true, recurses := true, named := ["math/bits.overflowError"], apart := false, narrowed := true }
def TableauBackUptoSaid : Prop := tableauBackUptoRow.holds Tryz.pinned (OpenSpec.upto tableauBackSpec)

/-- 'fulcrumlaw10.ImpliedTableaus', WHERE WHAT IT READS IS OF BULK AT MOST 1048576: true; the input reads as it did. -/
def impliedTableausUptoRow : OpenClaim := { program := "ytjmpajgjaefcjaagreat", sum := "610f3bc8ca7077aa1253a9808d5a130b4b212f76381ba3d30af6c4de37f1e385", func := "fulcrum/fulcrumlaw10.ImpliedTableaus", spec := "impliedTableaus", unfollowed := true, recurses := true, named := ["math/bits.overflowError"], apart := false, narrowed := true }
def ImpliedTableausUptoSaid : Prop := impliedTableausUptoRow.holds Tryz.pinned (OpenSpec.upto impliedTableausSpec)

/-- 'fulcrumlaw07.TableauEquivalent', WHERE WHAT IT READS IS OF BULK AT MOST 1048576: true; the input reads as it did. -/
def tableauEquivalentUptoRow : OpenClaim := { program := "ytjmpajgjaefcjaagreat", sum := "610f3bc8ca7077aa1253a9808d5a130b4b212f76381ba3d30af6c4de37f1e385", func := "fulcrum/fulcrumlaw07.TableauEquivalent", spec := "tableauEquivalent", unfollowed := true, recurses := true, named := ["math/bits.overflowError"], apart := false, narrowed := true }
def TableauEquivalentUptoSaid : Prop := tableauEquivalentUptoRow.holds Tryz.pinned (OpenSpec.upto tableauEquivalentSpec)

end Rows
end Go.Proofs.YtjmpajgjaefcjaaGreat
