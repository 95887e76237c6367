/-
  No cell of these rows narrows 'for every input' (looked for: loops, veiled, ifaces, maps, wideKeys, modest, calm, conditions, laid).
  DERIVED. THE GIVEN ROWS OF THIS SEAT. 7 by the template 'for every input the law returns true; each argument reads behind the call as it read before'; 0 by the template 'total and deterministic' (their statements: YtjmkfbhecgkbmaaGreatTotals.lean).
  GIVEN WITH THE SEED: the statements are not yours to turn. If you find one false, say at which input.
  Laid BY PROGRAM, IN A SANDBOX (cutbox-rows.mjs): the forced cells as the released guide's own fill.sh prints them over the translation 4069e93bf1b0f03e… (all of the seat's roots in one cut). By AI agents, Wed Nov 11 2026. No macro, syntax, notation, axiom, sorry.
-/
import Derived.Test.YtjmkfbhecgkbmaaGreatChecked
import GoSem.Claim
import GoSem.ClaimJoined
import GoSem.ClaimMapViews
import Derived.JoinedTies
import Derived.KernelRfl
namespace Go.Proofs.YtjmkfbhecgkbmaaGreat
/- THE CELL 'sum', in the pinned program and in every row, IS THE sha256 OF THE DUMP (.gsa) THAT YtjmkfbhecgkbmaaGreatProg.lean LOADS. Nothing in Lean hashes anything: it is a label: what it is worth is what the hold of that sum in a sandbox is worth. -/
noncomputable def Tryz.pinned : Pinned := { name := "ytjmkfbhecgkbmaagreat", sum := "4069e93bf1b0f03e7d25d35e420ab7a43ea7e6e177343275fd3665a1594a1824", checked := Tryz.checked }
namespace Rows
def none {H : Type} : Left H := { results := [], args := [] }

/-- 'fulcrumlaw09.SimplexConsts': WHATEVER THE INPUT: true; the input reads as it did. -/
def simplexConstsSpec : ChangeSpec := { name := "simplexConsts", fn := fun _ => fun
  | [] => { results := [.lit (.bool true)], args := [] }
  | _ => none }
def simplexConstsRow : OpenClaim := { program := "ytjmkfbhecgkbmaagreat", sum := "4069e93bf1b0f03e7d25d35e420ab7a43ea7e6e177343275fd3665a1594a1824", func := "fulcrum/fulcrumlaw09.SimplexConsts", spec := "simplexConsts", unfollowed := true, recurses := true, named := ["math/bits.overflowError"], apart := false }
def SimplexConstsSaid : Prop := simplexConstsRow.holds Tryz.pinned (OpenSpec.ofChange simplexConstsSpec)

/-- ITS FALSE NEIGHBOUR: 'it returns false'. Refute it at one input. -/
def simplexConstsWrong : ChangeSpec := { name := "simplexConsts", fn := fun _ => fun
  | [] => { results := [.lit (.bool false)], args := [] }
  | _ => none }
def SimplexConstsWrongFalsely : Prop := simplexConstsRow.holds Tryz.pinned (OpenSpec.ofChange simplexConstsWrong)

/-- 'fulcrumlaw09.SimplexFarkas': WHATEVER THE INPUT: true; the input reads as it did. -/
def simplexFarkasSpec : ChangeSpec := { name := "simplexFarkas", fn := fun _ => fun
  | [d] => { results := [.lit (.bool true)], args := [d] }
  | _ => none }
def simplexFarkasRow : OpenClaim := { program := "ytjmkfbhecgkbmaagreat", sum := "4069e93bf1b0f03e7d25d35e420ab7a43ea7e6e177343275fd3665a1594a1824", func := "fulcrum/fulcrumlaw09.SimplexFarkas", spec := "simplexFarkas", unfollowed := true, recurses := true, named := ["math/bits.overflowError"], apart := false }
def SimplexFarkasSaid : Prop := simplexFarkasRow.holds Tryz.pinned (OpenSpec.ofChange simplexFarkasSpec)

/-- ITS FALSE NEIGHBOUR: 'it returns false'. Refute it at one input. -/
def simplexFarkasWrong : ChangeSpec := { name := "simplexFarkas", fn := fun _ => fun
  | [d] => { results := [.lit (.bool false)], args := [d] }
  | _ => none }
def SimplexFarkasWrongFalsely : Prop := simplexFarkasRow.holds Tryz.pinned (OpenSpec.ofChange simplexFarkasWrong)

/-- 'fulcrumlaw09.SimplexSettled': WHATEVER THE INPUT: true; the input reads as it did. -/
def simplexSettledSpec : ChangeSpec := { name := "simplexSettled", fn := fun _ => fun
  | [d] => { results := [.lit (.bool true)], args := [d] }
  | _ => none }
def simplexSettledRow : OpenClaim := { program := "ytjmkfbhecgkbmaagreat", sum := "4069e93bf1b0f03e7d25d35e420ab7a43ea7e6e177343275fd3665a1594a1824", func := "fulcrum/fulcrumlaw09.SimplexSettled", spec := "simplexSettled", unfollowed := true, recurses := true, named := ["math/bits.overflowError"], apart := false }
def SimplexSettledSaid : Prop := simplexSettledRow.holds Tryz.pinned (OpenSpec.ofChange simplexSettledSpec)

/-- ITS FALSE NEIGHBOUR: 'it returns false'. Refute it at one input. -/
def simplexSettledWrong : ChangeSpec := { name := "simplexSettled", fn := fun _ => fun
  | [d] => { results := [.lit (.bool false)], args := [d] }
  | _ => none }
def SimplexSettledWrongFalsely : Prop := simplexSettledRow.holds Tryz.pinned (OpenSpec.ofChange simplexSettledWrong)

/-- 'fulcrumlaw09.SimplexModels': WHATEVER THE INPUT: true; the input reads as it did. -/
def simplexModelsSpec : ChangeSpec := { name := "simplexModels", fn := fun _ => fun
  | [d] => { results := [.lit (.bool true)], args := [d] }
  | _ => none }
def simplexModelsRow : OpenClaim := { program := "ytjmkfbhecgkbmaagreat", sum := "4069e93bf1b0f03e7d25d35e420ab7a43ea7e6e177343275fd3665a1594a1824", func := "fulcrum/fulcrumlaw09.SimplexModels", spec := "simplexModels", unfollowed := true, recurses := true, named := ["math/bits.overflowError"], apart := false }
def SimplexModelsSaid : Prop := simplexModelsRow.holds Tryz.pinned (OpenSpec.ofChange simplexModelsSpec)

/-- ITS FALSE NEIGHBOUR: 'it returns false'. Refute it at one input. -/
def simplexModelsWrong : ChangeSpec := { name := "simplexModels", fn := fun _ => fun
  | [d] => { results := [.lit (.bool false)], args := [d] }
  | _ => none }
def SimplexModelsWrongFalsely : Prop := simplexModelsRow.holds Tryz.pinned (OpenSpec.ofChange simplexModelsWrong)

/-- 'fulcrumlaw09.SimplexPlays': WHATEVER THE INPUT: true; the input reads as it did. -/
def simplexPlaysSpec : ChangeSpec := { name := "simplexPlays", fn := fun _ => fun
  | [d] => { results := [.lit (.bool true)], args := [d] }
  | _ => none }
def simplexPlaysRow : OpenClaim := { program := "ytjmkfbhecgkbmaagreat", sum := "4069e93bf1b0f03e7d25d35e420ab7a43ea7e6e177343275fd3665a1594a1824", func := "fulcrum/fulcrumlaw09.SimplexPlays", spec := "simplexPlays", unfollowed := true, recurses := true, named := ["math/bits.overflowError"], apart := false }
def SimplexPlaysSaid : Prop := simplexPlaysRow.holds Tryz.pinned (OpenSpec.ofChange simplexPlaysSpec)

/-- ITS FALSE NEIGHBOUR: 'it returns false'. Refute it at one input. -/
def simplexPlaysWrong : ChangeSpec := { name := "simplexPlays", fn := fun _ => fun
  | [d] => { results := [.lit (.bool false)], args := [d] }
  | _ => none }
def SimplexPlaysWrongFalsely : Prop := simplexPlaysRow.holds Tryz.pinned (OpenSpec.ofChange simplexPlaysWrong)

/-- 'fulcrumlaw09.SimplexApart': WHATEVER THE INPUT: true; the input reads as it did. -/
def simplexApartSpec : ChangeSpec := { name := "simplexApart", fn := fun _ => fun
  | [d1, d2] => { results := [.lit (.bool true)], args := [d1, d2] }
  | _ => none }
def simplexApartRow : OpenClaim := { program := "ytjmkfbhecgkbmaagreat", sum := "4069e93bf1b0f03e7d25d35e420ab7a43ea7e6e177343275fd3665a1594a1824", func := "fulcrum/fulcrumlaw09.SimplexApart", spec := "simplexApart", unfollowed := true, recurses := true, named := ["math/bits.overflowError"], apart := false }
def SimplexApartSaid : Prop := simplexApartRow.holds Tryz.pinned (OpenSpec.ofChange simplexApartSpec)

/-- ITS FALSE NEIGHBOUR: 'it returns false'. Refute it at one input. -/
def simplexApartWrong : ChangeSpec := { name := "simplexApart", fn := fun _ => fun
  | [d1, d2] => { results := [.lit (.bool false)], args := [d1, d2] }
  | _ => none }
def SimplexApartWrongFalsely : Prop := simplexApartRow.holds Tryz.pinned (OpenSpec.ofChange simplexApartWrong)

/-- 'fulcrumlaw09.SimplexOwn': WHATEVER THE INPUT: true; the input reads as it did. -/
def simplexOwnSpec : ChangeSpec := { name := "simplexOwn", fn := fun _ => fun
  | [d1, d2, d3] => { results := [.lit (.bool true)], args := [d1, d2, d3] }
  | _ => none }
def simplexOwnRow : OpenClaim := { program := "ytjmkfbhecgkbmaagreat", sum := "4069e93bf1b0f03e7d25d35e420ab7a43ea7e6e177343275fd3665a1594a1824", func := "fulcrum/fulcrumlaw09.SimplexOwn", spec := "simplexOwn", unfollowed := true, recurses := true, named := ["math/bits.overflowError"], apart := false }
def SimplexOwnSaid : Prop := simplexOwnRow.holds Tryz.pinned (OpenSpec.ofChange simplexOwnSpec)

/-- ITS FALSE NEIGHBOUR: 'it returns false'. Refute it at one input. -/
def simplexOwnWrong : ChangeSpec := { name := "simplexOwn", fn := fun _ => fun
  | [d1, d2, d3] => { results := [.lit (.bool false)], args := [d1, d2, d3] }
  | _ => none }
def SimplexOwnWrongFalsely : Prop := simplexOwnRow.holds Tryz.pinned (OpenSpec.ofChange simplexOwnWrong)

/- THE SECOND FORM. 'bulk': how many values and letters a reading holds, each counted each time it is reached (what is shared counts as often as it is met; a slice's spare places count too). A statement '..UptoSaid' is the law's where the arguments, and the package variables that the reading takes, are together of bulk at most 1048576: NARROWER than '..Said'. Prove '..Said' where nothing that the law and all that it calls make is longer than what came in: it says more and counts as full. Else prove '..UptoSaid'. A law counts once. -/
mutual
def uptoBulk {H : Type} : DataW H → Nat
  | .lit (.string bytes) => bytes.length + 1
  | .lit _ => 1
  | .nil => 1
  | .ptr d => uptoBulk d + 1
  | .slice elems spare => uptoBulkAll elems + uptoBulkAll spare + 1
  | .agg parts => uptoBulkAll parts + 1
  | .iface _ d => uptoBulk d + 1
  | .map entries => uptoBulkEntries entries + 1
  | .held _ => 1
def uptoBulkAll {H : Type} : List (DataW H) → Nat
  | [] => 0
  | d :: r => uptoBulk d + uptoBulkAll r
def uptoBulkEntries {H : Type} : List (Lit × DataW H) → Nat
  | [] => 0
  | x :: r => uptoBulkEntry x + uptoBulkEntries r
def uptoBulkEntry {H : Type} : Lit × DataW H → Nat
  | (.string bytes, d) => bytes.length + uptoBulk d + 1
  | (_, d) => uptoBulk d + 1
 end
def uptoSmall : (H : Type) → List (DataW H) → Bool := fun _ ds => decide (uptoBulkAll ds ≤ 1048576)
def OpenSpec.upto (s : _root_.Go.ChangeSpec) : _root_.Go.OpenSpec := { _root_.Go.OpenSpec.ofChange s with cond := some uptoSmall }

/-- 'fulcrumlaw09.SimplexConsts', WHERE WHAT IT READS IS OF BULK AT MOST 1048576: true; the input reads as it did. -/
def simplexConstsUptoRow : OpenClaim := { program := "ytjmkfbhecgkbmaagreat", sum := "4069e93bf1b0f03e7d25d35e420ab7a43ea7e6e177343275fd3665a1594a1824", func := "fulcrum/fulcrumlaw09.SimplexConsts", spec := "simplexConsts", unfollowed := true, recurses := true, named := ["math/bits.overflowError"], apart := false, narrowed := true }
def SimplexConstsUptoSaid : Prop := simplexConstsUptoRow.holds Tryz.pinned (OpenSpec.upto simplexConstsSpec)

/-- 'fulcrumlaw09.SimplexFarkas', WHERE WHAT IT READS IS OF BULK AT MOST 1048576: true; the input reads as it did. -/
def simplexFarkasUptoRow : OpenClaim := { program := "ytjmkfbhecgkbmaagreat", sum := "4069e93bf1b0f03e7d25d35e420ab7a43ea7e6e177343275fd3665a1594a1824", func := "fulcrum/fulcrumlaw09.SimplexFarkas", spec := "simplexFarkas", unfollowed := true, recurses := true, named := ["math/bits.overflowError"], apart := false, narrowed := true }
def SimplexFarkasUptoSaid : Prop := simplexFarkasUptoRow.holds Tryz.pinned (OpenSpec.upto simplexFarkasSpec)

/-- 'fulcrumlaw09.SimplexSettled', WHERE WHAT IT READS IS OF BULK AT MOST 1048576: true; the input reads as it did. -/
def simplexSettledUptoRow : OpenClaim := { program := "ytjmkfbhecgkbmaagreat", sum := "4069e93bf1b0f03e7d25d35e420ab7a43ea7e6e177343275fd3665a1594a1824", func := "fulcrum/fulcrumlaw09.SimplexSettled", spec := "simplexSettled", unfollowed := true, recurses := true, named := ["math/bits.overflowError"], apart := false, narrowed := true }
def SimplexSettledUptoSaid : Prop := simplexSettledUptoRow.holds Tryz.pinned (OpenSpec.upto simplexSettledSpec)

/-- 'fulcrumlaw09.SimplexModels', WHERE WHAT IT READS IS OF BULK AT MOST 1048576: true; the input reads as it did. -/
def simplexModelsUptoRow : OpenClaim := { program := "ytjmkfbhecgkbmaagreat", sum := "4069e93bf1b0f03e7d25d35e420ab7a43ea7e6e177343275fd3665a1594a1824", func := "fulcrum/fulcrumlaw09.SimplexModels", spec := "simplexModels", unfollowed := true, recurses := true, named := ["math/bits.overflowError"], apart := false, narrowed := true }
def SimplexModelsUptoSaid : Prop := simplexModelsUptoRow.holds Tryz.pinned (OpenSpec.upto simplexModelsSpec)

/-- 'fulcrumlaw09.SimplexPlays', WHERE WHAT IT READS IS OF BULK AT MOST 1048576: true; the input reads as it did. -/
def simplexPlaysUptoRow : OpenClaim := { program := "ytjmkfbhecgkbmaagreat", sum := "4069e93bf1b0f03e7d25d35e420ab7a43ea7e6e177343275fd3665a1594a1824", func := "fulcrum/fulcrumlaw09.SimplexPlays", spec := "simplexPlays", unfollowed := true, recurses := true, named := ["math/bits.overflowError"], apart := false, narrowed := true }
def SimplexPlaysUptoSaid : Prop := simplexPlaysUptoRow.holds Tryz.pinned (OpenSpec.upto simplexPlaysSpec)

/-- 'fulcrumlaw09.SimplexApart', WHERE WHAT IT READS IS OF BULK AT MOST 1048576: true; the input reads as it did. -/
def simplexApartUptoRow : OpenClaim := { program := "ytjmkfbhecgkbmaagreat", sum := "4069e93bf1b0f03e7d25d35e420ab7a43ea7e6e177343275fd3665a1594a1824", func := "fulcrum/fulcrumlaw09.SimplexApart", spec := "simplexApart", unfollowed := true, recurses := true, named := ["math/bits.overflowError"], apart := false, narrowed := true }
def SimplexApartUptoSaid : Prop := simplexApartUptoRow.holds Tryz.pinned (OpenSpec.upto simplexApartSpec)

/-- 'fulcrumlaw09.SimplexOwn', WHERE WHAT IT READS IS OF BULK AT MOST 1048576: true; the input reads as it did. -/
def simplexOwnUptoRow : OpenClaim := { program := "ytjmkfbhecgkbmaagreat", sum := "4069e93bf1b0f03e7d25d35e420ab7a43ea7e6e177343275fd3665a1594a1824", func := "fulcrum/fulcrumlaw09.SimplexOwn", spec := "simplexOwn", unfollowed := true, recurses := true, named := ["math/bits.overflowError"], apart := false, narrowed := true }
def SimplexOwnUptoSaid : Prop := simplexOwnUptoRow.holds Tryz.pinned (OpenSpec.upto simplexOwnSpec)

end Rows
end Go.Proofs.YtjmkfbhecgkbmaaGreat
