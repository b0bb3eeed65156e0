/-
  No cell of these rows narrows 'for every input' (looked for: loops, veiled, ifaces, maps, wideKeys, modest, calm, conditions, laid).
  DERIVED. THE GIVEN ROWS OF THIS SEAT. 6 by the template 'for every input the law returns true; each argument reads behind the call as it read before'; 0 by the template 'total and deterministic' (their statements: YtdihefgleefhmaaTotals.lean).
  GIVEN WITH THE SEED: the statements are not yours to turn. If you find one false, say at which input.
  Laid BY PROGRAM, IN A SANDBOX (cutbox-rows.mjs): the forced cells as the released guide's own fill.sh prints them over the translation 14041a75787f9135… (all of the seat's roots in one cut). By AI agents, Wed Nov 11 2026. No macro, syntax, notation, axiom, sorry.
-/
import Derived.Test.YtdihefgleefhmaaChecked
import GoSem.Claim
import GoSem.ClaimJoined
import GoSem.ClaimMapViews
import Derived.JoinedTies
import Derived.KernelRfl
namespace Go.Proofs.Ytdihefgleefhmaa
/- THE CELL 'sum', in the pinned program and in every row, IS THE sha256 OF THE DUMP (.gsa) THAT YtdihefgleefhmaaProg.lean LOADS. Nothing in Lean hashes anything: it is a label: what it is worth is what the hold of that sum in a sandbox is worth. -/
noncomputable def Try.pinned : Pinned := { name := "ytdihefgleefhmaa", sum := "14041a75787f913514f3df3ec1ea7f9fec12b599dbc7daca948dd66f854660df", checked := Try.checked }
namespace Rows
def none {H : Type} : Left H := { results := [], args := [] }

/-- 'isohyetlaw21.GridChecks': WHATEVER THE INPUT: true; the input reads as it did. -/
def gridChecksSpec : ChangeSpec := { name := "gridChecks", fn := fun _ => fun
  | [d] => { results := [.lit (.bool true)], args := [d] }
  | _ => none }
def gridChecksRow : OpenClaim := { program := "ytdihefgleefhmaa", sum := "14041a75787f913514f3df3ec1ea7f9fec12b599dbc7daca948dd66f854660df", func := "isohyet/isohyetlaw21.GridChecks", spec := "gridChecks", plainKeys := false, apart := false }
def GridChecksSaid : Prop := gridChecksRow.holds Try.pinned (OpenSpec.ofChange gridChecksSpec)

/-- ITS FALSE NEIGHBOUR: 'it returns false'. Refute it at one input. -/
def gridChecksWrong : ChangeSpec := { name := "gridChecks", fn := fun _ => fun
  | [d] => { results := [.lit (.bool false)], args := [d] }
  | _ => none }
def GridChecksWrongFalsely : Prop := gridChecksRow.holds Try.pinned (OpenSpec.ofChange gridChecksWrong)

/-- 'isohyetlaw21.GridArounds': WHATEVER THE INPUT: true; the input reads as it did. -/
def gridAroundsSpec : ChangeSpec := { name := "gridArounds", fn := fun _ => fun
  | [d1, d2] => { results := [.lit (.bool true)], args := [d1, d2] }
  | _ => none }
def gridAroundsRow : OpenClaim := { program := "ytdihefgleefhmaa", sum := "14041a75787f913514f3df3ec1ea7f9fec12b599dbc7daca948dd66f854660df", func := "isohyet/isohyetlaw21.GridArounds", spec := "gridArounds", plainKeys := false, apart := false }
def GridAroundsSaid : Prop := gridAroundsRow.holds Try.pinned (OpenSpec.ofChange gridAroundsSpec)

/-- ITS FALSE NEIGHBOUR: 'it returns false'. Refute it at one input. -/
def gridAroundsWrong : ChangeSpec := { name := "gridArounds", fn := fun _ => fun
  | [d1, d2] => { results := [.lit (.bool false)], args := [d1, d2] }
  | _ => none }
def GridAroundsWrongFalsely : Prop := gridAroundsRow.holds Try.pinned (OpenSpec.ofChange gridAroundsWrong)

/-- 'isohyetlaw21.GridNodes': WHATEVER THE INPUT: true; the input reads as it did. -/
def gridNodesSpec : ChangeSpec := { name := "gridNodes", fn := fun _ => fun
  | [d1, d2, d3] => { results := [.lit (.bool true)], args := [d1, d2, d3] }
  | _ => none }
def gridNodesRow : OpenClaim := { program := "ytdihefgleefhmaa", sum := "14041a75787f913514f3df3ec1ea7f9fec12b599dbc7daca948dd66f854660df", func := "isohyet/isohyetlaw21.GridNodes", spec := "gridNodes", unfollowed := true, recurses := true, plainKeys := false, apart := false }
def GridNodesSaid : Prop := gridNodesRow.holds Try.pinned (OpenSpec.ofChange gridNodesSpec)

/-- ITS FALSE NEIGHBOUR: 'it returns false'. Refute it at one input. -/
def gridNodesWrong : ChangeSpec := { name := "gridNodes", fn := fun _ => fun
  | [d1, d2, d3] => { results := [.lit (.bool false)], args := [d1, d2, d3] }
  | _ => none }
def GridNodesWrongFalsely : Prop := gridNodesRow.holds Try.pinned (OpenSpec.ofChange gridNodesWrong)

/-- 'isohyetlaw12.GrowBuilds': WHATEVER THE INPUT: true; the input reads as it did. -/
def growBuildsSpec : ChangeSpec := { name := "growBuilds", fn := fun _ => fun
  | [d] => { results := [.lit (.bool true)], args := [d] }
  | _ => none }
def growBuildsRow : OpenClaim := { program := "ytdihefgleefhmaa", sum := "14041a75787f913514f3df3ec1ea7f9fec12b599dbc7daca948dd66f854660df", func := "isohyet/isohyetlaw12.GrowBuilds", spec := "growBuilds", inPlace := ["math/bits.Add64", "math/bits.Sub64"], unfollowed := true, recurses := true, plainKeys := false, apart := false }
def GrowBuildsSaid : Prop := growBuildsRow.holds Try.pinned (OpenSpec.ofChange growBuildsSpec)

/-- ITS FALSE NEIGHBOUR: 'it returns false'. Refute it at one input. -/
def growBuildsWrong : ChangeSpec := { name := "growBuilds", fn := fun _ => fun
  | [d] => { results := [.lit (.bool false)], args := [d] }
  | _ => none }
def GrowBuildsWrongFalsely : Prop := growBuildsRow.holds Try.pinned (OpenSpec.ofChange growBuildsWrong)

/-- 'isohyetlaw12.GrowOrders': WHATEVER THE INPUT: true; the input reads as it did. -/
def growOrdersSpec : ChangeSpec := { name := "growOrders", fn := fun _ => fun
  | [d1, d2] => { results := [.lit (.bool true)], args := [d1, d2] }
  | _ => none }
def growOrdersRow : OpenClaim := { program := "ytdihefgleefhmaa", sum := "14041a75787f913514f3df3ec1ea7f9fec12b599dbc7daca948dd66f854660df", func := "isohyet/isohyetlaw12.GrowOrders", spec := "growOrders", inPlace := ["math/bits.Add64", "math/bits.Sub64"], unfollowed := true, recurses := true, plainKeys := false, apart := false }
def GrowOrdersSaid : Prop := growOrdersRow.holds Try.pinned (OpenSpec.ofChange growOrdersSpec)

/-- ITS FALSE NEIGHBOUR: 'it returns false'. Refute it at one input. -/
def growOrdersWrong : ChangeSpec := { name := "growOrders", fn := fun _ => fun
  | [d1, d2] => { results := [.lit (.bool false)], args := [d1, d2] }
  | _ => none }
def GrowOrdersWrongFalsely : Prop := growOrdersRow.holds Try.pinned (OpenSpec.ofChange growOrdersWrong)

/-- 'isohyetlaw12.GrowBases': WHATEVER THE INPUT: true; the input reads as it did. -/
def growBasesSpec : ChangeSpec := { name := "growBases", fn := fun _ => fun
  | [d] => { results := [.lit (.bool true)], args := [d] }
  | _ => none }
def growBasesRow : OpenClaim := { program := "ytdihefgleefhmaa", sum := "14041a75787f913514f3df3ec1ea7f9fec12b599dbc7daca948dd66f854660df", func := "isohyet/isohyetlaw12.GrowBases", spec := "growBases", inPlace := ["math/bits.Add64", "math/bits.Sub64"], unfollowed := true, recurses := true, plainKeys := false, apart := false }
def GrowBasesSaid : Prop := growBasesRow.holds Try.pinned (OpenSpec.ofChange growBasesSpec)

/-- ITS FALSE NEIGHBOUR: 'it returns false'. Refute it at one input. -/
def growBasesWrong : ChangeSpec := { name := "growBases", fn := fun _ => fun
  | [d] => { results := [.lit (.bool false)], args := [d] }
  | _ => none }
def GrowBasesWrongFalsely : Prop := growBasesRow.holds Try.pinned (OpenSpec.ofChange growBasesWrong)

/- THE SECOND FORM. 'bulk': how many values and letters a reading holds, each counted each time it is reached (what is shared counts as often as it is met; a slice's spare places count too). A statement '..UptoSaid' is the law's where the arguments, and the package variables that the reading takes, are together of bulk at most 1048576: NARROWER than '..Said'. Prove '..Said' where nothing that the law and all that it calls make is longer than what came in: it says more and counts as full. Else prove '..UptoSaid'. A law counts once. -/
mutual
def uptoBulk {H : Type} : DataW H → Nat
  | .lit (.string bytes) => bytes.length + 1
  | .lit _ => 1
  | .nil => 1
  | .ptr d => uptoBulk d + 1
  | .slice elems spare => uptoBulkAll elems + uptoBulkAll spare + 1
  | .agg parts => uptoBulkAll parts + 1
  | .iface _ d => uptoBulk d + 1
  | .map entries => uptoBulkEntries entries + 1
  | .held _ => 1
def uptoBulkAll {H : Type} : List (DataW H) → Nat
  | [] => 0
  | d :: r => uptoBulk d + uptoBulkAll r
def uptoBulkEntries {H : Type} : List (Lit × DataW H) → Nat
  | [] => 0
  | x :: r => uptoBulkEntry x + uptoBulkEntries r
def uptoBulkEntry {H : Type} : Lit × DataW H → Nat
  | (.string bytes, d) => bytes.length + uptoBulk d + 1
  | (_, d) => uptoBulk d + 1
 end
def uptoSmall : (H : Type) → List (DataW H) → Bool := fun _ ds => decide (uptoBulkAll ds ≤ 1048576)
def OpenSpec.upto (s : _root_.Go.ChangeSpec) : _root_.Go.OpenSpec := { _root_.Go.OpenSpec.ofChange s with cond := some uptoSmall }

/-- 'isohyetlaw21.GridChecks', WHERE WHAT IT READS IS OF BULK AT MOST 1048576: true; the input reads as it did. -/
def gridChecksUptoRow : OpenClaim := { program := "ytdihefgleefhmaa", sum := "14041a75787f913514f3df3ec1ea7f9fec12b599dbc7daca948dd66f854660df", func := "isohyet/isohyetlaw21.GridChecks", spec := "gridChecks", plainKeys := false, apart := false, narrowed := true }
def GridChecksUptoSaid : Prop := gridChecksUptoRow.holds Try.pinned (OpenSpec.upto gridChecksSpec)

/-- 'isohyetlaw21.GridArounds', WHERE WHAT IT READS IS OF BULK AT MOST 1048576: true; the input reads as it did. -/
def gridAroundsUptoRow : OpenClaim := { program := "ytdihefgleefhmaa", sum := "14041a75787f913514f3df3ec1ea7f9fec12b599dbc7daca948dd66f854660df", func := "isohyet/isohyetlaw21.GridArounds", spec := "gridArounds", plainKeys := false, apart := false, narrowed := true }
def GridAroundsUptoSaid : Prop := gridAroundsUptoRow.holds Try.pinned (OpenSpec.upto gridAroundsSpec)

/-- 'isohyetlaw21.GridNodes', WHERE WHAT IT READS IS OF BULK AT MOST 1048576: true; the input reads as it did. -/
def gridNodesUptoRow : OpenClaim := { program := "ytdihefgleefhmaa", sum := "14041a75787f913514f3df3ec1ea7f9fec12b599dbc7daca948dd66f854660df", func := "isohyet/isohyetlaw21.GridNodes", spec := "gridNodes", unfollowed := true, recurses := true, plainKeys := false, apart := false, narrowed := true }
def GridNodesUptoSaid : Prop := gridNodesUptoRow.holds Try.pinned (OpenSpec.upto gridNodesSpec)

/-- 'isohyetlaw12.GrowBuilds', WHERE WHAT IT READS IS OF BULK AT MOST 1048576: true; the input reads as it did. -/
def growBuildsUptoRow : OpenClaim := { program := "ytdihefgleefhmaa", sum := "14041a75787f913514f3df3ec1ea7f9fec12b599dbc7daca948dd66f854660df", func := "isohyet/isohyetlaw12.GrowBuilds", spec := "growBuilds", inPlace := ["math/bits.Add64", "math/bits.Sub64"], unfollowed := true, recurses := true, plainKeys := false, apart := false, narrowed := true }
def GrowBuildsUptoSaid : Prop := growBuildsUptoRow.holds Try.pinned (OpenSpec.upto growBuildsSpec)

/-- 'isohyetlaw12.GrowOrders', WHERE WHAT IT READS IS OF BULK AT MOST 1048576: true; the input reads as it did. -/
def growOrdersUptoRow : OpenClaim := { program := "ytdihefgleefhmaa", sum := "14041a75787f913514f3df3ec1ea7f9fec12b599dbc7daca948dd66f854660df", func := "isohyet/isohyetlaw12.GrowOrders", spec := "growOrders", inPlace := ["math/bits.Add64", "math/bits.Sub64"], unfollowed := true, recurses := true, plainKeys := false, apart := false, narrowed := true }
def GrowOrdersUptoSaid : Prop := growOrdersUptoRow.holds Try.pinned (OpenSpec.upto growOrdersSpec)

/-- 'isohyetlaw12.GrowBases', WHERE WHAT IT READS IS OF BULK AT MOST 1048576: true; the input reads as it did. -/
def growBasesUptoRow : OpenClaim := { program := "ytdihefgleefhmaa", sum := "14041a75787f913514f3df3ec1ea7f9fec12b599dbc7daca948dd66f854660df", func := "isohyet/isohyetlaw12.GrowBases", spec := "growBases", inPlace := ["math/bits.Add64", "math/bits.Sub64"], unfollowed := true, recurses := true, plainKeys := false, apart := false, narrowed := true }
def GrowBasesUptoSaid : Prop := growBasesUptoRow.holds Try.pinned (OpenSpec.upto growBasesSpec)

end Rows
end Go.Proofs.Ytdihefgleefhmaa
