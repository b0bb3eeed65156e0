/-
  No cell of these rows narrows 'for every input' (looked for: loops, veiled, ifaces, maps, wideKeys, modest, calm, conditions, laid).
  DERIVED. THE GIVEN ROWS OF THIS SEAT. 3 by the template 'for every input the law returns true; each argument reads behind the call as it read before'; 0 by the template 'total and deterministic' (their statements: YtdihefgleefhmaaGreatTotals.lean).
  GIVEN WITH THE SEED: the statements are not yours to turn. If you find one false, say at which input.
  Laid BY PROGRAM, IN A SANDBOX (cutbox-rows.mjs): the forced cells as the released guide's own fill.sh prints them over the translation 1d240cb3edcd302d… (all of the seat's roots in one cut). By AI agents, Wed Nov 11 2026. No macro, syntax, notation, axiom, sorry.
-/
import Derived.Test.YtdihefgleefhmaaGreatChecked
import GoSem.Claim
import GoSem.ClaimJoined
import GoSem.ClaimMapViews
import Derived.JoinedTies
import Derived.KernelRfl
namespace Go.Proofs.YtdihefgleefhmaaGreat
/- THE CELL 'sum', in the pinned program and in every row, IS THE sha256 OF THE DUMP (.gsa) THAT YtdihefgleefhmaaGreatProg.lean LOADS. Nothing in Lean hashes anything: it is a label: what it is worth is what the hold of that sum in a sandbox is worth. -/
noncomputable def Tryz.pinned : Pinned := { name := "ytdihefgleefhmaagreat", sum := "1d240cb3edcd302d331510b04d9d87f41ecbf1e43e26a8e4af528bfee3bac27c", checked := Tryz.checked }
namespace Rows
def none {H : Type} : Left H := { results := [], args := [] }

/-- 'isohyetlaw12.GrowStars': WHATEVER THE INPUT: true; the input reads as it did. -/
def growStarsSpec : ChangeSpec := { name := "growStars", fn := fun _ => fun
  | [d1, d2, d3] => { results := [.lit (.bool true)], args := [d1, d2, d3] }
  | _ => none }
def growStarsRow : OpenClaim := { program := "ytdihefgleefhmaagreat", sum := "1d240cb3edcd302d331510b04d9d87f41ecbf1e43e26a8e4af528bfee3bac27c", func := "isohyet/isohyetlaw12.GrowStars", spec := "growStars", inPlace := ["math/bits.Add64", "math/bits.Sub64"], unfollowed := true, recurses := true, plainKeys := false, apart := false }
def GrowStarsSaid : Prop := growStarsRow.holds Tryz.pinned (OpenSpec.ofChange growStarsSpec)

/-- ITS FALSE NEIGHBOUR: 'it returns false'. Refute it at one input. -/
def growStarsWrong : ChangeSpec := { name := "growStars", fn := fun _ => fun
  | [d1, d2, d3] => { results := [.lit (.bool false)], args := [d1, d2, d3] }
  | _ => none }
def GrowStarsWrongFalsely : Prop := growStarsRow.holds Tryz.pinned (OpenSpec.ofChange growStarsWrong)

/-- 'isohyetlaw13.FaultPoints': WHATEVER THE INPUT: true; the input reads as it did. -/
def faultPointsSpec : ChangeSpec := { name := "faultPoints", fn := fun _ => fun
  | [d1, d2, d3] => { results := [.lit (.bool true)], args := [d1, d2, d3] }
  | _ => none }
def faultPointsRow : OpenClaim := { program := "ytdihefgleefhmaagreat", sum := "1d240cb3edcd302d331510b04d9d87f41ecbf1e43e26a8e4af528bfee3bac27c", func := "isohyet/isohyetlaw13.FaultPoints", spec := "faultPoints", inPlace := ["math/bits.Add64", "math/bits.Sub64"], unfollowed := true, recurses := true, plainKeys := false, apart := false }
def FaultPointsSaid : Prop := faultPointsRow.holds Tryz.pinned (OpenSpec.ofChange faultPointsSpec)

/-- ITS FALSE NEIGHBOUR: 'it returns false'. Refute it at one input. -/
def faultPointsWrong : ChangeSpec := { name := "faultPoints", fn := fun _ => fun
  | [d1, d2, d3] => { results := [.lit (.bool false)], args := [d1, d2, d3] }
  | _ => none }
def FaultPointsWrongFalsely : Prop := faultPointsRow.holds Tryz.pinned (OpenSpec.ofChange faultPointsWrong)

/-- 'isohyetlaw13.FaultOrders': WHATEVER THE INPUT: true; the input reads as it did. -/
def faultOrdersSpec : ChangeSpec := { name := "faultOrders", fn := fun _ => fun
  | [d1, d2] => { results := [.lit (.bool true)], args := [d1, d2] }
  | _ => none }
def faultOrdersRow : OpenClaim := { program := "ytdihefgleefhmaagreat", sum := "1d240cb3edcd302d331510b04d9d87f41ecbf1e43e26a8e4af528bfee3bac27c", func := "isohyet/isohyetlaw13.FaultOrders", spec := "faultOrders", inPlace := ["math/bits.Add64", "math/bits.Sub64"], unfollowed := true, recurses := true, plainKeys := false, apart := false }
def FaultOrdersSaid : Prop := faultOrdersRow.holds Tryz.pinned (OpenSpec.ofChange faultOrdersSpec)

/-- ITS FALSE NEIGHBOUR: 'it returns false'. Refute it at one input. -/
def faultOrdersWrong : ChangeSpec := { name := "faultOrders", fn := fun _ => fun
  | [d1, d2] => { results := [.lit (.bool false)], args := [d1, d2] }
  | _ => none }
def FaultOrdersWrongFalsely : Prop := faultOrdersRow.holds Tryz.pinned (OpenSpec.ofChange faultOrdersWrong)

/- THE SECOND FORM. 'bulk': how many values and letters a reading holds, each counted each time it is reached (what is shared counts as often as it is met; a slice's spare places count too). A statement '..UptoSaid' is the law's where the arguments, and the package variables that the reading takes, are together of bulk at most 1048576: NARROWER than '..Said'. Prove '..Said' where nothing that the law and all that it calls make is longer than what came in: it says more and counts as full. Else prove '..UptoSaid'. A law counts once. -/
mutual
def uptoBulk {H : Type} : DataW H → Nat
  | .lit (.string bytes) => bytes.length + 1
  | .lit _ => 1
  | .nil => 1
  | .ptr d => uptoBulk d + 1
  | .slice elems spare => uptoBulkAll elems + uptoBulkAll spare + 1
  | .agg parts => uptoBulkAll parts + 1
  | .iface _ d => uptoBulk d + 1
  | .map entries => uptoBulkEntries entries + 1
  | .held _ => 1
def uptoBulkAll {H : Type} : List (DataW H) → Nat
  | [] => 0
  | d :: r => uptoBulk d + uptoBulkAll r
def uptoBulkEntries {H : Type} : List (Lit × DataW H) → Nat
  | [] => 0
  | x :: r => uptoBulkEntry x + uptoBulkEntries r
def uptoBulkEntry {H : Type} : Lit × DataW H → Nat
  | (.string bytes, d) => bytes.length + uptoBulk d + 1
  | (_, d) => uptoBulk d + 1
 end
def uptoSmall : (H : Type) → List (DataW H) → Bool := fun _ ds => decide (uptoBulkAll ds ≤ 1048576)
def OpenSpec.upto (s : _root_.Go.ChangeSpec) : _root_.Go.OpenSpec := { _root_.Go.OpenSpec.ofChange s with cond := some uptoSmall }

/-- 'isohyetlaw12.GrowStars', WHERE WHAT IT READS IS OF BULK AT MOST 1048576: true; the input reads as it did. -/
def growStarsUptoRow : OpenClaim := { program := "ytdihefgleefhmaagreat", sum := "1d240cb3edcd302d331510b04d9d87f41ecbf1e43e26a8e4af528bfee3bac27c", func := "isohyet/isohyetlaw12.GrowStars", spec := "growStars", inPlace := ["math/bits.Add64", "math/bits.Sub64"], unfollowed := true, recurses := true, plainKeys := false, apart := false, narrowed := true }
def GrowStarsUptoSaid : Prop := growStarsUptoRow.holds Tryz.pinned (OpenSpec.upto growStarsSpec)

/-- 'isohyetlaw13.FaultPoints', WHERE WHAT IT READS IS OF BULK AT MOST 1048576: true; the input reads as it did. -/
def faultPointsUptoRow : OpenClaim := { program := "ytdihefgleefhmaagreat", sum := "1d240cb3edcd302d331510b04d9d87f41ecbf1e43e26a8e4af528bfee3bac27c", func := "isohyet/isohyetlaw13.FaultPoints", spec := "faultPoints", inPlace := ["math/bits.Add64", "math/bits.Sub64"], unfollowed := true, recurses := true, plainKeys := false, apart := false, narrowed := true }
def FaultPointsUptoSaid : Prop := faultPointsUptoRow.holds Tryz.pinned (OpenSpec.upto faultPointsSpec)

/-- 'isohyetlaw13.FaultOrders', WHERE WHAT IT READS IS OF BULK AT MOST 1048576: true; the input reads as it did. -/
def faultOrdersUptoRow : OpenClaim := { program := "ytdihefgleefhmaagreat", sum := "1d240cb3edcd302d331510b04d9d87f41ecbf1e43e26a8e4af528bfee3bac27c", func := "isohyet/isohyetlaw13.FaultOrders", spec := "faultOrders", inPlace := ["math/bits.Add64", "math/bits.Sub64"], unfollowed := true, recurses := true, plainKeys := false, apart := false, narrowed := true }
def FaultOrdersUptoSaid : Prop := faultOrdersUptoRow.holds Tryz.pinned (OpenSpec.upto faultOrdersSpec)

end Rows
end Go.Proofs.YtdihefgleefhmaaGreat
