/-
  No cell of these rows narrows 'for every input' (looked for: loops, veiled, ifaces, maps, wideKeys, modest, calm, conditions, laid).
  DERIVED. THE GIVEN ROWS OF THIS SEAT. 9 by the template 'for every input the law returns true; each argument reads behind the call as it read before'; 0 by the template 'total and deterministic' (their statements: YtphfchbggechhaaTotals.lean).
  GIVEN WITH THE SEED: the statements are not yours to turn. If you find one false, say at which input.
  Laid BY PROGRAM, IN A SANDBOX (cutbox-rows.mjs): the forced cells as the released guide's own fill.sh prints them over the translation 86f29a7417a84b86… (all of the seat's roots in one cut). By AI agents, Wed Nov 11 2026. No macro, syntax, notation, axiom, sorry.
-/
import Derived.Test.YtphfchbggechhaaChecked
import GoSem.Claim
import GoSem.ClaimJoined
import GoSem.ClaimMapViews
import Derived.JoinedTies
import Derived.KernelRfl
namespace Go.Proofs.Ytphfchbggechhaa
/- THE CELL 'sum', in the pinned program and in every row, IS THE sha256 OF THE DUMP (.gsa) THAT YtphfchbggechhaaProg.lean LOADS. Nothing in Lean hashes anything: it is a label: what it is worth is what the hold of that sum in a sandbox is worth. -/
noncomputable def Try.pinned : Pinned := { name := "ytphfchbggechhaa", sum := "86f29a7417a84b86b7810f5aa7af045d778e2ada7c16533c9e0afb6492c54e13", checked := Try.checked }
namespace Rows
def none {H : Type} : Left H := { results := [], args := [] }

/-- 'gimballaw12.OctopForgets': WHATEVER THE INPUT: true; the input reads as it did. -/
def octopForgetsSpec : ChangeSpec := { name := "octopForgets", fn := fun _ => fun
  | [d1, d2] => { results := [.lit (.bool true)], args := [d1, d2] }
  | _ => none }
def octopForgetsRow : OpenClaim := { program := "ytphfchbggechhaa", sum := "86f29a7417a84b86b7810f5aa7af045d778e2ada7c16533c9e0afb6492c54e13", func := "gimbal/gimballaw12.OctopForgets", spec := "octopForgets", unfollowed := true, recurses := true, apart := false }
def OctopForgetsSaid : Prop := octopForgetsRow.holds Try.pinned (OpenSpec.ofChange octopForgetsSpec)

/-- ITS FALSE NEIGHBOUR: 'it returns false'. Refute it at one input. -/
def octopForgetsWrong : ChangeSpec := { name := "octopForgets", fn := fun _ => fun
  | [d1, d2] => { results := [.lit (.bool false)], args := [d1, d2] }
  | _ => none }
def OctopForgetsWrongFalsely : Prop := octopForgetsRow.holds Try.pinned (OpenSpec.ofChange octopForgetsWrong)

/-- 'gimballaw12.OctopGuards': WHATEVER THE INPUT: true; the input reads as it did. -/
def octopGuardsSpec : ChangeSpec := { name := "octopGuards", fn := fun _ => fun
  | [d1, d2, d3] => { results := [.lit (.bool true)], args := [d1, d2, d3] }
  | _ => none }
def octopGuardsRow : OpenClaim := { program := "ytphfchbggechhaa", sum := "86f29a7417a84b86b7810f5aa7af045d778e2ada7c16533c9e0afb6492c54e13", func := "gimbal/gimballaw12.OctopGuards", spec := "octopGuards", unfollowed := true, recurses := true, apart := false }
def OctopGuardsSaid : Prop := octopGuardsRow.holds Try.pinned (OpenSpec.ofChange octopGuardsSpec)

/-- ITS FALSE NEIGHBOUR: 'it returns false'. Refute it at one input. -/
def octopGuardsWrong : ChangeSpec := { name := "octopGuards", fn := fun _ => fun
  | [d1, d2, d3] => { results := [.lit (.bool false)], args := [d1, d2, d3] }
  | _ => none }
def OctopGuardsWrongFalsely : Prop := octopGuardsRow.holds Try.pinned (OpenSpec.ofChange octopGuardsWrong)

/-- 'gimballaw12.OctopAssigns': WHATEVER THE INPUT: true; the input reads as it did. -/
def octopAssignsSpec : ChangeSpec := { name := "octopAssigns", fn := fun _ => fun
  | [d1, d2, d3] => { results := [.lit (.bool true)], args := [d1, d2, d3] }
  | _ => none }
def octopAssignsRow : OpenClaim := { program := "ytphfchbggechhaa", sum := "86f29a7417a84b86b7810f5aa7af045d778e2ada7c16533c9e0afb6492c54e13", func := "gimbal/gimballaw12.OctopAssigns", spec := "octopAssigns", unfollowed := true, recurses := true, apart := false }
def OctopAssignsSaid : Prop := octopAssignsRow.holds Try.pinned (OpenSpec.ofChange octopAssignsSpec)

/-- ITS FALSE NEIGHBOUR: 'it returns false'. Refute it at one input. -/
def octopAssignsWrong : ChangeSpec := { name := "octopAssigns", fn := fun _ => fun
  | [d1, d2, d3] => { results := [.lit (.bool false)], args := [d1, d2, d3] }
  | _ => none }
def OctopAssignsWrongFalsely : Prop := octopAssignsRow.holds Try.pinned (OpenSpec.ofChange octopAssignsWrong)

/-- 'gimballaw12.OctopGrows': WHATEVER THE INPUT: true; the input reads as it did. -/
def octopGrowsSpec : ChangeSpec := { name := "octopGrows", fn := fun _ => fun
  | [d1, d2, d3, d4, d5, d6] => { results := [.lit (.bool true)], args := [d1, d2, d3, d4, d5, d6] }
  | _ => none }
def octopGrowsRow : OpenClaim := { program := "ytphfchbggechhaa", sum := "86f29a7417a84b86b7810f5aa7af045d778e2ada7c16533c9e0afb6492c54e13", func := "gimbal/gimballaw12.OctopGrows", spec := "octopGrows", unfollowed := true, recurses := true, apart := false }
def OctopGrowsSaid : Prop := octopGrowsRow.holds Try.pinned (OpenSpec.ofChange octopGrowsSpec)

/-- ITS FALSE NEIGHBOUR: 'it returns false'. Refute it at one input. -/
def octopGrowsWrong : ChangeSpec := { name := "octopGrows", fn := fun _ => fun
  | [d1, d2, d3, d4, d5, d6] => { results := [.lit (.bool false)], args := [d1, d2, d3, d4, d5, d6] }
  | _ => none }
def OctopGrowsWrongFalsely : Prop := octopGrowsRow.holds Try.pinned (OpenSpec.ofChange octopGrowsWrong)

/-- 'gimballaw12.OctopExact': WHATEVER THE INPUT: true; the input reads as it did. -/
def octopExactSpec : ChangeSpec := { name := "octopExact", fn := fun _ => fun
  | [d1, d2, d3, d4] => { results := [.lit (.bool true)], args := [d1, d2, d3, d4] }
  | _ => none }
def octopExactRow : OpenClaim := { program := "ytphfchbggechhaa", sum := "86f29a7417a84b86b7810f5aa7af045d778e2ada7c16533c9e0afb6492c54e13", func := "gimbal/gimballaw12.OctopExact", spec := "octopExact", inPlace := ["math/bits.Sub64"], unfollowed := true, recurses := true, apart := false }
def OctopExactSaid : Prop := octopExactRow.holds Try.pinned (OpenSpec.ofChange octopExactSpec)

/-- ITS FALSE NEIGHBOUR: 'it returns false'. Refute it at one input. -/
def octopExactWrong : ChangeSpec := { name := "octopExact", fn := fun _ => fun
  | [d1, d2, d3, d4] => { results := [.lit (.bool false)], args := [d1, d2, d3, d4] }
  | _ => none }
def OctopExactWrongFalsely : Prop := octopExactRow.holds Try.pinned (OpenSpec.ofChange octopExactWrong)

/-- 'gimballaw12.OctopKeeps': WHATEVER THE INPUT: true; the input reads as it did. -/
def octopKeepsSpec : ChangeSpec := { name := "octopKeeps", fn := fun _ => fun
  | [d1, d2, d3, d4, d5] => { results := [.lit (.bool true)], args := [d1, d2, d3, d4, d5] }
  | _ => none }
def octopKeepsRow : OpenClaim := { program := "ytphfchbggechhaa", sum := "86f29a7417a84b86b7810f5aa7af045d778e2ada7c16533c9e0afb6492c54e13", func := "gimbal/gimballaw12.OctopKeeps", spec := "octopKeeps", inPlace := ["math/bits.Sub64"], unfollowed := true, recurses := true, apart := false }
def OctopKeepsSaid : Prop := octopKeepsRow.holds Try.pinned (OpenSpec.ofChange octopKeepsSpec)

/-- ITS FALSE NEIGHBOUR: 'it returns false'. Refute it at one input. -/
def octopKeepsWrong : ChangeSpec := { name := "octopKeeps", fn := fun _ => fun
  | [d1, d2, d3, d4, d5] => { results := [.lit (.bool false)], args := [d1, d2, d3, d4, d5] }
  | _ => none }
def OctopKeepsWrongFalsely : Prop := octopKeepsRow.holds Try.pinned (OpenSpec.ofChange octopKeepsWrong)

/-- 'gimballaw12.OctopMoves': WHATEVER THE INPUT: true; the input reads as it did. -/
def octopMovesSpec : ChangeSpec := { name := "octopMoves", fn := fun _ => fun
  | [d1, d2] => { results := [.lit (.bool true)], args := [d1, d2] }
  | _ => none }
def octopMovesRow : OpenClaim := { program := "ytphfchbggechhaa", sum := "86f29a7417a84b86b7810f5aa7af045d778e2ada7c16533c9e0afb6492c54e13", func := "gimbal/gimballaw12.OctopMoves", spec := "octopMoves", unfollowed := true, recurses := true, apart := false }
def OctopMovesSaid : Prop := octopMovesRow.holds Try.pinned (OpenSpec.ofChange octopMovesSpec)

/-- ITS FALSE NEIGHBOUR: 'it returns false'. Refute it at one input. -/
def octopMovesWrong : ChangeSpec := { name := "octopMoves", fn := fun _ => fun
  | [d1, d2] => { results := [.lit (.bool false)], args := [d1, d2] }
  | _ => none }
def OctopMovesWrongFalsely : Prop := octopMovesRow.holds Try.pinned (OpenSpec.ofChange octopMovesWrong)

/-- 'gimballaw12.OctopTwice': WHATEVER THE INPUT: true; the input reads as it did. -/
def octopTwiceSpec : ChangeSpec := { name := "octopTwice", fn := fun _ => fun
  | [d1, d2, d3, d4, d5, d6] => { results := [.lit (.bool true)], args := [d1, d2, d3, d4, d5, d6] }
  | _ => none }
def octopTwiceRow : OpenClaim := { program := "ytphfchbggechhaa", sum := "86f29a7417a84b86b7810f5aa7af045d778e2ada7c16533c9e0afb6492c54e13", func := "gimbal/gimballaw12.OctopTwice", spec := "octopTwice", unfollowed := true, recurses := true, apart := false }
def OctopTwiceSaid : Prop := octopTwiceRow.holds Try.pinned (OpenSpec.ofChange octopTwiceSpec)

/-- ITS FALSE NEIGHBOUR: 'it returns false'. Refute it at one input. -/
def octopTwiceWrong : ChangeSpec := { name := "octopTwice", fn := fun _ => fun
  | [d1, d2, d3, d4, d5, d6] => { results := [.lit (.bool false)], args := [d1, d2, d3, d4, d5, d6] }
  | _ => none }
def OctopTwiceWrongFalsely : Prop := octopTwiceRow.holds Try.pinned (OpenSpec.ofChange octopTwiceWrong)

/-- 'gimballaw12.OctopParts': WHATEVER THE INPUT: true; the input reads as it did. -/
def octopPartsSpec : ChangeSpec := { name := "octopParts", fn := fun _ => fun
  | [d1, d2, d3] => { results := [.lit (.bool true)], args := [d1, d2, d3] }
  | _ => none }
def octopPartsRow : OpenClaim := { program := "ytphfchbggechhaa", sum := "86f29a7417a84b86b7810f5aa7af045d778e2ada7c16533c9e0afb6492c54e13", func := "gimbal/gimballaw12.OctopParts", spec := "octopParts", inPlace := ["math/bits.Sub64"], unfollowed := true, recurses := true, apart := false }
def OctopPartsSaid : Prop := octopPartsRow.holds Try.pinned (OpenSpec.ofChange octopPartsSpec)

/-- ITS FALSE NEIGHBOUR: 'it returns false'. Refute it at one input. -/
def octopPartsWrong : ChangeSpec := { name := "octopParts", fn := fun _ => fun
  | [d1, d2, d3] => { results := [.lit (.bool false)], args := [d1, d2, d3] }
  | _ => none }
def OctopPartsWrongFalsely : Prop := octopPartsRow.holds Try.pinned (OpenSpec.ofChange octopPartsWrong)

/- THE SECOND FORM. 'bulk': how many values and letters a reading holds, each counted each time it is reached (what is shared counts as often as it is met; a slice's spare places count too). A statement '..UptoSaid' is the law's where the arguments, and the package variables that the reading takes, are together of bulk at most 1048576: NARROWER than '..Said'. Prove '..Said' where nothing that the law and all that it calls make is longer than what came in: it says more and counts as full. Else prove '..UptoSaid'. A law counts once. -/
mutual
def uptoBulk {H : Type} : DataW H → Nat
  | .lit (.string bytes) => bytes.length + 1
  | .lit _ => 1
  | .nil => 1
  | .ptr d => uptoBulk d + 1
  | .slice elems spare => uptoBulkAll elems + uptoBulkAll spare + 1
  | .agg parts => uptoBulkAll parts + 1
  | .iface _ d => uptoBulk d + 1
  | .map entries => uptoBulkEntries entries + 1
  | .held _ => 1
def uptoBulkAll {H : Type} : List (DataW H) → Nat
  | [] => 0
  | d :: r => uptoBulk d + uptoBulkAll r
def uptoBulkEntries {H : Type} : List (Lit × DataW H) → Nat
  | [] => 0
  | x :: r => uptoBulkEntry x + uptoBulkEntries r
def uptoBulkEntry {H : Type} : Lit × DataW H → Nat
  | (.string bytes, d) => bytes.length + uptoBulk d + 1
  | (_, d) => uptoBulk d + 1
 end
def uptoSmall : (H : Type) → List (DataW H) → Bool := fun _ ds => decide (uptoBulkAll ds ≤ 1048576)
def OpenSpec.upto (s : _root_.Go.ChangeSpec) : _root_.Go.OpenSpec := { _root_.Go.OpenSpec.ofChange s with cond := some uptoSmall }

/-- 'gimballaw12.OctopForgets', WHERE WHAT IT READS IS OF BULK AT MOST 1048576: true; the input reads as it did. -/
def octopForgetsUptoRow : OpenClaim := { program := "ytphfchbggechhaa", sum := "86f29a7417a84b86b7810f5aa7af045d778e2ada7c16533c9e0afb6492c54e13", func := "gimbal/gimballaw12.OctopForgets", spec := "octopForgets", unfollowed := true, recurses := true, apart := false, narrowed := true }
def OctopForgetsUptoSaid : Prop := octopForgetsUptoRow.holds Try.pinned (OpenSpec.upto octopForgetsSpec)

/-- 'gimballaw12.OctopGuards', WHERE WHAT IT READS IS OF BULK AT MOST 1048576: true; the input reads as it did. -/
def octopGuardsUptoRow : OpenClaim := { program := "ytphfchbggechhaa", sum := "86f29a7417a84b86b7810f5aa7af045d778e2ada7c16533c9e0afb6492c54e13", func := "gimbal/gimballaw12.OctopGuards", spec := "octopGuards", unfollowed := true, recurses := true, apart := false, narrowed := true }
def OctopGuardsUptoSaid : Prop := octopGuardsUptoRow.holds Try.pinned (OpenSpec.upto octopGuardsSpec)

/-- 'gimballaw12.OctopAssigns', WHERE WHAT IT READS IS OF BULK AT MOST 1048576: true; the input reads as it did. -/
def octopAssignsUptoRow : OpenClaim := { program := "ytphfchbggechhaa", sum := "86f29a7417a84b86b7810f5aa7af045d778e2ada7c16533c9e0afb6492c54e13", func := "gimbal/gimballaw12.OctopAssigns", spec := "octopAssigns", unfollowed := true, recurses := true, apart := false, narrowed := true }
def OctopAssignsUptoSaid : Prop := octopAssignsUptoRow.holds Try.pinned (OpenSpec.upto octopAssignsSpec)

/-- 'gimballaw12.OctopGrows', WHERE WHAT IT READS IS OF BULK AT MOST 1048576: true; the input reads as it did. -/
def octopGrowsUptoRow : OpenClaim := { program := "ytphfchbggechhaa", sum := "86f29a7417a84b86b7810f5aa7af045d778e2ada7c16533c9e0afb6492c54e13", func := "gimbal/gimballaw12.OctopGrows", spec := "octopGrows", unfollowed := true, recurses := true, apart := false, narrowed := true }
def OctopGrowsUptoSaid : Prop := octopGrowsUptoRow.holds Try.pinned (OpenSpec.upto octopGrowsSpec)

/-- 'gimballaw12.OctopExact', WHERE WHAT IT READS IS OF BULK AT MOST 1048576: true; the input reads as it did. -/
def octopExactUptoRow : OpenClaim := { program := "ytphfchbggechhaa", sum := "86f29a7417a84b86b7810f5aa7af045d778e2ada7c16533c9e0afb6492c54e13", func := "gimbal/gimballaw12.OctopExact", spec := "octopExact", inPlace := ["math/bits.Sub64"], unfollowed := true, recurses := true, apart := false, narrowed := true }
def OctopExactUptoSaid : Prop := octopExactUptoRow.holds Try.pinned (OpenSpec.upto octopExactSpec)

/-- 'gimballaw12.OctopKeeps', WHERE WHAT IT READS IS OF BULK AT MOST 1048576: true; the input reads as it did. -/
def octopKeepsUptoRow : OpenClaim := { program := "ytphfchbggechhaa", sum := "86f29a7417a84b86b7810f5aa7af045d778e2ada7c16533c9e0afb6492c54e13", func := "gimbal/gimballaw12.OctopKeeps", spec := "octopKeeps", inPlace := ["math/bits.Sub64"], unfollowed := true, recurses := true, apart := false, narrowed := true }
def OctopKeepsUptoSaid : Prop := octopKeepsUptoRow.holds Try.pinned (OpenSpec.upto octopKeepsSpec)

/-- 'gimballaw12.OctopMoves', WHERE WHAT IT READS IS OF BULK AT MOST 1048576: true; the input reads as it did. -/
def octopMovesUptoRow : OpenClaim := { program := "ytphfchbggechhaa", sum := "86f29a7417a84b86b7810f5aa7af045d778e2ada7c16533c9e0afb6492c54e13", func := "gimbal/gimballaw12.OctopMoves", spec := "octopMoves", unfollowed := true, recurses := true, apart := false, narrowed := true }
def OctopMovesUptoSaid : Prop := octopMovesUptoRow.holds Try.pinned (OpenSpec.upto octopMovesSpec)

/-- 'gimballaw12.OctopTwice', WHERE WHAT IT READS IS OF BULK AT MOST 1048576: true; the input reads as it did. -/
def octopTwiceUptoRow : OpenClaim := { program := "ytphfchbggechhaa", sum := "86f29a7417a84b86b7810f5aa7af045d778e2ada7c16533c9e0afb6492c54e13", func := "gimbal/gimballaw12.OctopTwice", spec := "octopTwice", unfollowed := true, recurses := true, apart := false, narrowed := true }
def OctopTwiceUptoSaid : Prop := octopTwiceUptoRow.holds Try.pinned (OpenSpec.upto octopTwiceSpec)

/-- 'gimballaw12.OctopParts', WHERE WHAT IT READS IS OF BULK AT MOST 1048576: true; the input reads as it did. -/
def octopPartsUptoRow : OpenClaim := { program := "ytphfchbggechhaa", sum := "86f29a7417a84b86b7810f5aa7af045d778e2ada7c16533c9e0afb6492c54e13", func := "gimbal/gimballaw12.OctopParts", spec := "octopParts", inPlace := ["math/bits.Sub64"], unfollowed := true, recurses := true, apart := false, narrowed := true }
def OctopPartsUptoSaid : Prop := octopPartsUptoRow.holds Try.pinned (OpenSpec.upto octopPartsSpec)

end Rows
end Go.Proofs.Ytphfchbggechhaa
