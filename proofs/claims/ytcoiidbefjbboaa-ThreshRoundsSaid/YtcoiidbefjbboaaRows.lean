/-
  No cell of these rows narrows 'for every input' (looked for: loops, veiled, ifaces, maps, wideKeys, modest, calm, conditions, laid).
  DERIVED. THE GIVEN ROWS OF THIS SEAT. 5 by the template 'for every input the law returns true; each argument reads behind the call as it read before'; 0 by the template 'total and deterministic' (their statements: YtcoiidbefjbboaaTotals.lean).
  GIVEN WITH THE SEED: the statements are not yours to turn. If you find one false, say at which input.
  Laid BY PROGRAM, IN A SANDBOX (cutbox-rows.mjs): the forced cells as the released guide's own fill.sh prints them over the translation 52942d4e4549e1ca… (all of the seat's roots in one cut). By AI agents, Wed Nov 11 2026. No macro, syntax, notation, axiom, sorry.
-/
import Derived.Test.YtcoiidbefjbboaaChecked
import GoSem.Claim
import GoSem.ClaimJoined
import GoSem.ClaimMapViews
import Derived.JoinedTies
import Derived.KernelRfl
namespace Go.Proofs.Ytcoiidbefjbboaa
/- THE CELL 'sum', in the pinned program and in every row, IS THE sha256 OF THE DUMP (.gsa) THAT YtcoiidbefjbboaaProg.lean LOADS. Nothing in Lean hashes anything: it is a label: what it is worth is what the hold of that sum in a sandbox is worth. -/
noncomputable def Try.pinned : Pinned := { name := "ytcoiidbefjbboaa", sum := "52942d4e4549e1ca9a17af4437d55e69e7636ec0d731f93224a3614860491664", checked := Try.checked }
namespace Rows
def none {H : Type} : Left H := { results := [], args := [] }

/-- 'gimballaw01.BoundSums': WHATEVER THE INPUT: true; the input reads as it did. -/
def boundSumsSpec : ChangeSpec := { name := "boundSums", fn := fun _ => fun
  | [d1, d2] => { results := [.lit (.bool true)], args := [d1, d2] }
  | _ => none }
def boundSumsRow : OpenClaim := { program := "ytcoiidbefjbboaa", sum := "52942d4e4549e1ca9a17af4437d55e69e7636ec0d731f93224a3614860491664", func := "gimbal/gimballaw01.BoundSums", spec := "boundSums", apart := false }
def BoundSumsSaid : Prop := boundSumsRow.holds Try.pinned (OpenSpec.ofChange boundSumsSpec)

/-- ITS FALSE NEIGHBOUR: 'it returns false'. Refute it at one input. -/
def boundSumsWrong : ChangeSpec := { name := "boundSums", fn := fun _ => fun
  | [d1, d2] => { results := [.lit (.bool false)], args := [d1, d2] }
  | _ => none }
def BoundSumsWrongFalsely : Prop := boundSumsRow.holds Try.pinned (OpenSpec.ofChange boundSumsWrong)

/-- 'gimballaw13.ThreshRounds': WHATEVER THE INPUT: true; the input reads as it did. -/
def threshRoundsSpec : ChangeSpec := { name := "threshRounds", fn := fun _ => fun
  | [d1, d2, d3] => { results := [.lit (.bool true)], args := [d1, d2, d3] }
  | _ => none }
def threshRoundsRow : OpenClaim := { program := "ytcoiidbefjbboaa", sum := "52942d4e4549e1ca9a17af4437d55e69e7636ec0d731f93224a3614860491664", func := "gimbal/gimballaw13.ThreshRounds", spec := "threshRounds", unfollowed := true, recurses := true, apart := false }
def ThreshRoundsSaid : Prop := threshRoundsRow.holds Try.pinned (OpenSpec.ofChange threshRoundsSpec)

/-- ITS FALSE NEIGHBOUR: 'it returns false'. Refute it at one input. -/
def threshRoundsWrong : ChangeSpec := { name := "threshRounds", fn := fun _ => fun
  | [d1, d2, d3] => { results := [.lit (.bool false)], args := [d1, d2, d3] }
  | _ => none }
def ThreshRoundsWrongFalsely : Prop := threshRoundsRow.holds Try.pinned (OpenSpec.ofChange threshRoundsWrong)

/-- 'gimballaw13.ThreshHeights': WHATEVER THE INPUT: true; the input reads as it did. -/
def threshHeightsSpec : ChangeSpec := { name := "threshHeights", fn := fun _ => fun
  | [d1, d2, d3, d4] => { results := [.lit (.bool true)], args := [d1, d2, d3, d4] }
  | _ => none }
def threshHeightsRow : OpenClaim := { program := "ytcoiidbefjbboaa", sum := "52942d4e4549e1ca9a17af4437d55e69e7636ec0d731f93224a3614860491664", func := "gimbal/gimballaw13.ThreshHeights", spec := "threshHeights", unfollowed := true, recurses := true, apart := false }
def ThreshHeightsSaid : Prop := threshHeightsRow.holds Try.pinned (OpenSpec.ofChange threshHeightsSpec)

/-- ITS FALSE NEIGHBOUR: 'it returns false'. Refute it at one input. -/
def threshHeightsWrong : ChangeSpec := { name := "threshHeights", fn := fun _ => fun
  | [d1, d2, d3, d4] => { results := [.lit (.bool false)], args := [d1, d2, d3, d4] }
  | _ => none }
def ThreshHeightsWrongFalsely : Prop := threshHeightsRow.holds Try.pinned (OpenSpec.ofChange threshHeightsWrong)

/-- 'gimballaw01.BoundProducts': WHATEVER THE INPUT: true; the input reads as it did. -/
def boundProductsSpec : ChangeSpec := { name := "boundProducts", fn := fun _ => fun
  | [d1, d2] => { results := [.lit (.bool true)], args := [d1, d2] }
  | _ => none }
def boundProductsRow : OpenClaim := { program := "ytcoiidbefjbboaa", sum := "52942d4e4549e1ca9a17af4437d55e69e7636ec0d731f93224a3614860491664", func := "gimbal/gimballaw01.BoundProducts", spec := "boundProducts", apart := false }
def BoundProductsSaid : Prop := boundProductsRow.holds Try.pinned (OpenSpec.ofChange boundProductsSpec)

/-- ITS FALSE NEIGHBOUR: 'it returns false'. Refute it at one input. -/
def boundProductsWrong : ChangeSpec := { name := "boundProducts", fn := fun _ => fun
  | [d1, d2] => { results := [.lit (.bool false)], args := [d1, d2] }
  | _ => none }
def BoundProductsWrongFalsely : Prop := boundProductsRow.holds Try.pinned (OpenSpec.ofChange boundProductsWrong)

/-- 'gimballaw01.BoundOrder': WHATEVER THE INPUT: true; the input reads as it did. -/
def boundOrderSpec : ChangeSpec := { name := "boundOrder", fn := fun _ => fun
  | [d1, d2, d3] => { results := [.lit (.bool true)], args := [d1, d2, d3] }
  | _ => none }
def boundOrderRow : OpenClaim := { program := "ytcoiidbefjbboaa", sum := "52942d4e4549e1ca9a17af4437d55e69e7636ec0d731f93224a3614860491664", func := "gimbal/gimballaw01.BoundOrder", spec := "boundOrder", apart := false }
def BoundOrderSaid : Prop := boundOrderRow.holds Try.pinned (OpenSpec.ofChange boundOrderSpec)

/-- ITS FALSE NEIGHBOUR: 'it returns false'. Refute it at one input. -/
def boundOrderWrong : ChangeSpec := { name := "boundOrder", fn := fun _ => fun
  | [d1, d2, d3] => { results := [.lit (.bool false)], args := [d1, d2, d3] }
  | _ => none }
def BoundOrderWrongFalsely : Prop := boundOrderRow.holds Try.pinned (OpenSpec.ofChange boundOrderWrong)

/- THE SECOND FORM. 'bulk': how many values and letters a reading holds, each counted each time it is reached (what is shared counts as often as it is met; a slice's spare places count too). A statement '..UptoSaid' is the law's where the arguments, and the package variables that the reading takes, are together of bulk at most 1048576: NARROWER than '..Said'. Prove '..Said' where nothing that the law and all that it calls make is longer than what came in: it says more and counts as full. Else prove '..UptoSaid'. A law counts once. -/
mutual
def uptoBulk {H : Type} : DataW H → Nat
  | .lit (.string bytes) => bytes.length + 1
  | .lit _ => 1
  | .nil => 1
  | .ptr d => uptoBulk d + 1
  | .slice elems spare => uptoBulkAll elems + uptoBulkAll spare + 1
  | .agg parts => uptoBulkAll parts + 1
  | .iface _ d => uptoBulk d + 1
  | .map entries => uptoBulkEntries entries + 1
  | .held _ => 1
def uptoBulkAll {H : Type} : List (DataW H) → Nat
  | [] => 0
  | d :: r => uptoBulk d + uptoBulkAll r
def uptoBulkEntries {H : Type} : List (Lit × DataW H) → Nat
  | [] => 0
  | x :: r => uptoBulkEntry x + uptoBulkEntries r
def uptoBulkEntry {H : Type} : Lit × DataW H → Nat
  | (.string bytes, d) => bytes.length + uptoBulk d + 1
  | (_, d) => uptoBulk d + 1
 end
def uptoSmall : (H : Type) → List (DataW H) → Bool := fun _ ds => decide (uptoBulkAll ds ≤ 1048576)
def OpenSpec.upto (s : _root_.Go.ChangeSpec) : _root_.Go.OpenSpec := { _root_.Go.OpenSpec.ofChange s with cond := some uptoSmall }

/-- 'gimballaw01.BoundSums', WHERE WHAT IT READS IS OF BULK AT MOST 1048576: true; the input reads as it did. -/
def boundSumsUptoRow : OpenClaim := { program := "ytcoiidbefjbboaa", sum := "52942d4e4549e1ca9a17af4437d55e69e7636ec0d731f93224a3614860491664", func := "gimbal/gimballaw01.BoundSums", spec := "boundSums", apart := false, narrowed := true }
def BoundSumsUptoSaid : Prop := boundSumsUptoRow.holds Try.pinned (OpenSpec.upto boundSumsSpec)

/-- 'gimballaw13.ThreshRounds', WHERE WHAT IT READS IS OF BULK AT MOST 1048576: true; the input reads as it did. -/
def threshRoundsUptoRow : OpenClaim := { program := "ytcoiidbefjbboaa", sum := "52942d4e4549e1ca9a17af4437d55e69e7636ec0d731f93224a3614860491664", func := "gimbal/gimballaw13.ThreshRounds", spec := "threshRounds", unfollowed := true, recurses := true, apart := false, narrowed := true }
def ThreshRoundsUptoSaid : Prop := threshRoundsUptoRow.holds Try.pinned (OpenSpec.upto threshRoundsSpec)

/-- 'gimballaw13.ThreshHeights', WHERE WHAT IT READS IS OF BULK AT MOST 1048576: true; the input reads as it did. -/
def threshHeightsUptoRow : OpenClaim := { program := "ytcoiidbefjbboaa", sum := "52942d4e4549e1ca9a17af4437d55e69e7636ec0d731f93224a3614860491664", func := "gimbal/gimballaw13.ThreshHeights", spec := "threshHeights", unfollowed := true, recurses := true, apart := false, narrowed := true }
def ThreshHeightsUptoSaid : Prop := threshHeightsUptoRow.holds Try.pinned (OpenSpec.upto threshHeightsSpec)

/-- 'gimballaw01.BoundProducts', WHERE WHAT IT READS IS OF BULK AT MOST 1048576: true; the input reads as it did. -/
def boundProductsUptoRow : OpenClaim := { program := "ytcoiidbefjbboaa", sum := "52942d4e4549e1ca9a17af4437d55e69e7636ec0d731f93224a3614860491664", func := "gimbal/gimballaw01.BoundProducts", spec := "boundProducts", apart := false, narrowed := true }
def BoundProductsUptoSaid : Prop := boundProductsUptoRow.holds Try.pinned (OpenSpec.upto boundProductsSpec)

/-- 'gimballaw01.BoundOrder', WHERE WHAT IT READS IS OF BULK AT MOST 1048576: true; the input reads as it did. -/
def boundOrderUptoRow : OpenClaim := { program := "ytcoiidbefjbboaa", sum := "52942d4e4549e1ca9a17af4437d55e69e7636ec0d731f93224a3614860491664", func := "gimbal/gimballaw01.BoundOrder", spec := "boundOrder", apart := false, narrowed := true }
def BoundOrderUptoSaid : Prop := boundOrderUptoRow.holds Try.pinned (OpenSpec.upto boundOrderSpec)

end Rows
end Go.Proofs.Ytcoiidbefjbboaa
