/-
  No cell of these rows narrows 'for every input' (looked for: loops, veiled, ifaces, maps, wideKeys, modest, calm, conditions, laid).
  DERIVED. THE GIVEN ROWS OF THIS SEAT. 10 by the template 'for every input the law returns true; each argument reads behind the call as it read before'; 0 by the template 'total and deterministic' (their statements: YtomgebmimgaojaaTotals.lean).
  GIVEN WITH THE SEED: the statements are not yours to turn. If you find one false, say at which input.
  Laid BY PROGRAM, IN A SANDBOX (cutbox-rows.mjs): the forced cells as the released guide's own fill.sh prints them over the translation 094d07ffb91158ab… (all of the seat's roots in one cut). By AI agents, Wed Nov 11 2026. No macro, syntax, notation, axiom, sorry.
-/
import Derived.Test.YtomgebmimgaojaaChecked
import GoSem.Claim
import GoSem.ClaimJoined
import GoSem.ClaimMapViews
import Derived.JoinedTies
import Derived.KernelRfl
namespace Go.Proofs.Ytomgebmimgaojaa
/- THE CELL 'sum', in the pinned program and in every row, IS THE sha256 OF THE DUMP (.gsa) THAT YtomgebmimgaojaaProg.lean LOADS. Nothing in Lean hashes anything: it is a label: what it is worth is what the hold of that sum in a sandbox is worth. -/
noncomputable def Try.pinned : Pinned := { name := "ytomgebmimgaojaa", sum := "094d07ffb91158ab3074c4c67e971bd7a412bd7890ebca3f7a9a1471db91a725", checked := Try.checked }
namespace Rows
def none {H : Type} : Left H := { results := [], args := [] }

/-- 'gimballaw11.OctMakes': WHATEVER THE INPUT: true; the input reads as it did. -/
def octMakesSpec : ChangeSpec := { name := "octMakes", fn := fun _ => fun
  | [d1, d2] => { results := [.lit (.bool true)], args := [d1, d2] }
  | _ => none }
def octMakesRow : OpenClaim := { program := "ytomgebmimgaojaa", sum := "094d07ffb91158ab3074c4c67e971bd7a412bd7890ebca3f7a9a1471db91a725", func := "gimbal/gimballaw11.OctMakes", spec := "octMakes", inPlace := ["math/bits.Sub64"], unfollowed := true, recurses := true, apart := false }
def OctMakesSaid : Prop := octMakesRow.holds Try.pinned (OpenSpec.ofChange octMakesSpec)

/-- ITS FALSE NEIGHBOUR: 'it returns false'. Refute it at one input. -/
def octMakesWrong : ChangeSpec := { name := "octMakes", fn := fun _ => fun
  | [d1, d2] => { results := [.lit (.bool false)], args := [d1, d2] }
  | _ => none }
def OctMakesWrongFalsely : Prop := octMakesRow.holds Try.pinned (OpenSpec.ofChange octMakesWrong)

/-- 'gimballaw11.OctCloses': WHATEVER THE INPUT: true; the input reads as it did. -/
def octClosesSpec : ChangeSpec := { name := "octCloses", fn := fun _ => fun
  | [d] => { results := [.lit (.bool true)], args := [d] }
  | _ => none }
def octClosesRow : OpenClaim := { program := "ytomgebmimgaojaa", sum := "094d07ffb91158ab3074c4c67e971bd7a412bd7890ebca3f7a9a1471db91a725", func := "gimbal/gimballaw11.OctCloses", spec := "octCloses", inPlace := ["math/bits.Sub64"], unfollowed := true, recurses := true, apart := false }
def OctClosesSaid : Prop := octClosesRow.holds Try.pinned (OpenSpec.ofChange octClosesSpec)

/-- ITS FALSE NEIGHBOUR: 'it returns false'. Refute it at one input. -/
def octClosesWrong : ChangeSpec := { name := "octCloses", fn := fun _ => fun
  | [d] => { results := [.lit (.bool false)], args := [d] }
  | _ => none }
def OctClosesWrongFalsely : Prop := octClosesRow.holds Try.pinned (OpenSpec.ofChange octClosesWrong)

/-- 'gimballaw13.ThreshOcts': WHATEVER THE INPUT: true; the input reads as it did. -/
def threshOctsSpec : ChangeSpec := { name := "threshOcts", fn := fun _ => fun
  | [d1, d2] => { results := [.lit (.bool true)], args := [d1, d2] }
  | _ => none }
def threshOctsRow : OpenClaim := { program := "ytomgebmimgaojaa", sum := "094d07ffb91158ab3074c4c67e971bd7a412bd7890ebca3f7a9a1471db91a725", func := "gimbal/gimballaw13.ThreshOcts", spec := "threshOcts", unfollowed := true, recurses := true, apart := false }
def ThreshOctsSaid : Prop := threshOctsRow.holds Try.pinned (OpenSpec.ofChange threshOctsSpec)

/-- ITS FALSE NEIGHBOUR: 'it returns false'. Refute it at one input. -/
def threshOctsWrong : ChangeSpec := { name := "threshOcts", fn := fun _ => fun
  | [d1, d2] => { results := [.lit (.bool false)], args := [d1, d2] }
  | _ => none }
def ThreshOctsWrongFalsely : Prop := threshOctsRow.holds Try.pinned (OpenSpec.ofChange threshOctsWrong)

/-- 'gimballaw13.ThreshUpper': WHATEVER THE INPUT: true; the input reads as it did. -/
def threshUpperSpec : ChangeSpec := { name := "threshUpper", fn := fun _ => fun
  | [d1, d2, d3, d4, d5] => { results := [.lit (.bool true)], args := [d1, d2, d3, d4, d5] }
  | _ => none }
def threshUpperRow : OpenClaim := { program := "ytomgebmimgaojaa", sum := "094d07ffb91158ab3074c4c67e971bd7a412bd7890ebca3f7a9a1471db91a725", func := "gimbal/gimballaw13.ThreshUpper", spec := "threshUpper", unfollowed := true, recurses := true, apart := false }
def ThreshUpperSaid : Prop := threshUpperRow.holds Try.pinned (OpenSpec.ofChange threshUpperSpec)

/-- ITS FALSE NEIGHBOUR: 'it returns false'. Refute it at one input. -/
def threshUpperWrong : ChangeSpec := { name := "threshUpper", fn := fun _ => fun
  | [d1, d2, d3, d4, d5] => { results := [.lit (.bool false)], args := [d1, d2, d3, d4, d5] }
  | _ => none }
def ThreshUpperWrongFalsely : Prop := threshUpperRow.holds Try.pinned (OpenSpec.ofChange threshUpperWrong)

/-- 'gimballaw13.ThreshChains': WHATEVER THE INPUT: true; the input reads as it did. -/
def threshChainsSpec : ChangeSpec := { name := "threshChains", fn := fun _ => fun
  | [d1, d2] => { results := [.lit (.bool true)], args := [d1, d2] }
  | _ => none }
def threshChainsRow : OpenClaim := { program := "ytomgebmimgaojaa", sum := "094d07ffb91158ab3074c4c67e971bd7a412bd7890ebca3f7a9a1471db91a725", func := "gimbal/gimballaw13.ThreshChains", spec := "threshChains", unfollowed := true, recurses := true, apart := false }
def ThreshChainsSaid : Prop := threshChainsRow.holds Try.pinned (OpenSpec.ofChange threshChainsSpec)

/-- ITS FALSE NEIGHBOUR: 'it returns false'. Refute it at one input. -/
def threshChainsWrong : ChangeSpec := { name := "threshChains", fn := fun _ => fun
  | [d1, d2] => { results := [.lit (.bool false)], args := [d1, d2] }
  | _ => none }
def ThreshChainsWrongFalsely : Prop := threshChainsRow.holds Try.pinned (OpenSpec.ofChange threshChainsWrong)

/-- 'gimballaw11.OctValues': WHATEVER THE INPUT: true; the input reads as it did. -/
def octValuesSpec : ChangeSpec := { name := "octValues", fn := fun _ => fun
  | [d1, d2, d3] => { results := [.lit (.bool true)], args := [d1, d2, d3] }
  | _ => none }
def octValuesRow : OpenClaim := { program := "ytomgebmimgaojaa", sum := "094d07ffb91158ab3074c4c67e971bd7a412bd7890ebca3f7a9a1471db91a725", func := "gimbal/gimballaw11.OctValues", spec := "octValues", inPlace := ["math/bits.Sub64"], unfollowed := true, recurses := true, apart := false }
def OctValuesSaid : Prop := octValuesRow.holds Try.pinned (OpenSpec.ofChange octValuesSpec)

/-- ITS FALSE NEIGHBOUR: 'it returns false'. Refute it at one input. -/
def octValuesWrong : ChangeSpec := { name := "octValues", fn := fun _ => fun
  | [d1, d2, d3] => { results := [.lit (.bool false)], args := [d1, d2, d3] }
  | _ => none }
def OctValuesWrongFalsely : Prop := octValuesRow.holds Try.pinned (OpenSpec.ofChange octValuesWrong)

/-- 'gimballaw11.OctOrders': WHATEVER THE INPUT: true; the input reads as it did. -/
def octOrdersSpec : ChangeSpec := { name := "octOrders", fn := fun _ => fun
  | [d1, d2] => { results := [.lit (.bool true)], args := [d1, d2] }
  | _ => none }
def octOrdersRow : OpenClaim := { program := "ytomgebmimgaojaa", sum := "094d07ffb91158ab3074c4c67e971bd7a412bd7890ebca3f7a9a1471db91a725", func := "gimbal/gimballaw11.OctOrders", spec := "octOrders", inPlace := ["math/bits.Sub64"], unfollowed := true, recurses := true, apart := false }
def OctOrdersSaid : Prop := octOrdersRow.holds Try.pinned (OpenSpec.ofChange octOrdersSpec)

/-- ITS FALSE NEIGHBOUR: 'it returns false'. Refute it at one input. -/
def octOrdersWrong : ChangeSpec := { name := "octOrders", fn := fun _ => fun
  | [d1, d2] => { results := [.lit (.bool false)], args := [d1, d2] }
  | _ => none }
def OctOrdersWrongFalsely : Prop := octOrdersRow.holds Try.pinned (OpenSpec.ofChange octOrdersWrong)

/-- 'gimballaw11.OctLattice': WHATEVER THE INPUT: true; the input reads as it did. -/
def octLatticeSpec : ChangeSpec := { name := "octLattice", fn := fun _ => fun
  | [d1, d2, d3] => { results := [.lit (.bool true)], args := [d1, d2, d3] }
  | _ => none }
def octLatticeRow : OpenClaim := { program := "ytomgebmimgaojaa", sum := "094d07ffb91158ab3074c4c67e971bd7a412bd7890ebca3f7a9a1471db91a725", func := "gimbal/gimballaw11.OctLattice", spec := "octLattice", inPlace := ["math/bits.Sub64"], unfollowed := true, recurses := true, apart := false }
def OctLatticeSaid : Prop := octLatticeRow.holds Try.pinned (OpenSpec.ofChange octLatticeSpec)

/-- ITS FALSE NEIGHBOUR: 'it returns false'. Refute it at one input. -/
def octLatticeWrong : ChangeSpec := { name := "octLattice", fn := fun _ => fun
  | [d1, d2, d3] => { results := [.lit (.bool false)], args := [d1, d2, d3] }
  | _ => none }
def OctLatticeWrongFalsely : Prop := octLatticeRow.holds Try.pinned (OpenSpec.ofChange octLatticeWrong)

/-- 'gimballaw11.OctBounds': WHATEVER THE INPUT: true; the input reads as it did. -/
def octBoundsSpec : ChangeSpec := { name := "octBounds", fn := fun _ => fun
  | [d1, d2, d3] => { results := [.lit (.bool true)], args := [d1, d2, d3] }
  | _ => none }
def octBoundsRow : OpenClaim := { program := "ytomgebmimgaojaa", sum := "094d07ffb91158ab3074c4c67e971bd7a412bd7890ebca3f7a9a1471db91a725", func := "gimbal/gimballaw11.OctBounds", spec := "octBounds", inPlace := ["math/bits.Sub64"], unfollowed := true, recurses := true, apart := false }
def OctBoundsSaid : Prop := octBoundsRow.holds Try.pinned (OpenSpec.ofChange octBoundsSpec)

/-- ITS FALSE NEIGHBOUR: 'it returns false'. Refute it at one input. -/
def octBoundsWrong : ChangeSpec := { name := "octBounds", fn := fun _ => fun
  | [d1, d2, d3] => { results := [.lit (.bool false)], args := [d1, d2, d3] }
  | _ => none }
def OctBoundsWrongFalsely : Prop := octBoundsRow.holds Try.pinned (OpenSpec.ofChange octBoundsWrong)

/-- 'gimballaw11.OctMonotone': WHATEVER THE INPUT: true; the input reads as it did. -/
def octMonotoneSpec : ChangeSpec := { name := "octMonotone", fn := fun _ => fun
  | [d1, d2, d3, d4] => { results := [.lit (.bool true)], args := [d1, d2, d3, d4] }
  | _ => none }
def octMonotoneRow : OpenClaim := { program := "ytomgebmimgaojaa", sum := "094d07ffb91158ab3074c4c67e971bd7a412bd7890ebca3f7a9a1471db91a725", func := "gimbal/gimballaw11.OctMonotone", spec := "octMonotone", inPlace := ["math/bits.Sub64"], unfollowed := true, recurses := true, apart := false }
def OctMonotoneSaid : Prop := octMonotoneRow.holds Try.pinned (OpenSpec.ofChange octMonotoneSpec)

/-- ITS FALSE NEIGHBOUR: 'it returns false'. Refute it at one input. -/
def octMonotoneWrong : ChangeSpec := { name := "octMonotone", fn := fun _ => fun
  | [d1, d2, d3, d4] => { results := [.lit (.bool false)], args := [d1, d2, d3, d4] }
  | _ => none }
def OctMonotoneWrongFalsely : Prop := octMonotoneRow.holds Try.pinned (OpenSpec.ofChange octMonotoneWrong)

/- THE SECOND FORM. 'bulk': how many values and letters a reading holds, each counted each time it is reached (what is shared counts as often as it is met; a slice's spare places count too). A statement '..UptoSaid' is the law's where the arguments, and the package variables that the reading takes, are together of bulk at most 1048576: NARROWER than '..Said'. Prove '..Said' where nothing that the law and all that it calls make is longer than what came in: it says more and counts as full. Else prove '..UptoSaid'. A law counts once. -/
mutual
def uptoBulk {H : Type} : DataW H → Nat
  | .lit (.string bytes) => bytes.length + 1
  | .lit _ => 1
  | .nil => 1
  | .ptr d => uptoBulk d + 1
  | .slice elems spare => uptoBulkAll elems + uptoBulkAll spare + 1
  | .agg parts => uptoBulkAll parts + 1
  | .iface _ d => uptoBulk d + 1
  | .map entries => uptoBulkEntries entries + 1
  | .held _ => 1
def uptoBulkAll {H : Type} : List (DataW H) → Nat
  | [] => 0
  | d :: r => uptoBulk d + uptoBulkAll r
def uptoBulkEntries {H : Type} : List (Lit × DataW H) → Nat
  | [] => 0
  | x :: r => uptoBulkEntry x + uptoBulkEntries r
def uptoBulkEntry {H : Type} : Lit × DataW H → Nat
  | (.string bytes, d) => bytes.length + uptoBulk d + 1
  | (_, d) => uptoBulk d + 1
 end
def uptoSmall : (H : Type) → List (DataW H) → Bool := fun _ ds => decide (uptoBulkAll ds ≤ 1048576)
def OpenSpec.upto (s : _root_.Go.ChangeSpec) : _root_.Go.OpenSpec := { _root_.Go.OpenSpec.ofChange s with cond := some uptoSmall }

/-- 'gimballaw11.OctMakes', WHERE WHAT IT READS IS OF BULK AT MOST 1048576: true; the input reads as it did. -/
def octMakesUptoRow : OpenClaim := { program := "ytomgebmimgaojaa", sum := "094d07ffb91158ab3074c4c67e971bd7a412bd7890ebca3f7a9a1471db91a725", func := "gimbal/gimballaw11.OctMakes", spec := "octMakes", inPlace := ["math/bits.Sub64"], unfollowed := true, recurses := true, apart := false, narrowed := true }
def OctMakesUptoSaid : Prop := octMakesUptoRow.holds Try.pinned (OpenSpec.upto octMakesSpec)

/-- 'gimballaw11.OctCloses', WHERE WHAT IT READS IS OF BULK AT MOST 1048576: true; the input reads as it did. -/
def octClosesUptoRow : OpenClaim := { program := "ytomgebmimgaojaa", sum := "094d07ffb91158ab3074c4c67e971bd7a412bd7890ebca3f7a9a1471db91a725", func := "gimbal/gimballaw11.OctCloses", spec := "octCloses", inPlace := ["math/bits.Sub64"], unfollowed := true, recurses := true, apart := false, narrowed := true }
def OctClosesUptoSaid : Prop := octClosesUptoRow.holds Try.pinned (OpenSpec.upto octClosesSpec)

/-- 'gimballaw13.ThreshOcts', WHERE WHAT IT READS IS OF BULK AT MOST 1048576: true; the input reads as it did. -/
def threshOctsUptoRow : OpenClaim := { program := "ytomgebmimgaojaa", sum := "094d07ffb91158ab3074c4c67e971bd7a412bd7890ebca3f7a9a1471db91a725", func := "gimbal/gimballaw13.ThreshOcts", spec := "threshOcts", unfollowed := true, recurses := true, apart := false, narrowed := true }
def ThreshOctsUptoSaid : Prop := threshOctsUptoRow.holds Try.pinned (OpenSpec.upto threshOctsSpec)

/-- 'gimballaw13.ThreshUpper', WHERE WHAT IT READS IS OF BULK AT MOST 1048576: true; the input reads as it did. -/
def threshUpperUptoRow : OpenClaim := { program := "ytomgebmimgaojaa", sum := "094d07ffb91158ab3074c4c67e971bd7a412bd7890ebca3f7a9a1471db91a725", func := "gimbal/gimballaw13.ThreshUpper", spec := "threshUpper", unfollowed := true, recurses := true, apart := false, narrowed := true }
def ThreshUpperUptoSaid : Prop := threshUpperUptoRow.holds Try.pinned (OpenSpec.upto threshUpperSpec)

/-- 'gimballaw13.ThreshChains', WHERE WHAT IT READS IS OF BULK AT MOST 1048576: true; the input reads as it did. -/
def threshChainsUptoRow : OpenClaim := { program := "ytomgebmimgaojaa", sum := "094d07ffb91158ab3074c4c67e971bd7a412bd7890ebca3f7a9a1471db91a725", func := "gimbal/gimballaw13.ThreshChains", spec := "threshChains", unfollowed := true, recurses := true, apart := false, narrowed := true }
def ThreshChainsUptoSaid : Prop := threshChainsUptoRow.holds Try.pinned (OpenSpec.upto threshChainsSpec)

/-- 'gimballaw11.OctValues', WHERE WHAT IT READS IS OF BULK AT MOST 1048576: true; the input reads as it did. -/
def octValuesUptoRow : OpenClaim := { program := "ytomgebmimgaojaa", sum := "094d07ffb91158ab3074c4c67e971bd7a412bd7890ebca3f7a9a1471db91a725", func := "gimbal/gimballaw11.OctValues", spec := "octValues", inPlace := ["math/bits.Sub64"], unfollowed := true, recurses := true, apart := false, narrowed := true }
def OctValuesUptoSaid : Prop := octValuesUptoRow.holds Try.pinned (OpenSpec.upto octValuesSpec)

/-- 'gimballaw11.OctOrders', WHERE WHAT IT READS IS OF BULK AT MOST 1048576: true; the input reads as it did. -/
def octOrdersUptoRow : OpenClaim := { program := "ytomgebmimgaojaa", sum := "094d07ffb91158ab3074c4c67e971bd7a412bd7890ebca3f7a9a1471db91a725", func := "gimbal/gimballaw11.OctOrders", spec := "octOrders", inPlace := ["math/bits.Sub64"], unfollowed := true, recurses := true, apart := false, narrowed := true }
def OctOrdersUptoSaid : Prop := octOrdersUptoRow.holds Try.pinned (OpenSpec.upto octOrdersSpec)

/-- 'gimballaw11.OctLattice', WHERE WHAT IT READS IS OF BULK AT MOST 1048576: true; the input reads as it did. -/
def octLatticeUptoRow : OpenClaim := { program := "ytomgebmimgaojaa", sum := "094d07ffb91158ab3074c4c67e971bd7a412bd7890ebca3f7a9a1471db91a725", func := "gimbal/gimballaw11.OctLattice", spec := "octLattice", inPlace := ["math/bits.Sub64"], unfollowed := true, recurses := true, apart := false, narrowed := true }
def OctLatticeUptoSaid : Prop := octLatticeUptoRow.holds Try.pinned (OpenSpec.upto octLatticeSpec)

/-- 'gimballaw11.OctBounds', WHERE WHAT IT READS IS OF BULK AT MOST 1048576: true; the input reads as it did. -/
def octBoundsUptoRow : OpenClaim := { program := "ytomgebmimgaojaa", sum := "094d07ffb91158ab3074c4c67e971bd7a412bd7890ebca3f7a9a1471db91a725", func := "gimbal/gimballaw11.OctBounds", spec := "octBounds", inPlace := ["math/bits.Sub64"], unfollowed := true, recurses := true, apart := false, narrowed := true }
def OctBoundsUptoSaid : Prop := octBoundsUptoRow.holds Try.pinned (OpenSpec.upto octBoundsSpec)

/-- 'gimballaw11.OctMonotone', WHERE WHAT IT READS IS OF BULK AT MOST 1048576: true; the input reads as it did. -/
def octMonotoneUptoRow : OpenClaim := { program := "ytomgebmimgaojaa", sum := "094d07ffb91158ab3074c4c67e971bd7a412bd7890ebca3f7a9a1471db91a725", func := "gimbal/gimballaw11.OctMonotone", spec := "octMonotone", inPlace := ["math/bits.Sub64"], unfollowed := true, recurses := true, apart := false, narrowed := true }
def OctMonotoneUptoSaid : Prop := octMonotoneUptoRow.holds Try.pinned (OpenSpec.upto octMonotoneSpec)

end Rows
end Go.Proofs.Ytomgebmimgaojaa
