/- Written by a program of this session out of the translation. -/
import Derived.Test.YtomgebmimgaojaaCloseW
import Derived.Test.YtomgebmimgaojaaQOx0
import Derived.Test.YtomgebmimgaojaaQOx1018
noncomputable section
namespace Go.Proofs.Ytomgebmimgaojaa.QO
open Go.RowKit Go.Proofs.YtomgebmimgaojaaW.PrintWords Go.Proofs.YtomgebmimgaojaaW.PrintLast
set_option linter.unusedVariables false
set_option linter.unusedSimpArgs false

/-! ### oct_Close: function 22 -/
-- IMPORT CloseW
def oct_Close.f (l0_0 : List Int) (l0_1 : List Int) (a0_2 : Bool) : Option (List Int × List Int × Bool) := if ofitB l0_0 l0_1 a0_2 = true then some (closeF l0_0 l0_1 a0_2) else none
theorem oct_Close.calls (A0_0 : Option Addr) (c0_0 : Nat) (l0_0 : List Int) (A0_1 : Option Addr) (c0_1 : Nat) (l0_1 : List Int) (a0_2 : Bool) (r1 : List Int) (r2 : List Int) (r3 : Bool) (w : World) (hr0_0 : Kd.C (Kd.int .i64) w A0_0 l0_0.length l0_0) (hc0_0 : l0_0.length ≤ c0_0) (hr0_1 : Kd.C (Kd.int .i64) w A0_1 l0_1.length l0_1) (hc0_1 : l0_1.length ≤ c0_1) (h : oct_Close.f l0_0 l0_1 a0_2 = some (r1, r2, r3)) :
    Calls Try.prog 22 #[.agg #[.slice A0_0 l0_0.length c0_0, .slice A0_1 l0_1.length c0_1, .bool a0_2]] w fun e w' => ∃ v0_ v1_ : Value, e = .returned (.agg #[v0_, v1_, .bool r3]) ∧ Kd.R (Kd.int .i64) 3 w' w.heap.size (fun _ => True) v0_ r1 ∧ Kd.R (Kd.int .i64) 2 w' w.heap.size (fun _ => True) v1_ r2 ∧ Below w.heap.size w w' := by
  unfold oct_Close.f at h
  by_cases hf : ofitB l0_0 l0_1 a0_2 = true
  · rw [if_pos hf] at h
    have e := Option.some.inj h
    have hc := oct_Close_any A0_0 c0_0 l0_0 A0_1 c0_1 l0_1 a0_2 w hr0_0 hc0_0 hr0_1 hc0_1 (ofitB_true.1 hf)
    rw [e] at hc
    exact hc
  · rw [if_neg hf] at h; cases h

end Go.Proofs.Ytomgebmimgaojaa.QO
