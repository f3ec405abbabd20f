/- Written by a program of this session out of the translation. -/
import Derived.Test.YtomgebmimgaojaaQOx0
noncomputable section
namespace Go.Proofs.Ytomgebmimgaojaa.QO
open Go.RowKit Go.Proofs.YtomgebmimgaojaaW.PrintWords Go.Proofs.YtomgebmimgaojaaW.PrintLast
set_option linter.unusedVariables false
set_option linter.unusedSimpArgs false

/-! ### bound_Fit: function 83 -/
def bfit (a : Int) : Int := if a < -4611686018427387904 then -4611686018427387904 else if a > 4611686018427387904 then 4611686018427387904 else a
theorem bfit_in (a : Int) : -4611686018427387904 ≤ bfit a ∧ bfit a ≤ 4611686018427387904 := by unfold bfit; split <;> (try split) <;> omega
theorem bfit_id {a : Int} (h : -4611686018427387904 ≤ a) (h' : a ≤ 4611686018427387904) : bfit a = a := by unfold bfit; rw [if_neg (by omega), if_neg (by omega)]
theorem w64 {x : Int} (h : -9223372036854775808 ≤ x) (h' : x ≤ 9223372036854775807) : wrap64 x = x := by unfold wrap64; omega
theorem bcell {W w1 : World} (hb : Below W.heap.size W w1) : (∀ b o, b < W.heap.size → w1.cell? ⟨b, o, none⟩ = W.cell? ⟨b, o, none⟩) ∧ (∀ b o, b < W.heap.size → w1.frozen? ⟨b, o, none⟩ = W.frozen? ⟨b, o, none⟩) :=
  ⟨fun b o h => hb.cell (p := ⟨b, o, none⟩) h, fun b o h => hb.frozen (p := ⟨b, o, none⟩) h⟩
def bound_Fit.f (a0 : Int) : Option (Int) := some (bfit a0)
set_option maxHeartbeats 8000000 in
set_option maxRecDepth 100000 in
theorem bound_Fit.calls (a0 : Int) (r : Int) (w : World) (h : bound_Fit.f a0 = some r) :
    Calls Try.prog 83 #[.int .i64 a0] w fun e w' => e = .returned (.int .i64 r) ∧ Drawn0 w w' := by
  obtain rfl := Option.some.inj h
  clear h
  go_enter Try.func83, Try.ntmps83
  go_wp2
  all_goals
    go_ret
    refine ⟨?_, Drawn0.refl _⟩
    first
      | (rw [show bfit a0 = 4611686018427387904 by unfold bfit; (repeat' split) <;> omega]; rfl)
      | (rw [show bfit a0 = -4611686018427387904 by unfold bfit; (repeat' split) <;> omega]; rfl)
      | (rw [show bfit a0 = a0 by unfold bfit; (repeat' split) <;> omega]; rfl)

end Go.Proofs.Ytomgebmimgaojaa.QO
