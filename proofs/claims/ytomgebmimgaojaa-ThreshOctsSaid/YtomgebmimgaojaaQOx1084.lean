/- Written by a program of this session out of the translation. -/
import Derived.Test.YtomgebmimgaojaaQOx0
noncomputable section
namespace Go.Proofs.Ytomgebmimgaojaa.QO
open Go.RowKit Go.Proofs.YtomgebmimgaojaaW.PrintWords Go.Proofs.YtomgebmimgaojaaW.PrintLast
set_option linter.unusedVariables false
set_option linter.unusedSimpArgs false

/-! ### gimbalref11_plus: function 84 -/
def gimbalref11_plus.f (a0 : Int) (a1 : Int) : Option (Int) := if a0 = 4611686018427387904 then (some 4611686018427387904) else (if a1 = 4611686018427387904 then (some 4611686018427387904) else (some (wrap64 (a0 + a1))))
set_option maxHeartbeats 8000000 in
set_option maxRecDepth 100000 in
theorem gimbalref11_plus.calls (a0 : Int) (a1 : Int) (r : Int) (w : World) (h : gimbalref11_plus.f a0 a1 = some r) :
    Calls Try.prog 84 #[.int .i64 a0, .int .i64 a1] w fun e w' => e = .returned (.int .i64 r) ∧ Drawn0 w w' := by
  have H : (if a0 = 4611686018427387904 then (some 4611686018427387904) else (if a1 = 4611686018427387904 then (some 4611686018427387904) else (some (wrap64 (a0 + a1))))) = some r := h
  clear h
  by_cases c3 : a0 = 4611686018427387904
  · rw [if_pos c3] at H
    have c3b0 : (a0 == 4611686018427387904) = true := beq_iff_eq.mpr c3
    have c3b1 : (a0 != 4611686018427387904) = false := bne_eq_false_iff_eq.mpr c3
    clear c3
    obtain rfl := Option.some.inj H
    go_enter Try.func84, Try.ntmps84
    go_wp2
    go_ret
    exact ⟨by first | rfl | (simp; done) | (simp [*]; done), by repeat (first | exact Drawn0.refl _ | apply Drawn0.step)⟩
  · rw [if_neg c3] at H
    have c3b0 : (a0 == 4611686018427387904) = false := beq_eq_false_iff_ne.mpr c3
    have c3b1 : (a0 != 4611686018427387904) = true := bne_iff_ne.mpr c3
    by_cases c4 : a1 = 4611686018427387904
    · rw [if_pos c4] at H
      have c4b0 : (a1 == 4611686018427387904) = true := beq_iff_eq.mpr c4
      have c4b1 : (a1 != 4611686018427387904) = false := bne_eq_false_iff_eq.mpr c4
      clear c4
      obtain rfl := Option.some.inj H
      go_enter Try.func84, Try.ntmps84
      go_wp2
      go_ret
      exact ⟨by first | rfl | (simp; done) | (simp [*]; done), by repeat (first | exact Drawn0.refl _ | apply Drawn0.step)⟩
    · rw [if_neg c4] at H
      have c4b0 : (a1 == 4611686018427387904) = false := beq_eq_false_iff_ne.mpr c4
      have c4b1 : (a1 != 4611686018427387904) = true := bne_iff_ne.mpr c4
      obtain rfl := Option.some.inj H
      go_enter Try.func84, Try.ntmps84
      go_wp2
      go_ret
      exact ⟨by first | rfl | (simp; done) | (simp [*]; done), by repeat (first | exact Drawn0.refl _ | apply Drawn0.step)⟩

end Go.Proofs.Ytomgebmimgaojaa.QO
