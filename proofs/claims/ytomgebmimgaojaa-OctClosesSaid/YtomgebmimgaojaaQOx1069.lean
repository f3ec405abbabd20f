/- Written by a program of this session out of the translation. -/
import Derived.Test.YtomgebmimgaojaaQOx0
import Derived.Test.YtomgebmimgaojaaQOx1090
noncomputable section
namespace Go.Proofs.Ytomgebmimgaojaa.QO
open Go.RowKit Go.Proofs.YtomgebmimgaojaaW.PrintWords Go.Proofs.YtomgebmimgaojaaW.PrintLast
set_option linter.unusedVariables false
set_option linter.unusedSimpArgs false

/-! ### oct_above: function 69 -/
/-- is b - a above c? -/
def oct_above.f (a0 : Int) (a1 : Int) (a2 : Int) : Option Bool :=
  if (-9223372036854775808 ≤ a0 ∧ a0 ≤ 9223372036854775807) ∧ (-9223372036854775808 ≤ a1 ∧ a1 ≤ 9223372036854775807) ∧ (-9223372036854775808 ≤ a2 ∧ a2 ≤ 9223372036854775807) then some (decide (a1 - a0 > a2)) else none
set_option maxHeartbeats 8000000 in
set_option maxRecDepth 100000 in
theorem oct_above.calls (a0 : Int) (a1 : Int) (a2 : Int) (r : Bool) (w : World) (h : oct_above.f a0 a1 a2 = some r) :
    Calls Try.prog 69 #[.int .i64 a0, .int .i64 a1, .int .i64 a2] w fun e w' => e = .returned (.bool r) ∧ Drawn0 w w' := by
  unfold oct_above.f at h
  by_cases hc : (-9223372036854775808 ≤ a0 ∧ a0 ≤ 9223372036854775807) ∧ (-9223372036854775808 ≤ a1 ∧ a1 ≤ 9223372036854775807) ∧ (-9223372036854775808 ≤ a2 ∧ a2 ≤ 9223372036854775807)
  · rw [if_pos hc] at h
    obtain rfl := Option.some.inj h
    clear h
    obtain ⟨h0, h1, h2⟩ := hc
    have hw := IntKind.wrap_u64 a2
    obtain ⟨hi, hhi⟩ : ∃ hi : Int, (a1 - a0) / 18446744073709551616 = hi := ⟨_, rfl⟩
    obtain ⟨lo, hlo⟩ : ∃ lo : Int, (a1 - a0) % 18446744073709551616 = lo := ⟨_, rfl⟩
    have HL := fun W => oct_less_any a0 a1 W h0 h1
    rw [hhi, hlo] at HL
    have HC := Aside0.mk HL
    clear HL
    by_cases hne : hi = a2 / 9223372036854775808
    · have f1 : (hi != a2 / 9223372036854775808) = false := by rw [hne]; simp
      have E : Aside0 (decide (IntKind.u64.wrap a2 < lo) = decide (a1 - a0 > a2)) := ⟨by rw [decide_eq_decide]; omega⟩
      clear hw hhi hlo h0 h1 h2 hne
      go_enter Try.func69, Try.ntmps69
      go_wp2_with (go_at_call 90; (with_reducible refine (HC.out _).mono ?_); rintro e w1 ⟨rfl, ⟨nd, rfl⟩⟩)
      go_ret
      refine ⟨?_, ⟨_, rfl⟩⟩
      rw [← E.out]; rfl
    · have f1 : (hi != a2 / 9223372036854775808) = true := by simpa using hne
      have E : Aside0 (decide (a2 / 9223372036854775808 < hi) = decide (a1 - a0 > a2)) := ⟨by rw [decide_eq_decide]; omega⟩
      clear hw hhi hlo h0 h1 h2 hne
      go_enter Try.func69, Try.ntmps69
      go_wp2_with (go_at_call 90; (with_reducible refine (HC.out _).mono ?_); rintro e w1 ⟨rfl, ⟨nd, rfl⟩⟩)
      go_ret
      refine ⟨?_, ⟨_, rfl⟩⟩
      rw [← E.out]; rfl
  · rw [if_neg hc] at h
    exact absurd h (by simp)

end Go.Proofs.Ytomgebmimgaojaa.QO
