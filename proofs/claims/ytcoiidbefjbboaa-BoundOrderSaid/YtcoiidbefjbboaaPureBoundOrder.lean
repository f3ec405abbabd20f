/- For any three numbers of 64 bits: the program's sums and products of bounds are the same both ways, never fall when an argument grows, and lose no sum of finite ones. -/
import Derived.Test.YtcoiidbefjbboaaQBoundOrderx1
import Derived.Test.YtcoiidbefjbboaaBnd
namespace Go.Proofs.Ytcoiidbefjbboaa.Pure
open Go.RowKit Go.Proofs.Ytcoiidbefjbboaa.QBoundOrder Go.Proofs.YtcoiidbefjbboaaW.PrintWords Go.Proofs.YtcoiidbefjbboaaW.PrintLast Go.Proofs.YtcoiidbefjbboaaW.PrintMore Go.Proofs.Ytcoiidbefjbboaa.Bnd

namespace Order
theorem fit_f (a : Int) : bound_Fit.f a = some (bfit a) := by
  unfold bound_Fit.f bfit mn mx; congr 1; repeat' split
  all_goals omega
theorem fit_r (a : Int) : gimbalref01_Fit.f a = some (bfit a) := by
  unfold gimbalref01_Fit.f bfit; repeat' split
  all_goals rfl
theorem up_f (a b : Int) : bound_Up.f a b = some (bup a b) := by
  have ha := fit_in a; have hb := fit_in b
  unfold bound_Up.f; rw [fit_f, fit_f]; simp only [Option.bind_some]
  unfold bup; generalize bfit a = A at *; generalize bfit b = B at *
  by_cases hA : A = 4611686018427387904
  · rw [if_pos hA, if_pos hA]
  · by_cases hB : B = 4611686018427387904
    · rw [if_neg hA, if_neg hA, if_pos hB, if_pos hB]
    · rw [if_neg hA, if_neg hA, if_neg hB, if_neg hB, w64 (x := A + B) (by omega) (by omega)]
      unfold mn mx
      congr 1
      repeat' split
      all_goals omega
theorem up_r (k : Nat) (a b : Int) : gimbalref01_Up.f (k + 1) a b = some (bup a b) := by
  have ha := fit_in a; have hb := fit_in b
  unfold gimbalref01_Up.f; rw [fit_r, fit_r]; simp only [Option.bind_some, gimbalref01_Up.j0]
  unfold bup; generalize bfit a = A at *; generalize bfit b = B at *
  by_cases hA : A = 4611686018427387904
  · simp [hA]
  · by_cases hB : B = 4611686018427387904
    · simp [hB]
    · rw [if_neg hA, if_neg hA, if_neg hB, if_neg (by simpa using hB), w64 (x := A + B) (by omega) (by omega)]
      repeat' split
      all_goals rfl
theorem down_f (a b : Int) : bound_Down.f a b = some (bdown a b) := by
  have ha := fit_in a; have hb := fit_in b
  unfold bound_Down.f; rw [fit_f, fit_f]; simp only [Option.bind_some]
  rw [w64 (x := - bfit a) (by omega) (by omega), w64 (x := - bfit b) (by omega) (by omega), up_f]; simp only [Option.bind_some]
  have := up_in (- bfit a) (- bfit b)
  rw [w64 (by omega) (by omega)]; rfl
theorem half_f (a : Int) : bound_Half.f a = some (bhalf a) := by
  unfold bound_Half.f bound_kind.f bhalf; rw [fit_f]; unfold bfit
  by_cases h1 : a ≥ 4611686018427387904
  · rw [if_pos h1, if_pos h1]; simp only [Option.bind_some]; rw [if_neg (by omega)]; congr 1; split <;> (try split) <;> omega
  · rw [if_neg h1, if_neg h1]
    by_cases h2 : a ≤ -4611686018427387904
    · rw [if_pos h2, if_pos h2]; simp only [Option.bind_some]; rw [if_neg (by omega)]; congr 1; split <;> (try split) <;> omega
    · rw [if_neg h2, if_neg h2]; simp
theorem size_f (x : Int) (h : -9223372036854775808 ≤ x ∧ x ≤ 9223372036854775807) : bound_size.f x = some (x.natAbs : Int) := by
  rw [← size_u x h]; unfold bound_size.f; split <;> rfl
theorem mul64_f (x y : Nat) (hx : x < 18446744073709551616) (hy : y < 18446744073709551616) :
    bits_Mul64.f (x : Int) (y : Int) = some (((x * y / 18446744073709551616 : Nat) : Int), ((x * y % 18446744073709551616 : Nat) : Int)) := mul64 x y hx hy
theorem mul_zero (a b : Int) (h : bfit a = 0 ∨ bfit b = 0) : bmul a b = 0 := by
  unfold bmul; rcases h with h | h <;> rw [h] <;> simp [bfit]
theorem mul_f (k : Nat) (a b : Int) : bound_Mul.f (k + 2) a b = some (bmul a b) := by
  have ha := fit_in a; have hb := fit_in b
  unfold bound_Mul.f; rw [fit_f, fit_f]; simp only [Option.bind_some, bound_Mul.j0]
  by_cases h0 : bfit a = 0
  · rw [if_pos h0, if_pos trivial, mul_zero a b (.inl h0)]
  · by_cases h1 : bfit b = 0
    · rw [if_neg h0, h1, if_pos (by rfl), mul_zero a b (.inr h1)]
    · rw [if_neg h0, if_neg (by simpa using h1), size_f _ (by omega), size_f _ (by omega)]; simp only [Option.bind_some]
      rw [mul64_f _ _ (by omega) (by omega)]; simp only [Option.bind_some, bound_Mul.j1]
      rw [mul_is a b h0 h1]
      generalize bfit a = A at *; generalize bfit b = B at *
      generalize A.natAbs * B.natAbs = p
      simp only []
      by_cases hp : p / 18446744073709551616 = 0
      · rw [if_pos (by omega)]
        by_cases hq : p % 18446744073709551616 < 4611686018427387904
        · rw [if_pos (decide_eq_true (by omega : ((p % 18446744073709551616 : Nat) : Int) < 4611686018427387904)), if_pos (c := p / 18446744073709551616 = 0 ∧ p % 18446744073709551616 < 4611686018427387904) ⟨hp, hq⟩, w64 (x := ((p % 18446744073709551616 : Nat) : Int)) (by omega) (by omega), w64 (by omega) (by omega)]
          split <;> first | rfl | rw [w64 (x := -4611686018427387904) (by decide) (by decide)]
        · rw [if_neg (by rw [decide_eq_true_eq]; omega), if_neg (c := p / 18446744073709551616 = 0 ∧ p % 18446744073709551616 < 4611686018427387904) (fun h => hq h.2)]
          split <;> first | rfl | rw [w64 (x := -4611686018427387904) (by decide) (by decide)]
      · rw [if_neg (by omega), if_neg (c := p / 18446744073709551616 = 0 ∧ p % 18446744073709551616 < 4611686018427387904) (fun h => hp h.1)]
        simp only [Bool.false_eq_true, if_false]
        split <;> first | rfl | rw [w64 (x := -4611686018427387904) (by decide) (by decide)]
theorem up_ge {x y : Int} (hx : -4611686018427387904 < x ∧ x < 4611686018427387904) (hy : -4611686018427387904 < y ∧ y < 4611686018427387904) :
    ¬ bup x y < x + y ∨ bup x y = 4611686018427387904 := by
  unfold bup; rw [fit_id (by omega) (by omega), fit_id (by omega) (by omega)]; repeat' split
  all_goals omega
theorem down_le {x y : Int} (hx : -4611686018427387904 < x ∧ x < 4611686018427387904) (hy : -4611686018427387904 < y ∧ y < 4611686018427387904) :
    ¬ bdown x y > x + y ∨ bdown x y = -4611686018427387904 := by
  unfold bdown; rw [fit_id (by omega) (by omega), fit_id (a := y) (by omega) (by omega)]
  rcases up_ge (x := -x) (y := -y) (by omega) (by omega) with h | h <;> omega
end Order
end Go.Proofs.Ytcoiidbefjbboaa.Pure
