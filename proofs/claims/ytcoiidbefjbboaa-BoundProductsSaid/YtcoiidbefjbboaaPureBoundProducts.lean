/- For any two numbers of 64 bits: Mul and Div of the program give what the reference gives. -/
import Derived.Test.YtcoiidbefjbboaaQBoundProductsx2
import Derived.Test.YtcoiidbefjbboaaBnd
namespace Go.Proofs.Ytcoiidbefjbboaa.Pure
open Go.RowKit Go.Proofs.Ytcoiidbefjbboaa.QBoundProducts Go.Proofs.YtcoiidbefjbboaaW.PrintWords Go.Proofs.YtcoiidbefjbboaaW.PrintLast Go.Proofs.YtcoiidbefjbboaaW.PrintMore Go.Proofs.Ytcoiidbefjbboaa.Bnd

namespace Products
theorem fit_f (a : Int) : bound_Fit.f a = some (bfit a) := by
  unfold bound_Fit.f bfit mn mx; congr 1; repeat' split
  all_goals omega
theorem fit_r (a : Int) : gimbalref01_Fit.f a = some (bfit a) := by
  unfold gimbalref01_Fit.f bfit; repeat' split
  all_goals rfl
theorem size_f (x : Int) (h : -9223372036854775808 ≤ x ∧ x ≤ 9223372036854775807) : bound_size.f x = some (x.natAbs : Int) := by
  rw [← size_u x h]; unfold bound_size.f; split <;> first | rfl | rw [w64 (x := -4611686018427387904) (by decide) (by decide)]
theorem size_r (x : Int) (h : -9223372036854775808 ≤ x ∧ x ≤ 9223372036854775807) : gimbalref01_size.f x = some (x.natAbs : Int) := by
  rw [← size_u x h]; unfold gimbalref01_size.f; split <;> first | rfl | rw [w64 (x := -4611686018427387904) (by decide) (by decide)]
theorem mul64_f (x y : Nat) (hx : x < 18446744073709551616) (hy : y < 18446744073709551616) :
    bits_Mul64.f (x : Int) (y : Int) = some (((x * y / 18446744073709551616 : Nat) : Int), ((x * y % 18446744073709551616 : Nat) : Int)) := mul64 x y hx hy
theorem mul_zero (a b : Int) (h : bfit a = 0 ∨ bfit b = 0) : bmul a b = 0 := by
  unfold bmul; rcases h with h | h <;> rw [h] <;> simp [bfit]
theorem mul_f (k : Nat) (a b : Int) : bound_Mul.f (k + 2) a b = some (bmul a b) := by
  have ha := fit_in a; have hb := fit_in b
  unfold bound_Mul.f; rw [fit_f, fit_f]; simp only [Option.bind_some, bound_Mul.j0]
  by_cases h0 : bfit a = 0
  · rw [if_pos h0, if_pos trivial, mul_zero a b (.inl h0)]
  · by_cases h1 : bfit b = 0
    · rw [if_neg h0, h1, if_pos (by rfl), mul_zero a b (.inr h1)]
    · rw [if_neg h0, if_neg (by simpa using h1), size_f _ (by omega), size_f _ (by omega)]; simp only [Option.bind_some]
      rw [mul64_f _ _ (by omega) (by omega)]; simp only [Option.bind_some, bound_Mul.j1]
      rw [mul_is a b h0 h1]
      generalize bfit a = A at *; generalize bfit b = B at *
      generalize A.natAbs * B.natAbs = p
      simp only []
      by_cases hp : p / 18446744073709551616 = 0
      · rw [if_pos (by omega)]
        by_cases hq : p % 18446744073709551616 < 4611686018427387904
        · rw [if_pos (decide_eq_true (by omega : ((p % 18446744073709551616 : Nat) : Int) < 4611686018427387904)), if_pos (c := p / 18446744073709551616 = 0 ∧ p % 18446744073709551616 < 4611686018427387904) ⟨hp, hq⟩, w64 (x := ((p % 18446744073709551616 : Nat) : Int)) (by omega) (by omega), w64 (by omega) (by omega)]
          split <;> first | rfl | rw [w64 (x := -4611686018427387904) (by decide) (by decide)]
        · rw [if_neg (by rw [decide_eq_true_eq]; omega), if_neg (c := p / 18446744073709551616 = 0 ∧ p % 18446744073709551616 < 4611686018427387904) (fun h => hq h.2)]
          split <;> first | rfl | rw [w64 (x := -4611686018427387904) (by decide) (by decide)]
      · rw [if_neg (by omega), if_neg (c := p / 18446744073709551616 = 0 ∧ p % 18446744073709551616 < 4611686018427387904) (fun h => hp h.1)]
        simp only [Bool.false_eq_true, if_false]
        split <;> first | rfl | rw [w64 (x := -4611686018427387904) (by decide) (by decide)]
theorem mul_r (k : Nat) (a b : Int) : gimbalref01_Mul.f (k + 2) a b = some (bmul a b) := by
  have ha := fit_in a; have hb := fit_in b
  unfold gimbalref01_Mul.f; rw [fit_r, fit_r]; simp only [Option.bind_some, gimbalref01_Mul.j0]
  by_cases h0 : bfit a = 0
  · rw [if_pos h0, if_pos trivial, mul_zero a b (.inl h0)]
  · by_cases h1 : bfit b = 0
    · rw [if_neg h0, h1, if_pos (by rfl), mul_zero a b (.inr h1)]
    · rw [if_neg h0, if_neg (by simpa using h1), size_r _ (by omega), size_r _ (by omega)]; simp only [Option.bind_some]
      rw [mul64_f _ _ (by omega) (by omega)]; simp only [Option.bind_some, gimbalref01_Mul.j1]
      rw [mul_is a b h0 h1]
      generalize bfit a = A at *; generalize bfit b = B at *
      generalize A.natAbs * B.natAbs = p
      simp only []
      by_cases hp : p / 18446744073709551616 = 0
      · rw [if_pos (by omega)]
        by_cases hq : p % 18446744073709551616 < 4611686018427387904
        · rw [if_neg (by rw [decide_eq_true_eq]; omega), if_pos (c := p / 18446744073709551616 = 0 ∧ p % 18446744073709551616 < 4611686018427387904) ⟨hp, hq⟩, w64 (x := ((p % 18446744073709551616 : Nat) : Int)) (by omega) (by omega), w64 (by omega) (by omega)]
          split <;> first | rfl | rw [w64 (x := -4611686018427387904) (by decide) (by decide)]
        · rw [if_pos (show decide (((p % 18446744073709551616 : Nat) : Int) ≥ 4611686018427387904) = true from decide_eq_true (by omega)), if_neg (c := p / 18446744073709551616 = 0 ∧ p % 18446744073709551616 < 4611686018427387904) (fun h => hq h.2)]
          split <;> first | rfl | rw [w64 (x := -4611686018427387904) (by decide) (by decide)]
      · rw [if_neg (by omega), if_neg (c := p / 18446744073709551616 = 0 ∧ p % 18446744073709551616 < 4611686018427387904) (fun h => hp h.1)]
        rw [if_pos trivial]
        split <;> first | rfl | rw [w64 (x := -4611686018427387904) (by decide) (by decide)]
theorem div_same (k : Nat) (a b : Int) : ∃ r, bound_Div.f (k + 2) a b = some r ∧ gimbalref01_Div.f (k + 2) a b = some r := by
  have ha := fit_in a; have hb := fit_in b
  unfold bound_Div.f gimbalref01_Div.f; rw [fit_f, fit_f, fit_r, fit_r]; simp only [Option.bind_some, bound_Div.j0, gimbalref01_Div.j0, gimbalref01_Div.j1]
  unfold bound_kind.f
  generalize bfit a = A at *; generalize bfit b = B at *
  by_cases hB : B = 0
  · subst hB; simp
  · by_cases hA : A = 0
    · subst hA; simp [hB]
      repeat' split
      all_goals simp_all
    · by_cases h1 : B ≥ 4611686018427387904
      · obtain rfl : B = 4611686018427387904 := by omega
        simp [hA]
      · by_cases h2 : B ≤ -4611686018427387904
        · obtain rfl : B = -4611686018427387904 := by omega
          simp [hA]
        · have e1 : (B == -4611686018427387904) = false := by simpa using (by omega : ¬ B = -4611686018427387904)
          have e2 : ¬ B = 4611686018427387904 := by omega
          simp only [if_neg hB, if_neg hA, if_neg h1, if_neg h2, if_neg e2, e1, Option.bind_some]
          simp only [Bool.false_eq_true, if_false, bne_self_eq_false]
          by_cases h3 : A ≥ 4611686018427387904
          · obtain rfl : A = 4611686018427387904 := by omega
            simp
            split <;> simp
          · by_cases h4 : A ≤ -4611686018427387904
            · obtain rfl : A = -4611686018427387904 := by omega
              simp
              split <;> simp
            · have e3 : (A == -4611686018427387904) = false := by simpa using (by omega : ¬ A = -4611686018427387904)
              have e4 : ¬ A = 4611686018427387904 := by omega
              simp only [if_neg h3, if_neg h4, if_neg e4, e3, Option.bind_some, if_true, Bool.false_eq_true, if_false]
              exact ⟨_, rfl, rfl⟩
end Products

theorem BoundProducts : gimballaw01_BoundProducts.Pure := by
  intro a b _ _
  refine ⟨3, ?_⟩
  unfold gimballaw01_BoundProducts.f
  obtain ⟨r, h1, h2⟩ := Products.div_same 1 a b
  have e3 : bmul 3 (-4) = -12 := by decide
  rw [Products.mul_f 1, Products.mul_r 1]
  simp only [Option.bind_some, if_true]
  rw [h1, h2, Products.mul_f 1]
  simp [e3]

end Go.Proofs.Ytcoiidbefjbboaa.Pure
