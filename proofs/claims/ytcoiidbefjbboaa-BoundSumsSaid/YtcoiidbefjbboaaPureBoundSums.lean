/- For any two numbers of 64 bits: Fit, Up, Down, Neg and Half of the program give what the reference gives. -/
import Derived.Test.YtcoiidbefjbboaaPBoundSumsx1
import Derived.Test.YtcoiidbefjbboaaBnd
namespace Go.Proofs.Ytcoiidbefjbboaa.Pure
open Go.RowKit Go.Proofs.Ytcoiidbefjbboaa.PBoundSums Go.Proofs.YtcoiidbefjbboaaW.PrintWords Go.Proofs.YtcoiidbefjbboaaW.PrintLast Go.Proofs.YtcoiidbefjbboaaW.PrintMore Go.Proofs.Ytcoiidbefjbboaa.Bnd

theorem fit_f (a : Int) : bound_Fit.f a = some (bfit a) := by
  unfold bound_Fit.f bfit mn mx; congr 1; repeat' split
  all_goals omega
theorem fit_r (a : Int) : gimbalref01_Fit.f a = some (bfit a) := by
  unfold gimbalref01_Fit.f bfit; repeat' split
  all_goals rfl
theorem up_f (a b : Int) : bound_Up.f a b = some (bup a b) := by
  have ha := fit_in a; have hb := fit_in b
  unfold bound_Up.f; rw [fit_f, fit_f]; simp only [Option.bind_some]
  unfold bup; generalize bfit a = A at *; generalize bfit b = B at *
  by_cases hA : A = 4611686018427387904
  · rw [if_pos hA, if_pos hA]
  · by_cases hB : B = 4611686018427387904
    · rw [if_neg hA, if_neg hA, if_pos hB, if_pos hB]
    · rw [if_neg hA, if_neg hA, if_neg hB, if_neg hB, w64 (x := A + B) (by omega) (by omega)]
      unfold mn mx
      congr 1
      repeat' split
      all_goals omega
theorem up_r (k : Nat) (a b : Int) : gimbalref01_Up.f (k + 1) a b = some (bup a b) := by
  have ha := fit_in a; have hb := fit_in b
  unfold gimbalref01_Up.f; rw [fit_r, fit_r]; simp only [Option.bind_some, gimbalref01_Up.j0]
  unfold bup; generalize bfit a = A at *; generalize bfit b = B at *
  by_cases hA : A = 4611686018427387904
  · simp [hA]
  · by_cases hB : B = 4611686018427387904
    · simp [hB]
    · rw [if_neg hA, if_neg hA, if_neg hB, if_neg (by simpa using hB), w64 (x := A + B) (by omega) (by omega)]
      repeat' split
      all_goals rfl
theorem down_f (a b : Int) : bound_Down.f a b = some (bdown a b) := by
  have ha := fit_in a; have hb := fit_in b
  unfold bound_Down.f; rw [fit_f, fit_f]; simp only [Option.bind_some]
  rw [w64 (x := - bfit a) (by omega) (by omega), w64 (x := - bfit b) (by omega) (by omega), up_f]; simp only [Option.bind_some]
  have := up_in (- bfit a) (- bfit b)
  rw [w64 (by omega) (by omega)]; rfl
theorem down_r (k : Nat) (a b : Int) : gimbalref01_Down.f (k + 1) a b = some (bdown a b) := by
  have ha := fit_in a; have hb := fit_in b
  unfold gimbalref01_Down.f; rw [fit_r, fit_r]; simp only [Option.bind_some]
  rw [w64 (x := - bfit a) (by omega) (by omega), w64 (x := - bfit b) (by omega) (by omega), up_r]; simp only [Option.bind_some]
  have := up_in (- bfit a) (- bfit b)
  rw [w64 (by omega) (by omega)]; rfl
theorem neg_f (a : Int) : bound_Neg.f a = some (bneg a) := by
  have ha := fit_in a
  unfold bound_Neg.f; rw [fit_f]; simp only [Option.bind_some]; rw [w64 (by omega) (by omega)]; rfl
theorem neg_r (a : Int) : gimbalref01_Neg.f a = some (bneg a) := by
  have ha := fit_in a
  unfold gimbalref01_Neg.f; rw [fit_r]; simp only [Option.bind_some]; rw [w64 (by omega) (by omega)]; rfl
theorem half_f (a : Int) : bound_Half.f a = some (bhalf a) := by
  unfold bound_Half.f bound_kind.f bhalf; rw [fit_f]; unfold bfit
  by_cases h1 : a ≥ 4611686018427387904
  · rw [if_pos h1, if_pos h1]; simp only [Option.bind_some]; rw [if_neg (by omega)]; congr 1; split <;> (try split) <;> omega
  · rw [if_neg h1, if_neg h1]
    by_cases h2 : a ≤ -4611686018427387904
    · rw [if_pos h2, if_pos h2]; simp only [Option.bind_some]; rw [if_neg (by omega)]; congr 1; split <;> (try split) <;> omega
    · rw [if_neg h2, if_neg h2]; simp
theorem half_r (k : Nat) (a : Int) : gimbalref01_Half.f (k + 1) a = some (bhalf a) := by
  have ha := fit_in a
  have e : bhalf a = bhalf (bfit a) := by unfold bhalf bfit; repeat' split; all_goals omega
  rw [e]
  unfold gimbalref01_Half.f; rw [fit_r]; simp only [Option.bind_some, gimbalref01_Half.j0]
  generalize bfit a = A at *
  unfold bhalf
  by_cases h1 : A = 4611686018427387904
  · subst h1; rfl
  · by_cases h2 : A = -4611686018427387904
    · subst h2; decide
    · rw [if_neg h1, if_neg (by simpa using h2), if_neg (show ¬ A ≥ 4611686018427387904 by omega), if_neg (show ¬ A ≤ -4611686018427387904 by omega)]
      by_cases h3 : A ≥ 0
      · rw [if_pos h3, Int.tdiv_eq_ediv_of_nonneg h3, w64 (by omega) (by omega)]
      · rw [if_neg h3, w64 (x := -A) (by omega) (by omega), w64 (x := -A + 1) (by omega) (by omega), Int.tdiv_eq_ediv_of_nonneg (by omega), w64 (x := (-A + 1) / 2) (by omega) (by omega), w64 (by omega) (by omega)]
        congr 1; omega

theorem BoundSums : gimballaw01_BoundSums.Pure := by
  intro a b _ _
  refine ⟨1, ?_⟩
  unfold gimballaw01_BoundSums.f
  have e3 : bup 1 2 = 3 := by decide
  rw [fit_f, fit_r, up_f, up_f, up_r, down_f, down_r, neg_f, neg_r, half_f, half_r]
  simp [e3]

end Go.Proofs.Ytcoiidbefjbboaa.Pure
