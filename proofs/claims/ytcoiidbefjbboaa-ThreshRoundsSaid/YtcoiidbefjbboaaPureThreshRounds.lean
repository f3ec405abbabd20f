/- For any list, number and interval: Fit, Up, Down and Itv of the program give what the reference gives, and the list stays. -/
import Derived.Test.YtcoiidbefjbboaaThFacts
import Derived.Test.YtcoiidbefjbboaaQThx15
namespace Go.Proofs.Ytcoiidbefjbboaa.Pure
open Go.RowKit Go.Proofs.Ytcoiidbefjbboaa.QTh Go.Proofs.YtcoiidbefjbboaaW.PrintWords Go.Proofs.YtcoiidbefjbboaaW.PrintLast Go.Proofs.YtcoiidbefjbboaaW.PrintMore Go.Proofs.Ytcoiidbefjbboaa.ThFacts

theorem same_l0 (l : List Int) (hl : l.length ≤ 17592186044416) (d : Nat) : ∀ (k : Nat) (i : Int), 0 ≤ i → i ≤ l.length → (l.length : Int) - i = d → d < k → gimballaw13_same.l0 k l l (l.length : Int) i = some true := by
  induction d with
  | zero =>
    intro k i h0 hi hd hk
    obtain ⟨k, rfl⟩ : ∃ m, k = m + 1 := ⟨k - 1, by omega⟩
    simp only [gimballaw13_same.l0]; rw [if_neg (by omega)]
  | succ d ih =>
    intro k i h0 hi hd hk
    obtain ⟨k, rfl⟩ : ∃ m, k = m + 1 := ⟨k - 1, by omega⟩
    simp only [gimballaw13_same.l0]
    rw [if_pos (by omega), if_pos (by omega), if_pos (by omega), if_pos (by omega), if_pos trivial, show wrap64 (i + 1) = i + 1 by unfold wrap64; omega]
    exact ih k (i + 1) (by omega) (by omega) (by omega) (by omega)
theorem same_self (l : List Int) (hl : l.length ≤ 17592186044416) (k : Nat) (hk : l.length < k) : gimballaw13_same.f k l l = some true := by
  unfold gimballaw13_same.f; rw [if_pos rfl]
  exact same_l0 l hl l.length k 0 (by omega) (by omega) (by omega) hk
theorem awake_true (k : Nat) (hk : 258 ≤ k) : gimballaw13_awake.f k = some true := at_rounds (g := fun k => gimballaw13_awake.f k) gimballaw13_awake.mono hk (by kernel_rfl)
theorem itv_same (l : List Int) (hl : l.length ≤ 17592186044416) (lo hi : Int) (h : ¬ lo > hi → -4611686018427387904 ≤ lo ∧ lo < 4611686018427387904 ∧ hi ≤ 4611686018427387904 ∧ hi > -4611686018427387904) :
    ∃ p, (∀ k, 258 ≤ k → thresh_Itv.f k l lo hi = some p) ∧ (∀ k, 258 ≤ k → gimbalref13_Itv.f k l lo hi = some p) := by
  by_cases hc : lo > hi
  · exact ⟨(1, 0), fun k _ => by unfold thresh_Itv.f; rw [if_pos hc], fun k _ => by unfold gimbalref13_Itv.f; rw [if_pos hc]⟩
  · obtain ⟨h1, h2, h3, h4⟩ := h hc
    obtain ⟨p, p1, p2, p3, p4⟩ := down_same l hl lo
    obtain ⟨q, q1, q2, q3, q4⟩ := up_same l hl hi
    rw [bfit_id h1 (by omega)] at p3
    rw [bfit_id (by omega) h3] at q3
    have e1 : mn p 4611686018427387903 = p := by
      unfold mn; by_cases hf : FitP l
      · have := p3 hf; rw [if_neg (by omega)]
      · rw [p4 hf]; rfl
    have e2 : mx q (-4611686018427387903) = q := by
      unfold mx; by_cases hf : FitP l
      · have := q3 hf; rw [if_neg (by omega)]
      · rw [q4 hf]; rfl
    refine ⟨(p, q), fun k hk => ?_, fun k hk => ?_⟩
    · unfold thresh_Itv.f; rw [if_neg hc, p1 k hk, q1 k hk]; simp only [Option.bind_some, e1, e2]
    · unfold gimbalref13_Itv.f; rw [if_neg hc, p2 k hk, q2 k hk]; simp only [Option.bind_some]
theorem rounds_j0 (l : List Int) (hl : l.length ≤ 17592186044416) (x lo hi : Int) (h : ¬ lo > hi → -4611686018427387904 ≤ lo ∧ lo < 4611686018427387904 ∧ hi ≤ 4611686018427387904 ∧ hi > -4611686018427387904) (k : Nat) (hk : l.length + 258 ≤ k) :
    gimballaw13_ThreshRounds.j0 (k + 1) l x l lo hi = some true := by
  obtain ⟨b, b1, b2, _⟩ := fits l hl
  obtain ⟨p, p1, p2, _, _⟩ := up_same l hl x
  obtain ⟨q, q1, q2, _, _⟩ := down_same l hl x
  obtain ⟨i, i1, i2⟩ := itv_same l hl lo hi h
  simp only [gimballaw13_ThreshRounds.j0]
  rw [b1 k (by omega), b2 k (by omega), p1 k (by omega), p2 k (by omega), q1 k (by omega), q2 k (by omega), i1 k (by omega), i2 k (by omega), same_self l hl k (by omega), awake_true k (by omega)]
  simp
theorem ThreshRounds : gimballaw13_ThreshRounds.Pure := by
  intro l x lo hi hl _ _ _
  have hn : l.length ≤ 17592186044416 := by have := hl.1; omega
  refine ⟨l.length + 258 + 1, ?_⟩
  unfold gimballaw13_ThreshRounds.f
  have h8 : ¬ ((-3 : Int) > 8) → -4611686018427387904 ≤ (-3 : Int) ∧ (-3 : Int) < 4611686018427387904 ∧ (8 : Int) ≤ 4611686018427387904 ∧ (8 : Int) > -4611686018427387904 := by decide
  have e8 := rounds_j0 l hn x (-3) 8 h8 (l.length + 258) (Nat.le_refl _)
  rw [if_pos (by have := hl.1; simp; omega)]
  simp only [Option.bind_some, List.nil_append]
  by_cases c1 : lo > hi
  · rw [if_pos c1]; exact rounds_j0 l hn x 1 0 (by decide) _ (Nat.le_refl _)
  · rw [if_neg c1]
    by_cases c2 : lo < -4611686018427387904
    · rw [if_pos c2, e8]
    · rw [if_neg c2]
      by_cases c3 : lo ≥ 4611686018427387904
      · rw [if_pos c3, e8]
      · rw [if_neg c3]
        by_cases c4 : hi > 4611686018427387904
        · rw [if_pos c4, e8]
        · rw [if_neg c4]
          by_cases c5 : hi ≤ -4611686018427387904
          · rw [if_pos c5, e8]
          · rw [if_neg c5]; exact rounds_j0 l hn x lo hi (fun _ => by omega) _ (Nat.le_refl _)
end Go.Proofs.Ytcoiidbefjbboaa.Pure
