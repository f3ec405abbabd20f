/- Thresholds: what Fit, Up, Down and Itv of the program and of the reference come to, over plain lists. -/
import Derived.Test.YtomgebmimgaojaaQOx1027
import Derived.Test.YtomgebmimgaojaaQOx1061
import Derived.Test.YtomgebmimgaojaaQOx1063
import Derived.Test.YtomgebmimgaojaaQOx1066
import Derived.Test.YtomgebmimgaojaaQOx1083
import Derived.Test.YtomgebmimgaojaaQOx1086
import Derived.Test.YtomgebmimgaojaaQOx1089
namespace Go.Proofs.Ytomgebmimgaojaa.ThFacts
open Go.RowKit Go.Proofs.Ytomgebmimgaojaa.QO Go.Proofs.YtomgebmimgaojaaW.PrintWords Go.Proofs.YtomgebmimgaojaaW.PrintLast Go.Proofs.YtomgebmimgaojaaW.PrintMore

def FitP (l : List Int) : Prop := 2 ≤ l.length ∧ l.length ≤ 256 ∧ rd l 0 = -4611686018427387904 ∧ rd l ((l.length : Int) - 1) = 4611686018427387904 ∧ ∀ j : Int, 1 ≤ j → j < l.length → rd l (j - 1) < rd l j
theorem wi {i : Int} {n : Nat} (h0 : 0 ≤ i) (h : i < n) (hn : n ≤ 256) : wrap64 (i + 1) = i + 1 := by unfold wrap64; omega
theorem wd {i : Int} {n : Nat} (h0 : 0 ≤ i) (h : i ≤ n) (hn : n ≤ 17592186044416) : wrap64 (i - 1) = i - 1 := by unfold wrap64; omega
theorem fit_l0 (l : List Int) (hn : l.length ≤ 256) (d : Nat) : ∀ (k : Nat) (i : Int), 1 ≤ i → i ≤ l.length → (l.length : Int) - i = d → d < k → ∃ b, thresh_Fit.l0 k l i = some b ∧ (b = true ↔ ∀ j : Int, i ≤ j → j < l.length → rd l (j - 1) < rd l j) := by
  induction d with
  | zero =>
    intro k i h0 h1 hd hk
    obtain ⟨k, rfl⟩ : ∃ m, k = m + 1 := ⟨k - 1, by omega⟩
    refine ⟨true, by simp only [thresh_Fit.l0]; rw [if_neg (by omega)], by simp; intro j hj hj'; omega⟩
  | succ d ih =>
    intro k i h0 h1 hd hk
    obtain ⟨k, rfl⟩ : ∃ m, k = m + 1 := ⟨k - 1, by omega⟩
    simp only [thresh_Fit.l0]
    rw [if_pos (by omega), wd (n := l.length) (by omega) (by omega) (by omega), if_pos (by omega), if_pos (by omega), if_pos (by omega)]
    by_cases h : rd l (i - 1) ≥ rd l i
    · rw [if_pos h]
      exact ⟨false, rfl, by simp; exact ⟨i, by omega, by omega, by omega⟩⟩
    · rw [if_neg h, wi (n := l.length) (by omega) (by omega) hn]
      obtain ⟨b, hb, hb'⟩ := ih k (i + 1) (by omega) (by omega) (by omega) (by omega)
      refine ⟨b, hb, hb'.trans ⟨fun H j hj hj' => ?_, fun H j hj hj' => H j (by omega) hj'⟩⟩
      by_cases e : j = i
      · subst e; omega
      · exact H j (by omega) hj'
theorem fit_r_l0 (l : List Int) (hn : l.length ≤ 256) (d : Nat) : ∀ (k : Nat) (i : Int), 1 ≤ i → i ≤ l.length → (l.length : Int) - i = d → d < k → ∃ b, gimbalref13_Fit.l0 k l i = some b ∧ (b = true ↔ ∀ j : Int, i ≤ j → j < l.length → rd l (j - 1) < rd l j) := by
  induction d with
  | zero =>
    intro k i h0 h1 hd hk
    obtain ⟨k, rfl⟩ : ∃ m, k = m + 1 := ⟨k - 1, by omega⟩
    refine ⟨true, by simp only [gimbalref13_Fit.l0]; rw [if_neg (by omega)], by simp; intro j hj hj'; omega⟩
  | succ d ih =>
    intro k i h0 h1 hd hk
    obtain ⟨k, rfl⟩ : ∃ m, k = m + 1 := ⟨k - 1, by omega⟩
    simp only [gimbalref13_Fit.l0]
    rw [if_pos (by omega), if_pos (by omega), wd (n := l.length) (by omega) (by omega) (by omega), if_pos (by omega), if_pos (by omega)]
    by_cases h : rd l i ≤ rd l (i - 1)
    · rw [if_pos h]
      exact ⟨false, rfl, by simp; exact ⟨i, by omega, by omega, by omega⟩⟩
    · rw [if_neg h, wi (n := l.length) (by omega) (by omega) hn]
      obtain ⟨b, hb, hb'⟩ := ih k (i + 1) (by omega) (by omega) (by omega) (by omega)
      refine ⟨b, hb, hb'.trans ⟨fun H j hj hj' => ?_, fun H j hj hj' => H j (by omega) hj'⟩⟩
      by_cases e : j = i
      · subst e; omega
      · exact H j (by omega) hj'
theorem fit_f (l : List Int) (hl : l.length ≤ 17592186044416) (k : Nat) (hk : 258 ≤ k) : ∃ b, thresh_Fit.f k l = some b ∧ (b = true ↔ FitP l) := by
  obtain ⟨k, rfl⟩ : ∃ m, k = m + 1 := ⟨k - 1, by omega⟩
  unfold thresh_Fit.f FitP
  by_cases h1 : (l.length : Int) < 2
  · rw [if_pos h1]; exact ⟨false, by simp [thresh_Fit.j0], by simp; omega⟩
  · rw [if_neg h1]
    by_cases h2 : (l.length : Int) > 256
    · rw [if_pos h2]; exact ⟨false, by simp [thresh_Fit.j0], by simp; omega⟩
    · rw [if_neg h2, if_pos (by omega)]
      by_cases h3 : rd l 0 = -4611686018427387904
      · rw [if_pos h3, wd (n := l.length) (by omega) (by omega) hl, if_pos (by omega), if_pos (by omega)]
        by_cases h4 : rd l ((l.length : Int) - 1) = 4611686018427387904
        · obtain ⟨b, hb, hb'⟩ := fit_l0 l (by omega) (l.length - 1) k 1 (by omega) (by omega) (by omega) (by omega)
          refine ⟨b, by rw [h4]; simp [thresh_Fit.j0, hb], hb'.trans ⟨fun H => ⟨by omega, by omega, h3, h4, H⟩, fun H => H.2.2.2.2⟩⟩
        · exact ⟨false, by simp [thresh_Fit.j0, h4], by simp; intro _ _ _ h; exact absurd h h4⟩
      · rw [if_neg h3]; exact ⟨false, by simp [thresh_Fit.j0], by simp; intro _ _ h; exact absurd h h3⟩
theorem fit_r (l : List Int) (hl : l.length ≤ 17592186044416) (k : Nat) (hk : 258 ≤ k) : ∃ b, gimbalref13_Fit.f k l = some b ∧ (b = true ↔ FitP l) := by
  obtain ⟨k, rfl⟩ : ∃ m, k = m + 1 := ⟨k - 1, by omega⟩
  unfold gimbalref13_Fit.f FitP
  by_cases h1 : (l.length : Int) < 2
  · rw [if_pos h1]; exact ⟨false, by simp [gimbalref13_Fit.j0], by simp; omega⟩
  · rw [if_neg h1]
    by_cases h2 : (l.length : Int) > 256
    · rw [if_pos h2]; exact ⟨false, by simp [gimbalref13_Fit.j0], by simp; omega⟩
    · rw [if_neg h2, if_pos (by omega)]
      by_cases h3 : rd l 0 = -4611686018427387904
      · rw [if_pos h3, wd (n := l.length) (by omega) (by omega) hl, if_pos (by omega), if_pos (by omega)]
        by_cases h4 : rd l ((l.length : Int) - 1) = 4611686018427387904
        · obtain ⟨b, hb, hb'⟩ := fit_r_l0 l (by omega) (l.length - 1) k 1 (by omega) (by omega) (by omega) (by omega)
          refine ⟨b, by rw [h4]; simp [gimbalref13_Fit.j0, hb], hb'.trans ⟨fun H => ⟨by omega, by omega, h3, h4, H⟩, fun H => H.2.2.2.2⟩⟩
        · exact ⟨false, by simp [gimbalref13_Fit.j0, h4], by simp; intro _ _ _ h; exact absurd h h4⟩
      · rw [if_neg h3]; exact ⟨false, by simp [gimbalref13_Fit.j0], by simp; intro _ _ h; exact absurd h h3⟩
theorem fits (l : List Int) (hl : l.length ≤ 17592186044416) : ∃ b, (∀ k, 258 ≤ k → thresh_Fit.f k l = some b) ∧ (∀ k, 258 ≤ k → gimbalref13_Fit.f k l = some b) ∧ (b = true ↔ FitP l) := by
  obtain ⟨b, hb, hb'⟩ := fit_f l hl 258 (Nat.le_refl _)
  refine ⟨b, fun k hk => ?_, fun k hk => ?_, hb'⟩
  · obtain ⟨c, hc, hc'⟩ := fit_f l hl k hk
    rw [hc]; congr 1; rw [Bool.eq_iff_iff, hc', hb']
  · obtain ⟨c, hc, hc'⟩ := fit_r l hl k hk
    rw [hc]; congr 1; rw [Bool.eq_iff_iff, hc', hb']
theorem bfit_r (a : Int) : gimbalref01_Fit.f a = some (bfit a) := by
  unfold gimbalref01_Fit.f bfit; repeat' split
  all_goals rfl
theorem rd_nat (l : List Int) (j : Nat) : rd l (j : Int) = l.getD j 0 := by unfold rd; rw [Int.toNat_natCast]
/-- the first place at which something holds -/
theorem firstAt_spec (p : Int → Bool) : ∀ (l : List Int), (∀ j, j < firstAt p l → p (l.getD j 0) = false) ∧ (firstAt p l < l.length → p (l.getD (firstAt p l) 0) = true)
  | [] => ⟨fun j h => absurd h (by simp [firstAt]), fun h => absurd h (by simp [firstAt])⟩
  | x :: r => by
    obtain ⟨h1, h2⟩ := firstAt_spec p r
    unfold firstAt
    by_cases hx : p x = true
    · rw [if_pos hx]; exact ⟨fun j h => absurd h (by omega), fun _ => by simpa using hx⟩
    · rw [if_neg hx]
      refine ⟨fun j h => ?_, fun h => ?_⟩
      · cases j with
        | zero => simpa using hx
        | succ j => simpa using h1 j (by omega)
      · simpa using h2 (by simpa using h)
theorem firstAt_lt (p : Int → Bool) (l : List Int) (j : Nat) (_ : j < l.length) (h : p (l.getD j 0) = true) : firstAt p l ≤ j := by
  obtain ⟨h1, _⟩ := firstAt_spec p l
  by_cases hc : j < firstAt p l
  · rw [h1 j hc] at h; cases h
  · omega
theorem up_l0 (l : List Int) (hn : l.length ≤ 256) (x : Int) (N : Nat) (hN : N < l.length) (h1 : ∀ j : Nat, j < N → ¬ rd l j ≥ x) (h2 : rd l N ≥ x) (d : Nat) : ∀ (k : Nat) (i : Int), 0 ≤ i → i ≤ N → (N : Int) - i = d → d < k → gimbalref13_Up.l0 k x l (l.length : Int) i = some (rd l N) := by
  induction d with
  | zero =>
    intro k i h0 hi hd hk
    obtain ⟨k, rfl⟩ : ∃ m, k = m + 1 := ⟨k - 1, by omega⟩
    obtain rfl : i = N := by omega
    simp only [gimbalref13_Up.l0]; rw [if_pos (by omega), if_pos (by omega), if_pos (by omega), if_pos h2]
  | succ d ih =>
    intro k i h0 hi hd hk
    obtain ⟨k, rfl⟩ : ∃ m, k = m + 1 := ⟨k - 1, by omega⟩
    simp only [gimbalref13_Up.l0]
    have hlt := h1 i.toNat (by omega)
    rw [Int.toNat_of_nonneg h0] at hlt
    rw [if_pos (by omega), if_pos (by omega), if_pos (by omega), if_neg hlt, wi (n := l.length) (by omega) (by omega) hn]
    exact ih k (i + 1) (by omega) (by omega) (by omega) (by omega)
theorem rising {l : List Int} (h : FitP l) (i : Int) (h0 : 0 ≤ i) (d : Nat) : ∀ j : Int, j - i = d → j < l.length → rd l i ≤ rd l j := by
  induction d with
  | zero => intro j hj _; obtain rfl : j = i := by omega
            exact Int.le_refl _
  | succ d ih =>
    intro j hj hl
    have := ih (j - 1) (by omega) (by omega)
    have := h.2.2.2.2 j (by omega) hl
    omega
theorem rising' {l : List Int} (h : FitP l) {i j : Int} (h0 : 0 ≤ i) (hij : i ≤ j) (hl : j < l.length) : rd l i ≤ rd l j := rising h i h0 (j - i).toNat j (by omega) hl
theorem up_same (l : List Int) (hl : l.length ≤ 17592186044416) (a : Int) : ∃ r, (∀ k, 258 ≤ k → thresh_Up.f k l a = some r) ∧ (∀ k, 258 ≤ k → gimbalref13_Up.f k l a = some r) ∧ (FitP l → r ≥ bfit a ∧ r ≤ 4611686018427387904) ∧ (¬ FitP l → r = 4611686018427387904) := by
  obtain ⟨b, hb, hc, hf⟩ := fits l hl
  have hin := bfit_in a
  cases b with
  | false =>
    refine ⟨4611686018427387904, fun k hk => ?_, fun k hk => ?_, fun h => ⟨by omega, by omega⟩, fun _ => rfl⟩
    · unfold thresh_Up.f; rw [hb k hk]; simp
    · unfold gimbalref13_Up.f; rw [hc k hk]; simp
  | true =>
    have hF := hf.1 rfl
    obtain ⟨N, hN⟩ : ∃ N, firstAt (fun y => decide (y ≥ bfit a)) l = N := ⟨_, rfl⟩
    obtain ⟨s1, s2⟩ := firstAt_spec (fun y => decide (y ≥ bfit a)) l
    rw [hN] at s1 s2
    have hlast : rd l ((l.length - 1 : Nat) : Int) = 4611686018427387904 := by have := hF.2.2.2.1; rw [← this]; congr 1; have := hF.1; omega
    have hlt : N < l.length := by
      have := firstAt_lt (fun y => decide (y ≥ bfit a)) l (l.length - 1) (by have := hF.1; omega) (by rw [← rd_nat, hlast]; exact decide_eq_true (by omega))
      have := hF.1; omega
    have h2 : rd l N ≥ bfit a := by rw [rd_nat]; exact of_decide_eq_true (s2 hlt)
    refine ⟨rd l N, fun k hk => ?_, fun k hk => ?_, fun _ => ⟨h2, ?_⟩, fun h => absurd hF h⟩
    · unfold thresh_Up.f; rw [hb k hk]; simp only [Option.bind_some, if_true]; rw [hN, if_pos ⟨hlt, by have := hF.2.1; omega⟩]
    · unfold gimbalref13_Up.f; rw [hc k hk]; simp only [Option.bind_some, if_true]; rw [bfit_r]; simp only [Option.bind_some]
      exact up_l0 l hF.2.1 (bfit a) N hlt (fun j hj => by rw [rd_nat]; exact of_decide_eq_false (s1 j hj)) h2 N k 0 (by omega) (by omega) (by omega) (by have := hF.2.1; omega)
    · have := rising' hF (i := N) (j := (l.length : Int) - 1) (by omega) (by omega) (by omega)
      rw [hF.2.2.2.1] at this; exact this
end Go.Proofs.Ytomgebmimgaojaa.ThFacts
