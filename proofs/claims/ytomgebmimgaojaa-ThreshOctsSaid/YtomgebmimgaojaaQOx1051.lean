/- Written by a program of this session out of the translation. -/
import Derived.Test.YtomgebmimgaojaaQOx0
noncomputable section
namespace Go.Proofs.Ytomgebmimgaojaa.QO
open Go.RowKit Go.Proofs.YtomgebmimgaojaaW.PrintWords Go.Proofs.YtomgebmimgaojaaW.PrintLast
set_option linter.unusedVariables false
set_option linter.unusedSimpArgs false

/-! ### oct_full_at: function 51 -/
/-- an entry of a whole matrix -/
def oct_full_at.f (a0_0 : Int) (l0_1 : List Int) (a1 : Int) (a2 : Int) : Option Int :=
  if 0 ≤ a0_0 ∧ a0_0 ≤ 16 ∧ 0 ≤ a1 ∧ a1 < 16 ∧ 0 ≤ a2 ∧ a2 < 16 ∧ a1 * a0_0 + a2 < l0_1.length then some (rd l0_1 (a1 * a0_0 + a2)) else none
theorem mul_in {a b : Int} (h0 : 0 ≤ a) (h1 : a ≤ 16) (h2 : 0 ≤ b) (h3 : b ≤ 16) : 0 ≤ b * a ∧ b * a ≤ 256 :=
  ⟨Int.mul_nonneg h2 h0, Int.le_trans (Int.mul_le_mul_of_nonneg_left h1 h2) (by omega)⟩
set_option maxHeartbeats 8000000 in
set_option maxRecDepth 100000 in
theorem oct_full_at.calls (a0_0 : Int) (A0_1 : Option Addr) (c0_1 : Nat) (l0_1 : List Int) (a1 : Int) (a2 : Int) (r : Int) (w : World) (hr0_1 : Kd.C (Kd.int .i64) w A0_1 l0_1.length l0_1) (hc0_1 : l0_1.length ≤ c0_1) (h : oct_full_at.f a0_0 l0_1 a1 a2 = some r) :
    Calls Try.prog 51 #[.agg #[.int .i64 a0_0, .slice A0_1 l0_1.length c0_1], .int .i64 a1, .int .i64 a2] w fun e w' => e = .returned (.int .i64 r) ∧ Below w.heap.size w w' := by
  have hu25 := Try.underlying58
  clear hc0_1
  unfold oct_full_at.f at h
  by_cases hc : 0 ≤ a0_0 ∧ a0_0 ≤ 16 ∧ 0 ≤ a1 ∧ a1 < 16 ∧ 0 ≤ a2 ∧ a2 < 16 ∧ a1 * a0_0 + a2 < l0_1.length
  · rw [if_pos hc] at h
    obtain rfl := Option.some.inj h
    clear h
    obtain ⟨h0, h1, h2, h3, h4, h5, h6⟩ := hc
    have hm := mul_in h0 h1 h2 (by omega)
    obtain ⟨p, hp⟩ : ∃ p : Int, a1 * a0_0 = p := ⟨_, rfl⟩
    rw [hp] at hm h6 ⊢
    obtain ⟨q, hq⟩ : ∃ q : Int, p + a2 = q := ⟨_, rfl⟩
    rw [hq] at h6 ⊢
    have q0 : 0 ≤ q := by omega
    obtain ⟨ad, e0, hx⟩ := Kd.at_int hr0_1 q q0 h6
    cases e0
    have e1 : IntKind.i64.wrap (a1 * a0_0) = p := by rw [hp, IntKind.wrap_i64]; omega
    have e2 : IntKind.i64.wrap (p + a2) = q := by rw [hq, IntKind.wrap_i64]; omega
    have e3 : wrap64 (a1 * a0_0) = p := by rw [hp]; unfold wrap64; omega
    have e4 : wrap64 (p + a2) = q := by rw [hq]; unfold wrap64; omega
    have hx' := pw_cell_below (below_alloc (Below.refl w.heap.size w) (.cells #[.int .i64 a0_0, .slice (some ad) l0_1.length c0_1] 58)) hx
    replace q0 := eq_true q0
    replace h6 := eq_true h6
    clear hr0_1 h0 h1 h2 h3 h4 h5 hm hp hq hx
    go_enter Try.func51, Try.ntmps51
    go_wp2
    go_ret
    exact ⟨rfl, below_alloc (Below.refl _ _) _⟩
  · rw [if_neg hc] at h
    cases h

end Go.Proofs.Ytomgebmimgaojaa.QO
