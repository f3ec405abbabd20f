/- For any list, numbers and packs: Height of the program is that of the reference. -/
import Derived.Test.YtcoiidbefjbboaaThFacts
import Derived.Test.YtcoiidbefjbboaaQThx18
namespace Go.Proofs.Ytcoiidbefjbboaa.Pure
open Go.RowKit Go.Proofs.Ytcoiidbefjbboaa.QTh Go.Proofs.YtcoiidbefjbboaaW.PrintWords Go.Proofs.YtcoiidbefjbboaaW.PrintLast Go.Proofs.YtcoiidbefjbboaaW.PrintMore Go.Proofs.Ytcoiidbefjbboaa.ThFacts

namespace Heights
theorem awake_true (k : Nat) (hk : 258 ≤ k) : gimballaw13_awake.f k = some true := at_rounds (g := fun k => gimballaw13_awake.f k) gimballaw13_awake.mono hk (by kernel_rfl)
theorem u64 (n : Int) : IntKind.u64.wrap n = n % 18446744073709551616 := IntKind.wrap_u64 n
theorem width {n : Nat} (hn : n ≤ 17592186044416) : IntKind.u64.wrap (wrap64 (2 * (n : Int))) = 2 * n ∧ IntKind.u64.wrap (2 * IntKind.u64.wrap (n : Int)) = 2 * n := by
  rw [u64, u64, u64]; unfold wrap64; omega
theorem l0_same (s : Int) (ps : List (List Int)) (hp : ps.length ≤ 17592186044416) (hl : ∀ x ∈ ps, x.length ≤ 17592186044416) (d : Nat) : ∀ (k : Nat) (i h : Int), 0 ≤ i → i ≤ ps.length → (ps.length : Int) - i = d → d < k →
    ∃ r, thresh_Height.l0 k s h ps (ps.length : Int) i = some r ∧ gimbalref13_Height.l0 k s (IntKind.u64.wrap (h + 1)) ps (ps.length : Int) i = some r := by
  induction d with
  | zero =>
    intro k i h h0 hi hd hk
    obtain ⟨k, rfl⟩ : ∃ m, k = m + 1 := ⟨k - 1, by omega⟩
    exact ⟨_, by simp only [thresh_Height.l0]; rw [if_neg (by omega)], by simp only [gimbalref13_Height.l0]; rw [if_neg (by omega)]⟩
  | succ d ih =>
    intro k i h h0 hi hd hk
    obtain ⟨k, rfl⟩ : ∃ m, k = m + 1 := ⟨k - 1, by omega⟩
    simp only [thresh_Height.l0, gimbalref13_Height.l0]
    have hlen : (rd_L1 ps i).length ≤ 17592186044416 := by
      have hlt : i.toNat < ps.length := by omega
      unfold rd_L1
      rw [List.getD_eq_getElem?_getD, List.getElem?_eq_getElem hlt]
      exact hl _ (List.getElem_mem hlt)
    obtain ⟨w1, w2⟩ := width hlen
    rw [if_pos (by omega), if_pos (by omega), if_pos (by omega), if_pos (by omega), if_pos (by omega), if_pos (by omega), w1, w2, show wrap64 (i + 1) = i + 1 by unfold wrap64; omega]
    generalize IntKind.u64.wrap (IntKind.u64.wrap (2 * ((rd_L1 ps i).length : Int) * (2 * ((rd_L1 ps i).length : Int))) * s) = m
    have e : IntKind.u64.wrap (IntKind.u64.wrap (h + 1) + m) = IntKind.u64.wrap (IntKind.u64.wrap (h + m) + 1) := by rw [u64, u64, u64, u64]; omega
    rw [e]
    exact ih k (i + 1) _ (by omega) (by omega) (by omega) (by omega)
theorem same (l : List Int) (hl : l.length ≤ 17592186044416) (a b : Int) (ps : List (List Int)) (hp : ps.length ≤ 17592186044416) (hpl : ∀ x ∈ ps, x.length ≤ 17592186044416) (k : Nat) (hk : ps.length + 258 ≤ k) :
    ∃ r, thresh_Height.f k l a b ps = some r ∧ gimbalref13_Height.f k l a b ps = some r := by
  obtain ⟨f, f1, f2, _⟩ := fits l hl
  unfold thresh_Height.f gimbalref13_Height.f
  rw [f1 k (by omega), f2 k (by omega)]
  cases f with
  | false => exact ⟨0, by simp, by simp⟩
  | true =>
    simp only [Option.bind_some, if_true]
    exact l0_same _ ps hp hpl ps.length k 0 _ (by omega) (by omega) (by omega) (by omega)
end Heights
theorem ThreshHeights : gimballaw13_ThreshHeights.Pure := by
  intro l a b ps hl _ _ hps
  have hn : l.length ≤ 17592186044416 := by have := hl.1; omega
  obtain ⟨r, r1, r2⟩ := Heights.same l hn (wrap64 (Int.tmod (IntKind.u64.wrap a) 65)) (wrap64 (Int.tmod (IntKind.u64.wrap b) 17)) ps (by have := hps.1; omega) (fun x hx => by have := (hps.2.2 x hx).1; omega) (ps.length + 258) (Nat.le_refl _)
  refine ⟨ps.length + 258, ?_⟩
  unfold gimballaw13_ThreshHeights.f
  rw [r1, r2, Heights.awake_true _ (by omega)]
  simp
end Go.Proofs.Ytcoiidbefjbboaa.Pure
