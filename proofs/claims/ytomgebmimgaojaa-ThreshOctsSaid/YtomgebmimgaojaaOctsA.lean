/- Facts for the laws on octagons: equal octagons are told equal, the probe that the program is awake holds, what was handed out may be written over. -/
import Derived.Test.YtomgebmimgaojaaQOx1015
import Derived.Test.YtomgebmimgaojaaQOx1048
import Derived.Test.YtomgebmimgaojaaRefTight
noncomputable section
namespace Go.Proofs.Ytomgebmimgaojaa.Pure
open Go.RowKit Go.Proofs.Ytomgebmimgaojaa.QO Go.Proofs.YtomgebmimgaojaaW.PrintWords Go.Proofs.YtomgebmimgaojaaW.PrintLast Go.Proofs.YtomgebmimgaojaaW.PrintMore
namespace Octs
theorem grow {α : Type} {g : Nat → Option α} (m : ∀ k, LeO (g k) (g (k + 1))) {n : Nat} {v : α} (h : g n = some v) : ∀ k, n ≤ k → g k = some v := by
  intro k hk
  induction k with
  | zero => rw [← h]; congr 1; omega
  | succ k ih =>
    by_cases e : n = k + 1
    · rw [← e]; exact h
    · exact m k _ (ih (by omega))
def M (n : Nat) : List Int := (List.range (4 * n * n)).map fun p => if p % (2 * n + 1) = 0 then 0 else 4611686018427387904
theorem news : ∀ n : Nat, n < 9 → dbm_New.f 300 (2 * (n : Int)) = some (M n) := by decide +kernel
theorem new_at (n : Nat) (h : n < 9) (k : Nat) (hk : 300 ≤ k) : dbm_New.f k (2 * (n : Int)) = some (M n) := grow (g := fun k => dbm_New.f k (2 * (n : Int))) (dbm_New.mono _) (news n h) k hk
theorem eq_l1 (a b : List Int) (e : Bool) (hb : b.length < 4611686018427387904) : ∀ d k i : Nat, i + d = b.length → gimbalref11_Equal.l1 (k + d + 1) b.length i a b e a b e = some true := by
  intro d
  induction d with
  | zero => intro k i h; unfold gimbalref11_Equal.l1; rw [if_neg (by omega)]
  | succ d ih =>
    intro k i h
    have hw : wrap64 ((i : Int) + 1) = ((i + 1 : Nat) : Int) := by unfold wrap64; omega
    unfold gimbalref11_Equal.l1
    rw [if_pos (by omega), if_pos (by omega), if_pos (by omega), if_pos (by omega), if_pos rfl, hw]
    exact ih k (i + 1) (by omega)
theorem eq_l0 (a b : List Int) (e : Bool) (ha : a.length < 4611686018427387904) (hb : b.length < 4611686018427387904) : ∀ d k i : Nat, i + d = a.length → gimbalref11_Equal.l0 (k + b.length + 1 + d + 1) a.length i a b e a b e = some true := by
  intro d
  induction d with
  | zero => intro k i h; unfold gimbalref11_Equal.l0; rw [if_neg (by omega)]; exact eq_l1 a b e hb b.length k 0 (by omega)
  | succ d ih =>
    intro k i h
    have hw : wrap64 ((i : Int) + 1) = ((i + 1 : Nat) : Int) := by unfold wrap64; omega
    unfold gimbalref11_Equal.l0
    rw [if_pos (by omega), if_pos (by omega), if_pos (by omega), if_pos (by omega), if_pos rfl, hw]
    exact ih k (i + 1) (by omega)
theorem eq_self (a b : List Int) (e : Bool) (ha : a.length < 4611686018427387904) (hb : b.length < 4611686018427387904) (k : Nat) (hk : a.length + b.length + 3 ≤ k) : gimbalref11_Equal.f k a b e a b e = some true := by
  refine grow (g := fun k => gimbalref11_Equal.f k a b e a b e) (gimbalref11_Equal.mono _ _ _ _ _ _) (n := b.length + 1 + a.length + 1 + 1) ?_ k (by omega)
  show gimbalref11_Equal.f _ _ _ _ _ _ _ = _
  have := eq_l0 a b e ha hb a.length 0 0 (by omega)
  simp only [Nat.zero_add] at this
  unfold gimbalref11_Equal.f
  rw [if_pos rfl, if_pos rfl, gimbalref11_Equal.j0, if_neg (by simp)]
  exact this
theorem eq_ev (a b : List Int) (e : Bool) (ha : a.length < 4611686018427387904) (hb : b.length < 4611686018427387904) : Ev (fun k => gimbalref11_Equal.f k a b e a b e) true := ⟨a.length + b.length + 3, fun k hk => eq_self a b e ha hb k hk⟩
theorem closeF_len {vars m : List Int} {e : Bool} (h : OFit vars m e) : (closeF vars m e).1.length < 4611686018427387904 ∧ (closeF vars m e).2.1.length < 4611686018427387904 := by
  have h8 := h.1.1
  unfold closeF closeL
  split
  · exact ⟨by simp; omega, by simp⟩
  · refine ⟨by simp; omega, ?_⟩
    show (ite _ _ _ : List Int).length < _
    split
    · rw [lst_length]; exact Nat.lt_of_le_of_lt (Nat.mul_le_mul (show 2 * vars.length ≤ 16 by omega) (show 2 * vars.length ≤ 16 by omega)) (by decide)
    · simp
theorem fit_lens {vars m : List Int} {e : Bool} (h : OFit vars m e) : vars.length ≤ 8 ∧ m.length ≤ 256 := by
  have h8 := h.1.1
  refine ⟨h8, ?_⟩
  cases e with
  | true => rw [h.2.1 rfl]; simp
  | false =>
    have h1 := (h.2.2 rfl).1
    have e1 : ((m.length : Nat) : Int) = (((2 * vars.length) * (2 * vars.length) : Nat) : Int) := by rw [h1]; push_cast; rfl
    have : (2 * vars.length) * (2 * vars.length) ≤ 16 * 16 := Nat.mul_le_mul (by omega) (by omega)
    omega
end Octs
end Go.Proofs.Ytomgebmimgaojaa.Pure
