/- Facts for the laws on octagons: equal octagons are told equal, the probe that the program is awake holds, what was handed out may be written over. -/
import Derived.Test.YtomgebmimgaojaaQOx1013
import Derived.Test.YtomgebmimgaojaaQOx1015
import Derived.Test.YtomgebmimgaojaaQOx1020
import Derived.Test.YtomgebmimgaojaaQOx1021
import Derived.Test.YtomgebmimgaojaaQOx1022
import Derived.Test.YtomgebmimgaojaaQOx1024
import Derived.Test.YtomgebmimgaojaaRefTight
noncomputable section
namespace Go.Proofs.Ytomgebmimgaojaa.Pure
open Go.RowKit Go.Proofs.Ytomgebmimgaojaa.QO Go.Proofs.YtomgebmimgaojaaW.PrintWords Go.Proofs.YtomgebmimgaojaaW.PrintLast Go.Proofs.YtomgebmimgaojaaW.PrintMore
namespace Octs
theorem grow {α : Type} {g : Nat → Option α} (m : ∀ k, LeO (g k) (g (k + 1))) {n : Nat} {v : α} (h : g n = some v) : ∀ k, n ≤ k → g k = some v := by
  intro k hk
  induction k with
  | zero => rw [← h]; congr 1; omega
  | succ k ih =>
    by_cases e : n = k + 1
    · rw [← e]; exact h
    · exact m k _ (ih (by omega))
def M (n : Nat) : List Int := (List.range (4 * n * n)).map fun p => if p % (2 * n + 1) = 0 then 0 else 4611686018427387904
theorem news : ∀ n : Nat, n < 9 → dbm_New.f 300 (2 * (n : Int)) = some (M n) := by decide +kernel
theorem new_at (n : Nat) (h : n < 9) (k : Nat) (hk : 300 ≤ k) : dbm_New.f k (2 * (n : Int)) = some (M n) := grow (g := fun k => dbm_New.f k (2 * (n : Int))) (dbm_New.mono _) (news n h) k hk
theorem eq_l1 (a b : List Int) (e : Bool) (hb : b.length < 4611686018427387904) : ∀ d k i : Nat, i + d = b.length → gimbalref11_Equal.l1 (k + d + 1) b.length i a b e a b e = some true := by
  intro d
  induction d with
  | zero => intro k i h; unfold gimbalref11_Equal.l1; rw [if_neg (by omega)]
  | succ d ih =>
    intro k i h
    have hw : wrap64 ((i : Int) + 1) = ((i + 1 : Nat) : Int) := by unfold wrap64; omega
    unfold gimbalref11_Equal.l1
    rw [if_pos (by omega), if_pos (by omega), if_pos (by omega), if_pos (by omega), if_pos rfl, hw]
    exact ih k (i + 1) (by omega)
theorem eq_l0 (a b : List Int) (e : Bool) (ha : a.length < 4611686018427387904) (hb : b.length < 4611686018427387904) : ∀ d k i : Nat, i + d = a.length → gimbalref11_Equal.l0 (k + b.length + 1 + d + 1) a.length i a b e a b e = some true := by
  intro d
  induction d with
  | zero => intro k i h; unfold gimbalref11_Equal.l0; rw [if_neg (by omega)]; exact eq_l1 a b e hb b.length k 0 (by omega)
  | succ d ih =>
    intro k i h
    have hw : wrap64 ((i : Int) + 1) = ((i + 1 : Nat) : Int) := by unfold wrap64; omega
    unfold gimbalref11_Equal.l0
    rw [if_pos (by omega), if_pos (by omega), if_pos (by omega), if_pos (by omega), if_pos rfl, hw]
    exact ih k (i + 1) (by omega)
theorem eq_self (a b : List Int) (e : Bool) (ha : a.length < 4611686018427387904) (hb : b.length < 4611686018427387904) (k : Nat) (hk : a.length + b.length + 3 ≤ k) : gimbalref11_Equal.f k a b e a b e = some true := by
  refine grow (g := fun k => gimbalref11_Equal.f k a b e a b e) (gimbalref11_Equal.mono _ _ _ _ _ _) (n := b.length + 1 + a.length + 1 + 1) ?_ k (by omega)
  show gimbalref11_Equal.f _ _ _ _ _ _ _ = _
  have := eq_l0 a b e ha hb a.length 0 0 (by omega)
  simp only [Nat.zero_add] at this
  unfold gimbalref11_Equal.f
  rw [if_pos rfl, if_pos rfl, gimbalref11_Equal.j0, if_neg (by simp)]
  exact this
theorem v3 : VarsOk [3] := ⟨by decide, fun i h0 h1 => by
  have : i = 0 := by simp at h1; omega
  subst this; exact ⟨by decide, fun h => absurd h (by decide)⟩⟩
theorem top_v3 (k : Nat) (hk : 300 ≤ k) : oct_Top.f k [3] = some ([3], M ([3] : List Int).length, false) := by
  have h := v3
  have h8 := h.1
  have hw : wrap64 (2 * (([3] : List Int).length : Int)) = 2 * (([3] : List Int).length : Int) := by unfold wrap64; omega
  have hc : slices_Clone_int_int.f [3] = some [3] := by unfold slices_Clone_int_int.f; rw [if_pos (by decide)]
  unfold oct_Top.f oct_may.f; rw [varsB_true.2 h, Option.bind_some, if_pos rfl, hc, Option.bind_some, hw, new_at _ (by decide) k (by omega)]; rfl
theorem two {p : Int → Int → Prop} (h : ∀ a, a < 2 → ∀ b, b < 2 → p ((a : Nat) : Int) ((b : Nat) : Int)) (i j : Int) (h0 : 0 ≤ i) (h1 : i < 2) (h2 : 0 ≤ j) (h3 : j < 2) : p i j := by
  have := h i.toNat (by omega) j.toNat (by omega)
  rwa [Int.toNat_of_nonneg h0, Int.toNat_of_nonneg h2] at this
theorem has9 : HasP [3] (M 1) false [9] := by
  refine ⟨rfl, ⟨v3, fun h => (by cases h), fun _ => ⟨by decide +kernel, fun i j h0 h1 h2 h3 => ?_⟩⟩, rfl, fun k h0 h1 => ?_, fun i j h0 h1 h2 h3 => ?_⟩
  · refine two (p := fun i j => EntryOk (2 * (([3] : List Int).length : Int)) (M 1) i j) ?_ i j h0 (by simpa using h1) h2 (by simpa using h3)
    unfold EntryOk; decide +kernel
  · have : k = 0 := by simp at h1; omega
    subst this; decide +kernel
  · refine two (p := fun i j => rd (M 1) (i * (2 * (([3] : List Int).length : Int)) + j) = 4611686018427387904 ∨ sgn [9] j - sgn [9] i ≤ rd (M 1) (i * (2 * (([3] : List Int).length : Int)) + j)) ?_ i j h0 (by simpa using h1) h2 (by simpa using h3)
    decide +kernel
theorem awake_true (k : Nat) (hk : 400 ≤ k) : gimballaw11_awake.f k = some true := by
  unfold gimballaw11_awake.f
  rw [top_v3 k (by omega), Option.bind_some]
  have e : (M ([3] : List Int).length) = [0, 4611686018427387904, 4611686018427387904, 0] := by decide +kernel
  have hh : oct_Has.f [3] (M ([3] : List Int).length) false [9] = some true := by
    unfold oct_Has.f; rw [if_pos ⟨by decide, by decide⟩]; exact congrArg some (hasB_true.2 has9)
  show (if ((M ([3] : List Int).length).length : Int) = 4 then _ else _) = _
  simp only [hh]
  rw [e]
  rfl

theorem eq_ev (a b : List Int) (e : Bool) (ha : a.length < 4611686018427387904) (hb : b.length < 4611686018427387904) : Ev (fun k => gimbalref11_Equal.f k a b e a b e) true := ⟨a.length + b.length + 3, fun k hk => eq_self a b e ha hb k hk⟩
theorem awake_ev : Ev (fun k => gimballaw11_awake.f k) true := ⟨400, awake_true⟩
theorem spoil_l1 (b : List Int) (c : Bool) : ∀ (d i : Nat) (a : List Int), i + d = a.length → a.length < 4611686018427387904 → ∃ v, Ev (fun k => gimballaw11_spoil.l1 k (a.length : Int) (i : Int) a b c) v := by
  intro d
  induction d with
  | zero =>
    intro i a h _
    refine ⟨(a, b), Ev.step (fun k => by rw [gimballaw11_spoil.l1]) (Ev.congr (fun k => ?_) (Ev.of _))⟩
    rw [if_neg (by omega)]
  | succ d ih =>
    intro i a h hl
    have hw : wrap64 ((i : Int) + 1) = ((i + 1 : Nat) : Int) := by unfold wrap64; omega
    obtain ⟨v, hv⟩ := ih (i + 1) (a.set (i : Int).toNat 88) (by rw [List.length_set]; omega) (by rw [List.length_set]; omega)
    rw [List.length_set] at hv
    refine ⟨v, Ev.step (fun k => by rw [gimballaw11_spoil.l1]) (Ev.congr (fun k => ?_) hv)⟩
    rw [if_pos (by omega), if_pos (by omega), if_pos (by omega), hw]
theorem spoil_l0 (a : List Int) (c : Bool) (ha : a.length < 4611686018427387904) : ∀ (d i : Nat) (b : List Int), i + d = b.length → b.length < 4611686018427387904 → ∃ v, Ev (fun k => gimballaw11_spoil.l0 k (b.length : Int) (i : Int) a b c) v := by
  intro d
  induction d with
  | zero =>
    intro i b h _
    obtain ⟨v, hv⟩ := spoil_l1 b c a.length 0 a (by omega) ha
    refine ⟨v, Ev.step (fun k => by rw [gimballaw11_spoil.l0]) (Ev.congr (fun k => ?_) hv)⟩
    rw [if_neg (by omega)]; rfl
  | succ d ih =>
    intro i b h hl
    have hw : wrap64 ((i : Int) + 1) = ((i + 1 : Nat) : Int) := by unfold wrap64; omega
    obtain ⟨v, hv⟩ := ih (i + 1) (b.set (i : Int).toNat 77) (by rw [List.length_set]; omega) (by rw [List.length_set]; omega)
    rw [List.length_set] at hv
    refine ⟨v, Ev.step (fun k => by rw [gimballaw11_spoil.l0]) (Ev.congr (fun k => ?_) hv)⟩
    rw [if_pos (by omega), if_pos (by omega), if_pos (by omega), hw]
theorem spoil_ev (a b : List Int) (c : Bool) (ha : a.length < 4611686018427387904) (hb : b.length < 4611686018427387904) : ∃ v, Ev (fun k => gimballaw11_spoil.f k a b c) v := spoil_l0 a c ha b.length 0 b (by omega) hb
theorem closeF_len {vars m : List Int} {e : Bool} (h : OFit vars m e) : (closeF vars m e).1.length < 4611686018427387904 ∧ (closeF vars m e).2.1.length < 4611686018427387904 := by
  have h8 := h.1.1
  unfold closeF closeL
  split
  · exact ⟨by simp; omega, by simp⟩
  · refine ⟨by simp; omega, ?_⟩
    show (ite _ _ _ : List Int).length < _
    split
    · rw [lst_length]; exact Nat.lt_of_le_of_lt (Nat.mul_le_mul (show 2 * vars.length ≤ 16 by omega) (show 2 * vars.length ≤ 16 by omega)) (by decide)
    · simp
theorem copied_f {vars m : List Int} {e : Bool} (h : vars.length < 17592186044416) (h' : m.length < 17592186044416) : gimballaw11_copied.f vars m e = some (vars, m, e) := by
  unfold gimballaw11_copied.f; rw [if_pos (by simp; omega), if_pos (by simp; omega)]; rfl
theorem fit_lens {vars m : List Int} {e : Bool} (h : OFit vars m e) : vars.length ≤ 8 ∧ m.length ≤ 256 := by
  have h8 := h.1.1
  refine ⟨h8, ?_⟩
  cases e with
  | true => rw [h.2.1 rfl]; simp
  | false =>
    have h1 := (h.2.2 rfl).1
    have e1 : ((m.length : Nat) : Int) = (((2 * vars.length) * (2 * vars.length) : Nat) : Int) := by rw [h1]; push_cast; rfl
    have : (2 * vars.length) * (2 * vars.length) ≤ 16 * 16 := Nat.mul_le_mul (by omega) (by omega)
    omega
theorem oct_close_f {vars m : List Int} {e : Bool} (h : OFit vars m e) : oct_Close.f vars m e = some (closeF vars m e) := by unfold oct_Close.f; rw [if_pos (ofitB_true.2 h)]
end Octs
end Go.Proofs.Ytomgebmimgaojaa.Pure
