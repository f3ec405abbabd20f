/- Written by a program of this session out of the translation. -/
import Derived.Test.YtomgebmimgaojaaThOct
import Derived.Test.YtomgebmimgaojaaQOx0
import Derived.Test.YtomgebmimgaojaaQOx1013
import Derived.Test.YtomgebmimgaojaaQOx1018
import Derived.Test.YtomgebmimgaojaaQOx1063
namespace Go.Proofs.Ytomgebmimgaojaa.QO
open Go.RowKit Go.Proofs.YtomgebmimgaojaaW.PrintWords Go.Proofs.YtomgebmimgaojaaW.PrintLast
set_option linter.unusedVariables false
set_option linter.unusedSimpArgs false

/-! ### thresh_Oct: function 26 -/
-- IMPORT ThOct
noncomputable def upOkB (t : List Int) : Bool := @decide (UpOk t) (Classical.propDecidable _)
theorem upOkB_true {t : List Int} : upOkB t = true ↔ UpOk t := by unfold upOkB; exact @decide_eq_true_iff _ (Classical.propDecidable _)
noncomputable def thresh_Oct.f (k : Nat) (l0 : List Int) (l1_0 : List Int) (l1_1 : List Int) (a1_2 : Bool) : Option (List Int × List Int × Bool) :=
  if ofitB l1_0 l1_1 a1_2 = true then (if (closeF l1_0 l1_1 a1_2).2.2 = true then some (closeF l1_0 l1_1 a1_2) else (thresh_Fit.f k l0).bind fun b => (if b = true then (if upOkB l0 = true then some (closeF l1_0 (lst (2 * l1_0.length) (roundM l0 (closeM (2 * l1_0.length) (lowM l1_0.length l1_1)))) false) else none) else oct_Top.f k l1_0)) else none
theorem thresh_Oct.mono : ∀ a0 a1 a2 a3 k, LeO (thresh_Oct.f k a0 a1 a2 a3) (thresh_Oct.f (k + 1) a0 a1 a2 a3) := by
  intro a0 a1 a2 a3 k
  unfold thresh_Oct.f
  refine LeO.ite (LeO.ite (LeO.refl _) (LeO.bind (thresh_Fit.mono _ _) (fun _ => LeO.ite (LeO.refl _) (oct_Top.mono _ _)))) (LeO.refl _)
theorem thresh_Oct.calls (k : Nat) (A0 : Option Addr) (c0 : Nat) (l0 : List Int) (A1_0 : Option Addr) (c1_0 : Nat) (l1_0 : List Int) (A1_1 : Option Addr) (c1_1 : Nat) (l1_1 : List Int) (a1_2 : Bool) (r1 : List Int) (r2 : List Int) (r3 : Bool) (w : World) (hr0 : Kd.C (Kd.int .i64) w A0 l0.length l0) (hc0 : l0.length ≤ c0) (hr1_0 : Kd.C (Kd.int .i64) w A1_0 l1_0.length l1_0) (hc1_0 : l1_0.length ≤ c1_0) (hr1_1 : Kd.C (Kd.int .i64) w A1_1 l1_1.length l1_1) (hc1_1 : l1_1.length ≤ c1_1) (h : thresh_Oct.f k l0 l1_0 l1_1 a1_2 = some (r1, r2, r3)) :
    Calls Try.prog 26 #[.slice A0 l0.length c0, .agg #[.slice A1_0 l1_0.length c1_0, .slice A1_1 l1_1.length c1_1, .bool a1_2]] w fun e w' => ∃ v0_ v1_ : Value, e = .returned (.agg #[v0_, v1_, .bool r3]) ∧ Kd.R (Kd.int .i64) 3 w' w.heap.size (fun _ => True) v0_ r1 ∧ Kd.R (Kd.int .i64) 2 w' w.heap.size (fun _ => True) v1_ r2 ∧ Below w.heap.size w w' := by
  unfold thresh_Oct.f at h
  by_cases hf : ofitB l1_0 l1_1 a1_2 = true
  · rw [if_pos hf] at h
    refine thresh_Oct_any k A0 c0 l0 A1_0 c1_0 l1_0 A1_1 c1_1 l1_1 a1_2 w hr0 hc0 hr1_0 hc1_0 hr1_1 hc1_1 (ofitB_true.1 hf) (r1, r2, r3) ?_
    by_cases hb : (closeF l1_0 l1_1 a1_2).2.2 = true
    · rw [if_pos hb] at h
      exact .inl ⟨hb, (Option.some.inj h).symm⟩
    · rw [if_neg hb] at h
      obtain ⟨b, h1, h2⟩ := Option.bind_eq_some_iff.1 h
      have hb' : (closeF l1_0 l1_1 a1_2).2.2 = false := by simpa using hb
      cases b with
      | true =>
        rw [if_pos rfl] at h2
        by_cases hu : upOkB l0 = true
        · rw [if_pos hu] at h2
          exact .inr (.inr ⟨hb', h1, upOkB_true.1 hu, (Option.some.inj h2).symm⟩)
        · rw [if_neg hu] at h2; cases h2
      | false =>
        rw [if_neg (by decide)] at h2
        exact .inr (.inl ⟨hb', h1, h2⟩)
  · rw [if_neg hf] at h; cases h

end Go.Proofs.Ytomgebmimgaojaa.QO
