import Derived.Test.YtomgebmimgaojaaQOx1005
import Derived.Test.YtomgebmimgaojaaRefOct
import Derived.Test.YtomgebmimgaojaaOctsA
namespace Go.Proofs.Ytomgebmimgaojaa.Pure
open Go.RowKit Go.Proofs.Ytomgebmimgaojaa.QO Go.Proofs.YtomgebmimgaojaaW.PrintWords Go.Proofs.YtomgebmimgaojaaW.PrintLast Go.Proofs.YtomgebmimgaojaaW.PrintMore
open Go.Proofs.Ytomgebmimgaojaa.ThFacts (FitP)
open Octs
namespace ThO
theorem tops (v : List Int) : ∀ n : Nat, n < 9 → gimbalref11_Top.l0 400 (2 * (n : Int)) 0 v [] false = some (v, M n, false)
  | 0, _ => by kernel_rfl
  | 1, _ => by kernel_rfl
  | 2, _ => by kernel_rfl
  | 3, _ => by kernel_rfl
  | 4, _ => by kernel_rfl
  | 5, _ => by kernel_rfl
  | 6, _ => by kernel_rfl
  | 7, _ => by kernel_rfl
  | 8, _ => by kernel_rfl
  | n + 9, h => absurd h (by omega)
theorem tops_at (v : List Int) (n : Nat) (h : n < 9) (k : Nat) (hk : 400 ≤ k) : gimbalref11_Top.l0 k (2 * (n : Int)) 0 v [] false = some (v, M n, false) := grow (g := fun k => gimbalref11_Top.l0 k (2 * (n : Int)) 0 v [] false) (fun k => (gimbalref11_Top.mono_l k).1 _ _ _ _ _) (tops v n h) k hk
theorem top_good {l : List Int} (h : VarsOk l) (k : Nat) (hk : 400 ≤ k) : oct_Top.f k l = some (l, M l.length, false) ∧ gimbalref11_Top.f k l = some (l, M l.length, false) ∧ oct_Bottom.f l = some (l, [], true) ∧ gimbalref11_Bottom.f l = some (l, [], true) := by
  have h8 := h.1
  have hw : wrap64 (2 * (l.length : Int)) = 2 * (l.length : Int) := by unfold wrap64; omega
  have hc : slices_Clone_int_int.f l = some l := by unfold slices_Clone_int_int.f; rw [if_pos (by omega)]
  have hd : gimbalref11_copied.f l = some l := by unfold gimbalref11_copied.f; rw [if_pos (by simp; omega)]; simp
  refine ⟨?_, ?_, ?_, ?_⟩
  · unfold oct_Top.f oct_may.f; rw [varsB_true.2 h, Option.bind_some, if_pos rfl, hc, Option.bind_some, hw, new_at _ (by omega) k (by omega)]; rfl
  · unfold gimbalref11_Top.f gimbalref11_VarsFit.f; rw [varsB_true.2 h, Option.bind_some, if_pos rfl, hd, Option.bind_some, hw, tops_at _ _ (by omega) k hk]
  · unfold oct_Bottom.f oct_may.f; rw [varsB_true.2 h, Option.bind_some, if_pos rfl, hc]; rfl
  · unfold gimbalref11_Bottom.f gimbalref11_VarsFit.f; rw [varsB_true.2 h, Option.bind_some, if_pos rfl, hd]; rfl

theorem awake13_ev : Ev (fun k => gimballaw13_awake.f k) true := ⟨258, fun k hk => grow (g := fun k => gimballaw13_awake.f k) gimballaw13_awake.mono (n := 258) (by kernel_rfl) k hk⟩
theorem M_len (n : Nat) : (M n).length = 4 * n * n := by unfold M; simp
theorem closeF_empty {v m : List Int} {e : Bool} (h : (closeF v m e).2.2 = true) : closeF v m e = (v, [], true) := by
  unfold closeF at h ⊢
  cases e with
  | true => rfl
  | false =>
    rw [if_neg (show ¬ (false = true) by decide)] at h ⊢
    have hc : closeB (2 * v.length) (lowM v.length m) = false := by simpa using h
    unfold closeL; rw [hc]; rfl
/-- what is told equal is equal, and the probe holds -/
theorem tail_ev {a b : List Int} {c : Bool} (ha : a.length < 4611686018427387904) (hb : b.length < 4611686018427387904) : Ev (fun k => (gimbalref11_Equal.f k a b c a b c).bind fun t => (if t = true then ((gimballaw13_awake.f k).bind fun u => some u) else some false)) true := by
  refine Ev.bind (eq_ev a b c ha hb) ?_
  exact Ev.congr (fun k => if_pos rfl) (Ev.bind awake13_ev (Ev.of _))
end ThO
open ThO
theorem ThreshOcts : gimballaw13_ThreshOcts.Pure := by
  intro t v m e ht hv hm
  suffices h : Ev (fun k => gimballaw13_ThreshOcts.f k t v m e) true by
    obtain ⟨K, hK⟩ := h; exact ⟨K, hK K (Nat.le_refl _)⟩
  have htl : t.length ≤ 17592186044416 := by omega
  cases hf : ofitB v m e with
  | false =>
    refine Ev.congr (h := fun k => (gimballaw13_awake.f k).bind fun t => some t) (fun k => ?_) (Ev.bind awake13_ev (Ev.of _))
    unfold gimballaw13_ThreshOcts.f gimbalref11_Fit.f
    rw [hf, if_pos (show v.length ≤ 17592186044416 by omega)]; rfl
  | true =>
    have h := ofitB_true.1 hf
    have hl := fit_lens h
    have hc := closeF_len h
    obtain ⟨b, hb1, hb2, hb3⟩ := ThFacts.fits t htl
    refine Ev.congr (h := fun k => (thresh_Oct.f k t v m e).bind fun x => ((gimbalref13_Fit.f k t).bind fun t335 => (if t335 = true then ((gimbalref13_Oct.f k t v m e).bind fun bt336 => ((gimbalref11_Equal.f k x.1 x.2.1 x.2.2 bt336.1 bt336.2.1 bt336.2.2).bind fun t343 => (if t343 = true then ((gimballaw13_awake.f k).bind fun t344 => (some t344)) else (some false)))) else ((gimbalref11_Top.f k v).bind fun bt345 => ((gimbalref11_Close.f k v m e).bind fun bt353 => (if bt353.2.2 = true then ((gimbalref11_Bottom.f v).bind fun bt360 => (gimballaw13_ThreshOcts.j0 k x.1 x.2.1 x.2.2 bt360.1 bt360.2.1 bt360.2.2)) else (gimballaw13_ThreshOcts.j0 k x.1 x.2.1 x.2.2 bt345.1 bt345.2.1 bt345.2.2))))))) (fun k => by
      unfold gimballaw13_ThreshOcts.f gimbalref11_Fit.f
      rw [hf, if_pos (show v.length ≤ 17592186044416 by omega)]; rfl) ?_
    cases b with
    | true =>
      have hF := hb3.1 rfl
      have hx : Ev (fun k => thresh_Oct.f k t v m e) (if (closeF v m e).2.2 = true then closeF v m e else closeF v (lst (2 * v.length) (roundM t (closeM (2 * v.length) (lowM v.length m)))) false) := ⟨258, fun k hk => by
        show thresh_Oct.f k t v m e = _
        unfold thresh_Oct.f
        rw [if_pos hf]
        by_cases he : (closeF v m e).2.2 = true
        · rw [if_pos he, if_pos he]
        · rw [if_neg he, if_neg he, (fitb hF k hk).1, Option.bind_some, if_pos rfl, if_pos (upOkB_true.2 (upOk_of hF))]⟩
      refine Ev.bind hx (Ev.bind (f := fun k => gimbalref13_Fit.f k t) ⟨258, hb2⟩ ?_)
      refine Ev.congr (fun k => if_pos rfl) (Ev.bind (oct13_ev hF h) ?_)
      by_cases he : (closeF v m e).2.2 = true
      · rw [if_pos he]; exact tail_ev hc.1 hc.2
      · rw [if_neg he]
        cases e with
        | true => exact absurd rfl (by unfold closeF at he; exact he)
        | false =>
          have hcb : closeB (2 * v.length) (lowM v.length m) = true := by
            unfold closeF at he; rw [if_neg (by decide)] at he; simpa using he
          have hc2 := closeF_len (round_fit (t := t) h (closeB_true.1 hcb))
          exact tail_ev hc2.1 hc2.2
    | false =>
      have tg := fun k (hk : 400 ≤ k) => top_good h.1 k hk
      have hMl : (M v.length).length < 4611686018427387904 := by
        rw [M_len]
        have : 4 * v.length * v.length ≤ 4 * 8 * 8 := Nat.mul_le_mul (Nat.mul_le_mul_left 4 hl.1) hl.1
        omega
      have hx : Ev (fun k => thresh_Oct.f k t v m e) (if (closeF v m e).2.2 = true then closeF v m e else (v, M v.length, false)) := ⟨400, fun k hk => by
        show thresh_Oct.f k t v m e = _
        unfold thresh_Oct.f
        rw [if_pos hf]
        by_cases he : (closeF v m e).2.2 = true
        · rw [if_pos he, if_pos he]
        · rw [if_neg he, if_neg he, hb1 k (by omega), Option.bind_some, if_neg (by decide)]; exact (tg k hk).1⟩
      refine Ev.bind hx (Ev.bind (f := fun k => gimbalref13_Fit.f k t) ⟨258, hb2⟩ ?_)
      refine Ev.congr (fun k => if_neg (by decide)) ?_
      refine Ev.bind (f := fun k => gimbalref11_Top.f k v) ⟨400, fun k hk => (tg k hk).2.1⟩ (Ev.bind (close_ev h) ?_)
      have hbot := (tg 400 (Nat.le_refl _)).2.2.2
      by_cases he : (closeF v m e).2.2 = true
      · rw [if_pos he]
        refine Ev.congr (fun k => if_pos he) ?_
        refine Ev.congr (h := fun k => gimballaw13_ThreshOcts.j0 k (closeF v m e).1 (closeF v m e).2.1 (closeF v m e).2.2 v [] true) (fun k => by rw [hbot]; rfl) ?_
        rw [closeF_empty he]
        exact Ev.step (fun k => by rw [gimballaw13_ThreshOcts.j0]) (tail_ev (by show v.length < _; omega) (by show ([] : List Int).length < _; simp))
      · rw [if_neg he]
        refine Ev.congr (fun k => if_neg he) ?_
        exact Ev.step (fun k => by rw [gimballaw13_ThreshOcts.j0]) (tail_ev (by show v.length < _; omega) hMl)
end Go.Proofs.Ytomgebmimgaojaa.Pure
