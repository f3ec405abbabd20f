/- The document's own rounding comes to what the program's rounding comes to. -/
import Derived.Test.YtomgebmimgaojaaQOx1028
import Derived.Test.YtomgebmimgaojaaRound
import Derived.Test.YtomgebmimgaojaaRefTight
import Derived.Test.YtomgebmimgaojaaThUp
noncomputable section
namespace Go.Proofs.Ytomgebmimgaojaa.Pure
open Go.RowKit Go.Proofs.Ytomgebmimgaojaa.QO Go.Proofs.YtomgebmimgaojaaW.PrintWords Go.Proofs.YtomgebmimgaojaaW.PrintLast Go.Proofs.YtomgebmimgaojaaW.PrintMore
open Go.Proofs.Ytomgebmimgaojaa.OctMath (over overs plus Bd Fin' Top62)
open Go.Proofs.Ytomgebmimgaojaa.ThFacts (FitP)

theorem upOk_of {t : List Int} (h : FitP t) : UpOk t := by
  refine ⟨fun x => ?_, h.2.1⟩
  have hin := bfit_in x
  have hlast : rd t ((t.length - 1 : Nat) : Int) = 4611686018427387904 := by have := h.2.2.2.1; rw [← this]; congr 1; have := h.1; omega
  have := ThFacts.firstAt_lt (fun y => decide (y ≥ bfit x)) t (t.length - 1) (by have := h.1; omega) (by rw [← ThFacts.rd_nat, hlast]; exact decide_eq_true (by omega))
  have := h.1; omega
theorem fitb {t : List Int} (h : FitP t) : ∀ k, 258 ≤ k → thresh_Fit.f k t = some true ∧ gimbalref13_Fit.f k t = some true := by
  obtain ⟨b, h1, h2, h3⟩ := ThFacts.fits t (by have := h.2.1; omega)
  have hb : b = true := h3.2 h
  subst hb
  exact fun k hk => ⟨h1 k hk, h2 k hk⟩
/-- the document's Up is the least threshold that is not less -/
theorem up_ev {t : List Int} (h : FitP t) (x : Int) : Ev (fun k => gimbalref13_Up.f k t x) (upT t x) := by
  obtain ⟨r, h1, h2, _, _⟩ := ThFacts.up_same t (by have := h.2.1; omega) x
  have hu : thresh_Up.f 258 t x = some (upT t x) := by
    unfold thresh_Up.f upT
    rw [(fitb h 258 (Nat.le_refl _)).1, Option.bind_some, if_pos rfl, if_pos ⟨(upOk_of h).1 x, by have := h.2.1; omega⟩]
  have e : r = upT t x := Option.some.inj ((h1 258 (Nat.le_refl _)).symm.trans hu)
  exact ⟨258, fun k hk => by rw [← e]; exact h2 k hk⟩
theorem up_inf {t : List Int} (h : FitP t) : upT t 4611686018427387904 = 4611686018427387904 := by
  obtain ⟨r, h1, _, h3, _⟩ := ThFacts.up_same t (by have := h.2.1; omega) 4611686018427387904
  have hu : thresh_Up.f 258 t 4611686018427387904 = some (upT t 4611686018427387904) := by
    unfold thresh_Up.f upT
    rw [(fitb h 258 (Nat.le_refl _)).1, Option.bind_some, if_pos rfl, if_pos ⟨(upOk_of h).1 _, by have := h.2.1; omega⟩]
  have e : r = upT t 4611686018427387904 := Option.some.inj ((h1 258 (Nat.le_refl _)).symm.trans hu)
  have h4 := h3 h
  have e2 : bfit 4611686018427387904 = 4611686018427387904 := rfl
  rw [e2] at h4
  rw [← e]; omega
theorem up_in {t : List Int} (h : FitP t) (x : Int) : -4611686018427387904 ≤ upT t x ∧ upT t x ≤ 4611686018427387904 := by
  obtain ⟨r, h1, _, h3, _⟩ := ThFacts.up_same t (by have := h.2.1; omega) x
  have hu : thresh_Up.f 258 t x = some (upT t x) := by
    unfold thresh_Up.f upT
    rw [(fitb h 258 (Nat.le_refl _)).1, Option.bind_some, if_pos rfl, if_pos ⟨(upOk_of h).1 _, by have := h.2.1; omega⟩]
  have e : r = upT t x := Option.some.inj ((h1 258 (Nat.le_refl _)).symm.trans hu)
  have h4 := h3 h
  have hb := bfit_in x
  rw [← e]; omega
/-- the entries ahead of (i, j) are rounded, the others not yet -/
def half2 (r c : Nat → Nat → Int) (i j : Nat) : Nat → Nat → Int := fun a b => if a < i ∨ (a = i ∧ b < j) then r a b else c a b
theorem half2_zero {r c : Nat → Nat → Int} (a b : Nat) : half2 r c 0 0 a b = c a b := by unfold half2; rw [if_neg (by omega)]
theorem half2_row {r c : Nat → Nat → Int} {i n : Nat} (a b : Nat) (hb : b < n) : half2 r c i n a b = half2 r c (i + 1) 0 a b := by
  unfold half2
  by_cases h : a < i ∨ (a = i ∧ b < n)
  · rw [if_pos h, if_pos (by omega)]
  · rw [if_neg h, if_neg (by omega)]
theorem half2_all {r c : Nat → Nat → Int} {n : Nat} (a b : Nat) (h : a < n) : half2 r c n 0 a b = r a b := by unfold half2; rw [if_pos (.inl h)]
theorem half2_step {r c : Nat → Nat → Int} {i j : Nat} (a b : Nat) : half2 r c i (j + 1) a b = if a = i ∧ b = j then r i j else half2 r c i j a b := by
  unfold half2
  by_cases e : a = i ∧ b = j
  · rw [if_pos e, if_pos (by omega), e.1, e.2]
  · rw [if_neg e]
    by_cases h : a < i ∨ (a = i ∧ b < j)
    · rw [if_pos h, if_pos (by omega)]
    · rw [if_neg h, if_neg (by omega)]
theorem half2_same {r c : Nat → Nat → Int} {i j : Nat} (h : r i j = c i j) (a b : Nat) : half2 r c i (j + 1) a b = half2 r c i j a b := by
  rw [half2_step]
  by_cases e : a = i ∧ b = j
  · rw [if_pos e, e.1, e.2, h]; unfold half2; rw [if_neg (by omega)]
  · rw [if_neg e]
/-- one entry is put -/
theorem j3_ev {n i j : Nat} {t vars : List Int} {d : Nat → Nat → Int} {y : Int} {v : List Int × List Int × Bool} (hn : n ≤ 16) (hi : i < n) (hj : j < n)
    (hv : Ev (fun k => gimbalref13_Oct.l1 k t (n : Int) (i : Int) ((j + 1 : Nat) : Int) vars ((lst n d).set (i * n + j) (clipV y)) false) v) :
    Ev (fun k => gimbalref13_Oct.j3 k t (n : Int) (i : Int) (j : Int) y vars (lst n d) false) v := by
  refine Ev.step (fun k => by rw [gimbalref13_Oct.j3]) ?_
  have r := in_row (d := d) hi hj
  have c0 : ¬ ((4611686018427387904 : Int) < -1099511627776) := by decide
  simp only [idx hn (by omega : i ≤ 16) (by omega : j ≤ 16), r.1, r.2, if_true, suc (show j ≤ 100 by omega), Int.toNat_natCast, c0, if_false]
  unfold clipV at hv
  by_cases h1 : y > 1099511627776
  · rw [if_pos h1] at hv; exact Ev.congr (fun k => if_pos h1) hv
  · rw [if_neg h1] at hv
    refine Ev.congr (fun k => if_neg h1) ?_
    by_cases h2 : y < -1099511627776
    · rw [if_pos h2] at hv; exact Ev.congr (fun k => if_pos h2) hv
    · rw [if_neg h2] at hv; exact Ev.congr (fun k => if_neg h2) hv
theorem twice_same {u : Int} (h : -4611686018427387904 ≤ u ∧ u ≤ 4611686018427387904) : clipV (if u < 2305843009213693952 then (if u > -2305843009213693952 then 2 * u else u) else u) = twiceV u := by
  unfold twiceV clipV mx
  repeat' split
  all_goals omega
theorem xor_nb {i n : Nat} (hn : n ≤ 16) (hi : i < n) : Go.bits .xor .i64 (i : Int) 1 = ((nb i : Nat) : Int) := by rw [xor_one _ (by omega) (by omega), nbar_nb]
theorem tdiv2 {x z : Int} (hb : x = 4611686018427387904 ∨ (-1099511627776 ≤ x ∧ x ≤ 1099511627776)) (hz : x = 2 * z) : wrap64 (Int.tdiv x 2) = z := by
  rw [hz, Int.mul_tdiv_cancel_left z (by decide)]
  unfold wrap64; omega
theorem half2z {x z : Int} (hne : x ≠ 4611686018427387904) (hz : x = 2 * z) : half x = z := by unfold half; rw [if_neg hne]; omega
/-- one place -/
theorem j2_ev {n i j : Nat} {t vars : List Int} {C : Nat → Nat → Int} {v : List Int × List Int × Bool} (ht : FitP t) (hn : n ≤ 16) (hi : i < n) (hj : j < n) (hC : Fin' 1099511627776 (C i j)) (hd : i = j → C i j = 0) (he : j = nb i → ∃ z, C i j = 2 * z)
    (hv : Ev (fun k => gimbalref13_Oct.l1 k t (n : Int) (i : Int) ((j + 1 : Nat) : Int) vars (lst n (half2 (roundM t C) C i (j + 1))) false) v) :
    Ev (fun k => gimbalref13_Oct.j2 k t (n : Int) (i : Int) (j : Int) (C i j) (if i = j then true else (C i j == 4611686018427387904)) vars (lst n (half2 (roundM t C) C i j)) false) v := by
  refine Ev.step (fun k => by rw [gimbalref13_Oct.j2]) ?_
  have put : ∀ y : Int, clipV y = roundM t C i j → Ev (fun k => gimbalref13_Oct.j3 k t (n : Int) (i : Int) (j : Int) y vars (lst n (half2 (roundM t C) C i j)) false) v := fun y hy => by
    refine j3_ev hn hi hj ?_
    have s2 := lst_set (d := half2 (roundM t C) C i j) (v := clipV y) hi hj (q := ((i * n + j : Nat) : Int)) rfl
    rw [Int.toNat_natCast] at s2
    rw [s2, hy, lst_congr (d := fun a b => if a = i ∧ b = j then roundM t C i j else half2 (roundM t C) C i j a b) (e := half2 (roundM t C) C i (j + 1)) (fun a b _ _ => (half2_step a b).symm)]
    exact hv
  by_cases hs : i = j ∨ C i j = 4611686018427387904
  · have hb : (if i = j then true else (C i j == 4611686018427387904)) = true := by
      by_cases e : i = j
      · rw [if_pos e]
      · rw [if_neg e]; simpa using hs.resolve_left e
    have hr : roundM t C i j = C i j := by
      unfold roundM
      by_cases e : i = j
      · rw [if_pos e, hd e]
      · have hx := hs.resolve_left e
        rw [if_neg e, hx]
        split
        · have : half 4611686018427387904 = 4611686018427387904 := by unfold half; rw [if_pos rfl]
          rw [this, up_inf ht]; rfl
        · rw [up_inf ht]; rfl
    refine Ev.congr (fun k => by rw [hb, if_pos rfl, suc (show j ≤ 100 by omega)]) ?_
    rw [lst_congr (d := half2 (roundM t C) C i (j + 1)) (e := half2 (roundM t C) C i j) (fun a b _ _ => half2_same hr a b)] at hv
    exact hv
  · have e1 : i ≠ j := fun h => hs (.inl h)
    have e2 : C i j ≠ 4611686018427387904 := fun h => hs (.inr h)
    have hb : (if i = j then true else (C i j == 4611686018427387904)) = false := by rw [if_neg e1]; simpa using e2
    unfold Fin' at hC
    by_cases ej : j = nb i
    · obtain ⟨z, hz⟩ := he ej
      have ei : i = nb j := by rw [ej, nb_nb]
      have hh : half (C i j) = z := half2z e2 hz
      have ht2 : wrap64 (Int.tdiv (C i j) 2) = z := tdiv2 hC hz
      have hx : (j : Int) = Go.bits .xor .i64 (i : Int) 1 := by rw [xor_nb hn hi, ej]
      have hr : roundM t C i j = twiceV (upT t z) := by unfold roundM; rw [if_neg e1, if_pos ei, hh]
      have hin := up_in ht z
      refine Ev.congr (h := fun k => (gimbalref13_Up.f k t z).bind fun u => (if u < 2305843009213693952 then (if u > (-2305843009213693952) then (gimbalref13_Oct.j3 k t (n : Int) (i : Int) (j : Int) (wrap64 (2 * u)) vars (lst n (half2 (roundM t C) C i j)) false) else (gimbalref13_Oct.j3 k t (n : Int) (i : Int) (j : Int) u vars (lst n (half2 (roundM t C) C i j)) false)) else (gimbalref13_Oct.j3 k t (n : Int) (i : Int) (j : Int) u vars (lst n (half2 (roundM t C) C i j)) false))) (fun k => by rw [hb, if_neg (by decide), if_pos hx, ht2]) ?_
      refine Ev.bind (up_ev ht z) ?_
      have ts := twice_same hin
      by_cases h1 : upT t z < 2305843009213693952
      · rw [if_pos h1] at ts
        refine Ev.congr (fun k => if_pos h1) ?_
        by_cases h2 : upT t z > -2305843009213693952
        · rw [if_pos h2] at ts
          refine Ev.congr (fun k => if_pos h2) ?_
          have hw : wrap64 (2 * upT t z) = 2 * upT t z := by unfold wrap64; omega
          rw [hw]; exact put _ (ts.trans hr.symm)
        · rw [if_neg h2] at ts
          exact Ev.congr (fun k => if_neg h2) (put _ (ts.trans hr.symm))
      · rw [if_neg h1] at ts
        exact Ev.congr (fun k => if_neg h1) (put _ (ts.trans hr.symm))
    · have ei : i ≠ nb j := fun h => ej (by rw [h, nb_nb])
      have hx : ¬ (j : Int) = Go.bits .xor .i64 (i : Int) 1 := by rw [xor_nb hn hi]; omega
      have hr : roundM t C i j = clipV (upT t (C i j)) := by unfold roundM; rw [if_neg e1, if_neg ei]
      refine Ev.congr (h := fun k => (gimbalref13_Up.f k t (C i j)).bind fun u => gimbalref13_Oct.j3 k t (n : Int) (i : Int) (j : Int) u vars (lst n (half2 (roundM t C) C i j)) false) (fun k => by rw [hb, if_neg (by decide), if_neg hx]) ?_
      exact Ev.bind (up_ev ht (C i j)) (put _ hr.symm)
/-- over a row -/
theorem l1o_ev {n i : Nat} {t vars : List Int} {C : Nat → Nat → Int} {v : List Int × List Int × Bool} (ht : FitP t) (hn : n ≤ 16) (hi : i < n) (hC : Bd n 1099511627776 C) (hd : ∀ i, i < n → C i i = 0) (he : ∀ i, i < n → ∃ z, C i (nb i) = 2 * z)
    (hv : Ev (fun k => gimbalref13_Oct.l0 k t (n : Int) ((i + 1 : Nat) : Int) vars (lst n (half2 (roundM t C) C (i + 1) 0)) false) v) :
    ∀ d j, j + d = n → Ev (fun k => gimbalref13_Oct.l1 k t (n : Int) (i : Int) (j : Int) vars (lst n (half2 (roundM t C) C i j)) false) v := by
  intro d
  induction d with
  | zero =>
    intro j h
    obtain rfl : j = n := by omega
    refine Ev.step (fun k => by rw [gimbalref13_Oct.l1]) ?_
    simp only [Int.lt_irrefl, if_false, suc (show i ≤ 100 by omega)]
    rw [lst_congr (d := half2 (roundM t C) C i j) (e := half2 (roundM t C) C (i + 1) 0) (fun a b _ hb => half2_row a b hb)]
    exact hv
  | succ d ih =>
    intro j h
    have hj : j < n := by omega
    refine Ev.step (fun k => by rw [gimbalref13_Oct.l1]) ?_
    have hlt : (j : Int) < (n : Int) := by omega
    have r := in_row (d := half2 (roundM t C) C i j) hi hj
    have ec : half2 (roundM t C) C i j i j = C i j := by unfold half2; rw [if_neg (by omega)]
    simp only [hlt, if_true, idx hn (by omega : i ≤ 16) (by omega : j ≤ 16), r.1, r.2, lst_rd (d := half2 (roundM t C) C i j) hi hj rfl, ec]
    have h2 := j2_ev (vars := vars) ht hn hi hj (hC i j hi hj) (fun e => by rw [← e]; exact hd i hi) (fun e => by rw [e]; exact he i hi) (ih (j + 1) (by omega))
    by_cases e : i = j
    · have e' : (i : Int) = (j : Int) := by omega
      rw [if_pos e] at h2
      exact Ev.congr (fun k => if_pos e') h2
    · have e' : ¬ (i : Int) = (j : Int) := by omega
      rw [if_neg e] at h2
      exact Ev.congr (fun k => if_neg e') h2
/-- over all rows -/
theorem l0o_ev {n : Nat} {t vars : List Int} {C : Nat → Nat → Int} {v : List Int × List Int × Bool} (ht : FitP t) (hn : n ≤ 16) (hC : Bd n 1099511627776 C) (hd : ∀ i, i < n → C i i = 0) (he : ∀ i, i < n → ∃ z, C i (nb i) = 2 * z)
    (hv : Ev (fun k => gimbalref11_Close.f k vars (lst n (roundM t C)) false) v) :
    ∀ d i, i + d = n → Ev (fun k => gimbalref13_Oct.l0 k t (n : Int) (i : Int) vars (lst n (half2 (roundM t C) C i 0)) false) v := by
  intro d
  induction d with
  | zero =>
    intro i h
    obtain rfl : i = n := by omega
    refine Ev.step (fun k => by rw [gimbalref13_Oct.l0]) ?_
    simp only [Int.lt_irrefl, if_false]
    rw [lst_congr (d := half2 (roundM t C) C i 0) (e := roundM t C) (fun a b ha _ => half2_all a b ha)]
    exact Ev.bind hv (Ev.of _)
  | succ d ih =>
    intro i h
    refine Ev.step (fun k => by rw [gimbalref13_Oct.l0]) ?_
    have hlt : (i : Int) < (n : Int) := by omega
    simp only [hlt, if_true]
    exact l1o_ev ht hn (by omega) hC hd he (ih (i + 1) (by omega)) n 0 (by omega)
/-- **the document's rounding is the program's** -/
theorem oct13_ev {t vars m : List Int} {e : Bool} (ht : FitP t) (h : OFit vars m e) :
    Ev (fun k => gimbalref13_Oct.f k t vars m e) (if (closeF vars m e).2.2 = true then closeF vars m e else closeF vars (lst (2 * vars.length) (roundM t (closeM (2 * vars.length) (lowM vars.length m)))) false) := by
  have h8 := h.1.1
  refine Ev.congr (h := fun k => (gimbalref11_Close.f k vars m e).bind fun bt => (if bt.2.2 = true then (some (bt.1, bt.2.1, bt.2.2)) else (gimbalref13_Oct.l0 k t (wrap64 (2 * (bt.1.length : Int))) 0 bt.1 bt.2.1 bt.2.2))) (fun k => by unfold gimbalref13_Oct.f; rfl) ?_
  refine Ev.bind (close_ev h) ?_
  by_cases hb : (closeF vars m e).2.2 = true
  · rw [if_pos hb]
    exact Ev.congr (fun k => if_pos hb) (Ev.of _)
  · rw [if_neg hb]
    refine Ev.congr (fun k => if_neg hb) ?_
    cases e with
    | true => exact absurd rfl (by unfold closeF at hb; exact hb)
    | false =>
      have hcb : closeB (2 * vars.length) (lowM vars.length m) = true := by
        unfold closeF at hb; rw [if_neg (by decide)] at hb; simpa using hb
      have hok := closeB_true.1 hcb
      obtain ⟨_, hd, he⟩ := closeM_law h hok
      have ec : closeF vars m false = (vars, lst (2 * vars.length) (closeM (2 * vars.length) (lowM vars.length m)), false) := by
        unfold closeF closeL; rw [if_neg (by decide), if_pos hcb, hcb]; rfl
      have hw : wrap64 (2 * (vars.length : Int)) = ((2 * vars.length : Nat) : Int) := by unfold wrap64; omega
      rw [ec]
      show Ev (fun k => gimbalref13_Oct.l0 k t (wrap64 (2 * (vars.length : Int))) 0 vars (lst (2 * vars.length) (closeM (2 * vars.length) (lowM vars.length m))) false) _
      rw [hw, lst_congr (d := closeM (2 * vars.length) (lowM vars.length m)) (e := half2 (roundM t (closeM (2 * vars.length) (lowM vars.length m))) (closeM (2 * vars.length) (lowM vars.length m)) 0 0) (fun a b _ _ => (half2_zero a b).symm)]
      exact l0o_ev ht (by omega) (fun i j _ _ => clipV_range _) hd he (close_ev (round_fit h hok)) (2 * vars.length) 0 (by omega)
end Go.Proofs.Ytomgebmimgaojaa.Pure
