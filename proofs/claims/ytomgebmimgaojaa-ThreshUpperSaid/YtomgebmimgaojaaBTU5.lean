/- Own texts of this claim, joined: Upper, WalkRLeq, WalkRJoin, ThOct, QOx1026, OSU -/
import Derived.Test.YtomgebmimgaojaaBTU1
import Derived.Test.YtomgebmimgaojaaBTU2
import Derived.Test.YtomgebmimgaojaaBTU3
import Derived.Test.YtomgebmimgaojaaBTU4
section
noncomputable section
namespace Go.Proofs.Ytomgebmimgaojaa.Pure
open Go.RowKit Go.Proofs.Ytomgebmimgaojaa.QO Go.Proofs.YtomgebmimgaojaaW.PrintWords Go.Proofs.YtomgebmimgaojaaW.PrintLast Go.Proofs.YtomgebmimgaojaaW.PrintMore
open Go.Proofs.Ytomgebmimgaojaa.ThFacts (FitP)
open OctMath (Le Fin' Bd)
namespace Upper
variable {t : List Int}
theorem upOk_of {t : List Int} (h : FitP t) : UpOk t := by
  refine ⟨fun x => ?_, h.2.1⟩
  have hin := bfit_in x
  have hlast : rd t ((t.length - 1 : Nat) : Int) = 4611686018427387904 := by have := h.2.2.2.1; rw [← this]; congr 1; have := h.1; omega
  have := ThFacts.firstAt_lt (fun y => decide (y ≥ bfit x)) t (t.length - 1) (by have := h.1; omega) (by rw [← ThFacts.rd_nat, hlast]; exact decide_eq_true (by omega))
  have := h.1; omega
theorem fitb {t : List Int} (h : FitP t) : ∀ k, 258 ≤ k → thresh_Fit.f k t = some true ∧ gimbalref13_Fit.f k t = some true := by
  obtain ⟨b, h1, h2, h3⟩ := ThFacts.fits t (by have := h.2.1; omega)
  have hb : b = true := h3.2 h
  subst hb
  exact fun k hk => ⟨h1 k hk, h2 k hk⟩
theorem up_at (h : FitP t) (x : Int) : ∃ N : Nat, N < t.length ∧ upT t x = rd t N ∧ rd t N ≥ bfit x ∧ ∀ j : Nat, j < t.length → rd t j ≥ bfit x → rd t N ≤ rd t j := by
  obtain ⟨h1, h2⟩ := ThFacts.firstAt_spec (fun y => decide (y ≥ bfit x)) t
  have hN := (upOk_of h).1 x
  refine ⟨firstAt (fun y => decide (y ≥ bfit x)) t, hN, rfl, ?_, fun j hj hx => ?_⟩
  · have := h2 hN
    rw [← ThFacts.rd_nat] at this
    exact of_decide_eq_true this
  · refine ThFacts.rising' h (by omega) ?_ (by omega)
    have := ThFacts.firstAt_lt (fun y => decide (y ≥ bfit x)) t j hj (by rw [← ThFacts.rd_nat]; exact decide_eq_true hx)
    omega
theorem th_range (h : FitP t) (N : Nat) (hN : N < t.length) : -4611686018427387904 ≤ rd t N ∧ rd t N ≤ 4611686018427387904 := by
  have a := ThFacts.rising' h (i := 0) (j := N) (by omega) (by omega) (by omega)
  have b := ThFacts.rising' h (i := N) (j := (t.length : Int) - 1) (by omega) (by omega) (by omega)
  rw [h.2.2.1] at a
  rw [h.2.2.2.1] at b
  exact ⟨a, b⟩
theorem bfit_id {x : Int} (h : -4611686018427387904 ≤ x) (h' : x ≤ 4611686018427387904) : bfit x = x := by unfold bfit; rw [if_neg (by omega), if_neg (by omega)]
theorem bfit_mono {x y : Int} (h : x ≤ y) : bfit x ≤ bfit y := by unfold bfit; split <;> split <;> (try split) <;> (try split) <;> omega
theorem up_range (h : FitP t) (x : Int) : -4611686018427387904 ≤ upT t x ∧ upT t x ≤ 4611686018427387904 := by
  obtain ⟨N, hN, e, _, _⟩ := up_at h x
  rw [e]; exact th_range h N hN
theorem up_ge (h : FitP t) {x : Int} (h1 : -4611686018427387904 ≤ x) (h2 : x ≤ 4611686018427387904) : x ≤ upT t x := by
  obtain ⟨N, hN, e, g, _⟩ := up_at h x
  rw [bfit_id h1 h2] at g
  omega
theorem up_mono (h : FitP t) {x y : Int} (hxy : x ≤ y) : upT t x ≤ upT t y := by
  obtain ⟨N, hN, e, _, l⟩ := up_at h x
  obtain ⟨M, hM, e', g, _⟩ := up_at h y
  rw [e, e']
  exact l M hM (Int.le_trans (bfit_mono hxy) g)
theorem up_up (h : FitP t) (x : Int) : upT t (upT t x) = upT t x := by
  obtain ⟨N, hN, e, _, _⟩ := up_at h x
  have r := up_range h x
  have a := up_ge h r.1 r.2
  obtain ⟨M, hM, e', _, l⟩ := up_at h (upT t x)
  have := l N hN (by rw [bfit_id r.1 r.2, e]; exact Int.le_refl _)
  omega
theorem up_top (h : FitP t) : upT t 4611686018427387904 = 4611686018427387904 := by
  have := up_ge h (x := 4611686018427387904) (by decide) (by decide)
  have := up_range h 4611686018427387904
  omega
def rc (t : List Int) (x : Int) : Int := clipV (upT t x)
def rb (t : List Int) (x : Int) : Int := twiceV (upT t (half x))
theorem roundM_eq (c : Mx) (i j : Nat) : roundM t c i j = if i = j then 0 else if i = nb j then rb t (c i j) else rc t (c i j) := rfl
theorem clip_cases (x : Int) : (x > 1099511627776 ∧ clipV x = 4611686018427387904) ∨ (x < -1099511627776 ∧ clipV x = -1099511627776) ∨ (-1099511627776 ≤ x ∧ x ≤ 1099511627776 ∧ clipV x = x) := by unfold clipV; split <;> (try split) <;> omega
theorem rc_ge (h : FitP t) {x : Int} (hx : Fin' 1099511627776 x) : x ≤ rc t x := by
  have hx' : -4611686018427387904 ≤ x ∧ x ≤ 4611686018427387904 := by unfold Fin' at hx; omega
  have := up_ge h hx'.1 hx'.2
  unfold rc
  rcases clip_cases (upT t x) with q | q | q <;> (unfold Fin' at hx; omega)
theorem rc_mono (h : FitP t) {x y : Int} (hxy : x ≤ y) : rc t x ≤ rc t y := by
  have := up_mono h hxy
  unfold rc
  rcases clip_cases (upT t x) with q | q | q <;> rcases clip_cases (upT t y) with r | r | r <;> omega
theorem rc_rc (h : FitP t) {x : Int} (hx : Fin' 1099511627776 x) : rc t (rc t x) = rc t x := by
  have hx' : -4611686018427387904 ≤ x ∧ x ≤ 4611686018427387904 := by unfold Fin' at hx; omega
  have g := up_ge h hx'.1 hx'.2
  have e : rc t x = clipV (upT t x) := rfl
  rcases clip_cases (upT t x) with q | q | q
  · rw [e, q.2]; unfold rc; rw [up_top h]; rfl
  · exfalso; unfold Fin' at hx; omega
  · rw [e, q.2.2]; unfold rc; rw [up_up h]; exact q.2.2
def Even2 (x : Int) : Prop := x = 4611686018427387904 ∨ ∃ z, x = 2 * z
theorem rb_cases (h : FitP t) {x : Int} (hx : Fin' 1099511627776 x) (he : Even2 x) : (rb t x = 4611686018427387904 ∧ (x = 4611686018427387904 ∨ upT t (half x) > 549755813888)) ∨ (x ≠ 4611686018427387904 ∧ rb t x = 2 * upT t (half x) ∧ x ≤ 2 * upT t (half x) ∧ upT t (half x) ≤ 549755813888) := by
  by_cases e : x = 4611686018427387904
  · left
    subst e
    refine ⟨?_, .inl rfl⟩
    unfold rb
    rw [show half 4611686018427387904 = 4611686018427387904 from rfl, up_top h]; rfl
  · have hx1 : -1099511627776 ≤ x ∧ x ≤ 1099511627776 := by unfold Fin' at hx; omega
    obtain ⟨z, rfl⟩ : ∃ z, x = 2 * z := by rcases he with he | he; exact absurd he e; exact he
    have hh : half (2 * z) = z := by unfold half; rw [if_neg e]; omega
    have g := up_ge h (x := z) (by omega) (by omega)
    unfold rb
    rw [hh]
    have hm : mx (upT t z) (-1099511627776) = upT t z := by unfold mx; split <;> omega
    unfold twiceV
    rw [hm]
    by_cases c : upT t z > 1099511627776
    · rw [if_pos c]; left; exact ⟨rfl, .inr (by omega)⟩
    · rw [if_neg c]
      rcases clip_cases (2 * upT t z) with q | q | q
      · left; exact ⟨q.2, .inr (by omega)⟩
      · exfalso; omega
      · right; exact ⟨e, q.2.2, by omega, by omega⟩
theorem rb_ge (h : FitP t) {x : Int} (hx : Fin' 1099511627776 x) (he : Even2 x) : x ≤ rb t x := by
  rcases rb_cases h hx he with q | q
  · unfold Fin' at hx; omega
  · omega
theorem rb_mono (h : FitP t) {x y : Int} (hx : Fin' 1099511627776 x) (hy : Fin' 1099511627776 y) (ex : Even2 x) (ey : Even2 y) (hxy : x ≤ y) : rb t x ≤ rb t y := by
  have hh : half x ≤ half y := by
    unfold half Fin' at *; split <;> split <;> omega
  have := up_mono h hh
  rcases rb_cases h hx ex with q | q <;> rcases rb_cases h hy ey with r | r <;> (try omega)
theorem rb_even (h : FitP t) {x : Int} (hx : Fin' 1099511627776 x) (he : Even2 x) : Even2 (rb t x) := by
  rcases rb_cases h hx he with q | q
  · exact .inl q.1
  · exact .inr ⟨_, q.2.1⟩
theorem rb_rb (h : FitP t) {x : Int} (hx : Fin' 1099511627776 x) (he : Even2 x) : rb t (rb t x) = rb t x := by
  rcases rb_cases h hx he with q | q
  · rw [q.1]; unfold rb; rw [show half 4611686018427387904 = 4611686018427387904 from rfl, up_top h]; rfl
  · have hx1 : -1099511627776 ≤ x := by unfold Fin' at hx; omega
    have hne : 2 * upT t (half x) ≠ 4611686018427387904 := by omega
    have hh : half (2 * upT t (half x)) = upT t (half x) := by
      generalize upT t (half x) = y at hne ⊢
      unfold half; rw [if_neg hne]; omega
    have e : rb t (rb t x) = rb t (2 * upT t (half x)) := by rw [q.2.1]
    rw [e]
    unfold rb
    rw [hh, up_up h]
theorem close_even {n : Nat} {m : Mx} (h : Snd n m) (hc : CloseOk n m) (i : Nat) (hi : i < n) : Even2 (closeM n m i (nb i)) := by
  have e := (tgt_of h hc).ev i hi
  rw [closeM_eq]
  rcases clip_cases (tgtM n m i (nb i)) with q | q | q
  · exact .inl q.2
  · rw [q.2]; exact .inr ⟨-549755813888, by decide⟩
  · rw [q.2.2]; exact e
def BarEven (n : Nat) (c : Mx) : Prop := ∀ i, i < n → Even2 (c i (nb i))
section
variable {n : Nat} {A C : Mx}
theorem round_snd (h : Snd n A) : Snd n (roundM t A) := by
  refine ⟨h.ev, fun i j hi hj => ?_, fun i j hi hj => ?_, fun i hi => by rw [roundM_eq, if_pos rfl]⟩
  · unfold roundM
    split
    · right; omega
    · split
      · exact twiceV_range _
      · exact clipV_range _
  · unfold roundM
    by_cases e : i = j
    · subst e; rw [if_pos rfl, if_pos rfl]
    · have e' : ¬ nb j = nb i := fun h => e (by rw [← nb_nb i, ← h, nb_nb])
      rw [if_neg e, if_neg e']
      by_cases f : i = nb j
      · subst f; simp only [nb_nb]
      · have f' : ¬ nb j = nb (nb i) := fun h => f (by rw [nb_nb] at h; exact h.symm)
        rw [if_neg f, if_neg f', h.coh i j hi hj]
theorem bar_of {n : Nat} {c : Mx} (hb : BarEven n c) {i j : Nat} (hi : i < n) (e : i = nb j) : Even2 (c i j) := by
  have := hb i hi
  rw [e, nb_nb] at this
  rw [e]; exact this
theorem round_ge (ht : FitP t) (h : Snd n A) (hb : BarEven n A) : Le n A (roundM t A) := by
  intro i j hi hj
  rw [roundM_eq]
  by_cases e : i = j
  · subst e; rw [if_pos rfl, h.dg i hi]; exact Int.le_refl _
  · rw [if_neg e]
    by_cases f : i = nb j
    · rw [if_pos f]; exact rb_ge ht (h.bd i j hi hj) (bar_of hb hi f)
    · rw [if_neg f]; exact rc_ge ht (h.bd i j hi hj)
theorem round_mono (ht : FitP t) (h : Snd n A) (h' : Snd n C) (hb : BarEven n A) (hb' : BarEven n C) (l : Le n A C) : Le n (roundM t A) (roundM t C) := by
  intro i j hi hj
  rw [roundM_eq, roundM_eq]
  by_cases e : i = j
  · rw [if_pos e, if_pos e]; exact Int.le_refl _
  · rw [if_neg e, if_neg e]
    by_cases f : i = nb j
    · rw [if_pos f, if_pos f]; exact rb_mono ht (h.bd i j hi hj) (h'.bd i j hi hj) (bar_of hb hi f) (bar_of hb' hi f) (l i j hi hj)
    · rw [if_neg f, if_neg f]; exact rc_mono ht (l i j hi hj)
theorem round_round (ht : FitP t) (h : Snd n A) (hb : BarEven n A) (i j : Nat) (hi : i < n) (hj : j < n) : roundM t (roundM t A) i j = roundM t A i j := by
  rw [roundM_eq]
  by_cases e : i = j
  · rw [if_pos e, roundM_eq, if_pos e]
  · rw [if_neg e, roundM_eq, if_neg e]
    by_cases f : i = nb j
    · rw [if_pos f, if_pos f]; exact rb_rb ht (h.bd i j hi hj) (bar_of hb hi f)
    · rw [if_neg f, if_neg f]; exact rc_rc ht (h.bd i j hi hj)
theorem round_bar (ht : FitP t) (h : Snd n A) (hb : BarEven n A) : BarEven n (roundM t A) := by
  intro i hi
  have hne : ¬ i = nb i := by unfold nb; split <;> omega
  rw [roundM_eq, if_neg hne, if_pos (by rw [nb_nb])]
  exact rb_even ht (h.bd i (nb i) hi (h.nb i hi)) (hb i hi)
def rhoM (n : Nat) (t : List Int) (A : Mx) : Mx := closeM n (roundM t A)
theorem rho_ok (ht : FitP t) {m : Mx} (h : Snd n m) (hc : CloseOk n m) : CloseOk n (roundM t (closeM n m)) ∧ Le n (closeM n m) (rhoM n t (closeM n m)) := by
  have hs := snd_close h hc
  have tw := close_twice h hc
  have r := round_ge ht hs (fun i hi => close_even h hc i hi)
  obtain ⟨c1, _, c3⟩ := close_mono hs (round_snd (t := t) hs) tw.1 (fun i j hi hj => Int.le_trans (tgt_le hs tw.1 i j hi hj) (r i j hi hj))
  exact ⟨c1, fun i j hi hj => by rw [← tw.2 i j hi hj]; exact c3 i j hi hj⟩
theorem rho_mono (ht : FitP t) {m m' : Mx} (h : Snd n m) (hc : CloseOk n m) (h' : Snd n m') (hc' : CloseOk n m') (l : Le n (closeM n m) (closeM n m')) : Le n (rhoM n t (closeM n m)) (rhoM n t (closeM n m')) := by
  have hs := snd_close h hc
  have hs' := snd_close h' hc'
  have r := round_mono ht hs hs' (fun i hi => close_even h hc i hi) (fun i hi => close_even h' hc' i hi) l
  have s := round_snd (t := t) hs
  obtain ⟨_, _, c3⟩ := close_mono s (round_snd (t := t) hs') (rho_ok ht h hc).1 (fun i j hi hj => Int.le_trans (tgt_le s (rho_ok ht h hc).1 i j hi hj) (r i j hi hj))
  exact c3
theorem rho_rho (ht : FitP t) {m : Mx} (h : Snd n m) (hc : CloseOk n m) (i j : Nat) (hi : i < n) (hj : j < n) : rhoM n t (rhoM n t (closeM n m)) i j = rhoM n t (closeM n m) i j := by
  have hs := snd_close h hc
  have hb : BarEven n (closeM n m) := fun i hi => close_even h hc i hi
  have s := round_snd (t := t) hs
  have c := (rho_ok ht h hc).1
  refine Int.le_antisymm ?_ ((rho_ok ht s c).2 i j hi hj)
  have sp := snd_close s c
  have hbp : BarEven n (rhoM n t (closeM n m)) := fun i hi => close_even s c i hi
  have l : Le n (roundM t (rhoM n t (closeM n m))) (roundM t (closeM n m)) := fun i j hi hj => by
    have := round_mono ht sp s hbp (round_bar ht hs hb) (close_le s c) i j hi hj
    rw [round_round ht hs hb i j hi hj] at this
    exact this
  have sr := round_snd (t := t) sp
  have cr := (rho_ok ht s c).1
  exact (close_mono sr s cr (fun i j hi hj => Int.le_trans (tgt_le sr cr i j hi hj) (l i j hi hj))).2.2 i j hi hj
end
def thF (t vars m : List Int) (e : Bool) : List Int × List Int × Bool := if (closeF vars m e).2.2 = true then closeF vars m e else closeF vars (lst (2 * vars.length) (roundM t (closeM (2 * vars.length) (lowM vars.length m)))) false
section
variable {vars m m' : List Int} {e e' : Bool} {A B : Option Mx}
inductive RMean (n : Nat) (t : List Int) : Option Mx → Option Mx → Prop
  | none : RMean n t none none
  | some {c P : Mx} (h : Snd n c) (hc : CloseOk n c) (q : ∀ i j, i < n → j < n → P i j = rhoM n t (closeM n c) i j) : RMean n t (some (closeM n c)) (some P)
theorem th_mean (ht : FitP t) (h : OFit vars m e) (a : Mean vars m e A) : OFit vars (thF t vars m e).2.1 (thF t vars m e).2.2 ∧ (thF t vars m e).1 = vars ∧ ∃ P, Mean vars (thF t vars m e).2.1 (thF t vars m e).2.2 P ∧ RMean (2 * vars.length) t A P ∧ ((thF t vars m e).2.2 = true → (thF t vars m e).2.1 = []) := by
  unfold thF
  cases a with
  | none h1 h2 =>
    rw [h1, if_pos rfl]
    have q : closeF vars [] true = (vars, [], true) := by unfold closeF; rw [if_pos rfl]
    exact ⟨fit_none h.1, rfl, none, .none q (.inl rfl), .none, fun _ => rfl⟩
  | some h1 he hc hs =>
    subst he
    rw [h1, if_neg (by simp)]
    have sm := snd_of_fit h
    have rs := round_snd (t := t) hs
    have ro := rho_ok ht sm hc
    have hf := fit_of_snd h.1 rs
    -- the list of the rounded entries, closed
    have sn := snd_of_fit hf
    have ex := close_ext rs sn (fun i j hi hj => (lowM_lst h.1 rs i j hi hj).symm) ro.1
    have hcl : closeF vars (lst (2 * vars.length) (roundM t (closeM (2 * vars.length) (lowM vars.length m)))) false = (vars, lst (2 * vars.length) (closeM (2 * vars.length) (lowM vars.length (lst (2 * vars.length) (roundM t (closeM (2 * vars.length) (lowM vars.length m)))))), false) := by
      rcases close_cases hf with ⟨_, h2⟩ | ⟨_, _, h3⟩
      · rcases h2 with h2 | h2
        · cases h2
        · exact absurd ex.1 h2
      · exact h3
    rw [hcl]
    have tw := close_twice sn ex.1
    have ss := snd_close sn ex.1
    obtain ⟨hf2, K, hK, hKe⟩ := lst_mean h.1 ss tw.1
    exact ⟨hf2, rfl, some K, hK, .some sm hc (fun i j hi hj => by rw [hKe i j hi hj, tw.2 i j hi hj, ← ex.2 i j hi hj]; rfl), fun h => (by cases h)⟩
theorem rmean_le (ht : FitP t) {n : Nat} {P Q : Option Mx} (a : RMean n t A P) (b : RMean n t B Q) (l : OLe n A B) : OLe n A P ∧ OLe n P Q := by
  cases a with
  | none => exact ⟨trivial, trivial⟩
  | some h hc q =>
    refine ⟨fun i j hi hj => by rw [q i j hi hj]; exact (rho_ok ht h hc).2 i j hi hj, ?_⟩
    cases b with
    | none => exact l.elim
    | some h' hc' q' => exact fun i j hi hj => by rw [q i j hi hj, q' i j hi hj]; exact rho_mono ht h hc h' hc' l i j hi hj
theorem th_leq (ht : FitP t) (h : OFit vars m e) (h' : OFit vars m' e') (l : leqF vars m e m' e' = true) :
    leqF vars m e (thF t vars m e).2.1 (thF t vars m e).2.2 = true ∧ leqF vars (thF t vars m e).2.1 (thF t vars m e).2.2 (thF t vars m' e').2.1 (thF t vars m' e').2.2 = true := by
  obtain ⟨A, a⟩ := mean_ex h
  obtain ⟨B, b⟩ := mean_ex h'
  obtain ⟨f, _, P, p, rp, _⟩ := th_mean ht h a
  obtain ⟨_, _, Q, q, rq, _⟩ := th_mean ht h' b
  have := rmean_le ht rp rq ((leq_mean h a b).1 l)
  exact ⟨(leq_mean h a p).2 this.1, (leq_mean f p q).2 this.2⟩
theorem th_th (ht : FitP t) (h : OFit vars m e) : thF t vars (thF t vars m e).2.1 (thF t vars m e).2.2 = thF t vars m e := by
  obtain ⟨A, a⟩ := mean_ex h
  cases a with
  | none h1 h2 =>
    have e1 : thF t vars m e = (vars, [], true) := by unfold thF; rw [h1, if_pos rfl]
    have q : closeF vars [] true = (vars, [], true) := by unfold closeF; rw [if_pos rfl]
    rw [e1]
    show thF t vars [] true = _
    unfold thF; rw [q, if_pos rfl]
  | some h1 he hc hs =>
    subst he
    have sm := snd_of_fit h
    have rs := round_snd (t := t) hs
    have ro := rho_ok ht sm hc
    have cl : ∀ {N : Mx}, Snd (2 * vars.length) N → CloseOk (2 * vars.length) N → closeF vars (lst (2 * vars.length) N) false = (vars, lst (2 * vars.length) (closeM (2 * vars.length) N), false) ∧ CloseOk (2 * vars.length) (lowM vars.length (lst (2 * vars.length) N)) ∧ ∀ i j, i < 2 * vars.length → j < 2 * vars.length → closeM (2 * vars.length) (lowM vars.length (lst (2 * vars.length) N)) i j = closeM (2 * vars.length) N i j := fun {N} hN hcN => by
      have hf := fit_of_snd h.1 hN
      have sn := snd_of_fit hf
      have ex := close_ext hN sn (fun i j hi hj => (lowM_lst h.1 hN i j hi hj).symm) hcN
      refine ⟨?_, ex.1, fun i j hi hj => (ex.2 i j hi hj).symm⟩
      rcases close_cases hf with ⟨_, h2⟩ | ⟨_, _, h3⟩
      · rcases h2 with h2 | h2
        · cases h2
        · exact absurd ex.1 h2
      · rw [h3]
        congr 2
        exact lst_congr (fun i j hi hj => (ex.2 i j hi hj).symm)
    have e1 : thF t vars m false = (vars, lst (2 * vars.length) (rhoM (2 * vars.length) t (closeM (2 * vars.length) (lowM vars.length m))), false) := by
      unfold thF; rw [h1, if_neg (by simp), (cl rs ro.1).1]; rfl
    rw [e1]
    dsimp only
    have sp := snd_close rs ro.1
    have twp := close_twice rs ro.1
    have k := cl sp twp.1
    have rr := rho_ok ht rs ro.1
    have k1 : closeF vars (lst (2 * vars.length) (rhoM (2 * vars.length) t (closeM (2 * vars.length) (lowM vars.length m)))) false = (vars, lst (2 * vars.length) (closeM (2 * vars.length) (rhoM (2 * vars.length) t (closeM (2 * vars.length) (lowM vars.length m)))), false) := k.1
    unfold thF
    rw [k1, if_neg (by simp)]
    have e2 : ∀ i j, i < 2 * vars.length → j < 2 * vars.length → roundM t (closeM (2 * vars.length) (lowM vars.length (lst (2 * vars.length) (rhoM (2 * vars.length) t (closeM (2 * vars.length) (lowM vars.length m)))))) i j = roundM t (rhoM (2 * vars.length) t (closeM (2 * vars.length) (lowM vars.length m))) i j := fun i j hi hj => by
      have a1 : closeM (2 * vars.length) (lowM vars.length (lst (2 * vars.length) (rhoM (2 * vars.length) t (closeM (2 * vars.length) (lowM vars.length m))))) i j = rhoM (2 * vars.length) t (closeM (2 * vars.length) (lowM vars.length m)) i j := (k.2.2 i j hi hj).trans (twp.2 i j hi hj)
      rw [roundM_eq, roundM_eq, a1]
    rw [lst_congr e2]
    have s2 := round_snd (t := t) sp
    have k2 : closeF vars (lst (2 * vars.length) (roundM t (rhoM (2 * vars.length) t (closeM (2 * vars.length) (lowM vars.length m))))) false = (vars, lst (2 * vars.length) (closeM (2 * vars.length) (roundM t (rhoM (2 * vars.length) t (closeM (2 * vars.length) (lowM vars.length m))))), false) := (cl s2 rr.1).1
    rw [k2]
    exact congrArg (fun l => (vars, l, false)) (lst_congr (fun i j hi hj => rho_rho ht sm hc i j hi hj))
end
def dnT (t : List Int) (x : Int) : Int := rd t ((firstAt (fun y => decide (y > bfit x)) t : Int) - 1)
theorem dn_pos (h : FitP t) (x : Int) : 1 ≤ firstAt (fun y => decide (y > bfit x)) t := by
  obtain ⟨h1, h2⟩ := ThFacts.firstAt_spec (fun y => decide (y > bfit x)) t
  by_cases e : 1 ≤ firstAt (fun y => decide (y > bfit x)) t
  · exact e
  · exfalso
    have e0 : firstAt (fun y => decide (y > bfit x)) t = 0 := by omega
    have := h2 (by rw [e0]; have := h.1; omega)
    rw [e0, ← ThFacts.rd_nat] at this
    have g := of_decide_eq_true this
    have hin := bfit_in x
    have := h.2.2.1
    simp only [Int.natCast_zero] at g
    omega
theorem dn_at (h : FitP t) (x : Int) : ∃ N : Nat, N < t.length ∧ dnT t x = rd t N ∧ rd t N ≤ bfit x ∧ ∀ j : Nat, j < t.length → rd t j ≤ bfit x → rd t j ≤ rd t N := by
  obtain ⟨h1, h2⟩ := ThFacts.firstAt_spec (fun y => decide (y > bfit x)) t
  have hp := dn_pos h x
  have hle := firstAt_le (fun y => decide (y > bfit x)) t
  have ec : ((firstAt (fun y => decide (y > bfit x)) t : Int) - 1) = ((firstAt (fun y => decide (y > bfit x)) t - 1 : Nat) : Int) := by omega
  refine ⟨firstAt (fun y => decide (y > bfit x)) t - 1, by omega, by unfold dnT; rw [ec], ?_, fun j hj hx => ?_⟩
  · have := h1 (firstAt (fun y => decide (y > bfit x)) t - 1) (by omega)
    rw [← ThFacts.rd_nat] at this
    have := of_decide_eq_false this
    omega
  · refine ThFacts.rising' h (by omega) ?_ (by omega)
    by_cases c : j ≤ firstAt (fun y => decide (y > bfit x)) t - 1
    · omega
    · exfalso
      have hlt : firstAt (fun y => decide (y > bfit x)) t < t.length := by omega
      have := h2 hlt
      rw [← ThFacts.rd_nat] at this
      have g := of_decide_eq_true this
      have := ThFacts.rising' h (i := (firstAt (fun y => decide (y > bfit x)) t : Int)) (j := (j : Int)) (by omega) (by omega) (by omega)
      omega
theorem dn_range (h : FitP t) (x : Int) : -4611686018427387904 ≤ dnT t x ∧ dnT t x ≤ 4611686018427387904 := by
  obtain ⟨N, hN, e, _, _⟩ := dn_at h x
  rw [e]; exact th_range h N hN
theorem dn_le (h : FitP t) {x : Int} (h1 : -4611686018427387904 ≤ x) (h2 : x ≤ 4611686018427387904) : dnT t x ≤ x := by
  obtain ⟨N, hN, e, g, _⟩ := dn_at h x
  rw [bfit_id h1 h2] at g
  omega
theorem dn_dn (h : FitP t) (x : Int) : dnT t (dnT t x) = dnT t x := by
  obtain ⟨N, hN, e, _, _⟩ := dn_at h x
  have r := dn_range h x
  have a := dn_le h r.1 r.2
  obtain ⟨M, hM, e', _, l⟩ := dn_at h (dnT t x)
  have := l N hN (by rw [bfit_id r.1 r.2, e]; exact Int.le_refl _)
  omega
theorem down_f (h : FitP t) (x : Int) (k : Nat) (hk : 258 ≤ k) : thresh_Down.f k t x = some (dnT t x) := by
  unfold thresh_Down.f dnT
  rw [(fitb h k hk).1, Option.bind_some, if_pos rfl, if_pos ⟨dn_pos h x, by have := h.2.1; omega⟩]
theorem up_f (h : FitP t) (x : Int) (k : Nat) (hk : 258 ≤ k) : thresh_Up.f k t x = some (upT t x) := by
  unfold thresh_Up.f upT
  rw [(fitb h k hk).1, Option.bind_some, if_pos rfl, if_pos ⟨(upOk_of h).1 x, by have := h.2.1; omega⟩]
theorem itv_f (h : FitP t) {lo hi : Int} (h1 : lo ≤ hi) (h2 : -4611686018427387904 ≤ lo) (h3 : hi ≤ 4611686018427387904) (h4 : lo < 4611686018427387904) (h5 : -4611686018427387904 < hi) (k : Nat) (hk : 258 ≤ k) : thresh_Itv.f k t lo hi = some (dnT t lo, upT t hi) := by
  unfold thresh_Itv.f
  rw [if_neg (by omega), down_f h lo k hk, Option.bind_some, up_f h hi k hk, Option.bind_some]
  have a := dn_le h h2 (by omega)
  have b := up_ge h (x := hi) (by omega) h3
  have e1 : mn (dnT t lo) 4611686018427387903 = dnT t lo := by unfold mn; split <;> omega
  have e2 : mx (upT t hi) (-4611686018427387903) = upT t hi := by unfold mx; split <;> omega
  rw [e1, e2]
end Upper
end Go.Proofs.Ytomgebmimgaojaa.Pure
end
end
section
noncomputable section
namespace Go.Proofs.Ytomgebmimgaojaa.QO
open Go.RowKit Go.Shelf Go.Proofs.YtomgebmimgaojaaW.PrintWords Go.Proofs.YtomgebmimgaojaaW.PrintLast Go.Proofs.YtomgebmimgaojaaW.PrintMore
open Go.Proofs.Ytomgebmimgaojaa.Pure Octs Two
attribute [local go_sem] Oper.semAt_some
attribute [local go_sem ↓] Go.wp_at_zero Go.wp_at_succ
set_option linter.unusedVariables false
set_option linter.unusedSimpArgs false
theorem leqL_at {vars : List Int} {A B : Mx} (hv : VarsOk vars) (ha : Snd (2 * vars.length) A) (hb : Snd (2 * vars.length) B) : leqL (2 * vars.length) (lst (2 * vars.length) A) (lst (2 * vars.length) B) = true ↔ ∀ k : Nat, k < 2 * vars.length * (2 * vars.length) → rd (lst (2 * vars.length) A) (k : Int) ≤ rd (lst (2 * vars.length) B) (k : Int) := by
 have at_ : ∀ (C : Mx) (k : Nat), k < 2 * vars.length * (2 * vars.length) → rd (lst (2 * vars.length) C) (k : Int) = C (k / (2 * vars.length)) (k % (2 * vars.length)) := fun C k hk => by
  have h0 : 0 < 2 * vars.length := by
   by_cases e : 2 * vars.length = 0
   ·
    rw [e] at hk; omega
   ·
    omega
  refine lst_rd (Nat.div_lt_of_lt_mul hk) (Nat.mod_lt _ h0) ?_
  congr 1
  rw [Nat.mul_comm]; exact (Nat.div_add_mod k _).symm
 unfold leqL
 rw [List.all_eq_true]
 constructor
 ·
  intro h k hk
  have := h k (by simpa using hk)
  obtain ⟨h1, h2⟩ := pairAt_lst hv ha hb k hk
  rw [h1, h2] at this
  rw [at_ A k hk, at_ B k hk]
  exact of_decide_eq_true this
 ·
  intro h k hk
  have hk' : k < 2 * vars.length * (2 * vars.length) := by simpa using hk
  obtain ⟨h1, h2⟩ := pairAt_lst hv ha hb k hk'
  rw [h1, h2]
  have := h k hk'
  rw [at_ A k hk', at_ B k hk'] at this
  exact decide_eq_true this
def rleq_T : Bool × List (List Nat × List Nat) := (true, [([], []), ([0], [0]), ([], []), ([2, 1], [2]), ([], []), ([], []), ([4, 1, 3, 0, 1, 4, 5], [1, 4]), ([5, 3, 6, 0, 1, 2, 3, 4, 5, 6], [3, 5])])
def rleq_T7 : Bool × List (List Nat × List Nat) := (true, [([], []), ([0], [0]), ([], []), ([1, 2], [1, 2]), ([3], [3]), ([], []), ([5], [5]), ([], []), ([6, 7], [6, 7]), ([8], [8]), ([4, 9], [4, 9])])
def rleq_B7 : List Nat := [0, 1, 0, 7, 15, 0, 32, 0, 224, 480, 1023]
theorem rleq_tab7 : rtab .any (opsOf Try.f30 7) = rleq_T7 := by kernel_rfl
theorem rleq_bits7 : waitsOk rleq_T7.2 rleq_B7 = true := by kernel_rfl
def rleq_B : List Nat := [0, 1, 0, 7, 0, 0, 63, 127]
theorem rleq_tab : rtab .any (opsOf Try.f30 1) = rleq_T := by kernel_rfl
theorem rleq_bits : waitsOk rleq_T.2 rleq_B = true := by kernel_rfl
theorem rclose_o {w W : World} {x : OV} (hx : Oc w W x) (hb : Below w.heap.size w W) (fx : OFit x.v x.m x.e) :
 Calls Try.prog 23 #[x.val] W fun e W' => ∃ z : OV, e = .returned z.val ∧ z.o = closeF x.v x.m x.e ∧ Oc w W' z ∧ Below W.heap.size W W' := by
 obtain ⟨K, hK⟩ := close_ev fx
 exact of_calls (gimbalref11_Close.calls K x.P x.p x.v x.Q x.q x.m x.e _ _ _ W (hx.r0.reads hb) hx.r0.le (hx.r1.reads hb) hx.r1.le (hK K (Nat.le_refl _)))
set_option maxHeartbeats 16000000 in
set_option maxRecDepth 100000 in
theorem rleq_o {vars : List Int} {X Y : OV} {w0 w : World} (hX : Oc w0 w X) (hY : Oc w0 w Y) (h0 : Below w0.heap.size w0 w) (fx : OkV vars X) (fy : OkV vars Y) : Says 30 #[X.val, Y.val] w (.bool (leqF vars X.m X.e Y.m Y.e)) := by
 have hu25 := Try.underlying25
 obtain ⟨ans, hans⟩ : ∃ t, leqF vars X.m X.e Y.m Y.e = t := ⟨_, rfl⟩
 rw [hans]
 have HAN := Aside0.mk hans
 clear hans
 have hX' : Oc w w X := ⟨⟨hX.r0.le, .inl (hX.r0.reads h0)⟩, ⟨hX.r1.le, .inl (hX.r1.reads h0)⟩⟩
 have hY' : Oc w w Y := ⟨⟨hY.r0.le, .inl (hY.r0.reads h0)⟩, ⟨hY.r1.le, .inl (hY.r1.reads h0)⟩⟩
 have HS := Aside0.mk (LS.two X Y hX' hY')
 have HF := Aside0.mk (And.intro fx fy)
 clear hX hY h0 hX' hY' fx fy
 go_enter Try.func30, Try.ntmps30
 go_upto_region 1 with fail
 generalize hW2 : ((w.alloc X.cells).alloc Y.cells) = W2 at HS ⊢
 generalize hgb : w.heap.size + 1 = gb at HS ⊢
 generalize hga : w.heap.size = ga at HS ⊢
 clear hW2 hgb hga
 refine startN_ (n := 8) (S := fun w' => w'.cell? ⟨ga, 0, none⟩ = some (.slice X.P X.v.length X.p) ∧ w'.cell? ⟨ga, 1, none⟩ = some (.slice X.Q X.m.length X.q) ∧ w'.cell? ⟨ga, 2, none⟩ = some (.bool X.e) ∧ w'.cell? ⟨gb, 0, none⟩ = some (.slice Y.P Y.v.length Y.p) ∧ w'.cell? ⟨gb, 1, none⟩ = some (.slice Y.Q Y.m.length Y.q) ∧ w'.cell? ⟨gb, 2, none⟩ = some (.bool Y.e)) (ds := [6, 7]) (mB 8 0) (by kernel_rfl) rfl (by kernel_rfl) ⟨(HS.out.drew.cell m0_).1, (HS.out.drew.cell m0_).2.1, (HS.out.drew.cell m0_).2.2, HS.out.drew.cell m1_⟩ (fun hHeld => ?_)
 refine with_tabW rleq_tab rleq_bits (fun HT_ HW_ => ?_)
 have n_ := Aside0.mk HS.out.drew; clear HS; have HS := n_; clear n_
 generalize hWd : World.drew _ = Wd at HS hHeld ⊢; clear hWd
 refine tV_ 0 8 (mB 8 1) HT_ HW_ hHeld ?_
 refine tV_ 2 10 (mB 8 5) HT_ HW_ hHeld ?_
 refine join_ (σ := OV × OV × Nat × Nat) 2 (mB 8 63) (fun s_ => [(9, .agg #[.slice s_.1.P s_.1.v.length s_.1.p, .slice s_.1.Q s_.1.m.length s_.1.q, .bool s_.1.e]), (11, .agg #[.slice s_.2.1.P s_.2.1.v.length s_.2.1.p, .slice s_.2.1.Q s_.2.1.m.length s_.2.1.q, .bool s_.2.1.e]), (5, .pointer (some ⟨s_.2.2.1, 0, none⟩)), (6, .pointer (some ⟨s_.2.2.2, 0, none⟩))]) (fun s_ w' => (s_.1.o = closeF X.v X.m X.e) ∧ (s_.2.1.o = closeF Y.v Y.m Y.e) ∧ LS w [(ga, X), (gb, Y)] [s_.2.1, s_.1] [s_.2.2.1, s_.2.2.2] w') ?_ ?_
 rotate_left
 ·
  intro hJ
  refine three_ (i := 1) (j := 4) (k := 5) (Ni := some 9) (Nj := some 5) (Nk := some 6) (mB 8 7) (mB 8 21) (mB 8 37) rfl rfl rfl rfl rfl rfl (three_of HT_.out (by kernel_rfl)) (by decide) (by decide) (by decide) (fun K hK => ?_) (fun K hK => ?_) (fun K hK => ?_)
  ·
   refine goes_ Try.func23 (by kernel_rfl) rfl #[X.val] (by rfl) rfl rfl vL ?_
   with_reducible refine (rclose_o (LS.oc HS m0_) (LS.bel HS) HF.out.1.1).mono ?_
   rintro e wk ⟨xv, rfl, hx, ho, hb⟩; refine ⟨_, rfl, ?_⟩
   have n_ := Aside0.mk (HS.out.call hb ho); clear HS; have HS := n_; clear n_ ho hb
   refine hK.out _ _ ⟨(HS.out.cell m0_).1, (HS.out.cell m0_).2.1, (HS.out.cell m0_).2.2, HS.out.cell m1_⟩ (fun hHeld => ?_)
   clear hK K
   refine nO_ 9 ?_
   refine three_ (i := 3) (j := 4) (k := 5) (Ni := some 11) (Nj := some 5) (Nk := some 6) (mB 8 15) (mB 8 23) (mB 8 39) rfl rfl rfl rfl rfl rfl (three_of HT_.out (by kernel_rfl)) (by decide) (by decide) (by decide) (fun K hK => ?_) (fun K hK => ?_) (fun K hK => ?_)
   ·
    refine goes_ Try.func23 (by kernel_rfl) rfl #[Y.val] (by rfl) rfl rfl vL ?_
    with_reducible refine (rclose_o (LS.oc HS m1_) (LS.bel HS) HF.out.2.1).mono ?_
    rintro e wk ⟨yv, rfl, hy, ho, hb⟩; refine ⟨_, rfl, ?_⟩
    have n_ := Aside0.mk (HS.out.call hb ho); clear HS; have HS := n_; clear n_ ho hb
    refine hK.out _ _ ⟨(HS.out.cell m0_).1, (HS.out.cell m0_).2.1, (HS.out.cell m0_).2.2, HS.out.cell m1_⟩ (fun hHeld => ?_)
    clear hK K
    refine nO_ 11 ?_
    refine two_ (i := 4) (j := 5) (Ni := some 5) (Nj := some 6) (mB 8 31) (mB 8 47) rfl rfl rfl rfl (two_of HT_.out (by kernel_rfl)) (by decide) (by decide) (fun K hK => ?_) (fun K hK => ?_)
    ·
     refine box_step ?hg (N := 5) ?hd (cs := #[.slice none 0 0, .slice none 0 0, .bool false]) (t := 25) ?hr ?_; (case hd => rfl); (case hg => rfl); (case hr => first | (go_simp; done) | (go_simp; rfl))
     intro gx hg wk hbox hb
     have n_ := Aside0.mk (HS.out.made hg hbox hb); clear HS; have HS := n_; clear n_ hg hbox hb
     refine hK.out _ _ ⟨(HS.out.cell m0_).1, (HS.out.cell m0_).2.1, (HS.out.cell m0_).2.2, HS.out.cell m1_⟩ (fun hHeld => ?_)
     clear hK K
     refine nO_ 5 ?_
     refine one_ (i := 5) (N := some 6) (mB 8 63) rfl rfl (one_of HT_.out (by kernel_rfl)) (by decide) (fun K hK => ?_)
     refine box_step ?hg (N := 6) ?hd (cs := #[.slice none 0 0, .slice none 0 0, .bool false]) (t := 25) ?hr ?_; (case hd => rfl); (case hg => rfl); (case hr => first | (go_simp; done) | (go_simp; rfl))
     intro gy hg wk hbox hb
     have n_ := Aside0.mk (HS.out.made hg hbox hb); clear HS; have HS := n_; clear n_ hg hbox hb
     refine hK.out _ _ ⟨(HS.out.cell m0_).1, (HS.out.cell m0_).2.1, (HS.out.cell m0_).2.2, HS.out.cell m1_⟩ (fun hHeld => ?_)
     clear hK K
     refine nO_ 6 ?_
     exact nP_ (hJ (xv, yv, gx, gy) _ ⟨hx, hy, HS.out.swap⟩)
    ·
     refine box_step ?hg (N := 6) ?hd (cs := #[.slice none 0 0, .slice none 0 0, .bool false]) (t := 25) ?hr ?_; (case hd => rfl); (case hg => rfl); (case hr => first | (go_simp; done) | (go_simp; rfl))
     intro gy hg wk hbox hb
     have n_ := Aside0.mk (HS.out.made hg hbox hb); clear HS; have HS := n_; clear n_ hg hbox hb
     refine hK.out _ _ ⟨(HS.out.cell m0_).1, (HS.out.cell m0_).2.1, (HS.out.cell m0_).2.2, HS.out.cell m1_⟩ (fun hHeld => ?_)
     clear hK K
     refine nO_ 6 ?_
     refine one_ (i := 4) (N := some 5) (mB 8 63) rfl rfl (one_of HT_.out (by kernel_rfl)) (by decide) (fun K hK => ?_)
     refine box_step ?hg (N := 5) ?hd (cs := #[.slice none 0 0, .slice none 0 0, .bool false]) (t := 25) ?hr ?_; (case hd => rfl); (case hg => rfl); (case hr => first | (go_simp; done) | (go_simp; rfl))
     intro gx hg wk hbox hb
     have n_ := Aside0.mk (HS.out.made hg hbox hb); clear HS; have HS := n_; clear n_ hg hbox hb
     refine hK.out _ _ ⟨(HS.out.cell m0_).1, (HS.out.cell m0_).2.1, (HS.out.cell m0_).2.2, HS.out.cell m1_⟩ (fun hHeld => ?_)
     clear hK K
     refine nO_ 5 ?_
     exact nP_ (hJ (xv, yv, gx, gy) _ ⟨hx, hy, HS.out⟩)
   ·
    refine box_step ?hg (N := 5) ?hd (cs := #[.slice none 0 0, .slice none 0 0, .bool false]) (t := 25) ?hr ?_; (case hd => rfl); (case hg => rfl); (case hr => first | (go_simp; done) | (go_simp; rfl))
    intro gx hg wk hbox hb
    have n_ := Aside0.mk (HS.out.made hg hbox hb); clear HS; have HS := n_; clear n_ hg hbox hb
    refine hK.out _ _ ⟨(HS.out.cell m0_).1, (HS.out.cell m0_).2.1, (HS.out.cell m0_).2.2, HS.out.cell m1_⟩ (fun hHeld => ?_)
    clear hK K
    refine nO_ 5 ?_
    refine two_ (i := 3) (j := 5) (Ni := some 11) (Nj := some 6) (mB 8 31) (mB 8 55) rfl rfl rfl rfl (two_of HT_.out (by kernel_rfl)) (by decide) (by decide) (fun K hK => ?_) (fun K hK => ?_)
    ·
     refine goes_ Try.func23 (by kernel_rfl) rfl #[Y.val] (by rfl) rfl rfl vL ?_
     with_reducible refine (rclose_o (LS.oc HS m1_) (LS.bel HS) HF.out.2.1).mono ?_
     rintro e wk ⟨yv, rfl, hy, ho, hb⟩; refine ⟨_, rfl, ?_⟩
     have n_ := Aside0.mk (HS.out.call hb ho); clear HS; have HS := n_; clear n_ ho hb
     refine hK.out _ _ ⟨(HS.out.cell m0_).1, (HS.out.cell m0_).2.1, (HS.out.cell m0_).2.2, HS.out.cell m1_⟩ (fun hHeld => ?_)
     clear hK K
     refine nO_ 11 ?_
     refine one_ (i := 5) (N := some 6) (mB 8 63) rfl rfl (one_of HT_.out (by kernel_rfl)) (by decide) (fun K hK => ?_)
     refine box_step ?hg (N := 6) ?hd (cs := #[.slice none 0 0, .slice none 0 0, .bool false]) (t := 25) ?hr ?_; (case hd => rfl); (case hg => rfl); (case hr => first | (go_simp; done) | (go_simp; rfl))
     intro gy hg wk hbox hb
     have n_ := Aside0.mk (HS.out.made hg hbox hb); clear HS; have HS := n_; clear n_ hg hbox hb
     refine hK.out _ _ ⟨(HS.out.cell m0_).1, (HS.out.cell m0_).2.1, (HS.out.cell m0_).2.2, HS.out.cell m1_⟩ (fun hHeld => ?_)
     clear hK K
     refine nO_ 6 ?_
     exact nP_ (hJ (xv, yv, gx, gy) _ ⟨hx, hy, HS.out.swap⟩)
    ·
     refine box_step ?hg (N := 6) ?hd (cs := #[.slice none 0 0, .slice none 0 0, .bool false]) (t := 25) ?hr ?_; (case hd => rfl); (case hg => rfl); (case hr => first | (go_simp; done) | (go_simp; rfl))
     intro gy hg wk hbox hb
     have n_ := Aside0.mk (HS.out.made hg hbox hb); clear HS; have HS := n_; clear n_ hg hbox hb
     refine hK.out _ _ ⟨(HS.out.cell m0_).1, (HS.out.cell m0_).2.1, (HS.out.cell m0_).2.2, HS.out.cell m1_⟩ (fun hHeld => ?_)
     clear hK K
     refine nO_ 6 ?_
     refine one_ (i := 3) (N := some 11) (mB 8 63) rfl rfl (one_of HT_.out (by kernel_rfl)) (by decide) (fun K hK => ?_)
     refine goes_ Try.func23 (by kernel_rfl) rfl #[Y.val] (by rfl) rfl rfl vL ?_
     with_reducible refine (rclose_o (LS.oc HS m1_) (LS.bel HS) HF.out.2.1).mono ?_
     rintro e wk ⟨yv, rfl, hy, ho, hb⟩; refine ⟨_, rfl, ?_⟩
     have n_ := Aside0.mk (HS.out.call hb ho); clear HS; have HS := n_; clear n_ ho hb
     refine hK.out _ _ ⟨(HS.out.cell m0_).1, (HS.out.cell m0_).2.1, (HS.out.cell m0_).2.2, HS.out.cell m1_⟩ (fun hHeld => ?_)
     clear hK K
     refine nO_ 11 ?_
     exact nP_ (hJ (xv, yv, gx, gy) _ ⟨hx, hy, HS.out.swap⟩)
   ·
    refine box_step ?hg (N := 6) ?hd (cs := #[.slice none 0 0, .slice none 0 0, .bool false]) (t := 25) ?hr ?_; (case hd => rfl); (case hg => rfl); (case hr => first | (go_simp; done) | (go_simp; rfl))
    intro gy hg wk hbox hb
    have n_ := Aside0.mk (HS.out.made hg hbox hb); clear HS; have HS := n_; clear n_ hg hbox hb
    refine hK.out _ _ ⟨(HS.out.cell m0_).1, (HS.out.cell m0_).2.1, (HS.out.cell m0_).2.2, HS.out.cell m1_⟩ (fun hHeld => ?_)
    clear hK K
    refine nO_ 6 ?_
    refine two_ (i := 3) (j := 4) (Ni := some 11) (Nj := some 5) (mB 8 47) (mB 8 55) rfl rfl rfl rfl (two_of HT_.out (by kernel_rfl)) (by decide) (by decide) (fun K hK => ?_) (fun K hK => ?_)
    ·
     refine goes_ Try.func23 (by kernel_rfl) rfl #[Y.val] (by rfl) rfl rfl vL ?_
     with_reducible refine (rclose_o (LS.oc HS m1_) (LS.bel HS) HF.out.2.1).mono ?_
     rintro e wk ⟨yv, rfl, hy, ho, hb⟩; refine ⟨_, rfl, ?_⟩
     have n_ := Aside0.mk (HS.out.call hb ho); clear HS; have HS := n_; clear n_ ho hb
     refine hK.out _ _ ⟨(HS.out.cell m0_).1, (HS.out.cell m0_).2.1, (HS.out.cell m0_).2.2, HS.out.cell m1_⟩ (fun hHeld => ?_)
     clear hK K
     refine nO_ 11 ?_
     refine one_ (i := 4) (N := some 5) (mB 8 63) rfl rfl (one_of HT_.out (by kernel_rfl)) (by decide) (fun K hK => ?_)
     refine box_step ?hg (N := 5) ?hd (cs := #[.slice none 0 0, .slice none 0 0, .bool false]) (t := 25) ?hr ?_; (case hd => rfl); (case hg => rfl); (case hr => first | (go_simp; done) | (go_simp; rfl))
     intro gx hg wk hbox hb
     have n_ := Aside0.mk (HS.out.made hg hbox hb); clear HS; have HS := n_; clear n_ hg hbox hb
     refine hK.out _ _ ⟨(HS.out.cell m0_).1, (HS.out.cell m0_).2.1, (HS.out.cell m0_).2.2, HS.out.cell m1_⟩ (fun hHeld => ?_)
     clear hK K
     refine nO_ 5 ?_
     exact nP_ (hJ (xv, yv, gx, gy) _ ⟨hx, hy, HS.out⟩)
    ·
     refine box_step ?hg (N := 5) ?hd (cs := #[.slice none 0 0, .slice none 0 0, .bool false]) (t := 25) ?hr ?_; (case hd => rfl); (case hg => rfl); (case hr => first | (go_simp; done) | (go_simp; rfl))
     intro gx hg wk hbox hb
     have n_ := Aside0.mk (HS.out.made hg hbox hb); clear HS; have HS := n_; clear n_ hg hbox hb
     refine hK.out _ _ ⟨(HS.out.cell m0_).1, (HS.out.cell m0_).2.1, (HS.out.cell m0_).2.2, HS.out.cell m1_⟩ (fun hHeld => ?_)
     clear hK K
     refine nO_ 5 ?_
     refine one_ (i := 3) (N := some 11) (mB 8 63) rfl rfl (one_of HT_.out (by kernel_rfl)) (by decide) (fun K hK => ?_)
     refine goes_ Try.func23 (by kernel_rfl) rfl #[Y.val] (by rfl) rfl rfl vL ?_
     with_reducible refine (rclose_o (LS.oc HS m1_) (LS.bel HS) HF.out.2.1).mono ?_
     rintro e wk ⟨yv, rfl, hy, ho, hb⟩; refine ⟨_, rfl, ?_⟩
     have n_ := Aside0.mk (HS.out.call hb ho); clear HS; have HS := n_; clear n_ ho hb
     refine hK.out _ _ ⟨(HS.out.cell m0_).1, (HS.out.cell m0_).2.1, (HS.out.cell m0_).2.2, HS.out.cell m1_⟩ (fun hHeld => ?_)
     clear hK K
     refine nO_ 11 ?_
     exact nP_ (hJ (xv, yv, gx, gy) _ ⟨hx, hy, HS.out⟩)
  ·
   refine box_step ?hg (N := 5) ?hd (cs := #[.slice none 0 0, .slice none 0 0, .bool false]) (t := 25) ?hr ?_; (case hd => rfl); (case hg => rfl); (case hr => first | (go_simp; done) | (go_simp; rfl))
   intro gx hg wk hbox hb
   have n_ := Aside0.mk (HS.out.made hg hbox hb); clear HS; have HS := n_; clear n_ hg hbox hb
   refine hK.out _ _ ⟨(HS.out.cell m0_).1, (HS.out.cell m0_).2.1, (HS.out.cell m0_).2.2, HS.out.cell m1_⟩ (fun hHeld => ?_)
   clear hK K
   refine nO_ 5 ?_
   refine two_ (i := 1) (j := 5) (Ni := some 9) (Nj := some 6) (mB 8 23) (mB 8 53) rfl rfl rfl rfl (two_of HT_.out (by kernel_rfl)) (by decide) (by decide) (fun K hK => ?_) (fun K hK => ?_)
   ·
    refine goes_ Try.func23 (by kernel_rfl) rfl #[X.val] (by rfl) rfl rfl vL ?_
    with_reducible refine (rclose_o (LS.oc HS m0_) (LS.bel HS) HF.out.1.1).mono ?_
    rintro e wk ⟨xv, rfl, hx, ho, hb⟩; refine ⟨_, rfl, ?_⟩
    have n_ := Aside0.mk (HS.out.call hb ho); clear HS; have HS := n_; clear n_ ho hb
    refine hK.out _ _ ⟨(HS.out.cell m0_).1, (HS.out.cell m0_).2.1, (HS.out.cell m0_).2.2, HS.out.cell m1_⟩ (fun hHeld => ?_)
    clear hK K
    refine nO_ 9 ?_
    refine two_ (i := 3) (j := 5) (Ni := some 11) (Nj := some 6) (mB 8 31) (mB 8 55) rfl rfl rfl rfl (two_of HT_.out (by kernel_rfl)) (by decide) (by decide) (fun K hK => ?_) (fun K hK => ?_)
    ·
     refine goes_ Try.func23 (by kernel_rfl) rfl #[Y.val] (by rfl) rfl rfl vL ?_
     with_reducible refine (rclose_o (LS.oc HS m1_) (LS.bel HS) HF.out.2.1).mono ?_
     rintro e wk ⟨yv, rfl, hy, ho, hb⟩; refine ⟨_, rfl, ?_⟩
     have n_ := Aside0.mk (HS.out.call hb ho); clear HS; have HS := n_; clear n_ ho hb
     refine hK.out _ _ ⟨(HS.out.cell m0_).1, (HS.out.cell m0_).2.1, (HS.out.cell m0_).2.2, HS.out.cell m1_⟩ (fun hHeld => ?_)
     clear hK K
     refine nO_ 11 ?_
     refine one_ (i := 5) (N := some 6) (mB 8 63) rfl rfl (one_of HT_.out (by kernel_rfl)) (by decide) (fun K hK => ?_)
     refine box_step ?hg (N := 6) ?hd (cs := #[.slice none 0 0, .slice none 0 0, .bool false]) (t := 25) ?hr ?_; (case hd => rfl); (case hg => rfl); (case hr => first | (go_simp; done) | (go_simp; rfl))
     intro gy hg wk hbox hb
     have n_ := Aside0.mk (HS.out.made hg hbox hb); clear HS; have HS := n_; clear n_ hg hbox hb
     refine hK.out _ _ ⟨(HS.out.cell m0_).1, (HS.out.cell m0_).2.1, (HS.out.cell m0_).2.2, HS.out.cell m1_⟩ (fun hHeld => ?_)
     clear hK K
     refine nO_ 6 ?_
     exact nP_ (hJ (xv, yv, gx, gy) _ ⟨hx, hy, HS.out.swap⟩)
    ·
     refine box_step ?hg (N := 6) ?hd (cs := #[.slice none 0 0, .slice none 0 0, .bool false]) (t := 25) ?hr ?_; (case hd => rfl); (case hg => rfl); (case hr => first | (go_simp; done) | (go_simp; rfl))
     intro gy hg wk hbox hb
     have n_ := Aside0.mk (HS.out.made hg hbox hb); clear HS; have HS := n_; clear n_ hg hbox hb
     refine hK.out _ _ ⟨(HS.out.cell m0_).1, (HS.out.cell m0_).2.1, (HS.out.cell m0_).2.2, HS.out.cell m1_⟩ (fun hHeld => ?_)
     clear hK K
     refine nO_ 6 ?_
     refine one_ (i := 3) (N := some 11) (mB 8 63) rfl rfl (one_of HT_.out (by kernel_rfl)) (by decide) (fun K hK => ?_)
     refine goes_ Try.func23 (by kernel_rfl) rfl #[Y.val] (by rfl) rfl rfl vL ?_
     with_reducible refine (rclose_o (LS.oc HS m1_) (LS.bel HS) HF.out.2.1).mono ?_
     rintro e wk ⟨yv, rfl, hy, ho, hb⟩; refine ⟨_, rfl, ?_⟩
     have n_ := Aside0.mk (HS.out.call hb ho); clear HS; have HS := n_; clear n_ ho hb
     refine hK.out _ _ ⟨(HS.out.cell m0_).1, (HS.out.cell m0_).2.1, (HS.out.cell m0_).2.2, HS.out.cell m1_⟩ (fun hHeld => ?_)
     clear hK K
     refine nO_ 11 ?_
     exact nP_ (hJ (xv, yv, gx, gy) _ ⟨hx, hy, HS.out.swap⟩)
   ·
    refine box_step ?hg (N := 6) ?hd (cs := #[.slice none 0 0, .slice none 0 0, .bool false]) (t := 25) ?hr ?_; (case hd => rfl); (case hg => rfl); (case hr => first | (go_simp; done) | (go_simp; rfl))
    intro gy hg wk hbox hb
    have n_ := Aside0.mk (HS.out.made hg hbox hb); clear HS; have HS := n_; clear n_ hg hbox hb
    refine hK.out _ _ ⟨(HS.out.cell m0_).1, (HS.out.cell m0_).2.1, (HS.out.cell m0_).2.2, HS.out.cell m1_⟩ (fun hHeld => ?_)
    clear hK K
    refine nO_ 6 ?_
    refine one_ (i := 1) (N := some 9) (mB 8 55) rfl rfl (one_of HT_.out (by kernel_rfl)) (by decide) (fun K hK => ?_)
    refine goes_ Try.func23 (by kernel_rfl) rfl #[X.val] (by rfl) rfl rfl vL ?_
    with_reducible refine (rclose_o (LS.oc HS m0_) (LS.bel HS) HF.out.1.1).mono ?_
    rintro e wk ⟨xv, rfl, hx, ho, hb⟩; refine ⟨_, rfl, ?_⟩
    have n_ := Aside0.mk (HS.out.call hb ho); clear HS; have HS := n_; clear n_ ho hb
    refine hK.out _ _ ⟨(HS.out.cell m0_).1, (HS.out.cell m0_).2.1, (HS.out.cell m0_).2.2, HS.out.cell m1_⟩ (fun hHeld => ?_)
    clear hK K
    refine nO_ 9 ?_
    refine one_ (i := 3) (N := some 11) (mB 8 63) rfl rfl (one_of HT_.out (by kernel_rfl)) (by decide) (fun K hK => ?_)
    refine goes_ Try.func23 (by kernel_rfl) rfl #[Y.val] (by rfl) rfl rfl vL ?_
    with_reducible refine (rclose_o (LS.oc HS m1_) (LS.bel HS) HF.out.2.1).mono ?_
    rintro e wk ⟨yv, rfl, hy, ho, hb⟩; refine ⟨_, rfl, ?_⟩
    have n_ := Aside0.mk (HS.out.call hb ho); clear HS; have HS := n_; clear n_ ho hb
    refine hK.out _ _ ⟨(HS.out.cell m0_).1, (HS.out.cell m0_).2.1, (HS.out.cell m0_).2.2, HS.out.cell m1_⟩ (fun hHeld => ?_)
    clear hK K
    refine nO_ 11 ?_
    exact nP_ (hJ (xv, yv, gx, gy) _ ⟨hx, hy, HS.out.swap⟩)
  ·
   refine box_step ?hg (N := 6) ?hd (cs := #[.slice none 0 0, .slice none 0 0, .bool false]) (t := 25) ?hr ?_; (case hd => rfl); (case hg => rfl); (case hr => first | (go_simp; done) | (go_simp; rfl))
   intro gy hg wk hbox hb
   have n_ := Aside0.mk (HS.out.made hg hbox hb); clear HS; have HS := n_; clear n_ hg hbox hb
   refine hK.out _ _ ⟨(HS.out.cell m0_).1, (HS.out.cell m0_).2.1, (HS.out.cell m0_).2.2, HS.out.cell m1_⟩ (fun hHeld => ?_)
   clear hK K
   refine nO_ 6 ?_
   refine two_ (i := 1) (j := 4) (Ni := some 9) (Nj := some 5) (mB 8 39) (mB 8 53) rfl rfl rfl rfl (two_of HT_.out (by kernel_rfl)) (by decide) (by decide) (fun K hK => ?_) (fun K hK => ?_)
   ·
    refine goes_ Try.func23 (by kernel_rfl) rfl #[X.val] (by rfl) rfl rfl vL ?_
    with_reducible refine (rclose_o (LS.oc HS m0_) (LS.bel HS) HF.out.1.1).mono ?_
    rintro e wk ⟨xv, rfl, hx, ho, hb⟩; refine ⟨_, rfl, ?_⟩
    have n_ := Aside0.mk (HS.out.call hb ho); clear HS; have HS := n_; clear n_ ho hb
    refine hK.out _ _ ⟨(HS.out.cell m0_).1, (HS.out.cell m0_).2.1, (HS.out.cell m0_).2.2, HS.out.cell m1_⟩ (fun hHeld => ?_)
    clear hK K
    refine nO_ 9 ?_
    refine two_ (i := 3) (j := 4) (Ni := some 11) (Nj := some 5) (mB 8 47) (mB 8 55) rfl rfl rfl rfl (two_of HT_.out (by kernel_rfl)) (by decide) (by decide) (fun K hK => ?_) (fun K hK => ?_)
    ·
     refine goes_ Try.func23 (by kernel_rfl) rfl #[Y.val] (by rfl) rfl rfl vL ?_
     with_reducible refine (rclose_o (LS.oc HS m1_) (LS.bel HS) HF.out.2.1).mono ?_
     rintro e wk ⟨yv, rfl, hy, ho, hb⟩; refine ⟨_, rfl, ?_⟩
     have n_ := Aside0.mk (HS.out.call hb ho); clear HS; have HS := n_; clear n_ ho hb
     refine hK.out _ _ ⟨(HS.out.cell m0_).1, (HS.out.cell m0_).2.1, (HS.out.cell m0_).2.2, HS.out.cell m1_⟩ (fun hHeld => ?_)
     clear hK K
     refine nO_ 11 ?_
     refine one_ (i := 4) (N := some 5) (mB 8 63) rfl rfl (one_of HT_.out (by kernel_rfl)) (by decide) (fun K hK => ?_)
     refine box_step ?hg (N := 5) ?hd (cs := #[.slice none 0 0, .slice none 0 0, .bool false]) (t := 25) ?hr ?_; (case hd => rfl); (case hg => rfl); (case hr => first | (go_simp; done) | (go_simp; rfl))
     intro gx hg wk hbox hb
     have n_ := Aside0.mk (HS.out.made hg hbox hb); clear HS; have HS := n_; clear n_ hg hbox hb
     refine hK.out _ _ ⟨(HS.out.cell m0_).1, (HS.out.cell m0_).2.1, (HS.out.cell m0_).2.2, HS.out.cell m1_⟩ (fun hHeld => ?_)
     clear hK K
     refine nO_ 5 ?_
     exact nP_ (hJ (xv, yv, gx, gy) _ ⟨hx, hy, HS.out⟩)
    ·
     refine box_step ?hg (N := 5) ?hd (cs := #[.slice none 0 0, .slice none 0 0, .bool false]) (t := 25) ?hr ?_; (case hd => rfl); (case hg => rfl); (case hr => first | (go_simp; done) | (go_simp; rfl))
     intro gx hg wk hbox hb
     have n_ := Aside0.mk (HS.out.made hg hbox hb); clear HS; have HS := n_; clear n_ hg hbox hb
     refine hK.out _ _ ⟨(HS.out.cell m0_).1, (HS.out.cell m0_).2.1, (HS.out.cell m0_).2.2, HS.out.cell m1_⟩ (fun hHeld => ?_)
     clear hK K
     refine nO_ 5 ?_
     refine one_ (i := 3) (N := some 11) (mB 8 63) rfl rfl (one_of HT_.out (by kernel_rfl)) (by decide) (fun K hK => ?_)
     refine goes_ Try.func23 (by kernel_rfl) rfl #[Y.val] (by rfl) rfl rfl vL ?_
     with_reducible refine (rclose_o (LS.oc HS m1_) (LS.bel HS) HF.out.2.1).mono ?_
     rintro e wk ⟨yv, rfl, hy, ho, hb⟩; refine ⟨_, rfl, ?_⟩
     have n_ := Aside0.mk (HS.out.call hb ho); clear HS; have HS := n_; clear n_ ho hb
     refine hK.out _ _ ⟨(HS.out.cell m0_).1, (HS.out.cell m0_).2.1, (HS.out.cell m0_).2.2, HS.out.cell m1_⟩ (fun hHeld => ?_)
     clear hK K
     refine nO_ 11 ?_
     exact nP_ (hJ (xv, yv, gx, gy) _ ⟨hx, hy, HS.out⟩)
   ·
    refine box_step ?hg (N := 5) ?hd (cs := #[.slice none 0 0, .slice none 0 0, .bool false]) (t := 25) ?hr ?_; (case hd => rfl); (case hg => rfl); (case hr => first | (go_simp; done) | (go_simp; rfl))
    intro gx hg wk hbox hb
    have n_ := Aside0.mk (HS.out.made hg hbox hb); clear HS; have HS := n_; clear n_ hg hbox hb
    refine hK.out _ _ ⟨(HS.out.cell m0_).1, (HS.out.cell m0_).2.1, (HS.out.cell m0_).2.2, HS.out.cell m1_⟩ (fun hHeld => ?_)
    clear hK K
    refine nO_ 5 ?_
    refine one_ (i := 1) (N := some 9) (mB 8 55) rfl rfl (one_of HT_.out (by kernel_rfl)) (by decide) (fun K hK => ?_)
    refine goes_ Try.func23 (by kernel_rfl) rfl #[X.val] (by rfl) rfl rfl vL ?_
    with_reducible refine (rclose_o (LS.oc HS m0_) (LS.bel HS) HF.out.1.1).mono ?_
    rintro e wk ⟨xv, rfl, hx, ho, hb⟩; refine ⟨_, rfl, ?_⟩
    have n_ := Aside0.mk (HS.out.call hb ho); clear HS; have HS := n_; clear n_ ho hb
    refine hK.out _ _ ⟨(HS.out.cell m0_).1, (HS.out.cell m0_).2.1, (HS.out.cell m0_).2.2, HS.out.cell m1_⟩ (fun hHeld => ?_)
    clear hK K
    refine nO_ 9 ?_
    refine one_ (i := 3) (N := some 11) (mB 8 63) rfl rfl (one_of HT_.out (by kernel_rfl)) (by decide) (fun K hK => ?_)
    refine goes_ Try.func23 (by kernel_rfl) rfl #[Y.val] (by rfl) rfl rfl vL ?_
    with_reducible refine (rclose_o (LS.oc HS m1_) (LS.bel HS) HF.out.2.1).mono ?_
    rintro e wk ⟨yv, rfl, hy, ho, hb⟩; refine ⟨_, rfl, ?_⟩
    have n_ := Aside0.mk (HS.out.call hb ho); clear HS; have HS := n_; clear n_ ho hb
    refine hK.out _ _ ⟨(HS.out.cell m0_).1, (HS.out.cell m0_).2.1, (HS.out.cell m0_).2.2, HS.out.cell m1_⟩ (fun hHeld => ?_)
    clear hK K
    refine nO_ 11 ?_
    exact nP_ (hJ (xv, yv, gx, gy) _ ⟨hx, hy, HS.out⟩)
 rintro ⟨xv, yv, gx, gy⟩ W4 ⟨hx, hy, HS4⟩
 clear HS hHeld
 have HS := Aside0.mk HS4
 clear HS4
 dsimp only at HS hx hy
 obtain ⟨⟨p0, p1, p2, p3, p4, p5⟩, ⟨q0, q1, q2, q3, q4, q5⟩, kne, kne'⟩ := HS.out.two_new
 refine nS_ ?_
 refine last_ (i := 6) (N := none) (mB 8 127) rfl rfl (one_of HT_.out (by kernel_rfl)) (by decide) (fun K hK => ?_)
 refine skip_ (w1 := ?_) (by rfl) rfl ?_ ?_
 rotate_left
 ·
  go_simp
  rfl
 refine hK.out _ _ ?_
 clear hK K
 refine last_ (i := 7) (N := none) (mB 8 255) rfl rfl (one_of HT_.out (by kernel_rfl)) (by decide) (fun K hK => ?_)
 refine skip_ (w1 := ?_) (by rfl) rfl ?_ ?_
 rotate_left
 ·
  go_simp
  rfl
 refine hK.out _ _ ?_
 clear hK K
 refine done_ (done_of HT_.out (by kernel_rfl)) ?_
 clear p0 p1 p2 p3 p4 p5 q0 q1 q2 q3 q4 q5 kne kne' HT_ HW_
 unfold OnlyN
 have n_ := Aside0.mk HS.out.put_two; clear HS; have HS := n_; clear n_
 generalize hW5 : ((((((W4.setCell ⟨gx, 0, none⟩ (.slice xv.P xv.v.length xv.p)).setCell ⟨gx, 1, none⟩ (.slice xv.Q xv.m.length xv.q)).setCell ⟨gx, 2, none⟩ (.bool xv.e)).setCell ⟨gy, 0, none⟩ (.slice yv.P yv.v.length yv.p)).setCell ⟨gy, 1, none⟩ (.slice yv.Q yv.m.length yv.q)).setCell ⟨gy, 2, none⟩ (.bool yv.e)) = W5 at HS ⊢; clear hW5
 obtain ⟨xP, xp, xQ, xq, xV, xM, xE⟩ := xv
 obtain ⟨yP, yp, yQ, yq, yV, yM, yE⟩ := yv
 have gx1 := hx
 have gy1 := hy
 clear hx hy
 have hans := HAN.out
 have HC : Aside0 ((xE = true ∨ yE = true → ans = xE) ∧ (xE = false → yE = false → xM.length = yM.length ∧ (xM.length < 4611686018427387904) ∧ (ans = true ↔ ∀ k : Nat, k < xM.length → rd xM (k : Int) ≤ rd yM (k : Int)))) := ⟨by
  obtain ⟨fx, e1⟩ := HF.out.1
  obtain ⟨fy, e2⟩ := HF.out.2
  rw [e1] at fx gx1
  rw [e2] at fy gy1
  rw [← hans]
  unfold leqF
  obtain ⟨A, a⟩ := mean_ex fx
  obtain ⟨B, b⟩ := mean_ex fy
  cases a with
  | none q _ =>
   rw [q] at gx1
   rw [q]
   obtain ⟨_, rfl, rfl⟩ := Prod.mk.inj gx1 |>.imp id Prod.mk.inj
   exact ⟨fun _ => if_pos (.inl rfl), fun h => by cases h⟩
  | some q _ _ s1 =>
   rw [q] at gx1
   obtain ⟨_, rfl, rfl⟩ := Prod.mk.inj gx1 |>.imp id Prod.mk.inj
   cases b with
   | none q' _ =>
    rw [q'] at gy1
    obtain ⟨_, rfl, rfl⟩ := Prod.mk.inj gy1 |>.imp id Prod.mk.inj
    rw [q, q']
    exact ⟨fun _ => if_pos (.inr rfl), fun _ h => by cases h⟩
   | some q' _ _ s2 =>
    rw [q'] at gy1
    obtain ⟨_, rfl, rfl⟩ := Prod.mk.inj gy1 |>.imp id Prod.mk.inj
    rw [q, q', if_neg (by simp)]
    have hl : (lst (2 * vars.length) (closeM (2 * vars.length) (lowM vars.length X.m))).length = 2 * vars.length * (2 * vars.length) := lst_length _ _
    refine ⟨fun h => (by rcases h with h | h <;> cases h), fun _ _ => ⟨by rw [lst_length, lst_length], by rw [hl]; have := fx.1.1; exact Nat.lt_of_le_of_lt (Nat.mul_le_mul (show 2 * vars.length ≤ 16 by omega) (show 2 * vars.length ≤ 16 by omega)) (by decide), ?_⟩⟩
    rw [hl]
    exact leqL_at fx.1 s1 s2⟩
 clear gx1 gy1 hans
 obtain ⟨⟨ky0, ky1, ky2⟩, fy0, fy1, fy2⟩ := LS.cells HS m0_; obtain ⟨⟨kx0, kx1, kx2⟩, fx0, fx1, fx2⟩ := LS.cells HS m1_; obtain ⟨⟨ka0, ka1, ka2⟩, fa0, fa1, fa2⟩ := LS.cells HS m2_; obtain ⟨⟨kb0, kb1, kb2⟩, fb0, fb1, fb2⟩ := LS.cells HS m3_
 dsimp only at kx0 kx1 kx2 ky0 ky1 ky2 ⊢
 cases xE with
 | true =>
  have ha := HC.out.1 (.inl rfl)
  subst ha
  go_wp2
  go_ret
  exact ⟨rfl, LS.bel HS⟩
 | false =>
  cases yE with
  | true =>
   have ha := HC.out.1 (.inr rfl)
   subst ha
   go_wp2
   go_ret
   exact ⟨rfl, LS.bel HS⟩
  | false =>
   have HL := Aside0.mk (HC.out.2 rfl rfl)
   clear HC
   go_wp2
   go_loopg [23] xM.length (fun kq v23 w' => ∃ (i : Int), v23 = .int .i64 i ∧ Aside0 (0 ≤ i ∧ i + (kq : Int) = (xM.length : Int)) ∧ Aside0 (∀ j : Nat, (j : Int) < i → rd xM (j : Int) ≤ rd yM (j : Int)) ∧ Aside0 (LS w [(gy, ⟨yP, yp, yQ, yq, yV, yM, false⟩), (gx, ⟨xP, xp, xQ, xq, xV, xM, false⟩), (ga, X), (gb, Y)] [⟨yP, yp, yQ, yq, yV, yM, false⟩, ⟨xP, xp, xQ, xq, xV, xM, false⟩] [] w'))
   case atStart => exact ⟨0, by rfl, ⟨by omega⟩, ⟨fun j h => absurd h (by omega)⟩, ⟨LS.to HS⟩⟩
   case round =>
    clear HS kx0 kx1 kx2 fx0 fx1 fx2 ky0 ky1 ky2 fy0 fy1 fy2 ka0 ka1 ka2 fa0 fa1 fa2 kb0 kb1 kb2 fb0 fb1 fb2
    obtain ⟨i, rfl, HI, HJ, HS⟩ := hrel
    obtain ⟨⟨ky0, ky1, ky2⟩, fy0, fy1, fy2⟩ := LS.cells HS m0_; obtain ⟨⟨kx0, kx1, kx2⟩, fx0, fx1, fx2⟩ := LS.cells HS m1_
    dsimp only at kx0 kx1 kx2 ky0 ky1 ky2
    cases gk with
    | succ k =>
     have q1 : (decide (i < (xM.length : Int))) = true := decide_eq_true (by have := HI.out; omega)
     have p2 : 0 ≤ i := HI.out.1
     have q2 : i < (xM.length : Int) := by have := HI.out; omega
     have q3 : i < (yM.length : Int) := by have := HI.out; have := HL.out.1; omega
     obtain ⟨ad, ea, hx0⟩ := Kd.at_int ((HS.out.box _ m1_).2.2.r1.reads HS.out.below) i p2 q2
     obtain ⟨bd, eb, hy0⟩ := Kd.at_int ((HS.out.box _ m0_).2.2.r1.reads HS.out.below) i p2 q3
     cases ea
     cases eb
     replace p2 := eq_true p2
     replace q2 := eq_true q2
     replace q3 := eq_true q3
     by_cases d1 : rd yM i < rd xM i
     ·
      have d1' := decide_eq_true d1
      have HD := Aside0.mk d1
      clear d1
      go_upto_region 7 with fail
      refine start_ (n := 11) (S := fun w' => w'.cell? ⟨gx, 1, none⟩ = some (.slice (some ad) xM.length xq) ∧ w'.cell? ⟨gy, 1, none⟩ = some (.slice (some bd) yM.length yq) ∧ w'.cell? (ad.add i.toNat) = some (.int .i64 (rd xM i)) ∧ w'.cell? (bd.add i.toNat) = some (.int .i64 (rd yM i))) (ds := []) (mB 11 0) (by kernel_rfl) rfl (by kernel_rfl) ⟨(HS.out.drew.cell m1_).2.1, (HS.out.drew.cell m0_).2.1, hx0, hy0⟩ (fun hHeld => ?_)
      refine with_tabW rleq_tab7 rleq_bits7 (fun HT_ HW_ => ?_)
      have n_ := Aside0.mk HS.out.drew; clear HS; have HS := n_; clear n_
      generalize hWd : World.drew _ = Wd at HS hHeld ⊢; clear hWd
      refine pV_ 0 26 (mB 11 1) HT_ ?_
      refine tV_ 1 27 (mB 11 3) HT_ HW_ hHeld ?_
      refine pV_ 2 28 (mB 11 7) HT_ ?_
      refine pV_ 3 29 (mB 11 15) HT_ ?_
      refine tV_ 4 30 (mB 11 31) HT_ HW_ hHeld ?_
      refine pV_ 5 31 (mB 11 63) HT_ ?_
      refine tV_ 6 32 (mB 11 127) HT_ HW_ hHeld ?_
      refine pV_ 7 33 (mB 11 255) HT_ ?_
      refine pV_ 8 34 (mB 11 511) HT_ ?_
      refine tV_ 9 35 (mB 11 1023) HT_ HW_ hHeld ?_
      refine pV_ 10 36 (mB 11 2047) HT_ ?_
      refine done_ (done_of HT_.out (by kernel_rfl)) ?_
      clear HT_ HW_ hHeld
      try go_wp2
      go_ret
      have hf : ans = false := by
       cases ans with
       | false => rfl
       | true =>
        have := (HL.out.2.2.1 rfl) i.toNat (by have := HI.out; omega)
        rw [Int.toNat_of_nonneg HI.out.1] at this
        have := HD.out; omega
      rw [hf]
      exact ⟨rfl, LS.bel HS⟩
     ·
      have d1' := decide_eq_false d1
      have HD := Aside0.mk d1
      clear d1
      go_upto_region 7 with fail
      refine start_ (n := 11) (S := fun w' => w'.cell? ⟨gx, 1, none⟩ = some (.slice (some ad) xM.length xq) ∧ w'.cell? ⟨gy, 1, none⟩ = some (.slice (some bd) yM.length yq) ∧ w'.cell? (ad.add i.toNat) = some (.int .i64 (rd xM i)) ∧ w'.cell? (bd.add i.toNat) = some (.int .i64 (rd yM i))) (ds := []) (mB 11 0) (by kernel_rfl) rfl (by kernel_rfl) ⟨(HS.out.drew.cell m1_).2.1, (HS.out.drew.cell m0_).2.1, hx0, hy0⟩ (fun hHeld => ?_)
      refine with_tabW rleq_tab7 rleq_bits7 (fun HT_ HW_ => ?_)
      have n_ := Aside0.mk HS.out.drew; clear HS; have HS := n_; clear n_
      generalize hWd : World.drew _ = Wd at HS hHeld ⊢; clear hWd
      refine pV_ 0 26 (mB 11 1) HT_ ?_
      refine tV_ 1 27 (mB 11 3) HT_ HW_ hHeld ?_
      refine pV_ 2 28 (mB 11 7) HT_ ?_
      refine pV_ 3 29 (mB 11 15) HT_ ?_
      refine tV_ 4 30 (mB 11 31) HT_ HW_ hHeld ?_
      refine pV_ 5 31 (mB 11 63) HT_ ?_
      refine tV_ 6 32 (mB 11 127) HT_ HW_ hHeld ?_
      refine pV_ 7 33 (mB 11 255) HT_ ?_
      refine pV_ 8 34 (mB 11 511) HT_ ?_
      refine tV_ 9 35 (mB 11 1023) HT_ HW_ hHeld ?_
      refine pV_ 10 36 (mB 11 2047) HT_ ?_
      refine done_ (done_of HT_.out (by kernel_rfl)) ?_
      clear HT_ HW_ hHeld
      try go_wp2
      go_roundg k
      case measure => exact Nat.lt_succ_self k
      case rel =>
       have hw : wrap64 (i + 1) = i + 1 := by have := HI.out; have := HL.out.2.1; unfold wrap64; omega
       exact ⟨wrap64 (i + 1), rfl, ⟨by rw [hw]; have := HI.out; omega⟩, ⟨by
        rw [hw]
        intro j hj
        have h1 := HD.out
        by_cases e : (j : Int) = i
        ·
         rw [e]; omega
        ·
         exact HJ.out j (by omega)⟩, ⟨LS.to HS⟩⟩
    | zero =>
     have q1 : (decide (i < (xM.length : Int))) = false := decide_eq_false (by have := HI.out; omega)
     have hf : ans = true := HL.out.2.2.2 (fun k hk => HJ.out k (by have := HI.out; omega))
     subst hf
     go_wp2
     go_ret
     exact ⟨rfl, LS.bel HS⟩
end Go.Proofs.Ytomgebmimgaojaa.QO
end
end
section
noncomputable section
namespace Go.Proofs.Ytomgebmimgaojaa.QO
open Go.RowKit Go.Shelf Go.Proofs.YtomgebmimgaojaaW.PrintWords Go.Proofs.YtomgebmimgaojaaW.PrintLast Go.Proofs.YtomgebmimgaojaaW.PrintMore
open Go.Proofs.Ytomgebmimgaojaa.Pure Octs Two
attribute [local go_sem] Oper.semAt_some
attribute [local go_sem ↓] Go.wp_at_zero Go.wp_at_succ
set_option linter.unusedVariables false
set_option linter.unusedSimpArgs false
def rjoin_T1 : Bool × List (List Nat × List Nat) := (true, [([], []), ([0], [0]), ([], []), ([2, 1], [2]), ([], []), ([], []), ([4, 1, 3, 0, 1, 4, 5], [1, 4]), ([5, 3, 6, 0, 1, 2, 3, 4, 5, 6], [3, 5])])
def rjoin_B1 : List Nat := [0, 1, 0, 7, 0, 0, 63, 127]
theorem rjoin_tab1 : rtab .any (opsOf Try.f29 1) = rjoin_T1 := by kernel_rfl
theorem rjoin_bits1 : waitsOk rjoin_T1.2 rjoin_B1 = true := by kernel_rfl
def rjoin_T9 : Bool × List (List Nat × List Nat) := (true, [([], []), ([0], [0]), ([], []), ([], []), ([3], [3]), ([], []), ([4, 5], [4, 5]), ([6], [6]), ([], []), ([8], [8]), ([], []), ([9, 10], [9, 10]), ([11], [11]), ([7, 12], [7, 12]), ([1, 2, 0, 1, 2, 3, 4, 5, 6, 7, 8, 9, 10, 11, 12, 13], [1, 2]), ([14, 13, 0, 1, 2, 3, 4, 5, 6, 7, 8, 9, 10, 11, 12, 13], [13, 14])])
def rjoin_B9 : List Nat := [0, 1, 0, 0, 8, 0, 56, 120, 0, 256, 0, 1792, 3840, 8184, 16383, 32767]
theorem rjoin_tab9 : rtab .any (opsOf Try.f29 9) = rjoin_T9 := by kernel_rfl
theorem rjoin_bits9 : waitsOk rjoin_T9.2 rjoin_B9 = true := by kernel_rfl
theorem rclose_own {w W : World} {x : OV} (hx : Oc w W x) (hb : Below w.heap.size w W) (fx : OFit x.v x.m x.e) :
 Calls Try.prog 23 #[x.val] W fun e W' => ∃ z : OV, e = .returned z.val ∧ z.o = closeF x.v x.m x.e ∧ Own W W' z ∧ Below W.heap.size W W' := by
 obtain ⟨K, hK⟩ := close_ev fx
 exact of_calls2 (gimbalref11_Close.calls K x.P x.p x.v x.Q x.q x.m x.e _ _ _ W (hx.r0.reads hb) hx.r0.le (hx.r1.reads hb) hx.r1.le (hK K (Nat.le_refl _)))
theorem lst_at {n k : Nat} {C : Mx} (hk : k < n * n) : rd (lst n C) (k : Int) = C (k / n) (k % n) := by
 have h0 : 0 < n := by
  by_cases e : n = 0
  ·
   rw [e] at hk; omega
  ·
   omega
 refine lst_rd (Nat.div_lt_of_lt_mul hk) (Nat.mod_lt _ h0) ?_
 congr 1
 rw [Nat.mul_comm]; exact (Nat.div_add_mod k _).symm
theorem join_list {vars : List Int} {A B : Mx} (hv : VarsOk vars) (ha : Snd (2 * vars.length) A) (hb : Snd (2 * vars.length) B) {xs : List Int} (hl : xs.length = (lst (2 * vars.length) A).length)
 (h : ∀ k : Nat, k < (lst (2 * vars.length) A).length → rd xs (k : Int) = mx (rd (lst (2 * vars.length) A) (k : Int)) (rd (lst (2 * vars.length) B) (k : Int))) : xs = mixL mx (2 * vars.length) (lst (2 * vars.length) A) (lst (2 * vars.length) B) := by
 have e : mixL mx (2 * vars.length) (lst (2 * vars.length) A) (lst (2 * vars.length) B) = lst (2 * vars.length) (fun i j => mx (A i j) (B i j)) := by
  rw [mixL_lst]
  unfold lst
  refine List.map_congr_left fun k hk => ?_
  have hk' : k < 2 * vars.length * (2 * vars.length) := by simpa using hk
  have h0 : 0 < 2 * vars.length := by
   by_cases e : 2 * vars.length = 0
   ·
    rw [e] at hk'; omega
   ·
    omega
  have h1 := lowM_lst hv ha (k / (2 * vars.length)) (k % (2 * vars.length)) (Nat.div_lt_of_lt_mul hk') (Nat.mod_lt _ h0)
  have h2 := lowM_lst hv hb (k / (2 * vars.length)) (k % (2 * vars.length)) (Nat.div_lt_of_lt_mul hk') (Nat.mod_lt _ h0)
  unfold lst at h1 h2
  dsimp only
  rw [h1, h2]
 rw [e]
 refine List.ext_getElem (by rw [hl, lst_length, lst_length]) fun k h1 h2 => ?_
 have hk : k < 2 * vars.length * (2 * vars.length) := by rw [hl, lst_length] at h1; exact h1
 have g := h k (by rw [lst_length]; exact hk)
 have r1 : rd xs (k : Int) = xs[k] := by unfold rd; simp [List.getD_eq_getElem?_getD, h1]
 have r2 : rd (lst (2 * vars.length) (fun i j => mx (A i j) (B i j))) (k : Int) = (lst (2 * vars.length) (fun i j => mx (A i j) (B i j)))[k] := by unfold rd; simp [List.getD_eq_getElem?_getD, h2]
 rw [← r1, ← r2, g, lst_at hk, lst_at hk, lst_at hk]
set_option maxHeartbeats 16000000 in
set_option maxRecDepth 100000 in
theorem rjoin_o {vars : List Int} {X Y : OV} {w0 w : World} (hX : Oc w0 w X) (hY : Oc w0 w Y) (h0 : Below w0.heap.size w0 w) (fx : OkV vars X) (fy : OkV vars Y) :
 Calls Try.prog 29 #[X.val, Y.val] w fun e W' => ∃ z : OV, e = .returned z.val ∧ z.o = joinF vars X.m X.e Y.m Y.e ∧ Own w W' z ∧ Below w.heap.size w W' := by
 have hu25 := Try.underlying25
 have HX : Aside0 (Oc w w X) := ⟨⟨⟨hX.r0.le, .inl (hX.r0.reads h0)⟩, ⟨hX.r1.le, .inl (hX.r1.reads h0)⟩⟩⟩
 have HY : Aside0 (Oc w w Y) := ⟨⟨⟨hY.r0.le, .inl (hY.r0.reads h0)⟩, ⟨hY.r1.le, .inl (hY.r1.reads h0)⟩⟩⟩
 have GF := Aside0.mk (And.intro fx fy)
 clear hX hY h0 fx fy
 obtain ⟨ans, hans⟩ : ∃ t, joinF vars X.m X.e Y.m Y.e = t := ⟨_, rfl⟩
 rw [hans]
 have HAN := Aside0.mk hans
 clear hans
 go_enter Try.func29, Try.ntmps29
 go_upto_region 1 with fail
 have HS : Aside0 (OS w [] (((w.alloc X.cells).alloc Y.cells).alloc (.cells #[.slice none 0 0, .slice none 0 0, .bool false] 25 (0, 0)))) := ⟨(OS.nil w).next (below_alloc (below_alloc (below_alloc (Below.refl _ _) _) _) _)⟩
 have HF : Aside0 (FX w [(w.heap.size + 1 + 1, .cells #[.slice none 0 0, .slice none 0 0, .bool false] 25 (0, 0)), (w.heap.size, X.cells), (w.heap.size + 1, Y.cells)] (((w.alloc X.cells).alloc Y.cells).alloc (.cells #[.slice none 0 0, .slice none 0 0, .bool false] 25 (0, 0)))) := ⟨by
  refine ⟨fun f hf => ?_, by simp; omega⟩
  cases hf with
  | head => exact ⟨by have h := blk_new ((w.alloc X.cells).alloc Y.cells) (.cells #[.slice none 0 0, .slice none 0 0, .bool false] 25 (0, 0)); simpa using h, by dsimp only; omega⟩
  | tail _ hf =>
   cases hf with
   | head => exact ⟨blk_alloc (blk_alloc (blk_new _ _) _) _, Nat.le_refl _⟩
   | tail _ hf =>
    cases hf with
    | head => exact ⟨blk_alloc (by have h := blk_new (w.alloc X.cells) Y.cells; simpa using h) _, Nat.le_succ _⟩
    | tail _ hf => cases hf⟩
 generalize hW2 : (((w.alloc X.cells).alloc Y.cells).alloc (.cells #[.slice none 0 0, .slice none 0 0, .bool false] 25 (0, 0))) = W2 at HS HF ⊢
 generalize hgr : w.heap.size + 1 + 1 = gr at HF ⊢
 generalize hgb : w.heap.size + 1 = gb at HF ⊢
 generalize hga : w.heap.size = ga at HF ⊢
 clear hW2 hgb hga hgr
 have n_ := Aside0.mk (HS.out.next (below_drew (Below.refl _ _))); have f_ := Aside0.mk (HF.out.next (below_drew (Below.refl _ _))); clear HS HF; have HS := n_; have HF := f_; clear n_ f_
 refine startN_ (n := 8) (S := fun w' => w'.cell? ⟨ga, 0, none⟩ = some (.slice X.P X.v.length X.p) ∧ w'.cell? ⟨ga, 1, none⟩ = some (.slice X.Q X.m.length X.q) ∧ w'.cell? ⟨ga, 2, none⟩ = some (.bool X.e) ∧ w'.cell? ⟨gb, 0, none⟩ = some (.slice Y.P Y.v.length Y.p) ∧ w'.cell? ⟨gb, 1, none⟩ = some (.slice Y.Q Y.m.length Y.q) ∧ w'.cell? ⟨gb, 2, none⟩ = some (.bool Y.e)) (ds := [6, 7]) (mB 8 0) (by kernel_rfl) rfl (by kernel_rfl) ⟨(FX.oct HF m1_).1.1, (FX.oct HF m1_).1.2.1, (FX.oct HF m1_).1.2.2, (FX.oct HF m2_).1⟩ (fun hHeld => ?_)
 refine with_tabW rjoin_tab1 rjoin_bits1 (fun HT_ HW_ => ?_)
 generalize hWd : World.drew _ = Wd at HS HF hHeld ⊢; clear hWd
 refine tV_ 0 8 (mB 8 1) HT_ HW_ hHeld ?_
 refine tV_ 2 10 (mB 8 5) HT_ HW_ hHeld ?_
 refine join_ (σ := OV × OV × Nat × Nat) 2 (mB 8 63) (fun s_ => [(9, .agg #[.slice s_.1.P s_.1.v.length s_.1.p, .slice s_.1.Q s_.1.m.length s_.1.q, .bool s_.1.e]), (11, .agg #[.slice s_.2.1.P s_.2.1.v.length s_.2.1.p, .slice s_.2.1.Q s_.2.1.m.length s_.2.1.q, .bool s_.2.1.e]), (5, .pointer (some ⟨s_.2.2.1, 0, none⟩)), (6, .pointer (some ⟨s_.2.2.2, 0, none⟩))]) (fun s_ w' => (s_.1.o = closeF X.v X.m X.e) ∧ (s_.2.1.o = closeF Y.v Y.m Y.e) ∧ OS w (s_.2.1 :: s_.1 :: []) w' ∧ FX w ((s_.2.2.1, .cells #[.slice none 0 0, .slice none 0 0, .bool false] 25 (0, 0)) :: (s_.2.2.2, .cells #[.slice none 0 0, .slice none 0 0, .bool false] 25 (0, 0)) :: [(gr, .cells #[.slice none 0 0, .slice none 0 0, .bool false] 25 (0, 0)), (ga, X.cells), (gb, Y.cells)]) w') ?_ ?_
 rotate_left
 ·
  intro hJ
  refine three_ (i := 1) (j := 4) (k := 5) (Ni := some 9) (Nj := some 5) (Nk := some 6) (mB 8 7) (mB 8 21) (mB 8 37) rfl rfl rfl rfl rfl rfl (three_of HT_.out (by kernel_rfl)) (by decide) (by decide) (by decide) (fun K hK => ?_) (fun K hK => ?_) (fun K hK => ?_)
  ·
   refine goes_ Try.func23 (by kernel_rfl) rfl #[X.val] (by rfl) rfl rfl vL ?_
   with_reducible refine (rclose_own (HX.out.next HS.out.below) HS.out.below GF.out.1.1).mono ?_
   rintro e wk ⟨xv, rfl, hx, ho, hb⟩; refine ⟨_, rfl, ?_⟩
   have n_ := Aside0.mk (HS.out.call hb ho); have f_ := Aside0.mk (HF.out.next hb); clear HS HF; have HS := n_; have HF := f_; clear n_ f_ ho hb
   refine hK.out _ _ ⟨(FX.oct HF m1_).1.1, (FX.oct HF m1_).1.2.1, (FX.oct HF m1_).1.2.2, (FX.oct HF m2_).1⟩ (fun hHeld => ?_)
   clear hK K
   refine nO_ 9 ?_
   refine three_ (i := 3) (j := 4) (k := 5) (Ni := some 11) (Nj := some 5) (Nk := some 6) (mB 8 15) (mB 8 23) (mB 8 39) rfl rfl rfl rfl rfl rfl (three_of HT_.out (by kernel_rfl)) (by decide) (by decide) (by decide) (fun K hK => ?_) (fun K hK => ?_) (fun K hK => ?_)
   ·
    refine goes_ Try.func23 (by kernel_rfl) rfl #[Y.val] (by rfl) rfl rfl vL ?_
    with_reducible refine (rclose_own (HY.out.next HS.out.below) HS.out.below GF.out.2.1).mono ?_
    rintro e wk ⟨yv, rfl, hy, ho, hb⟩; refine ⟨_, rfl, ?_⟩
    have n_ := Aside0.mk (HS.out.call hb ho); have f_ := Aside0.mk (HF.out.next hb); clear HS HF; have HS := n_; have HF := f_; clear n_ f_ ho hb
    refine hK.out _ _ ⟨(FX.oct HF m1_).1.1, (FX.oct HF m1_).1.2.1, (FX.oct HF m1_).1.2.2, (FX.oct HF m2_).1⟩ (fun hHeld => ?_)
    clear hK K
    refine nO_ 11 ?_
    refine two_ (i := 4) (j := 5) (Ni := some 5) (Nj := some 6) (mB 8 31) (mB 8 47) rfl rfl rfl rfl (two_of HT_.out (by kernel_rfl)) (by decide) (by decide) (fun K hK => ?_) (fun K hK => ?_)
    ·
     refine box_step ?hg (N := 5) ?hd (cs := #[.slice none 0 0, .slice none 0 0, .bool false]) (t := 25) ?hr ?_; (case hd => rfl); (case hg => rfl); (case hr => first | (go_simp; done) | (go_simp; rfl))
     intro gx hg wk hbox hb
     have f_ := Aside0.mk (HF.out.made HS.out.below.size hg hbox hb); have n_ := Aside0.mk (HS.out.next hb); clear HS HF; have HS := n_; have HF := f_; clear n_ f_ hg hbox hb
     refine hK.out _ _ ⟨(FX.oct HF m2_).1.1, (FX.oct HF m2_).1.2.1, (FX.oct HF m2_).1.2.2, (FX.oct HF m3_).1⟩ (fun hHeld => ?_)
     clear hK K
     refine nO_ 5 ?_
     refine one_ (i := 5) (N := some 6) (mB 8 63) rfl rfl (one_of HT_.out (by kernel_rfl)) (by decide) (fun K hK => ?_)
     refine box_step ?hg (N := 6) ?hd (cs := #[.slice none 0 0, .slice none 0 0, .bool false]) (t := 25) ?hr ?_; (case hd => rfl); (case hg => rfl); (case hr => first | (go_simp; done) | (go_simp; rfl))
     intro gy hg wk hbox hb
     have f_ := Aside0.mk (HF.out.made HS.out.below.size hg hbox hb); have n_ := Aside0.mk (HS.out.next hb); clear HS HF; have HS := n_; have HF := f_; clear n_ f_ hg hbox hb
     refine hK.out _ _ ⟨(FX.oct HF m3_).1.1, (FX.oct HF m3_).1.2.1, (FX.oct HF m3_).1.2.2, (FX.oct HF m4_).1⟩ (fun hHeld => ?_)
     clear hK K
     refine nO_ 6 ?_
     exact nP_ (hJ (xv, yv, gx, gy) _ ⟨hx, hy, HS.out, HF.out.swap⟩)
    ·
     refine box_step ?hg (N := 6) ?hd (cs := #[.slice none 0 0, .slice none 0 0, .bool false]) (t := 25) ?hr ?_; (case hd => rfl); (case hg => rfl); (case hr => first | (go_simp; done) | (go_simp; rfl))
     intro gy hg wk hbox hb
     have f_ := Aside0.mk (HF.out.made HS.out.below.size hg hbox hb); have n_ := Aside0.mk (HS.out.next hb); clear HS HF; have HS := n_; have HF := f_; clear n_ f_ hg hbox hb
     refine hK.out _ _ ⟨(FX.oct HF m2_).1.1, (FX.oct HF m2_).1.2.1, (FX.oct HF m2_).1.2.2, (FX.oct HF m3_).1⟩ (fun hHeld => ?_)
     clear hK K
     refine nO_ 6 ?_
     refine one_ (i := 4) (N := some 5) (mB 8 63) rfl rfl (one_of HT_.out (by kernel_rfl)) (by decide) (fun K hK => ?_)
     refine box_step ?hg (N := 5) ?hd (cs := #[.slice none 0 0, .slice none 0 0, .bool false]) (t := 25) ?hr ?_; (case hd => rfl); (case hg => rfl); (case hr => first | (go_simp; done) | (go_simp; rfl))
     intro gx hg wk hbox hb
     have f_ := Aside0.mk (HF.out.made HS.out.below.size hg hbox hb); have n_ := Aside0.mk (HS.out.next hb); clear HS HF; have HS := n_; have HF := f_; clear n_ f_ hg hbox hb
     refine hK.out _ _ ⟨(FX.oct HF m3_).1.1, (FX.oct HF m3_).1.2.1, (FX.oct HF m3_).1.2.2, (FX.oct HF m4_).1⟩ (fun hHeld => ?_)
     clear hK K
     refine nO_ 5 ?_
     exact nP_ (hJ (xv, yv, gx, gy) _ ⟨hx, hy, HS.out, HF.out⟩)
   ·
    refine box_step ?hg (N := 5) ?hd (cs := #[.slice none 0 0, .slice none 0 0, .bool false]) (t := 25) ?hr ?_; (case hd => rfl); (case hg => rfl); (case hr => first | (go_simp; done) | (go_simp; rfl))
    intro gx hg wk hbox hb
    have f_ := Aside0.mk (HF.out.made HS.out.below.size hg hbox hb); have n_ := Aside0.mk (HS.out.next hb); clear HS HF; have HS := n_; have HF := f_; clear n_ f_ hg hbox hb
    refine hK.out _ _ ⟨(FX.oct HF m2_).1.1, (FX.oct HF m2_).1.2.1, (FX.oct HF m2_).1.2.2, (FX.oct HF m3_).1⟩ (fun hHeld => ?_)
    clear hK K
    refine nO_ 5 ?_
    refine two_ (i := 3) (j := 5) (Ni := some 11) (Nj := some 6) (mB 8 31) (mB 8 55) rfl rfl rfl rfl (two_of HT_.out (by kernel_rfl)) (by decide) (by decide) (fun K hK => ?_) (fun K hK => ?_)
    ·
     refine goes_ Try.func23 (by kernel_rfl) rfl #[Y.val] (by rfl) rfl rfl vL ?_
     with_reducible refine (rclose_own (HY.out.next HS.out.below) HS.out.below GF.out.2.1).mono ?_
     rintro e wk ⟨yv, rfl, hy, ho, hb⟩; refine ⟨_, rfl, ?_⟩
     have n_ := Aside0.mk (HS.out.call hb ho); have f_ := Aside0.mk (HF.out.next hb); clear HS HF; have HS := n_; have HF := f_; clear n_ f_ ho hb
     refine hK.out _ _ ⟨(FX.oct HF m2_).1.1, (FX.oct HF m2_).1.2.1, (FX.oct HF m2_).1.2.2, (FX.oct HF m3_).1⟩ (fun hHeld => ?_)
     clear hK K
     refine nO_ 11 ?_
     refine one_ (i := 5) (N := some 6) (mB 8 63) rfl rfl (one_of HT_.out (by kernel_rfl)) (by decide) (fun K hK => ?_)
     refine box_step ?hg (N := 6) ?hd (cs := #[.slice none 0 0, .slice none 0 0, .bool false]) (t := 25) ?hr ?_; (case hd => rfl); (case hg => rfl); (case hr => first | (go_simp; done) | (go_simp; rfl))
     intro gy hg wk hbox hb
     have f_ := Aside0.mk (HF.out.made HS.out.below.size hg hbox hb); have n_ := Aside0.mk (HS.out.next hb); clear HS HF; have HS := n_; have HF := f_; clear n_ f_ hg hbox hb
     refine hK.out _ _ ⟨(FX.oct HF m3_).1.1, (FX.oct HF m3_).1.2.1, (FX.oct HF m3_).1.2.2, (FX.oct HF m4_).1⟩ (fun hHeld => ?_)
     clear hK K
     refine nO_ 6 ?_
     exact nP_ (hJ (xv, yv, gx, gy) _ ⟨hx, hy, HS.out, HF.out.swap⟩)
    ·
     refine box_step ?hg (N := 6) ?hd (cs := #[.slice none 0 0, .slice none 0 0, .bool false]) (t := 25) ?hr ?_; (case hd => rfl); (case hg => rfl); (case hr => first | (go_simp; done) | (go_simp; rfl))
     intro gy hg wk hbox hb
     have f_ := Aside0.mk (HF.out.made HS.out.below.size hg hbox hb); have n_ := Aside0.mk (HS.out.next hb); clear HS HF; have HS := n_; have HF := f_; clear n_ f_ hg hbox hb
     refine hK.out _ _ ⟨(FX.oct HF m3_).1.1, (FX.oct HF m3_).1.2.1, (FX.oct HF m3_).1.2.2, (FX.oct HF m4_).1⟩ (fun hHeld => ?_)
     clear hK K
     refine nO_ 6 ?_
     refine one_ (i := 3) (N := some 11) (mB 8 63) rfl rfl (one_of HT_.out (by kernel_rfl)) (by decide) (fun K hK => ?_)
     refine goes_ Try.func23 (by kernel_rfl) rfl #[Y.val] (by rfl) rfl rfl vL ?_
     with_reducible refine (rclose_own (HY.out.next HS.out.below) HS.out.below GF.out.2.1).mono ?_
     rintro e wk ⟨yv, rfl, hy, ho, hb⟩; refine ⟨_, rfl, ?_⟩
     have n_ := Aside0.mk (HS.out.call hb ho); have f_ := Aside0.mk (HF.out.next hb); clear HS HF; have HS := n_; have HF := f_; clear n_ f_ ho hb
     refine hK.out _ _ ⟨(FX.oct HF m3_).1.1, (FX.oct HF m3_).1.2.1, (FX.oct HF m3_).1.2.2, (FX.oct HF m4_).1⟩ (fun hHeld => ?_)
     clear hK K
     refine nO_ 11 ?_
     exact nP_ (hJ (xv, yv, gx, gy) _ ⟨hx, hy, HS.out, HF.out.swap⟩)
   ·
    refine box_step ?hg (N := 6) ?hd (cs := #[.slice none 0 0, .slice none 0 0, .bool false]) (t := 25) ?hr ?_; (case hd => rfl); (case hg => rfl); (case hr => first | (go_simp; done) | (go_simp; rfl))
    intro gy hg wk hbox hb
    have f_ := Aside0.mk (HF.out.made HS.out.below.size hg hbox hb); have n_ := Aside0.mk (HS.out.next hb); clear HS HF; have HS := n_; have HF := f_; clear n_ f_ hg hbox hb
    refine hK.out _ _ ⟨(FX.oct HF m2_).1.1, (FX.oct HF m2_).1.2.1, (FX.oct HF m2_).1.2.2, (FX.oct HF m3_).1⟩ (fun hHeld => ?_)
    clear hK K
    refine nO_ 6 ?_
    refine two_ (i := 3) (j := 4) (Ni := some 11) (Nj := some 5) (mB 8 47) (mB 8 55) rfl rfl rfl rfl (two_of HT_.out (by kernel_rfl)) (by decide) (by decide) (fun K hK => ?_) (fun K hK => ?_)
    ·
     refine goes_ Try.func23 (by kernel_rfl) rfl #[Y.val] (by rfl) rfl rfl vL ?_
     with_reducible refine (rclose_own (HY.out.next HS.out.below) HS.out.below GF.out.2.1).mono ?_
     rintro e wk ⟨yv, rfl, hy, ho, hb⟩; refine ⟨_, rfl, ?_⟩
     have n_ := Aside0.mk (HS.out.call hb ho); have f_ := Aside0.mk (HF.out.next hb); clear HS HF; have HS := n_; have HF := f_; clear n_ f_ ho hb
     refine hK.out _ _ ⟨(FX.oct HF m2_).1.1, (FX.oct HF m2_).1.2.1, (FX.oct HF m2_).1.2.2, (FX.oct HF m3_).1⟩ (fun hHeld => ?_)
     clear hK K
     refine nO_ 11 ?_
     refine one_ (i := 4) (N := some 5) (mB 8 63) rfl rfl (one_of HT_.out (by kernel_rfl)) (by decide) (fun K hK => ?_)
     refine box_step ?hg (N := 5) ?hd (cs := #[.slice none 0 0, .slice none 0 0, .bool false]) (t := 25) ?hr ?_; (case hd => rfl); (case hg => rfl); (case hr => first | (go_simp; done) | (go_simp; rfl))
     intro gx hg wk hbox hb
     have f_ := Aside0.mk (HF.out.made HS.out.below.size hg hbox hb); have n_ := Aside0.mk (HS.out.next hb); clear HS HF; have HS := n_; have HF := f_; clear n_ f_ hg hbox hb
     refine hK.out _ _ ⟨(FX.oct HF m3_).1.1, (FX.oct HF m3_).1.2.1, (FX.oct HF m3_).1.2.2, (FX.oct HF m4_).1⟩ (fun hHeld => ?_)
     clear hK K
     refine nO_ 5 ?_
     exact nP_ (hJ (xv, yv, gx, gy) _ ⟨hx, hy, HS.out, HF.out⟩)
    ·
     refine box_step ?hg (N := 5) ?hd (cs := #[.slice none 0 0, .slice none 0 0, .bool false]) (t := 25) ?hr ?_; (case hd => rfl); (case hg => rfl); (case hr => first | (go_simp; done) | (go_simp; rfl))
     intro gx hg wk hbox hb
     have f_ := Aside0.mk (HF.out.made HS.out.below.size hg hbox hb); have n_ := Aside0.mk (HS.out.next hb); clear HS HF; have HS := n_; have HF := f_; clear n_ f_ hg hbox hb
     refine hK.out _ _ ⟨(FX.oct HF m3_).1.1, (FX.oct HF m3_).1.2.1, (FX.oct HF m3_).1.2.2, (FX.oct HF m4_).1⟩ (fun hHeld => ?_)
     clear hK K
     refine nO_ 5 ?_
     refine one_ (i := 3) (N := some 11) (mB 8 63) rfl rfl (one_of HT_.out (by kernel_rfl)) (by decide) (fun K hK => ?_)
     refine goes_ Try.func23 (by kernel_rfl) rfl #[Y.val] (by rfl) rfl rfl vL ?_
     with_reducible refine (rclose_own (HY.out.next HS.out.below) HS.out.below GF.out.2.1).mono ?_
     rintro e wk ⟨yv, rfl, hy, ho, hb⟩; refine ⟨_, rfl, ?_⟩
     have n_ := Aside0.mk (HS.out.call hb ho); have f_ := Aside0.mk (HF.out.next hb); clear HS HF; have HS := n_; have HF := f_; clear n_ f_ ho hb
     refine hK.out _ _ ⟨(FX.oct HF m3_).1.1, (FX.oct HF m3_).1.2.1, (FX.oct HF m3_).1.2.2, (FX.oct HF m4_).1⟩ (fun hHeld => ?_)
     clear hK K
     refine nO_ 11 ?_
     exact nP_ (hJ (xv, yv, gx, gy) _ ⟨hx, hy, HS.out, HF.out⟩)
  ·
   refine box_step ?hg (N := 5) ?hd (cs := #[.slice none 0 0, .slice none 0 0, .bool false]) (t := 25) ?hr ?_; (case hd => rfl); (case hg => rfl); (case hr => first | (go_simp; done) | (go_simp; rfl))
   intro gx hg wk hbox hb
   have f_ := Aside0.mk (HF.out.made HS.out.below.size hg hbox hb); have n_ := Aside0.mk (HS.out.next hb); clear HS HF; have HS := n_; have HF := f_; clear n_ f_ hg hbox hb
   refine hK.out _ _ ⟨(FX.oct HF m2_).1.1, (FX.oct HF m2_).1.2.1, (FX.oct HF m2_).1.2.2, (FX.oct HF m3_).1⟩ (fun hHeld => ?_)
   clear hK K
   refine nO_ 5 ?_
   refine two_ (i := 1) (j := 5) (Ni := some 9) (Nj := some 6) (mB 8 23) (mB 8 53) rfl rfl rfl rfl (two_of HT_.out (by kernel_rfl)) (by decide) (by decide) (fun K hK => ?_) (fun K hK => ?_)
   ·
    refine goes_ Try.func23 (by kernel_rfl) rfl #[X.val] (by rfl) rfl rfl vL ?_
    with_reducible refine (rclose_own (HX.out.next HS.out.below) HS.out.below GF.out.1.1).mono ?_
    rintro e wk ⟨xv, rfl, hx, ho, hb⟩; refine ⟨_, rfl, ?_⟩
    have n_ := Aside0.mk (HS.out.call hb ho); have f_ := Aside0.mk (HF.out.next hb); clear HS HF; have HS := n_; have HF := f_; clear n_ f_ ho hb
    refine hK.out _ _ ⟨(FX.oct HF m2_).1.1, (FX.oct HF m2_).1.2.1, (FX.oct HF m2_).1.2.2, (FX.oct HF m3_).1⟩ (fun hHeld => ?_)
    clear hK K
    refine nO_ 9 ?_
    refine two_ (i := 3) (j := 5) (Ni := some 11) (Nj := some 6) (mB 8 31) (mB 8 55) rfl rfl rfl rfl (two_of HT_.out (by kernel_rfl)) (by decide) (by decide) (fun K hK => ?_) (fun K hK => ?_)
    ·
     refine goes_ Try.func23 (by kernel_rfl) rfl #[Y.val] (by rfl) rfl rfl vL ?_
     with_reducible refine (rclose_own (HY.out.next HS.out.below) HS.out.below GF.out.2.1).mono ?_
     rintro e wk ⟨yv, rfl, hy, ho, hb⟩; refine ⟨_, rfl, ?_⟩
     have n_ := Aside0.mk (HS.out.call hb ho); have f_ := Aside0.mk (HF.out.next hb); clear HS HF; have HS := n_; have HF := f_; clear n_ f_ ho hb
     refine hK.out _ _ ⟨(FX.oct HF m2_).1.1, (FX.oct HF m2_).1.2.1, (FX.oct HF m2_).1.2.2, (FX.oct HF m3_).1⟩ (fun hHeld => ?_)
     clear hK K
     refine nO_ 11 ?_
     refine one_ (i := 5) (N := some 6) (mB 8 63) rfl rfl (one_of HT_.out (by kernel_rfl)) (by decide) (fun K hK => ?_)
     refine box_step ?hg (N := 6) ?hd (cs := #[.slice none 0 0, .slice none 0 0, .bool false]) (t := 25) ?hr ?_; (case hd => rfl); (case hg => rfl); (case hr => first | (go_simp; done) | (go_simp; rfl))
     intro gy hg wk hbox hb
     have f_ := Aside0.mk (HF.out.made HS.out.below.size hg hbox hb); have n_ := Aside0.mk (HS.out.next hb); clear HS HF; have HS := n_; have HF := f_; clear n_ f_ hg hbox hb
     refine hK.out _ _ ⟨(FX.oct HF m3_).1.1, (FX.oct HF m3_).1.2.1, (FX.oct HF m3_).1.2.2, (FX.oct HF m4_).1⟩ (fun hHeld => ?_)
     clear hK K
     refine nO_ 6 ?_
     exact nP_ (hJ (xv, yv, gx, gy) _ ⟨hx, hy, HS.out, HF.out.swap⟩)
    ·
     refine box_step ?hg (N := 6) ?hd (cs := #[.slice none 0 0, .slice none 0 0, .bool false]) (t := 25) ?hr ?_; (case hd => rfl); (case hg => rfl); (case hr => first | (go_simp; done) | (go_simp; rfl))
     intro gy hg wk hbox hb
     have f_ := Aside0.mk (HF.out.made HS.out.below.size hg hbox hb); have n_ := Aside0.mk (HS.out.next hb); clear HS HF; have HS := n_; have HF := f_; clear n_ f_ hg hbox hb
     refine hK.out _ _ ⟨(FX.oct HF m3_).1.1, (FX.oct HF m3_).1.2.1, (FX.oct HF m3_).1.2.2, (FX.oct HF m4_).1⟩ (fun hHeld => ?_)
     clear hK K
     refine nO_ 6 ?_
     refine one_ (i := 3) (N := some 11) (mB 8 63) rfl rfl (one_of HT_.out (by kernel_rfl)) (by decide) (fun K hK => ?_)
     refine goes_ Try.func23 (by kernel_rfl) rfl #[Y.val] (by rfl) rfl rfl vL ?_
     with_reducible refine (rclose_own (HY.out.next HS.out.below) HS.out.below GF.out.2.1).mono ?_
     rintro e wk ⟨yv, rfl, hy, ho, hb⟩; refine ⟨_, rfl, ?_⟩
     have n_ := Aside0.mk (HS.out.call hb ho); have f_ := Aside0.mk (HF.out.next hb); clear HS HF; have HS := n_; have HF := f_; clear n_ f_ ho hb
     refine hK.out _ _ ⟨(FX.oct HF m3_).1.1, (FX.oct HF m3_).1.2.1, (FX.oct HF m3_).1.2.2, (FX.oct HF m4_).1⟩ (fun hHeld => ?_)
     clear hK K
     refine nO_ 11 ?_
     exact nP_ (hJ (xv, yv, gx, gy) _ ⟨hx, hy, HS.out, HF.out.swap⟩)
   ·
    refine box_step ?hg (N := 6) ?hd (cs := #[.slice none 0 0, .slice none 0 0, .bool false]) (t := 25) ?hr ?_; (case hd => rfl); (case hg => rfl); (case hr => first | (go_simp; done) | (go_simp; rfl))
    intro gy hg wk hbox hb
    have f_ := Aside0.mk (HF.out.made HS.out.below.size hg hbox hb); have n_ := Aside0.mk (HS.out.next hb); clear HS HF; have HS := n_; have HF := f_; clear n_ f_ hg hbox hb
    refine hK.out _ _ ⟨(FX.oct HF m3_).1.1, (FX.oct HF m3_).1.2.1, (FX.oct HF m3_).1.2.2, (FX.oct HF m4_).1⟩ (fun hHeld => ?_)
    clear hK K
    refine nO_ 6 ?_
    refine one_ (i := 1) (N := some 9) (mB 8 55) rfl rfl (one_of HT_.out (by kernel_rfl)) (by decide) (fun K hK => ?_)
    refine goes_ Try.func23 (by kernel_rfl) rfl #[X.val] (by rfl) rfl rfl vL ?_
    with_reducible refine (rclose_own (HX.out.next HS.out.below) HS.out.below GF.out.1.1).mono ?_
    rintro e wk ⟨xv, rfl, hx, ho, hb⟩; refine ⟨_, rfl, ?_⟩
    have n_ := Aside0.mk (HS.out.call hb ho); have f_ := Aside0.mk (HF.out.next hb); clear HS HF; have HS := n_; have HF := f_; clear n_ f_ ho hb
    refine hK.out _ _ ⟨(FX.oct HF m3_).1.1, (FX.oct HF m3_).1.2.1, (FX.oct HF m3_).1.2.2, (FX.oct HF m4_).1⟩ (fun hHeld => ?_)
    clear hK K
    refine nO_ 9 ?_
    refine one_ (i := 3) (N := some 11) (mB 8 63) rfl rfl (one_of HT_.out (by kernel_rfl)) (by decide) (fun K hK => ?_)
    refine goes_ Try.func23 (by kernel_rfl) rfl #[Y.val] (by rfl) rfl rfl vL ?_
    with_reducible refine (rclose_own (HY.out.next HS.out.below) HS.out.below GF.out.2.1).mono ?_
    rintro e wk ⟨yv, rfl, hy, ho, hb⟩; refine ⟨_, rfl, ?_⟩
    have n_ := Aside0.mk (HS.out.call hb ho); have f_ := Aside0.mk (HF.out.next hb); clear HS HF; have HS := n_; have HF := f_; clear n_ f_ ho hb
    refine hK.out _ _ ⟨(FX.oct HF m3_).1.1, (FX.oct HF m3_).1.2.1, (FX.oct HF m3_).1.2.2, (FX.oct HF m4_).1⟩ (fun hHeld => ?_)
    clear hK K
    refine nO_ 11 ?_
    exact nP_ (hJ (xv, yv, gx, gy) _ ⟨hx, hy, HS.out, HF.out.swap⟩)
  ·
   refine box_step ?hg (N := 6) ?hd (cs := #[.slice none 0 0, .slice none 0 0, .bool false]) (t := 25) ?hr ?_; (case hd => rfl); (case hg => rfl); (case hr => first | (go_simp; done) | (go_simp; rfl))
   intro gy hg wk hbox hb
   have f_ := Aside0.mk (HF.out.made HS.out.below.size hg hbox hb); have n_ := Aside0.mk (HS.out.next hb); clear HS HF; have HS := n_; have HF := f_; clear n_ f_ hg hbox hb
   refine hK.out _ _ ⟨(FX.oct HF m2_).1.1, (FX.oct HF m2_).1.2.1, (FX.oct HF m2_).1.2.2, (FX.oct HF m3_).1⟩ (fun hHeld => ?_)
   clear hK K
   refine nO_ 6 ?_
   refine two_ (i := 1) (j := 4) (Ni := some 9) (Nj := some 5) (mB 8 39) (mB 8 53) rfl rfl rfl rfl (two_of HT_.out (by kernel_rfl)) (by decide) (by decide) (fun K hK => ?_) (fun K hK => ?_)
   ·
    refine goes_ Try.func23 (by kernel_rfl) rfl #[X.val] (by rfl) rfl rfl vL ?_
    with_reducible refine (rclose_own (HX.out.next HS.out.below) HS.out.below GF.out.1.1).mono ?_
    rintro e wk ⟨xv, rfl, hx, ho, hb⟩; refine ⟨_, rfl, ?_⟩
    have n_ := Aside0.mk (HS.out.call hb ho); have f_ := Aside0.mk (HF.out.next hb); clear HS HF; have HS := n_; have HF := f_; clear n_ f_ ho hb
    refine hK.out _ _ ⟨(FX.oct HF m2_).1.1, (FX.oct HF m2_).1.2.1, (FX.oct HF m2_).1.2.2, (FX.oct HF m3_).1⟩ (fun hHeld => ?_)
    clear hK K
    refine nO_ 9 ?_
    refine two_ (i := 3) (j := 4) (Ni := some 11) (Nj := some 5) (mB 8 47) (mB 8 55) rfl rfl rfl rfl (two_of HT_.out (by kernel_rfl)) (by decide) (by decide) (fun K hK => ?_) (fun K hK => ?_)
    ·
     refine goes_ Try.func23 (by kernel_rfl) rfl #[Y.val] (by rfl) rfl rfl vL ?_
     with_reducible refine (rclose_own (HY.out.next HS.out.below) HS.out.below GF.out.2.1).mono ?_
     rintro e wk ⟨yv, rfl, hy, ho, hb⟩; refine ⟨_, rfl, ?_⟩
     have n_ := Aside0.mk (HS.out.call hb ho); have f_ := Aside0.mk (HF.out.next hb); clear HS HF; have HS := n_; have HF := f_; clear n_ f_ ho hb
     refine hK.out _ _ ⟨(FX.oct HF m2_).1.1, (FX.oct HF m2_).1.2.1, (FX.oct HF m2_).1.2.2, (FX.oct HF m3_).1⟩ (fun hHeld => ?_)
     clear hK K
     refine nO_ 11 ?_
     refine one_ (i := 4) (N := some 5) (mB 8 63) rfl rfl (one_of HT_.out (by kernel_rfl)) (by decide) (fun K hK => ?_)
     refine box_step ?hg (N := 5) ?hd (cs := #[.slice none 0 0, .slice none 0 0, .bool false]) (t := 25) ?hr ?_; (case hd => rfl); (case hg => rfl); (case hr => first | (go_simp; done) | (go_simp; rfl))
     intro gx hg wk hbox hb
     have f_ := Aside0.mk (HF.out.made HS.out.below.size hg hbox hb); have n_ := Aside0.mk (HS.out.next hb); clear HS HF; have HS := n_; have HF := f_; clear n_ f_ hg hbox hb
     refine hK.out _ _ ⟨(FX.oct HF m3_).1.1, (FX.oct HF m3_).1.2.1, (FX.oct HF m3_).1.2.2, (FX.oct HF m4_).1⟩ (fun hHeld => ?_)
     clear hK K
     refine nO_ 5 ?_
     exact nP_ (hJ (xv, yv, gx, gy) _ ⟨hx, hy, HS.out, HF.out⟩)
    ·
     refine box_step ?hg (N := 5) ?hd (cs := #[.slice none 0 0, .slice none 0 0, .bool false]) (t := 25) ?hr ?_; (case hd => rfl); (case hg => rfl); (case hr => first | (go_simp; done) | (go_simp; rfl))
     intro gx hg wk hbox hb
     have f_ := Aside0.mk (HF.out.made HS.out.below.size hg hbox hb); have n_ := Aside0.mk (HS.out.next hb); clear HS HF; have HS := n_; have HF := f_; clear n_ f_ hg hbox hb
     refine hK.out _ _ ⟨(FX.oct HF m3_).1.1, (FX.oct HF m3_).1.2.1, (FX.oct HF m3_).1.2.2, (FX.oct HF m4_).1⟩ (fun hHeld => ?_)
     clear hK K
     refine nO_ 5 ?_
     refine one_ (i := 3) (N := some 11) (mB 8 63) rfl rfl (one_of HT_.out (by kernel_rfl)) (by decide) (fun K hK => ?_)
     refine goes_ Try.func23 (by kernel_rfl) rfl #[Y.val] (by rfl) rfl rfl vL ?_
     with_reducible refine (rclose_own (HY.out.next HS.out.below) HS.out.below GF.out.2.1).mono ?_
     rintro e wk ⟨yv, rfl, hy, ho, hb⟩; refine ⟨_, rfl, ?_⟩
     have n_ := Aside0.mk (HS.out.call hb ho); have f_ := Aside0.mk (HF.out.next hb); clear HS HF; have HS := n_; have HF := f_; clear n_ f_ ho hb
     refine hK.out _ _ ⟨(FX.oct HF m3_).1.1, (FX.oct HF m3_).1.2.1, (FX.oct HF m3_).1.2.2, (FX.oct HF m4_).1⟩ (fun hHeld => ?_)
     clear hK K
     refine nO_ 11 ?_
     exact nP_ (hJ (xv, yv, gx, gy) _ ⟨hx, hy, HS.out, HF.out⟩)
   ·
    refine box_step ?hg (N := 5) ?hd (cs := #[.slice none 0 0, .slice none 0 0, .bool false]) (t := 25) ?hr ?_; (case hd => rfl); (case hg => rfl); (case hr => first | (go_simp; done) | (go_simp; rfl))
    intro gx hg wk hbox hb
    have f_ := Aside0.mk (HF.out.made HS.out.below.size hg hbox hb); have n_ := Aside0.mk (HS.out.next hb); clear HS HF; have HS := n_; have HF := f_; clear n_ f_ hg hbox hb
    refine hK.out _ _ ⟨(FX.oct HF m3_).1.1, (FX.oct HF m3_).1.2.1, (FX.oct HF m3_).1.2.2, (FX.oct HF m4_).1⟩ (fun hHeld => ?_)
    clear hK K
    refine nO_ 5 ?_
    refine one_ (i := 1) (N := some 9) (mB 8 55) rfl rfl (one_of HT_.out (by kernel_rfl)) (by decide) (fun K hK => ?_)
    refine goes_ Try.func23 (by kernel_rfl) rfl #[X.val] (by rfl) rfl rfl vL ?_
    with_reducible refine (rclose_own (HX.out.next HS.out.below) HS.out.below GF.out.1.1).mono ?_
    rintro e wk ⟨xv, rfl, hx, ho, hb⟩; refine ⟨_, rfl, ?_⟩
    have n_ := Aside0.mk (HS.out.call hb ho); have f_ := Aside0.mk (HF.out.next hb); clear HS HF; have HS := n_; have HF := f_; clear n_ f_ ho hb
    refine hK.out _ _ ⟨(FX.oct HF m3_).1.1, (FX.oct HF m3_).1.2.1, (FX.oct HF m3_).1.2.2, (FX.oct HF m4_).1⟩ (fun hHeld => ?_)
    clear hK K
    refine nO_ 9 ?_
    refine one_ (i := 3) (N := some 11) (mB 8 63) rfl rfl (one_of HT_.out (by kernel_rfl)) (by decide) (fun K hK => ?_)
    refine goes_ Try.func23 (by kernel_rfl) rfl #[Y.val] (by rfl) rfl rfl vL ?_
    with_reducible refine (rclose_own (HY.out.next HS.out.below) HS.out.below GF.out.2.1).mono ?_
    rintro e wk ⟨yv, rfl, hy, ho, hb⟩; refine ⟨_, rfl, ?_⟩
    have n_ := Aside0.mk (HS.out.call hb ho); have f_ := Aside0.mk (HF.out.next hb); clear HS HF; have HS := n_; have HF := f_; clear n_ f_ ho hb
    refine hK.out _ _ ⟨(FX.oct HF m3_).1.1, (FX.oct HF m3_).1.2.1, (FX.oct HF m3_).1.2.2, (FX.oct HF m4_).1⟩ (fun hHeld => ?_)
    clear hK K
    refine nO_ 11 ?_
    exact nP_ (hJ (xv, yv, gx, gy) _ ⟨hx, hy, HS.out, HF.out⟩)
 rintro ⟨xv, yv, gx, gy⟩ W4 ⟨hx, hy, HS4, HF4⟩
 clear HS HF hHeld
 have HS := Aside0.mk HS4; have HF := Aside0.mk HF4
 have kne := FX.nes HF4; have kne' := fun e => kne (Eq.symm e)
 clear HS4 HF4
 dsimp only at HS HF hx hy kne kne'
 obtain ⟨⟨p0, p1, p2⟩, p3, p4, p5⟩ := FX.oct HF m0_; obtain ⟨⟨q0, q1, q2⟩, q3, q4, q5⟩ := FX.oct HF m1_
 refine nS_ ?_
 refine last_ (i := 6) (N := none) (mB 8 127) rfl rfl (one_of HT_.out (by kernel_rfl)) (by decide) (fun K hK => ?_)
 refine skip_ (w1 := ?_) (by rfl) rfl ?_ ?_
 rotate_left
 ·
  go_simp
  rfl
 refine hK.out _ _ ?_
 clear hK K
 refine last_ (i := 7) (N := none) (mB 8 255) rfl rfl (one_of HT_.out (by kernel_rfl)) (by decide) (fun K hK => ?_)
 refine skip_ (w1 := ?_) (by rfl) rfl ?_ ?_
 rotate_left
 ·
  go_simp
  rfl
 refine hK.out _ _ ?_
 clear hK K
 refine done_ (done_of HT_.out (by kernel_rfl)) ?_
 clear p0 p1 p2 p3 p4 p5 q0 q1 q2 q3 q4 q5 kne kne' HT_ HW_
 unfold OnlyN
 have f1_ := HF.out.put3 (a' := .slice xv.P xv.v.length xv.p) (b' := .slice xv.Q xv.m.length xv.q) (c' := .bool xv.e); have s1_ := OS.box3 (a' := .slice xv.P xv.v.length xv.p) (b' := .slice xv.Q xv.m.length xv.q) (c' := .bool xv.e) HS.out (HF.out.all _ m0_).1 (HF.out.all _ m0_).2 (by decide) (by decide); have f2_ := f1_.swap; have f3_ := Aside0.mk (f2_.put3 (a' := .slice yv.P yv.v.length yv.p) (b' := .slice yv.Q yv.m.length yv.q) (c' := .bool yv.e)); have s3_ := Aside0.mk (OS.box3 (a' := .slice yv.P yv.v.length yv.p) (b' := .slice yv.Q yv.m.length yv.q) (c' := .bool yv.e) s1_ (f2_.all _ m0_).1 (f2_.all _ m0_).2 (by decide) (by decide)); clear HS HF f1_ f2_ s1_; have HS := s3_; have HF := f3_; clear s3_ f3_
 generalize hW5 : ((((((W4.setCell ⟨gx, 0, none⟩ (.slice xv.P xv.v.length xv.p)).setCell ⟨gx, 1, none⟩ (.slice xv.Q xv.m.length xv.q)).setCell ⟨gx, 2, none⟩ (.bool xv.e)).setCell ⟨gy, 0, none⟩ (.slice yv.P yv.v.length yv.p)).setCell ⟨gy, 1, none⟩ (.slice yv.Q yv.m.length yv.q)).setCell ⟨gy, 2, none⟩ (.bool yv.e)) = W5 at HS HF ⊢; clear hW5
 obtain ⟨xP, xp, xQ, xq, xV, xM, xE⟩ := xv
 obtain ⟨yP, yp, yQ, yq, yV, yM, yE⟩ := yv
 have gx1 := hx
 have gy1 := hy
 clear hx hy
 have hans := HAN.out
 have HC : Aside0 ((xE = true → (yV, yM, yE) = ans) ∧ (xE = false → yE = true → (xV, xM, xE) = ans) ∧ (xE = false → yE = false → xM.length = yM.length ∧ xM.length < 4611686018427387904 ∧ ∀ xs : List Int, xs.length = xM.length → (∀ k : Nat, k < xM.length → rd xs (k : Int) = mx (rd xM (k : Int)) (rd yM (k : Int))) → (xV, xs, xE) = ans)) := ⟨by
  obtain ⟨fx, e1⟩ := GF.out.1
  obtain ⟨fy, e2⟩ := GF.out.2
  rw [e1] at fx gx1
  rw [e2] at fy gy1
  rw [← hans]
  unfold joinF
  obtain ⟨A, a⟩ := mean_ex fx
  obtain ⟨B, b⟩ := mean_ex fy
  cases a with
  | none q _ =>
   rw [q] at gx1
   rw [q]
   obtain ⟨_, rfl, rfl⟩ := Prod.mk.inj gx1 |>.imp id Prod.mk.inj
   exact ⟨fun _ => by rw [if_pos rfl]; exact gy1, fun h => (by cases h), fun h => (by cases h)⟩
  | some q _ _ s1 =>
   rw [q] at gx1
   obtain ⟨hv1, rfl, rfl⟩ := Prod.mk.inj gx1 |>.imp id Prod.mk.inj
   have hv2 : xV = vars := hv1
   clear hv1
   subst hv2
   cases b with
   | none q' _ =>
    rw [q'] at gy1
    obtain ⟨_, rfl, rfl⟩ := Prod.mk.inj gy1 |>.imp id Prod.mk.inj
    rw [q, q', if_neg (by simp), if_pos rfl]
    exact ⟨fun h => (by cases h), fun _ _ => rfl, fun _ h => (by cases h)⟩
   | some q' _ _ s2 =>
    rw [q'] at gy1
    obtain ⟨_, rfl, rfl⟩ := Prod.mk.inj gy1 |>.imp id Prod.mk.inj
    rw [q, q', if_neg (by simp), if_neg (by simp)]
    refine ⟨fun h => (by cases h), fun _ h => (by cases h), fun _ _ => ⟨by rw [lst_length, lst_length], by rw [lst_length]; have := fx.1.1; exact Nat.lt_of_le_of_lt (Nat.mul_le_mul (show 2 * xV.length ≤ 16 by omega) (show 2 * xV.length ≤ 16 by omega)) (by decide), fun xs hl h => ?_⟩⟩
    rw [join_list fx.1 s1 s2 hl h]⟩
 clear gx1 gy1 hans HAN GF HX HY
 obtain ⟨⟨ky0, ky1, ky2⟩, fy0, fy1, fy2⟩ := FX.oct HF m0_; obtain ⟨⟨kx0, kx1, kx2⟩, fx0, fx1, fx2⟩ := FX.oct HF m1_; obtain ⟨⟨kr0, kr1, kr2⟩, fr0, fr1, fr2⟩ := FX.oct HF m2_; obtain ⟨⟨ka0, ka1, ka2⟩, fa0, fa1, fa2⟩ := FX.oct HF m3_; obtain ⟨⟨kb0, kb1, kb2⟩, fb0, fb1, fb2⟩ := FX.oct HF m4_
 dsimp only at kx0 kx1 kx2 ky0 ky1 ky2 kr0 kr1 kr2 ⊢
 cases xE with
 | true =>
  have ha := HC.out.1 rfl
  subst ha
  go_wp2
  refine bodyPost_ret (results_cell_row rfl _ _ gr 25 #[.slice yP yV.length yp, .slice yQ yM.length yq, .bool yE] (0, 0) _ rfl (store3 (HF.out.all _ m2_).1 _ _ _).1 Try.underlying25 rfl (by kernel_rfl)) rfl ?_
  exact ⟨⟨yP, yp, yQ, yq, yV, yM, yE⟩, rfl, ⟨rfl, rfl, rfl⟩, (OS.box3 HS.out (HF.out.all _ m2_).1 (HF.out.all _ m2_).2 (by decide) (by decide)).own _ m0_, (OS.box3 HS.out (HF.out.all _ m2_).1 (HF.out.all _ m2_).2 (by decide) (by decide)).below⟩
 | false =>
  cases yE with
  | true =>
   have ha := HC.out.2.1 rfl rfl
   subst ha
   go_wp2
   refine bodyPost_ret (results_cell_row rfl _ _ gr 25 #[.slice xP xV.length xp, .slice xQ xM.length xq, .bool false] (0, 0) _ rfl (store3 (HF.out.all _ m2_).1 _ _ _).1 Try.underlying25 rfl (by kernel_rfl)) rfl ?_
   exact ⟨⟨xP, xp, xQ, xq, xV, xM, false⟩, rfl, ⟨rfl, rfl, rfl⟩, (OS.box3 HS.out (HF.out.all _ m2_).1 (HF.out.all _ m2_).2 (by decide) (by decide)).own _ m1_, (OS.box3 HS.out (HF.out.all _ m2_).1 (HF.out.all _ m2_).2 (by decide) (by decide)).below⟩
  | false =>
   have HL := Aside0.mk (HC.out.2.2 rfl rfl)
   clear HC
   go_wp2
   have s_ := Aside0.mk (OS.swap (OS.to HS)); have f_ := Aside0.mk (FX.to HF); clear HS HF; have HS := s_; have HF := f_; clear s_ f_
   go_loopg [21] xM.length (fun kq v21 w' => ∃ (i : Int) (xs : List Int), v21 = .int .i64 i ∧ Aside0 (0 ≤ i ∧ i + (kq : Int) = (xM.length : Int)) ∧ Aside0 (xs.length = xM.length) ∧ Aside0 (∀ k : Nat, k < xM.length → rd xs (k : Int) = if (k : Int) < i then mx (rd xM (k : Int)) (rd yM (k : Int)) else rd xM (k : Int)) ∧ Aside0 (OS w [⟨xP, xp, xQ, xq, xV, xs, false⟩, ⟨yP, yp, yQ, yq, yV, yM, false⟩] w') ∧ Aside0 (FX w [(gy, OV.cells ⟨yP, yp, yQ, yq, yV, yM, false⟩), (gx, OV.cells ⟨xP, xp, xQ, xq, xV, xM, false⟩), (gr, .cells #[.slice none 0 0, .slice none 0 0, .bool false] 25 (0, 0))] w'))
   case atStart => exact ⟨0, xM, by rfl, ⟨by omega⟩, ⟨rfl⟩, ⟨fun k h => by rw [if_neg (by omega)]⟩, ⟨OS.to HS⟩, ⟨FX.sub (FX.to HF) (List.Sublist.cons_cons _ (List.Sublist.cons_cons _ (List.Sublist.cons_cons _ (List.nil_sublist _))))⟩⟩
   case round =>
    clear HS HF kx0 kx1 kx2 fx0 fx1 fx2 ky0 ky1 ky2 fy0 fy1 fy2 ka0 ka1 ka2 fa0 fa1 fa2 kb0 kb1 kb2 fb0 fb1 fb2 kr0 kr1 kr2 fr0 fr1 fr2
    obtain ⟨i, xs, rfl, HI, HN, HJ, HS, HF⟩ := hrel
    obtain ⟨⟨ky0, ky1, ky2⟩, fy0, fy1, fy2⟩ := FX.oct HF m0_; obtain ⟨⟨kx0, kx1, kx2⟩, fx0, fx1, fx2⟩ := FX.oct HF m1_; obtain ⟨⟨kr0, kr1, kr2⟩, fr0, fr1, fr2⟩ := FX.oct HF m2_
    dsimp only at kx0 kx1 kx2 ky0 ky1 ky2 kr0 kr1 kr2
    cases gk with
    | succ k =>
     have q1 : (decide (i < (xM.length : Int))) = true := decide_eq_true (by have := HI.out; omega)
     have p2 : 0 ≤ i := HI.out.1
     have q2 : i < (xM.length : Int) := by have := HI.out; omega
     have q3 : i < (yM.length : Int) := by have := HI.out; have := HL.out.1; omega
     have q4 : i < (xs.length : Int) := by rw [HN.out]; exact q2
     obtain ⟨xb, xc, ex, _, _, _, _⟩ := HS.out.place (show 0 < xs.length by omega)
     cases ex
     obtain ⟨hx0, hfx⟩ := Kd.R_cell 0 (HS.out.own _ m0_).r1 i p2 q4
     obtain ⟨bd, eb, hy0⟩ := Kd.at_int (HS.out.own _ m1_).now i p2 q3
     cases eb
     replace p2 := eq_true p2
     replace q2 := eq_true q2
     replace q3 := eq_true q3
     obtain ⟨ji, hji⟩ : ∃ j : Int, (if rd xs i < rd yM i then rd yM i else rd xs i) = j := ⟨_, rfl⟩
     go_upto_region 9 with fail
     have n_ := Aside0.mk (HS.out.next (below_drew (Below.refl _ _))); have f_ := Aside0.mk (HF.out.next (below_drew (Below.refl _ _))); clear HS HF; have HS := n_; have HF := f_; clear n_ f_
     refine start_ (n := 16) (S := fun w' => w'.cell? ⟨gx, 1, none⟩ = some (.slice (some ⟨xb, 0, none⟩) xM.length xq) ∧ w'.cell? ⟨gy, 1, none⟩ = some (.slice (some bd) yM.length yq) ∧ w'.cell? ⟨xb, i.toNat, none⟩ = some (.int .i64 (rd xs i)) ∧ w'.cell? (bd.add i.toNat) = some (.int .i64 (rd yM i))) (ds := [15]) (mB 16 0) (by kernel_rfl) rfl (by kernel_rfl) ⟨kx1, ky1, hx0, hy0⟩ (fun hHeld => ?_)
     refine with_tabW rjoin_tab9 rjoin_bits9 (fun HT_ HW_ => ?_)
     generalize hWd : World.drew _ = Wd at HS HF hHeld ⊢; clear hWd; clear hx0 hfx hy0; obtain ⟨hx0, hfx⟩ := Kd.R_cell 0 (HS.out.own _ m0_).r1 i HI.out.1 q4
     refine pV_ 0 24 (mB 16 1) HT_ ?_
     refine tV_ 1 25 (mB 16 3) HT_ HW_ hHeld ?_
     refine pV_ 2 26 (mB 16 7) HT_ ?_
     refine pV_ 3 27 (mB 16 15) HT_ ?_
     refine tV_ 4 28 (mB 16 31) HT_ HW_ hHeld ?_
     refine pV_ 5 29 (mB 16 63) HT_ ?_
     refine pV_ 6 30 (mB 16 127) HT_ ?_
     refine tV_ 7 31 (mB 16 255) HT_ HW_ hHeld ?_
     refine pV_ 8 32 (mB 16 511) HT_ ?_
     refine tV_ 9 33 (mB 16 1023) HT_ HW_ hHeld ?_
     refine pV_ 10 34 (mB 16 2047) HT_ ?_
     refine pV_ 11 35 (mB 16 4095) HT_ ?_
     refine tV_ 12 36 (mB 16 8191) HT_ HW_ hHeld ?_
     refine pV_ 13 37 (mB 16 16383) HT_ ?_
     refine pV_ 14 38 (mB 16 32767) HT_ ?_
     refine last_ (i := 15) (N := none) (mB 16 65535) rfl rfl (one_of HT_.out (by kernel_rfl)) (by decide) (fun K hK => ?_)
     refine skip_ (w1 := ?_) (by rfl) rfl ?_ ?_
     rotate_left
     ·
      go_simp
      rfl
     refine hK.out _ _ ?_
     clear hK K
     refine done_ (done_of HT_.out (by kernel_rfl)) ?_
     clear HT_ HW_ hHeld
     try go_wp2
     have hji' : mx (rd xs i) (rd yM i) = ji := hji
     go_roundg k
     case measure => exact Nat.lt_succ_self k
     case rel =>
      have hw : wrap64 (i + 1) = i + 1 := by have := HI.out; have := HL.out.2.1; unfold wrap64; omega
      refine ⟨wrap64 (i + 1), xs.set i.toNat ji, rfl, ⟨by rw [hw]; have := HI.out; omega⟩, ⟨by rw [List.length_set]; exact HN.out⟩, ⟨?_⟩, ⟨?_⟩, ⟨?_⟩⟩
      ·
       rw [hw]
       intro j hj
       have h1 := HJ.out j hj
       by_cases e : (j : Int) = i
       ·
        subst e
        rw [if_pos (by omega)]
        rw [if_neg (by omega)] at h1
        rw [← h1, hji']
        unfold rd
        simp [List.getD_eq_getElem?_getD, HN.out, hj]
       ·
        have : rd (xs.set i.toNat ji) (j : Int) = rd xs (j : Int) := by
         unfold rd
         have : i.toNat ≠ j := by have := HI.out; omega
         simp [List.getD_eq_getElem?_getD, List.getElem?_set, this]
        rw [this, h1]
        by_cases c : (j : Int) < i
        ·
         rw [if_pos c, if_pos (by omega)]
        ·
         rw [if_neg c, if_neg (by omega)]
      ·
       exact HS.out.poke rfl (by have := HI.out; have := HN.out; dsimp only; omega) i ji
      ·
       exact FX.poke HF.out (HS.out.own _ m0_) rfl (fun f hf => by
        simp only [List.mem_cons, List.not_mem_nil, or_false] at hf
        rcases hf with rfl | rfl | rfl <;> exact ⟨_, _, rfl, by decide, by decide⟩) _ _
    | zero =>
     have q1 : (decide (i < (xM.length : Int))) = false := decide_eq_false (by have := HI.out; omega)
     have ha := HL.out.2.2 xs HN.out (fun k hk => by rw [HJ.out k hk, if_pos (by have := HI.out; omega)])
     subst ha
     go_wp2
     refine bodyPost_ret (results_cell_row rfl _ _ gr 25 #[.slice xP xV.length xp, .slice xQ xM.length xq, .bool false] (0, 0) _ rfl (store3 (HF.out.all _ m2_).1 _ _ _).1 Try.underlying25 rfl (by kernel_rfl)) rfl ?_
     exact ⟨⟨xP, xp, xQ, xq, xV, xs, false⟩, by rw [← HN.out], rfl, (OS.box3 HS.out (HF.out.all _ m2_).1 (HF.out.all _ m2_).2 (by decide) (by decide)).own _ m0_, (OS.box3 HS.out (HF.out.all _ m2_).1 (HF.out.all _ m2_).2 (by decide) (by decide)).below⟩
end Go.Proofs.Ytomgebmimgaojaa.QO
end
end
section
noncomputable section
namespace Go.Proofs.Ytomgebmimgaojaa.QO
open Go.RowKit Go.Shelf Go.Proofs.YtomgebmimgaojaaW.PrintWords Go.Proofs.YtomgebmimgaojaaW.PrintLast Go.Proofs.YtomgebmimgaojaaW.PrintMore
open OctMath (over overs plus Bd Fin' Top62)
attribute [local go_sem] max2_int min2_int max_two min_two max_three min_three max_four min_four
attribute [local go_sem ↓] Go.wp_at_zero Go.wp_at_succ
set_option linter.unusedVariables false
set_option linter.unusedSimpArgs false
def upK (c : Nat → Nat → Int) (n k : Nat) : Nat → Nat → Int := fun a b => if a * n + b < k then c a b else 0
theorem upK_zero (n : Nat) (c : Nat → Nat → Int) : List.replicate (n * n) (0 : Int) = lst n (upK c n 0) := by
  apply List.ext_getElem
  · simp [lst]
  · intro t h1 h2; simp [lst, upK]
theorem upK_all {c : Nat → Nat → Int} {n : Nat} (a b : Nat) (ha : a < n) (hb : b < n) : upK c n (n * n) a b = c a b := by unfold upK; rw [if_pos (ij_lt ha hb)]
theorem upK_step {c : Nat → Nat → Int} {n i j : Nat} (hj : j < n) (a b : Nat) (hb : b < n) : upK c n (i * n + j + 1) a b = if a = i ∧ b = j then c i j else upK c n (i * n + j) a b := by
  unfold upK
  by_cases e : a = i ∧ b = j
  · rw [if_pos e, e.1, e.2, if_pos (by omega)]
  · rw [if_neg e]
    have hne : a * n + b ≠ i * n + j := fun h => e (by
      have h1 := ij_div (n := n) (i := a) hb; have h2 := ij_div (n := n) (i := i) hj
      have h3 := ij_mod (n := n) (i := a) hb; have h4 := ij_mod (n := n) (i := i) hj
      rw [h] at h1 h3
      exact ⟨by rw [← h1, h2], by rw [← h3, h4]⟩)
    by_cases h : a * n + b < i * n + j
    · rw [if_pos h, if_pos (by omega)]
    · rw [if_neg h, if_neg (by omega)]
theorem upK_diag {c : Nat → Nat → Int} {n i : Nat} (hi : i < n) (h0 : c i i = 0) (a b : Nat) (hb : b < n) : upK c n (i * n + i + 1) a b = upK c n (i * n + i) a b := by
  rw [upK_step hi a b hb]
  by_cases e : a = i ∧ b = i
  · rw [if_pos e, e.1, e.2, h0]; unfold upK; rw [if_neg (by omega)]
  · rw [if_neg e]
structure QS (w : World) (bo br bc bq s : Nat) (ov : Array Value) (vv vd vq : Value) (vars : List Int) (W : World) (rowd rowq : List Int) : Prop where
  ob : OB w bo br ov W
  c : W.heap[bc]? = some (.cells #[vv, vd, .bool false] 25 (0, 0))
  q : W.heap[bq]? = some (.cells #[vv, vq, .bool false] 25 (0, 0))
  rv : Kd.R (Kd.int .i64) 3 W w.heap.size (fun _ => True) vv vars
  rd : Kd.R (Kd.int .i64) 2 W w.heap.size (fun k => k < s) vd rowd
  rq : Kd.R (Kd.int .i64) 2 W s (fun _ => True) vq rowq
  hs : w.heap.size ≤ s
theorem QS.next {w : World} {bo br bc bq s : Nat} {ov : Array Value} {vv vd vq : Value} {vars : List Int} {W W' : World} {rowd rowq : List Int} (h : QS w bo br bc bq s ov vv vd vq vars W rowd rowq) (hb : Below W.heap.size W W') : QS w bo br bc bq s ov vv vd vq vars W' rowd rowq :=
  ⟨h.ob.next hb, blk_below h.c hb, blk_below h.q hb, Kd.R_below h.rv hb, Kd.R_below h.rd hb, Kd.R_below h.rq hb, h.hs⟩
theorem QS.put {w : World} {bo br bc bq s g len cap : Nat} {ov : Array Value} {vv vd : Value} {vars : List Int} {W : World} {rowd rowq : List Int} (h : QS w bo br bc bq s ov vv vd (.slice (some ⟨g, 0, none⟩) len cap) vars W rowd rowq) (hp : 0 < rowq.length) (i v : Int) :
    QS w bo br bc bq s ov vv vd (.slice (some ⟨g, 0, none⟩) len cap) vars (W.setCell ⟨g, i.toNat, none⟩ (.int .i64 v)) rowd (rowq.set i.toNat v) := by
  obtain ⟨hg, cells, hc⟩ := row_block h.rq hp
  have n1 := typed_ne h.ob.o hc (by decide)
  have n2 := typed_ne h.ob.r hc (by decide)
  have n3 := typed_ne h.c hc (by decide)
  have n4 := typed_ne h.q hc (by decide)
  have hw : w.heap.size ≤ g := Nat.le_trans h.hs hg
  refine ⟨⟨blk_far h.ob.o n1 _, blk_far h.ob.r n2 _, below_set h.ob.below hw, h.ob.ob, h.ob.rb, h.ob.ne⟩, blk_far h.c n3 _, blk_far h.q n4 _, ?_, ?_, (Kd.R_putg h.rq i v).1, h.hs⟩
  · exact Kd.R_set h.rv hc (fun q hq => by
      rcases List.mem_cons.1 hq with rfl | hq
      · decide
      · cases hq) _ _
  · exact Kd.R_far (p := ⟨g, i.toNat, none⟩) h.rd (fun k hk e => by subst e; exact absurd hk (by simp; omega)) _
theorem th_clip (x : Int) : thresh_clip.f x = some (clipV x) := by
  unfold thresh_clip.f clipV mx
  by_cases e : x > 1099511627776
  · rw [if_pos e, if_pos e]
  · rw [if_neg e, if_neg e]
theorem th_twice (x : Int) : thresh_twice.f x = some (twiceV x) := by
  unfold thresh_twice.f twiceV
  by_cases e : x > 1099511627776
  · rw [if_pos e, if_pos e]
  · rw [if_neg e, if_neg e, th_clip]
    have h : wrap64 (2 * mx x (-1099511627776)) = 2 * mx x (-1099511627776) := by unfold mx wrap64; split <;> omega
    rw [h]; rfl
theorem th_up {k : Nat} {t : List Int} (h : thresh_Fit.f k t = some true) (hu : UpOk t) (x : Int) : thresh_Up.f k t x = some (upT t x) := by
  unfold thresh_Up.f upT
  rw [h, Option.bind_some, if_pos rfl, if_pos ⟨hu.1 x, by have := hu.2; omega⟩]
set_option maxHeartbeats 16000000 in
set_option maxRecDepth 100000 in
theorem thresh_Oct_any (k : Nat) (At : Option Addr) (ct : Nat) (t : List Int) (A0 : Option Addr) (c0 : Nat) (vars : List Int) (A1 : Option Addr) (c1 : Nat) (m : List Int) (e : Bool) (w : World) (hrt : Kd.C (Kd.int .i64) w At t.length t) (hct : t.length ≤ ct)
    (hr0 : Kd.C (Kd.int .i64) w A0 vars.length vars) (hc0 : vars.length ≤ c0) (hr1 : Kd.C (Kd.int .i64) w A1 m.length m) (hc1 : m.length ≤ c1) (hfit : OFit vars m e) (r : List Int × List Int × Bool)
    (h : ((closeF vars m e).2.2 = true ∧ r = closeF vars m e) ∨ ((closeF vars m e).2.2 = false ∧ thresh_Fit.f k t = some false ∧ oct_Top.f k vars = some r) ∨
      ((closeF vars m e).2.2 = false ∧ thresh_Fit.f k t = some true ∧ UpOk t ∧ r = closeF vars (lst (2 * vars.length) (roundM t (closeM (2 * vars.length) (lowM vars.length m)))) false)) :
    Calls Try.prog 26 #[.slice At t.length ct, .agg #[.slice A0 vars.length c0, .slice A1 m.length c1, .bool e]] w fun e' w' => ∃ v0_ v1_ : Value, e' = .returned (.agg #[v0_, v1_, .bool r.2.2]) ∧
      Kd.R (Kd.int .i64) 3 w' w.heap.size (fun _ => True) v0_ r.1 ∧ Kd.R (Kd.int .i64) 2 w' w.heap.size (fun _ => True) v1_ r.2.1 ∧ Below w.heap.size w w' := by
  have hu25 := Try.underlying25
  have CLS := Aside0.mk (fun (W : World) (hW : Below w.heap.size w W) => oct_Close_any A0 c0 vars A1 c1 m e W (Kd.C_below hr0 hW) hc0 (Kd.C_below hr1 hW) hc1 hfit)
  have FIT := Aside0.mk (fun (b : Bool) (W : World) (hW : Below w.heap.size w W) (hb : thresh_Fit.f k t = some b) => thresh_Fit.calls k At ct t b W (Kd.C_below hrt hW) hct hb)
  have UPT := Aside0.mk (fun (x y : Int) (W : World) (hW : Below w.heap.size w W) (hb : thresh_Up.f k t x = some y) => thresh_Up.calls k At ct t x y W (Kd.C_below hrt hW) hct hb)
  have HFIT := Aside0.mk hfit
  clear hrt hct hr0 hc0 hr1 hc1 hfit
  obtain ⟨rc, hrc⟩ : ∃ rc, closeF vars m e = rc := ⟨_, rfl⟩
  rw [hrc] at CLS h
  have HRC := Aside0.mk hrc
  clear hrc
  obtain ⟨rv, rm, rb⟩ := rc
  go_enter Try.func26, Try.ntmps26
  go_upto_region 2 with (first
      | ((with_reducible refine gate_dst (N := 3) rfl ?_); refine box_event ?hg (N := 3) ?hd (cs := #[.slice A0 vars.length c0, .slice A1 m.length c1, .bool e]) (t := 25) ?hr ?_; (case hd => rfl); (case hg => rfl); (case hr => first | (go_simp; done) | (go_simp; rfl)); intro bo hgo wa hbo hba; have HBO := Aside0.mk (And.intro hgo (And.intro hbo hba)); clear hgo hbo hba)
      | ((with_reducible refine gate_dst (N := 4) rfl ?_); refine box_event ?hg (N := 4) ?hd (cs := #[.slice none 0 0, .slice none 0 0, .bool false]) (t := 25) ?hr ?_; (case hd => rfl); (case hg => rfl); (case hr => first | (go_simp; done) | (go_simp; rfl)); intro br hgr wb hbr hbb; have HOB : Aside0 (OB w bo br #[.slice A0 vars.length c0, .slice A1 m.length c1, .bool e] wb) := ⟨⟨blk_below HBO.out.2.1 hbb, hbr, HBO.out.2.2.trans (hbb.mono HBO.out.2.2.size), by rw [HBO.out.1]; exact Nat.le_refl _, by rw [hgr]; exact HBO.out.2.2.size, by rw [hgr]; exact Nat.ne_of_lt (blk_lt HBO.out.2.1)⟩⟩; obtain ⟨ho0, ho1, ho2⟩ := HOB.out.cells; clear hgr hbr hbb HBO)
      | (go_at_call 22; (with_reducible refine (CLS.out _ ?s1).mono ?_); (case s1 => exact HOB.out.below); rintro e' w1 ⟨v0, v1, rfl, h0, h1, hb⟩; obtain ⟨Av, cv, ev⟩ := Kd.R_slice h0; subst ev; obtain ⟨Ad, cd, ed⟩ := Kd.R_slice h1; subst ed; have H0 := Aside0.mk (Kd.R_lower h0 HOB.out.below.size); have H1 := Aside0.mk (Kd.R_lower h1 HOB.out.below.size); have HO1 := Aside0.mk (OB.next HOB.out hb); clear h0 h1 hb HOB ho0 ho1 ho2 CLS))
  obtain ⟨s, hs⟩ : ∃ s, w1.heap.size = s := ⟨_, rfl⟩
  rw [hs]
  obtain ⟨w2, hw2⟩ : ∃ w2, w1.alloc (.cells #[.slice Av rv.length cv, .slice Ad rm.length cd, .bool rb] 25) = w2 := ⟨_, rfl⟩
  rw [hw2]
  have HO2 : Aside0 (OB w bo br #[.slice A0 vars.length c0, .slice A1 m.length c1, .bool e] w2) := ⟨by rw [← hw2]; exact OB.next HO1.out (below_alloc (Below.refl _ _) _)⟩
  have HC2 : Aside0 (w2.heap[s]? = some (.cells #[.slice Av rv.length cv, .slice Ad rm.length cd, .bool rb] 25 (0, 0))) := ⟨by rw [← hw2, ← hs]; exact blk_new _ _⟩
  have HV2 : Aside0 (Kd.R (Kd.int .i64) 3 w2 w.heap.size (fun _ => True) (.slice Av rv.length cv) rv) := ⟨by rw [← hw2]; exact Kd.R_alloc H0.out _⟩
  have HD2 : Aside0 (Kd.R (Kd.int .i64) 2 w2 w.heap.size (fun k => k < s) (.slice Ad rm.length cd) rm) := ⟨by rw [← hw2, ← hs]; exact Kd.R_alloc (Kd.R_mono (Kd.R_bound H1.out) (fun k hk => hk.2.2.1)) _⟩
  have HS : Aside0 (w.heap.size ≤ s ∧ s < w2.heap.size) := ⟨by rw [← hs, ← hw2]; exact ⟨HO1.out.below.size, by simp⟩⟩
  clear hw2 hs HO1 H0 H1
  obtain ⟨hq0, hq1, hq2⟩ : w2.cell? ⟨s, 0, none⟩ = some (.slice Av rv.length cv) ∧ w2.cell? ⟨s, 1, none⟩ = some (.slice Ad rm.length cd) ∧ w2.cell? ⟨s, 2, none⟩ = some (.bool rb) := ⟨blk_cell HC2.out 0, blk_cell HC2.out 1, blk_cell HC2.out 2⟩
  rcases h with ⟨hb1, rfl⟩ | ⟨hb1, hb2, hb3⟩ | ⟨hb1, hb2, hb3, hr⟩
  · obtain rfl : rb = true := hb1
    obtain ⟨⟨hr0, hr1, hr2⟩, hr3, hr4, hr5⟩ := HO2.out.res
    go_wp2
    refine bodyPost_ret (results_cell_row rfl _ _ br 25 #[.slice Av rv.length cv, .slice Ad rm.length cd, .bool true] (0, 0) _ rfl (store3 HO2.out.r _ _ _).1 Try.underlying25 rfl (by kernel_rfl)) rfl ?_
    exact ⟨_, _, rfl, OB.answer HO2.out (Nat.le_refl _) HV2.out (Kd.R_mono HD2.out (fun _ _ => trivial)) _⟩
  · obtain rfl : rb = false := hb1
    have ev : rv = vars := by have := HRC.out; unfold closeF at this; split at this <;> exact (congrArg Prod.fst this).symm
    subst ev
    have HB2 := Aside0.mk hb2
    have TOP := Aside0.mk (fun (W : World) (hW : Below w2.heap.size w2 W) => oct_Top.calls k Av cv rv r.1 r.2.1 r.2.2 W (Kd.C_below (Kd.R_reads' HV2.out).2.2 hW) (Kd.R_reads' HV2.out).2.1 hb3)
    clear hb2 hb3
    go_wp2_with (first
      | (go_at_call 63; (with_reducible refine (FIT.out false _ ?s1 HB2.out).mono ?_); (case s1 => exact HO2.out.below); rintro e' w3 ⟨rfl, hb⟩; have HBB := Aside0.mk hb.below; have hz0 := (blk_cell (blk_below HC2.out hb.below) 0).trans rfl; clear hb hq0 hq1 hq2)
      | (go_at_call 13; (with_reducible refine (TOP.out _ HBB.out).mono ?_); rintro e' w4 ⟨v0, v1, rfl, h0, h1, hb⟩; obtain ⟨Ao, co, eo⟩ := Kd.R_slice h0; subst eo; obtain ⟨Ap, cp, ep⟩ := Kd.R_slice h1; subst ep; have H0 := Aside0.mk h0; have H1 := Aside0.mk h1; have HO4 := Aside0.mk ((HO2.out.next HBB.out).next hb); have HBW := Aside0.mk (HO2.out.next HBB.out).below.size; obtain ⟨⟨hr0, hr1, hr2⟩, hr3, hr4, hr5⟩ := HO4.out.res; clear h0 h1 hb hz0))
    refine bodyPost_ret (results_cell_row rfl _ _ br 25 #[.slice Ao r.1.length co, .slice Ap r.2.1.length cp, .bool r.2.2] (0, 0) _ rfl (store3 HO4.out.r _ _ _).1 Try.underlying25 rfl (by kernel_rfl)) rfl ?_
    exact ⟨_, _, rfl, OB.answer HO4.out HBW.out H0.out H1.out _⟩
  · obtain rfl : rb = false := hb1
    have ev : rv = vars := by have := HRC.out; unfold closeF at this; split at this <;> exact (congrArg Prod.fst this).symm
    subst ev
    have ee : e = false := by
      cases e with
      | true => have := HRC.out; unfold closeF at this; rw [if_pos rfl] at this; cases this
      | false => rfl
    subst ee
    obtain ⟨n2, hn2⟩ : ∃ n2, n2 = 2 * rv.length := ⟨_, rfl⟩
    obtain ⟨NN, hNN⟩ : ∃ NN, n2 * n2 = NN := ⟨_, rfl⟩
    have hok : CloseOk (2 * rv.length) (lowM rv.length m) := closeB_true.1 (by
      have := HRC.out; unfold closeF at this; rw [if_neg (by decide)] at this
      have h3 := congrArg (fun p => p.2.2) this
      cases hc : closeB (2 * rv.length) (lowM rv.length m) with
      | true => rfl
      | false => simp [hc] at h3)
    have hrm : rm = lst n2 (closeM n2 (lowM rv.length m)) := by
      have := HRC.out; unfold closeF closeL at this; rw [if_neg (by decide), if_pos (closeB_true.2 hok)] at this
      rw [hn2]; exact (congrArg (fun p => p.2.1) this).symm
    have HRF := Aside0.mk (round_fit (t := t) HFIT.out hok)
    rw [← hn2] at HRF hr
    obtain ⟨C0, hC0⟩ : ∃ C0, closeM n2 (lowM rv.length m) = C0 := ⟨_, rfl⟩
    rw [hC0] at HRF hrm hr
    obtain ⟨R0, hR0⟩ : ∃ R0, roundM t C0 = R0 := ⟨_, rfl⟩
    rw [hR0] at HRF hr
    have HR0 := Aside0.mk hR0
    have HCB : Aside0 (Bd n2 1152921504606846976 C0) := ⟨fun i j _ _ => by rw [← hC0]; have := clipV_range (strg (tig (overs (lowM rv.length m) n2)) i j); unfold closeM Fin'; omega⟩
    have HRR := Aside0.mk hr
    have HL := Aside0.mk HFIT.out.1.1
    have HN2 := Aside0.mk hn2
    have HNN := Aside0.mk hNN
    subst hrm
    have hll : (lst n2 C0).length = NN := by rw [lst_length, hNN]
    rw [hll] at HD2 HC2 hq1
    try rw [hll]
    obtain ⟨mc, mk1, mk2⟩ := make64 NN (by rw [← hNN]; have := HL.out; exact Nat.le_trans (Nat.mul_le_mul (show n2 ≤ 16 by omega) (show n2 ≤ 16 by omega)) (by omega))
    have HMK := Aside0.mk mk2
    obtain ⟨nn, hnn⟩ : ∃ nn : Int, 2 * (rv.length : Int) = nn := ⟨_, rfl⟩
    have hw : wrap64 (2 * (rv.length : Int)) = nn := by have := HL.out; unfold wrap64; omega
    have hw' : IntKind.i64.wrap (2 * (rv.length : Int)) = nn := (i64_w _).trans hw
    have HNV := Aside0.mk hnn
    have HB2 := Aside0.mk hb2
    have HB3 := Aside0.mk hb3
    clear hb2 hb3 hC0 hR0 hn2 hNN hll mk2 hok hnn HRC hr
    go_wp2_with (first
      | (go_at_call 63; (with_reducible refine (FIT.out true _ ?s1 HB2.out).mono ?_); (case s1 => exact HO2.out.below); rintro e' w3 ⟨rfl, hb⟩; have HBB := Aside0.mk hb.below; have hz0 := (blk_cell (blk_below HC2.out hb.below) 0).trans rfl; have hz1 : w3.cell? ⟨s, 1, none⟩ = some (.slice Ad NN cd) := (blk_cell (blk_below HC2.out hb.below) 1).trans rfl; clear hb hq0 hq1 hq2))
    have KN := World.new_ne _ _ hz0
    have kb1 : s ≠ w3.heap.size := Nat.ne_of_lt (Nat.lt_of_lt_of_le HS.out.2 HBB.out.size)
    have kb2 : s ≠ w3.heap.size + 1 := by have := Nat.lt_of_lt_of_le HS.out.2 HBB.out.size; omega
    have kb3 : w3.heap.size ≠ s := fun e => kb1 e.symm
    have kb4 : w3.heap.size + 1 ≠ s := fun e => kb2 e.symm
    go_cut [7] (fun v7 wc => ∃ (bq : Nat) (Ac : Option Addr) (cc : Nat), v7 = .pointer (some ⟨bq, 0, none⟩) ∧ Aside0 (QS w bo br s bq s #[.slice A0 rv.length c0, .slice A1 m.length c1, .bool false] (.slice Av rv.length cv) (.slice Ad NN cd) (.slice Ac NN cc) rv wc (lst n2 C0) (lst n2 (upK R0 n2 0))))
    case first =>
      go_region_held3 (fun w' => w'.cell? ⟨s, 0, none⟩ = some (.slice Av rv.length cv) ∧ w'.cell? ⟨s, 1, none⟩ = some (.slice Ad NN cd)) (go_keep) (fail)
      all_goals go_wp2
      all_goals go_meet
      all_goals have HZ : List.replicate NN (0 : Int) = lst n2 (upK R0 n2 0) := by rw [← HNN.out]; exact upK_zero _ _
      all_goals have BA : ∀ (W : World) (o : Obj), Below W.heap.size W (W.alloc o) := fun W o => below_alloc (Below.refl _ _) o
      all_goals have BD : ∀ (W : World), Below W.heap.size W W.drew := fun W => below_drew (Below.refl _ _)
      all_goals have sz : s ≤ w3.heap.size := Nat.le_of_lt (Nat.lt_of_lt_of_le HS.out.2 HBB.out.size)
      · have rq := HMK.out w3 s sz
        rw [HZ] at rq
        have hq := blk_new (w3.alloc (.cells mc 2)) (.cells #[.slice Av rv.length cv, .slice (some ⟨w3.heap.size, 0, none⟩) NN NN, .bool false] 25)
        rw [World.size_alloc] at hq
        exact ⟨_, _, _, rfl, ⟨⟨(((HO2.out.next HBB.out).next (BA _ _)).next (BA _ _)).next (BD _), blk_drew (blk_alloc (blk_alloc (blk_below HC2.out HBB.out) _) _), blk_drew hq, Kd.R_drew (Kd.R_alloc (Kd.R_alloc (Kd.R_below HV2.out HBB.out) _) _), Kd.R_drew (Kd.R_alloc (Kd.R_alloc (Kd.R_below HD2.out HBB.out) _) _), Kd.R_drew (Kd.R_alloc rq _), HS.out.1⟩⟩⟩
      · have rq := HMK.out (w3.alloc (.cells #[.slice Av rv.length cv, .slice (some ⟨w3.heap.size + 1, 0, none⟩) NN NN, .bool false] 25)) s (by rw [World.size_alloc]; omega)
        rw [HZ, World.size_alloc] at rq
        exact ⟨_, _, _, rfl, ⟨⟨(((HO2.out.next HBB.out).next (BA _ _)).next (BA _ _)).next (BD _), blk_drew (blk_alloc (blk_alloc (blk_below HC2.out HBB.out) _) _), blk_drew (blk_alloc (blk_new _ _) _), Kd.R_drew (Kd.R_alloc (Kd.R_alloc (Kd.R_below HV2.out HBB.out) _) _), Kd.R_drew (Kd.R_alloc (Kd.R_alloc (Kd.R_below HD2.out HBB.out) _) _), Kd.R_drew rq, HS.out.1⟩⟩⟩
    case rest =>
      clear hz0 hz1 KN kb1 kb2 kb3 kb4 HMK mk1 HO2 HC2 HV2 HD2 HBB
      obtain ⟨bq, Ac, cc, rfl, HQ⟩ := hcut
      have hs0 := (blk_cell HQ.out.c 0).trans rfl
      have hs1 : wc.cell? ⟨s, 1, none⟩ = some (.slice Ad NN cd) := (blk_cell HQ.out.c 1).trans rfl
      go_wp2
      clear hs0 hs1
      go_loopg [37] NN (fun gg s37 wr => ∃ (q : Nat) (qq : Int), s37 = .int .i64 qq ∧ Aside0 (qq = (q : Int) ∧ q ≤ NN ∧ NN - q ≤ gg) ∧ Aside0 (QS w bo br s bq s #[.slice A0 rv.length c0, .slice A1 m.length c1, .bool false] (.slice Av rv.length cv) (.slice Ad NN cd) (.slice Ac NN cc) rv wr (lst n2 C0) (lst n2 (upK R0 n2 q))))
      case atStart => exact ⟨0, 0, rfl, ⟨rfl, Nat.zero_le _, by omega⟩, HQ⟩
      case round =>
        clear HQ
        obtain ⟨q, qq, rfl, HQQ, HQ⟩ := hrel
        by_cases hlt : q < NN
        · have f3 : decide (qq < (NN : Int)) = true := decide_eq_true (by have := HQQ.out; omega)
          have HQL := Aside0.mk hlt
          have hi0 : 0 < n2 := by
            rcases Nat.eq_zero_or_pos n2 with h | h
            · have h9 := HNN.out; rw [h] at h9; omega
            · exact h
          obtain ⟨i, hi⟩ : ∃ i, q / n2 = i := ⟨_, rfl⟩
          obtain ⟨j, hj⟩ : ∃ j, q % n2 = j := ⟨_, rfl⟩
          have HI : Aside0 (i < n2 ∧ j < n2 ∧ q = i * n2 + j) := ⟨by
            have h1 := Nat.div_add_mod q n2
            rw [hi, hj, Nat.mul_comm] at h1
            exact ⟨by rw [← hi]; exact Nat.div_lt_of_lt_mul (by rw [HNN.out]; exact hlt), by rw [← hj]; exact Nat.mod_lt _ hi0, h1.symm⟩⟩
          have HW : Aside0 (wrap64 (qq + 1) = ((q + 1 : Nat) : Int)) := ⟨by
            have h1 := HQQ.out; have h2 := HQL.out; have h3 := HNN.out; have h4 := HL.out; have h5 := HN2.out
            have : n2 * n2 ≤ 16 * 16 := Nat.mul_le_mul (by omega) (by omega)
            unfold wrap64; omega⟩
          have hp1 : 0 < (lst n2 C0).length := by rw [lst_length, HNN.out]; omega
          obtain ⟨gd, cap, eg, _⟩ := Kd.R_form HQ.out.rd hp1
          injection eg with e1 e2 e3
          subst e1
          clear e2 e3 cap hp1
          have hp2 : 0 < (lst n2 (upK R0 n2 q)).length := by rw [lst_length, HNN.out]; omega
          obtain ⟨g, cap, eg, hg1, hg2, cells, hg3⟩ := Kd.R_form HQ.out.rq hp2
          injection eg with e1 e2 e3
          subst e1
          have HP0 : Aside0 (∀ d, 0 < (lst n2 d).length) := ⟨fun d => by rw [lst_length, HNN.out]; omega⟩
          have n5 : bq ≠ g := typed_ne HQ.out.q hg3 (by decide)
          have n6 : g ≠ bq := fun e => n5 e.symm
          clear e2 e3 cap hg1 hg2 hg3 cells hp2
          have HQB : Aside0 (0 ≤ qq ∧ qq < (NN : Int)) := ⟨by have := HQQ.out; omega⟩
          have r10 := eq_true HQB.out.1
          have r11 := eq_true HQB.out.2
          obtain ⟨x, hx⟩ : ∃ x, C0 i j = x := ⟨_, rfl⟩
          have HX := Aside0.mk hx
          have hx1 : wr.cell? ⟨gd, qq.toNat, none⟩ = some (.int .i64 x) := (Kd.R_celln 0 HQ.out.rd qq HQB.out.1 HQB.out.2).1.trans (congrArg (fun v => some (Value.int .i64 v)) (by
            show rd (lst n2 C0) qq = x
            rw [lst_rd HI.out.1 HI.out.2.1 (HQQ.out.1.trans (congrArg Int.ofNat HI.out.2.2)), hx]))
          obtain ⟨ii, hii⟩ : ∃ ii : Int, ii = (i : Int) := ⟨_, rfl⟩
          obtain ⟨jj, hjj⟩ : ∃ jj : Int, jj = (j : Int) := ⟨_, rfl⟩
          have HIJ := Aside0.mk (And.intro hii hjj)
          have hn0 : nn ≠ 0 := by have := HNV.out; have := HN2.out; omega
          have hdi : IntKind.i64.wrap (qq.tdiv nn) = ii := by
            have e1 : nn = (n2 : Int) := by have := HNV.out; have := HN2.out; omega
            have e2 : qq.tdiv nn = ii := by rw [HQQ.out.1, e1, hii, ← hi]; rfl
            have h5 := HN2.out; have h4 := HL.out; have h6 := HI.out.1
            rw [e2, IntKind.wrap_i64, hii]; omega
          have hmo : qq.tmod nn = jj := by
            have e1 : nn = (n2 : Int) := by have := HNV.out; have := HN2.out; omega
            rw [HQQ.out.1, e1, hjj, ← hj]; rfl
          have hdi' := (i64_w _).symm.trans hdi
          obtain ⟨bj, hbj⟩ : ∃ b, nbar jj = b := ⟨_, rfl⟩
          have hxo : Go.bits .xor .i64 jj 1 = bj := by rw [← hbj]; exact xor_one jj (by omega) (by have h5 := HN2.out; have h4 := HL.out; have h6 := HI.out.2.1; omega)
          have HBJ : Aside0 (bj = ((nb j : Nat) : Int)) := ⟨by rw [← hbj, hjj, nbar_nb]⟩
          clear hlt hi hj hi0 hx hii hjj hbj
          have hs1 : wr.cell? ⟨bq, 1, none⟩ = some (.slice (some ⟨g, 0, none⟩) NN cc) := (blk_cell HQ.out.q 1).trans rfl
          by_cases hd : ii = jj
          · have f5 : (ii == jj) = true := by simpa using hd
            have HD := Aside0.mk hd
            clear hd
            go_wp2
            go_quiet (fail)
            go_wp2
            go_roundg (NN - (q + 1))
            case measure => have := HQQ.out; have := HQL.out; omega
            case rel =>
              refine ⟨q + 1, wrap64 (qq + 1), rfl, ⟨by have := HW.out; have := HQL.out; omega⟩, ⟨?_⟩⟩
              have h1 := QS.next HQ.out (pw_below_drewN (Below.refl _ _) nq)
              have hij : i = j := by have := HIJ.out; have := HD.out; omega
              have h0 : R0 i i = 0 := by rw [← HR0.out]; unfold roundM; rw [if_pos rfl]
              have hq : q = i * n2 + i := by rw [HI.out.2.2, hij]
              rw [lst_congr (d := upK R0 n2 q) (e := upK R0 n2 (q + 1)) (fun a b _ hb => by rw [hq]; exact (upK_diag HI.out.1 h0 a b hb).symm)] at h1
              exact h1
          · have f5 : (ii == jj) = false := by simpa using hd
            have HD := Aside0.mk hd
            clear hd
            have hxb := HX.out ▸ HCB.out i j HI.out.1 HI.out.2.1
            have HXB := Aside0.mk hxb
            clear hxb
            by_cases hd : ii = bj
            · have f6 : (ii == bj) = true := by simpa using hd
              have HD2 := Aside0.mk hd
              obtain ⟨hf, hhf⟩ : ∃ h, half x = h := ⟨_, rfl⟩
              obtain ⟨u, hu⟩ : ∃ u, upT t hf = u := ⟨_, rfl⟩
              obtain ⟨v, hv⟩ : ∃ v, twiceV u = v := ⟨_, rfl⟩
              have HALF := Aside0.mk (fun (W : World) => bound_Half.calls x hf W (by rw [← hhf]; exact half_half HXB.out))
              have HU : Aside0 (thresh_Up.f k t hf = some u) := ⟨by rw [← hu]; exact th_up HB2.out HB3.out hf⟩
              have TW := Aside0.mk (fun (W : World) => thresh_twice.calls u v W (by rw [← hv]; exact th_twice u))
              have HVV : Aside0 (R0 i j = v) := ⟨by
                have h1 : i ≠ j := by have := HIJ.out; have := HD.out; omega
                have h2 : i = nb j := by have := HIJ.out; have := HBJ.out; omega
                rw [← HR0.out]; unfold roundM; rw [if_neg h1, if_pos h2, HX.out, hhf, hu, hv]⟩
              clear hd hhf hu hv
              go_wp2
              go_quiet (fail)
              go_wp2
              obtain ⟨wq, hwq⟩ : ∃ wq, wr.drewN nq = wq := ⟨_, rfl⟩
              have HQ' := Aside0.mk (QS.next HQ.out (pw_below_drewN (Below.refl _ _) nq))
              clear hs1 HQ
              have HQ := HQ'
              clear HQ'
              have hs1 : (wr.drewN nq).cell? ⟨bq, 1, none⟩ = some (.slice (some ⟨g, 0, none⟩) NN cc) := (blk_cell HQ.out.q 1).trans rfl
              rw [hwq] at HQ hs1 ⊢
              clear hwq hx1
              go_region_held3 (fun w' => w'.cell? ⟨bq, 1, none⟩ = some (.slice (some ⟨g, 0, none⟩) NN cc)) (first | go_keep | exact KS)
                (first
               | (go_at_call 56; (with_reducible refine (HALF.out _).mono ?_); rintro e' w7 ⟨rfl, hb⟩; have HQ7 := Aside0.mk (QS.next (QS.next HQ.out (below_drew (Below.refl _ _))) hb.below); have KS : w7.cell? ⟨bq, 1, none⟩ = some (.slice (some ⟨g, 0, none⟩) NN cc) := (blk_cell HQ7.out.q 1).trans rfl; clear hb)
               | (go_at_call 61; (with_reducible refine (UPT.out hf u _ HQ7.out.ob.below HU.out).mono ?_); rintro e' w8 ⟨rfl, hb⟩; have HQ8 := Aside0.mk (QS.next HQ7.out hb); have KS : w8.cell? ⟨bq, 1, none⟩ = some (.slice (some ⟨g, 0, none⟩) NN cc) := (blk_cell HQ8.out.q 1).trans rfl; clear hb)
               | (go_at_call 64; (with_reducible refine (TW.out _).mono ?_); rintro e' w9 ⟨rfl, hb⟩; have HQ9 := Aside0.mk (QS.next HQ8.out hb); have KS : w9.cell? ⟨bq, 1, none⟩ = some (.slice (some ⟨g, 0, none⟩) NN cc) := (blk_cell HQ9.out.q 1).trans rfl; clear hb; obtain ⟨hz1, hz2⟩ := Kd.R_celln 0 HQ9.out.rq qq HQB.out.1 HQB.out.2))
              go_wp2
              go_roundg (NN - (q + 1))
              case measure => have := HQQ.out; have := HQL.out; omega
              case rel =>
                refine ⟨q + 1, wrap64 (qq + 1), rfl, ⟨by have := HW.out; have := HQL.out; omega⟩, ⟨?_⟩⟩
                have h1 := QS.put HQ9.out (HP0.out _) qq v
                have hv : R0 i j = v := HVV.out
                rw [lst_set HI.out.1 HI.out.2.1 (HQQ.out.1.trans (congrArg Int.ofNat HI.out.2.2)), lst_congr (d := fun a b => if a = i ∧ b = j then v else upK R0 n2 q a b) (e := upK R0 n2 (q + 1)) (fun a b _ hb => by
                  rw [show q + 1 = i * n2 + j + 1 by have := HI.out.2.2; omega, upK_step HI.out.2.1 a b hb, ← HI.out.2.2]
                  by_cases h : a = i ∧ b = j
                  · rw [if_pos h, if_pos h, hv]
                  · rw [if_neg h, if_neg h])] at h1
                exact h1
            · have f6 : (ii == bj) = false := by simpa using hd
              have HD2 := Aside0.mk hd
              obtain ⟨u, hu⟩ : ∃ u, upT t x = u := ⟨_, rfl⟩
              obtain ⟨v, hv⟩ : ∃ v, clipV u = v := ⟨_, rfl⟩
              have HU : Aside0 (thresh_Up.f k t x = some u) := ⟨by rw [← hu]; exact th_up HB2.out HB3.out x⟩
              have TW := Aside0.mk (fun (W : World) => thresh_clip.calls u v W (by rw [← hv]; exact th_clip u))
              have HVV : Aside0 (R0 i j = v) := ⟨by
                have h1 : i ≠ j := by have := HIJ.out; have := HD.out; omega
                have h2 : i ≠ nb j := by have := HIJ.out; have := HBJ.out; have := HD2.out; omega
                rw [← HR0.out]; unfold roundM; rw [if_neg h1, if_neg h2, HX.out, hu, hv]⟩
              clear hd hu hv
              go_wp2
              go_quiet (fail)
              go_wp2
              obtain ⟨wq, hwq⟩ : ∃ wq, wr.drewN nq = wq := ⟨_, rfl⟩
              have HQ' := Aside0.mk (QS.next HQ.out (pw_below_drewN (Below.refl _ _) nq))
              clear hs1 HQ
              have HQ := HQ'
              clear HQ'
              have hs1 : (wr.drewN nq).cell? ⟨bq, 1, none⟩ = some (.slice (some ⟨g, 0, none⟩) NN cc) := (blk_cell HQ.out.q 1).trans rfl
              rw [hwq] at HQ hs1 ⊢
              clear hwq hx1
              go_region_held3 (fun w' => w'.cell? ⟨bq, 1, none⟩ = some (.slice (some ⟨g, 0, none⟩) NN cc)) (first | go_keep | exact KS)
                (first
               | (go_at_call 61; (with_reducible refine (UPT.out x u _ (QS.next HQ.out (below_drew (Below.refl _ _))).ob.below HU.out).mono ?_); rintro e' w8 ⟨rfl, hb⟩; have HQ8 := Aside0.mk (QS.next (QS.next HQ.out (below_drew (Below.refl _ _))) hb); have KS : w8.cell? ⟨bq, 1, none⟩ = some (.slice (some ⟨g, 0, none⟩) NN cc) := (blk_cell HQ8.out.q 1).trans rfl; clear hb)
               | (go_at_call 65; (with_reducible refine (TW.out _).mono ?_); rintro e' w9 ⟨rfl, hb⟩; have HQ9 := Aside0.mk (QS.next HQ8.out hb); have KS : w9.cell? ⟨bq, 1, none⟩ = some (.slice (some ⟨g, 0, none⟩) NN cc) := (blk_cell HQ9.out.q 1).trans rfl; clear hb; obtain ⟨hz1, hz2⟩ := Kd.R_celln 0 HQ9.out.rq qq HQB.out.1 HQB.out.2))
              go_wp2
              go_roundg (NN - (q + 1))
              case measure => have := HQQ.out; have := HQL.out; omega
              case rel =>
                refine ⟨q + 1, wrap64 (qq + 1), rfl, ⟨by have := HW.out; have := HQL.out; omega⟩, ⟨?_⟩⟩
                have h1 := QS.put HQ9.out (HP0.out _) qq v
                have hv : R0 i j = v := HVV.out
                rw [lst_set HI.out.1 HI.out.2.1 (HQQ.out.1.trans (congrArg Int.ofNat HI.out.2.2)), lst_congr (d := fun a b => if a = i ∧ b = j then v else upK R0 n2 q a b) (e := upK R0 n2 (q + 1)) (fun a b _ hb => by
                  rw [show q + 1 = i * n2 + j + 1 by have := HI.out.2.2; omega, upK_step HI.out.2.1 a b hb, ← HI.out.2.2]
                  by_cases h : a = i ∧ b = j
                  · rw [if_pos h, if_pos h, hv]
                  · rw [if_neg h, if_neg h])] at h1
                exact h1
        · have f3 : decide (qq < (NN : Int)) = false := decide_eq_false (by have := HQQ.out; omega)
          have eq : q = NN := by have := HQQ.out; omega
          have HEQ := Aside0.mk eq
          clear hlt eq
          have hrow := HQ.out.rq
          rw [HEQ.out, ← HNN.out, lst_congr (fun a b ha hb => upK_all a b ha hb)] at hrow
          have CL2 := Aside0.mk (fun (W : World) (hW : Below wr.heap.size wr W) => oct_Close_any Av cv rv Ac cc (lst n2 R0) false W (Kd.C_below (Kd.R_reads' HQ.out.rv).2.2 hW) (Kd.R_reads' HQ.out.rv).2.1 (Kd.C_below (by have := Kd.R_reads' hrow; exact this.2.2) hW) (by have := Kd.R_reads' hrow; rw [← this.1]; exact this.2.1) HRF.out)
          have hs0 : wr.cell? ⟨bq, 0, none⟩ = some (.slice Av rv.length cv) := (blk_cell HQ.out.q 0).trans rfl
          have hs1 : wr.cell? ⟨bq, 1, none⟩ = some (.slice Ac NN cc) := (blk_cell HQ.out.q 1).trans rfl
          have hs2 : wr.cell? ⟨bq, 2, none⟩ = some (.bool false) := (blk_cell HQ.out.q 2).trans rfl
          have hll : (lst n2 R0).length = NN := by rw [lst_length, HNN.out]
          rw [hll, ← HRR.out] at CL2
          clear hrow hll
          go_wp2_with (go_at_call 22; (with_reducible refine (CL2.out _ (Below.refl _ _)).mono ?_); rintro e' w4 ⟨v0, v1, rfl, h0, h1, hb⟩; obtain ⟨Ao, co, eo⟩ := Kd.R_slice h0; subst eo; obtain ⟨Ap, cp, ep⟩ := Kd.R_slice h1; subst ep; have H0 := Aside0.mk h0; have H1 := Aside0.mk h1; have HO4 := Aside0.mk (HQ.out.ob.next hb); have HBW := Aside0.mk HQ.out.ob.below.size; obtain ⟨⟨hr0, hr1, hr2⟩, hr3, hr4, hr5⟩ := HO4.out.res; clear h0 h1 hb hs0 hs1 hs2)
          refine bodyPost_ret (results_cell_row rfl _ _ br 25 #[.slice Ao r.1.length co, .slice Ap r.2.1.length cp, .bool r.2.2] (0, 0) _ rfl (store3 HO4.out.r _ _ _).1 Try.underlying25 rfl (by kernel_rfl)) rfl ?_
          exact ⟨_, _, rfl, OB.answer HO4.out HBW.out H0.out H1.out _⟩
end Go.Proofs.Ytomgebmimgaojaa.QO
end
end
section
namespace Go.Proofs.Ytomgebmimgaojaa.QO
open Go.RowKit Go.Proofs.YtomgebmimgaojaaW.PrintWords Go.Proofs.YtomgebmimgaojaaW.PrintLast
set_option linter.unusedVariables false
set_option linter.unusedSimpArgs false
noncomputable def upOkB (t : List Int) : Bool := @decide (UpOk t) (Classical.propDecidable _)
theorem upOkB_true {t : List Int} : upOkB t = true ↔ UpOk t := by unfold upOkB; exact @decide_eq_true_iff _ (Classical.propDecidable _)
noncomputable def thresh_Oct.f (k : Nat) (l0 : List Int) (l1_0 : List Int) (l1_1 : List Int) (a1_2 : Bool) : Option (List Int × List Int × Bool) :=
  if ofitB l1_0 l1_1 a1_2 = true then (if (closeF l1_0 l1_1 a1_2).2.2 = true then some (closeF l1_0 l1_1 a1_2) else (thresh_Fit.f k l0).bind fun b => (if b = true then (if upOkB l0 = true then some (closeF l1_0 (lst (2 * l1_0.length) (roundM l0 (closeM (2 * l1_0.length) (lowM l1_0.length l1_1)))) false) else none) else oct_Top.f k l1_0)) else none
theorem thresh_Oct.mono : ∀ a0 a1 a2 a3 k, LeO (thresh_Oct.f k a0 a1 a2 a3) (thresh_Oct.f (k + 1) a0 a1 a2 a3) := by
  intro a0 a1 a2 a3 k
  unfold thresh_Oct.f
  refine LeO.ite (LeO.ite (LeO.refl _) (LeO.bind (thresh_Fit.mono _ _) (fun _ => LeO.ite (LeO.refl _) (oct_Top.mono _ _)))) (LeO.refl _)
theorem thresh_Oct.calls (k : Nat) (A0 : Option Addr) (c0 : Nat) (l0 : List Int) (A1_0 : Option Addr) (c1_0 : Nat) (l1_0 : List Int) (A1_1 : Option Addr) (c1_1 : Nat) (l1_1 : List Int) (a1_2 : Bool) (r1 : List Int) (r2 : List Int) (r3 : Bool) (w : World) (hr0 : Kd.C (Kd.int .i64) w A0 l0.length l0) (hc0 : l0.length ≤ c0) (hr1_0 : Kd.C (Kd.int .i64) w A1_0 l1_0.length l1_0) (hc1_0 : l1_0.length ≤ c1_0) (hr1_1 : Kd.C (Kd.int .i64) w A1_1 l1_1.length l1_1) (hc1_1 : l1_1.length ≤ c1_1) (h : thresh_Oct.f k l0 l1_0 l1_1 a1_2 = some (r1, r2, r3)) :
    Calls Try.prog 26 #[.slice A0 l0.length c0, .agg #[.slice A1_0 l1_0.length c1_0, .slice A1_1 l1_1.length c1_1, .bool a1_2]] w fun e w' => ∃ v0_ v1_ : Value, e = .returned (.agg #[v0_, v1_, .bool r3]) ∧ Kd.R (Kd.int .i64) 3 w' w.heap.size (fun _ => True) v0_ r1 ∧ Kd.R (Kd.int .i64) 2 w' w.heap.size (fun _ => True) v1_ r2 ∧ Below w.heap.size w w' := by
  unfold thresh_Oct.f at h
  by_cases hf : ofitB l1_0 l1_1 a1_2 = true
  · rw [if_pos hf] at h
    refine thresh_Oct_any k A0 c0 l0 A1_0 c1_0 l1_0 A1_1 c1_1 l1_1 a1_2 w hr0 hc0 hr1_0 hc1_0 hr1_1 hc1_1 (ofitB_true.1 hf) (r1, r2, r3) ?_
    by_cases hb : (closeF l1_0 l1_1 a1_2).2.2 = true
    · rw [if_pos hb] at h
      exact .inl ⟨hb, (Option.some.inj h).symm⟩
    · rw [if_neg hb] at h
      obtain ⟨b, h1, h2⟩ := Option.bind_eq_some_iff.1 h
      have hb' : (closeF l1_0 l1_1 a1_2).2.2 = false := by simpa using hb
      cases b with
      | true =>
        rw [if_pos rfl] at h2
        by_cases hu : upOkB l0 = true
        · rw [if_pos hu] at h2
          exact .inr (.inr ⟨hb', h1, upOkB_true.1 hu, (Option.some.inj h2).symm⟩)
        · rw [if_neg hu] at h2; cases h2
      | false =>
        rw [if_neg (by decide)] at h2
        exact .inr (.inl ⟨hb', h1, h2⟩)
  · rw [if_neg hf] at h; cases h
end Go.Proofs.Ytomgebmimgaojaa.QO
end
section
noncomputable section
namespace Go.Proofs.Ytomgebmimgaojaa.QO
open Go.RowKit Go.Shelf Go.Proofs.YtomgebmimgaojaaW.PrintWords Go.Proofs.YtomgebmimgaojaaW.PrintLast Go.Proofs.YtomgebmimgaojaaW.PrintMore
open Go.Proofs.Ytomgebmimgaojaa.Pure Octs Holds Two Upper
open Go.Proofs.Ytomgebmimgaojaa.ThFacts (FitP)
set_option linter.unusedVariables false
section
variable {w W W' W0 : World} {x y z : OV} {vars t : List Int} {A : Option Addr} {c : Nat}
theorem awake13_o : Says 25 #[] W (.bool true) := gimballaw13_awake.calls 258 true W (by kernel_rfl)
theorem rfit_o (hx : Oc w W x) (hb : Below w.heap.size w W) (l : x.v.length ≤ 17592186044416) : Says 19 #[x.val] W (.bool (ofitB x.v x.m x.e)) :=
  gimbalref11_Fit.calls x.P x.p x.v x.Q x.q x.m x.e _ W (hx.r0.reads hb) hx.r0.le (hx.r1.reads hb) hx.r1.le (by unfold gimbalref11_Fit.f; rw [if_pos l])
theorem rfit_true (hx : Oc w W x) (hb : Below w.heap.size w W) (fx : OkV vars x) : Says 19 #[x.val] W (.bool true) := by
  have := rfit_o hx hb (by have := fit_lens fx.1; omega)
  rw [ofitB_true.2 fx.1] at this
  exact this
theorem rfit_at {b : Bool} (hx : Oc w W x) (hb : Below w.heap.size w W) (l : x.v.length ≤ 17592186044416) (e : ofitB x.v x.m x.e = b) : Says 19 #[x.val] W (.bool b) := by
  rw [← e]; exact rfit_o hx hb l
theorem tfit_ex (l : t.length ≤ 17592186044416) : ∃ b, (b = true → FitP t) ∧ ∀ {w W : World}, Kd.C (Kd.int .i64) w A t.length t → t.length ≤ c → Below w.heap.size w W → Says 27 #[.slice A t.length c] W (.bool b) := by
  obtain ⟨b, _, h2, h3⟩ := ThFacts.fits t l
  exact ⟨b, fun e => h3.1 e, fun h hc hb => (gimbalref13_Fit.calls 258 A c t b _ (Kd.C_below h hb) hc (h2 258 (Nat.le_refl _))).mono fun e w' ⟨he, hd⟩ => ⟨he, hd.below⟩⟩
theorem rleq_as {b : Bool} (hx : Oc w W x) (hy : Oc w W y) (hb : Below w.heap.size w W) (fx : OkV vars x) (fy : OkV vars y) (ht : leqF vars x.m x.e y.m y.e = b) : Says 30 #[x.val, y.val] W (.bool b) := by
  rw [← ht]; exact rleq_o hx hy hb fx fy
theorem th_own (ht : FitP t) (h : Kd.C (Kd.int .i64) w A t.length t) (hc : t.length ≤ c) (hb : Below w.heap.size w W) (hx : Oc W0 W x) (hb0 : Below W0.heap.size W0 W) (fx : OkV vars x) :
    Calls Try.prog 26 #[.slice A t.length c, x.val] W fun e W' => ∃ z : OV, e = .returned z.val ∧ z.o = thF t vars x.m x.e ∧ Own W W' z ∧ Below W.heap.size W W' := by
  obtain ⟨f, rfl⟩ := fx
  refine of_calls2 (thresh_Oct.calls 258 A c t x.P x.p x.v x.Q x.q x.m x.e _ _ _ W (Kd.C_below h hb) hc (hx.r0.reads hb0) hx.r0.le (hx.r1.reads hb0) hx.r1.le ?_)
  unfold thresh_Oct.f thF
  rw [if_pos (ofitB_true.2 f)]
  by_cases he : (closeF x.v x.m x.e).2.2 = true
  · rw [if_pos he, if_pos he]
  · rw [if_neg he, if_neg he, (fitb ht 258 (Nat.le_refl _)).1, Option.bind_some, if_pos rfl, if_pos (upOkB_true.2 (upOk_of ht))]
theorem itv_o (ht : FitP t) (h : Kd.C (Kd.int .i64) w A t.length t) (hc : t.length ≤ c) (hb : Below w.heap.size w W) {lo hi : Int} (h1 : lo ≤ hi) (h2 : -4611686018427387904 ≤ lo) (h3 : hi ≤ 4611686018427387904) (h4 : lo < 4611686018427387904) (h5 : -4611686018427387904 < hi) :
    Says 31 #[.slice A t.length c, .agg #[.int .i64 lo, .int .i64 hi]] W (.agg #[.int .i64 (dnT t lo), .int .i64 (upT t hi)]) :=
  thresh_Itv.calls 258 A c t lo hi _ _ W (Kd.C_below h hb) hc (itv_f ht h1 h2 h3 h4 h5 258 (Nat.le_refl _))
end
end Go.Proofs.Ytomgebmimgaojaa.QO
end
end
