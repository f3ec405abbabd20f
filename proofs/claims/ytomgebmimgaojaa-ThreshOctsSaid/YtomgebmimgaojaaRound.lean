/- Rounding the entries of a closed octagon gives a sound octagon: the plain law. -/
import Derived.Test.YtomgebmimgaojaaCloseW
import Derived.Test.YtomgebmimgaojaaQOx1061
import Derived.Test.YtomgebmimgaojaaQOx1064
noncomputable section
namespace Go.Proofs.Ytomgebmimgaojaa.QO
open Go.RowKit Go.Proofs.YtomgebmimgaojaaW.PrintWords Go.Proofs.YtomgebmimgaojaaW.PrintLast Go.Proofs.YtomgebmimgaojaaW.PrintMore
open OctMath (over overs plus Bd Fin' Top62 Closed Le IsClosure)

/-- the least threshold that is not less -/
def upT (t : List Int) (x : Int) : Int := rd t (firstAt (fun y => decide (y ≥ bfit x)) t)
def UpOk (t : List Int) : Prop := (∀ x : Int, firstAt (fun y => decide (y ≥ bfit x)) t < t.length) ∧ t.length ≤ 256
/-- two times a bound, as an entry -/
def twiceV (y : Int) : Int := if y > 1099511627776 then 4611686018427387904 else clipV (2 * mx y (-1099511627776))
/-- the rounded entries -/
def roundM (t : List Int) (c : Nat → Nat → Int) : Nat → Nat → Int := fun i j => if i = j then 0 else if i = nb j then twiceV (upT t (half (c i j))) else clipV (upT t (c i j))

theorem clipV_range (x : Int) : clipV x = 4611686018427387904 ∨ (-1099511627776 ≤ clipV x ∧ clipV x ≤ 1099511627776) := by
  unfold clipV; split
  · exact .inl rfl
  · split <;> (right; omega)
theorem twiceV_range (x : Int) : twiceV x = 4611686018427387904 ∨ (-1099511627776 ≤ twiceV x ∧ twiceV x ≤ 1099511627776) := by
  unfold twiceV; split
  · exact .inl rfl
  · exact clipV_range _
/-- a matrix that is its own mirror image -/
def Coh (n : Nat) (m : Nat → Nat → Int) : Prop := ∀ i j, i < n → j < n → m i j = m (nb j) (nb i)
theorem lowM_coh {vars m : List Int} (h : OFit vars m false) : Coh (2 * vars.length) (lowM vars.length m) := by
  intro i j hi hj
  have hbi := nb_lt hi; have hbj := nb_lt hj
  have e := ((h.2.2 rfl).2 (i : Int) (j : Int) (by omega) (by omega) (by omega) (by omega)).2.2
  unfold lowM
  rw [lowAt_same h (by omega) (by omega) (by omega) (by omega), lowAt_same h (by omega) (by omega) (by omega) (by omega), e, nbar_nb, nbar_nb]
theorem closure_coh {n : Nat} {m d : Nat → Nat → Int} (hn : ∀ i, i < n → nb i < n) (hm : Coh n m) (hd : IsClosure n m true d) (td : Top62 n d) : Coh n d := by
  obtain ⟨hc, hl, hg⟩ := hd.1 rfl
  have h2 : IsClosure n m true (fun i j => d (nb j) (nb i)) := by
    refine ⟨fun _ => ⟨⟨fun i hi => hc.1 _ (hn i hi), fun i j k hi hj hk => ?_⟩, fun i j hi hj => ?_, fun c cc tc lc i j hi hj => ?_⟩, fun h => (by cases h)⟩
    · have := hc.2 (nb j) (nb i) (nb k) (hn j hj) (hn i hi) (hn k hk)
      rw [OctMath.plus_comm] at this; exact this
    · show d (nb j) (nb i) ≤ m i j
      rw [hm i j hi hj]; exact hl _ _ (hn j hj) (hn i hi)
    · have h3 := hg (fun a b => c (nb b) (nb a)) ⟨fun a ha => cc.1 _ (hn a ha), fun a b k ha hb hk => by
        have := cc.2 (nb b) (nb a) (nb k) (hn b hb) (hn a ha) (hn k hk)
        rw [OctMath.plus_comm] at this; exact this⟩ (fun a b ha hb => tc _ _ (hn b hb) (hn a ha)) (fun a b ha hb => by
          show c (nb b) (nb a) ≤ m a b
          rw [hm a b ha hb]; exact lc _ _ (hn b hb) (hn a ha)) (nb j) (nb i) (hn j hj) (hn i hi)
      simp only [nb_nb] at h3
      exact h3
  intro i j hi hj
  exact (OctMath.closure_unique hd h2 (fun _ => td) (fun _ a b ha hb => td _ _ (hn b hb) (hn a ha))).2 rfl i j hi hj
theorem tig_coh {n : Nat} {d : Nat → Nat → Int} (h : Coh n d) : Coh n (tig d) := by
  intro i j hi hj
  unfold tig
  by_cases e : j = nb i
  · subst e; simp only [nb_nb]
  · have e2 : ¬ (nb i = nb (nb j)) := by rw [nb_nb]; exact fun h => e h.symm
    rw [if_neg e, if_neg e2]; exact h i j hi hj
theorem strg_coh {n : Nat} {t : Nat → Nat → Int} (h : Coh n t) : Coh n (strg t) := by
  intro i j hi hj
  unfold strg
  rw [nb_nb, nb_nb, h i j hi hj, OctMath.plus_comm (t (nb j) j)]
theorem ok_closure {vars m : List Int} (h : OFit vars m false) (hf : FloydOk (2 * vars.length) (lowM vars.length m)) : IsClosure (2 * vars.length) (lowM vars.length m) true (overs (lowM vars.length m) (2 * vars.length)) ∧ Bd (2 * vars.length) 72057594037927936 (overs (lowM vars.length m) (2 * vars.length)) := by
  obtain ⟨hM, hd⟩ := lowM_ok h
  have h8 := h.1.1
  have pw : (2 : Int) ^ (2 * vars.length) ≤ 2 ^ 16 := by
    have := Nat.pow_le_pow_right (n := 2) (by decide) (show 2 * vars.length ≤ 16 by omega)
    exact_mod_cast this
  have h16 : (1099511627776 : Int) * 2 ^ (2 * vars.length) ≤ 1099511627776 * 2 ^ 16 := Int.mul_le_mul_of_nonneg_left pw (by decide)
  exact ⟨OctMath.overs_closure hM (by decide) (by omega) hd (fun k i hk hi => hf k i hk hi), overs_bd hM (by omega)⟩
/-- the closed entries: their mirror image, their diagonal, their halves -/
theorem closeM_law {vars m : List Int} (h : OFit vars m false) (hc : CloseOk (2 * vars.length) (lowM vars.length m)) :
    Coh (2 * vars.length) (closeM (2 * vars.length) (lowM vars.length m)) ∧ (∀ i, i < 2 * vars.length → closeM (2 * vars.length) (lowM vars.length m) i i = 0) ∧
      (∀ i, i < 2 * vars.length → ∃ z, closeM (2 * vars.length) (lowM vars.length m) i (nb i) = 2 * z) := by
  obtain ⟨hcl, hbd⟩ := ok_closure h hc.1
  have hn : ∀ i, i < 2 * vars.length → nb i < 2 * vars.length := fun i hi => nb_lt hi
  have c0 := closure_coh hn (lowM_coh h) hcl (OctMath.fin_of_low hbd (by decide))
  have c1 := strg_coh (tig_coh c0)
  refine ⟨fun i j hi hj => ?_, fun i hi => ?_, fun i hi => ?_⟩
  · unfold closeM; rw [c1 i j hi hj]
  · have h0 := (hcl.1 rfl).1.1 i hi
    have hs := hc.2 i hi
    have ht : tig (overs (lowM vars.length m) (2 * vars.length)) i i = 0 := by
      unfold tig; rw [if_neg (fun e => nb_ne i e.symm)]; exact h0
    have hp : 0 ≤ half (plus (tig (overs (lowM vars.length m) (2 * vars.length)) i (nb i)) (tig (overs (lowM vars.length m) (2 * vars.length)) (nb i) i)) := by
      unfold half; split
      · exact hs
      · omega
    have e : strg (tig (overs (lowM vars.length m) (2 * vars.length))) i i = 0 := by
      unfold strg mn; rw [ht, if_neg (by omega)]
    unfold closeM; rw [e]; rfl
  · obtain ⟨x, hx⟩ : ∃ x, tig (overs (lowM vars.length m) (2 * vars.length)) i (nb i) = x := ⟨_, rfl⟩
    have hev : x = 4611686018427387904 ∨ ∃ z, x = 2 * z := by
      rw [← hx]; unfold tig; rw [if_pos rfl]; split
      · exact .inl rfl
      · exact .inr ⟨_, rfl⟩
    have hb : Fin' 72057594037927938 x := by rw [← hx]; exact tig_bd hbd (by decide) i (nb i) hi (hn i hi)
    have e : strg (tig (overs (lowM vars.length m) (2 * vars.length))) i (nb i) = x := by
      unfold strg; rw [nb_nb, hx]
      have hp : half (plus x x) = x := by
        unfold Fin' at hb
        by_cases hi : x = 4611686018427387904
        · have hpl : plus x x = 4611686018427387904 := by unfold plus; rw [if_pos (.inl hi)]
          unfold half; rw [if_pos hpl, hpl]; exact hi.symm
        · have hpl : plus x x = x + x := by unfold plus; rw [if_neg (by omega)]
          unfold half; rw [hpl, if_neg (by omega)]; omega
      rw [hp]; unfold mn; simp
    unfold closeM; rw [e]
    unfold clipV
    split
    · exact ⟨2305843009213693952, by decide⟩
    · split
      · exact ⟨-549755813888, by decide⟩
      · rcases hev with e | ⟨z, e⟩
        · exact ⟨2305843009213693952, e⟩
        · exact ⟨z, e⟩
/-- **what is rounded is a sound octagon** -/
theorem round_fit {vars m t : List Int} (h : OFit vars m false) (hc : CloseOk (2 * vars.length) (lowM vars.length m)) :
    OFit vars (lst (2 * vars.length) (roundM t (closeM (2 * vars.length) (lowM vars.length m)))) false := by
  have hcoh := (closeM_law h hc).1
  refine ⟨h.1, fun h => (by cases h), fun _ => ⟨by rw [lst_length]; push_cast; rfl, fun i j h0 h1 h2 h3 => ?_⟩⟩
  obtain ⟨a, rfl⟩ : ∃ a : Nat, i = (a : Int) := ⟨i.toNat, by omega⟩
  obtain ⟨b, rfl⟩ : ∃ b : Nat, j = (b : Int) := ⟨j.toNat, by omega⟩
  have ha : a < 2 * vars.length := by omega
  have hb : b < 2 * vars.length := by omega
  have e1 : (a : Int) * (2 * (vars.length : Int)) + (b : Int) = ((a * (2 * vars.length) + b : Nat) : Int) := by push_cast; rfl
  have e2 : nbar (b : Int) * (2 * (vars.length : Int)) + nbar (a : Int) = ((nb b * (2 * vars.length) + nb a : Nat) : Int) := by rw [nbar_nb, nbar_nb]; push_cast; rfl
  unfold EntryOk
  rw [lst_rd ha hb e1, lst_rd (nb_lt hb) (nb_lt ha) e2]
  refine ⟨?_, fun e => ?_, ?_⟩
  · unfold roundM; split
    · right; omega
    · split
      · exact twiceV_range _
      · exact clipV_range _
  · have : a = b := by omega
    unfold roundM; rw [if_pos this]
  · unfold roundM
    by_cases e : a = b
    · subst e; rw [if_pos rfl, if_pos rfl]
    · have e' : ¬ nb b = nb a := fun h => e (by rw [← nb_nb a, ← h, nb_nb])
      rw [if_neg e, if_neg e']
      by_cases f : a = nb b
      · subst f; simp only [nb_nb]
      · have f' : ¬ nb b = nb (nb a) := fun h => f (by rw [nb_nb] at h; exact h.symm)
        rw [if_neg f, if_neg f', hcoh a b ha hb]
end Go.Proofs.Ytomgebmimgaojaa.QO
