/- Own texts of this claim, joined: Upper, WalkRLeq, WalkRJoin, ThOct, QOx1026, OSU, Chain, OSC, WalkThreshChains, Open -/
import Derived.Test.YtomgebmimgaojaaBTC0
import Derived.Test.YtomgebmimgaojaaBTC1
import Derived.Test.YtomgebmimgaojaaBTC2
import Derived.Test.YtomgebmimgaojaaBTC3
import Derived.Test.YtomgebmimgaojaaBTC4
import Derived.ChangeArms
import Derived.SizedLaws
section
noncomputable section
namespace Go.Proofs.Ytomgebmimgaojaa.Pure
open Go.RowKit Go.Proofs.Ytomgebmimgaojaa.QO Go.Proofs.YtomgebmimgaojaaW.PrintWords Go.Proofs.YtomgebmimgaojaaW.PrintLast Go.Proofs.YtomgebmimgaojaaW.PrintMore
open Go.Proofs.Ytomgebmimgaojaa.ThFacts (FitP)
open OctMath (Le Fin' Bd)
namespace Upper
variable {t : List Int}
theorem upOk_of {t : List Int} (h : FitP t) : UpOk t := by
  refine ⟨fun x => ?_, h.2.1⟩
  have hin := bfit_in x
  have hlast : rd t ((t.length - 1 : Nat) : Int) = 4611686018427387904 := by have := h.2.2.2.1; rw [← this]; congr 1; have := h.1; omega
  have := ThFacts.firstAt_lt (fun y => decide (y ≥ bfit x)) t (t.length - 1) (by have := h.1; omega) (by rw [← ThFacts.rd_nat, hlast]; exact decide_eq_true (by omega))
  have := h.1; omega
theorem fitb {t : List Int} (h : FitP t) : ∀ k, 258 ≤ k → thresh_Fit.f k t = some true ∧ gimbalref13_Fit.f k t = some true := by
  obtain ⟨b, h1, h2, h3⟩ := ThFacts.fits t (by have := h.2.1; omega)
  have hb : b = true := h3.2 h
  subst hb
  exact fun k hk => ⟨h1 k hk, h2 k hk⟩
theorem up_at (h : FitP t) (x : Int) : ∃ N : Nat, N < t.length ∧ upT t x = rd t N ∧ rd t N ≥ bfit x ∧ ∀ j : Nat, j < t.length → rd t j ≥ bfit x → rd t N ≤ rd t j := by
  obtain ⟨h1, h2⟩ := ThFacts.firstAt_spec (fun y => decide (y ≥ bfit x)) t
  have hN := (upOk_of h).1 x
  refine ⟨firstAt (fun y => decide (y ≥ bfit x)) t, hN, rfl, ?_, fun j hj hx => ?_⟩
  · have := h2 hN
    rw [← ThFacts.rd_nat] at this
    exact of_decide_eq_true this
  · refine ThFacts.rising' h (by omega) ?_ (by omega)
    have := ThFacts.firstAt_lt (fun y => decide (y ≥ bfit x)) t j hj (by rw [← ThFacts.rd_nat]; exact decide_eq_true hx)
    omega
theorem th_range (h : FitP t) (N : Nat) (hN : N < t.length) : -4611686018427387904 ≤ rd t N ∧ rd t N ≤ 4611686018427387904 := by
  have a := ThFacts.rising' h (i := 0) (j := N) (by omega) (by omega) (by omega)
  have b := ThFacts.rising' h (i := N) (j := (t.length : Int) - 1) (by omega) (by omega) (by omega)
  rw [h.2.2.1] at a
  rw [h.2.2.2.1] at b
  exact ⟨a, b⟩
theorem bfit_id {x : Int} (h : -4611686018427387904 ≤ x) (h' : x ≤ 4611686018427387904) : bfit x = x := by unfold bfit; rw [if_neg (by omega), if_neg (by omega)]
theorem bfit_mono {x y : Int} (h : x ≤ y) : bfit x ≤ bfit y := by unfold bfit; split <;> split <;> (try split) <;> (try split) <;> omega
theorem up_range (h : FitP t) (x : Int) : -4611686018427387904 ≤ upT t x ∧ upT t x ≤ 4611686018427387904 := by
  obtain ⟨N, hN, e, _, _⟩ := up_at h x
  rw [e]; exact th_range h N hN
theorem up_ge (h : FitP t) {x : Int} (h1 : -4611686018427387904 ≤ x) (h2 : x ≤ 4611686018427387904) : x ≤ upT t x := by
  obtain ⟨N, hN, e, g, _⟩ := up_at h x
  rw [bfit_id h1 h2] at g
  omega
theorem up_mono (h : FitP t) {x y : Int} (hxy : x ≤ y) : upT t x ≤ upT t y := by
  obtain ⟨N, hN, e, _, l⟩ := up_at h x
  obtain ⟨M, hM, e', g, _⟩ := up_at h y
  rw [e, e']
  exact l M hM (Int.le_trans (bfit_mono hxy) g)
theorem up_top (h : FitP t) : upT t 4611686018427387904 = 4611686018427387904 := by
  have := up_ge h (x := 4611686018427387904) (by decide) (by decide)
  have := up_range h 4611686018427387904
  omega
def rc (t : List Int) (x : Int) : Int := clipV (upT t x)
def rb (t : List Int) (x : Int) : Int := twiceV (upT t (half x))
theorem roundM_eq (c : Mx) (i j : Nat) : roundM t c i j = if i = j then 0 else if i = nb j then rb t (c i j) else rc t (c i j) := rfl
theorem clip_cases (x : Int) : (x > 1099511627776 ∧ clipV x = 4611686018427387904) ∨ (x < -1099511627776 ∧ clipV x = -1099511627776) ∨ (-1099511627776 ≤ x ∧ x ≤ 1099511627776 ∧ clipV x = x) := by unfold clipV; split <;> (try split) <;> omega
theorem rc_ge (h : FitP t) {x : Int} (hx : Fin' 1099511627776 x) : x ≤ rc t x := by
  have hx' : -4611686018427387904 ≤ x ∧ x ≤ 4611686018427387904 := by unfold Fin' at hx; omega
  have := up_ge h hx'.1 hx'.2
  unfold rc
  rcases clip_cases (upT t x) with q | q | q <;> (unfold Fin' at hx; omega)
theorem rc_mono (h : FitP t) {x y : Int} (hxy : x ≤ y) : rc t x ≤ rc t y := by
  have := up_mono h hxy
  unfold rc
  rcases clip_cases (upT t x) with q | q | q <;> rcases clip_cases (upT t y) with r | r | r <;> omega
def Even2 (x : Int) : Prop := x = 4611686018427387904 ∨ ∃ z, x = 2 * z
theorem rb_cases (h : FitP t) {x : Int} (hx : Fin' 1099511627776 x) (he : Even2 x) : (rb t x = 4611686018427387904 ∧ (x = 4611686018427387904 ∨ upT t (half x) > 549755813888)) ∨ (x ≠ 4611686018427387904 ∧ rb t x = 2 * upT t (half x) ∧ x ≤ 2 * upT t (half x) ∧ upT t (half x) ≤ 549755813888) := by
  by_cases e : x = 4611686018427387904
  · left
    subst e
    refine ⟨?_, .inl rfl⟩
    unfold rb
    rw [show half 4611686018427387904 = 4611686018427387904 from rfl, up_top h]; rfl
  · have hx1 : -1099511627776 ≤ x ∧ x ≤ 1099511627776 := by unfold Fin' at hx; omega
    obtain ⟨z, rfl⟩ : ∃ z, x = 2 * z := by rcases he with he | he; exact absurd he e; exact he
    have hh : half (2 * z) = z := by unfold half; rw [if_neg e]; omega
    have g := up_ge h (x := z) (by omega) (by omega)
    unfold rb
    rw [hh]
    have hm : mx (upT t z) (-1099511627776) = upT t z := by unfold mx; split <;> omega
    unfold twiceV
    rw [hm]
    by_cases c : upT t z > 1099511627776
    · rw [if_pos c]; left; exact ⟨rfl, .inr (by omega)⟩
    · rw [if_neg c]
      rcases clip_cases (2 * upT t z) with q | q | q
      · left; exact ⟨q.2, .inr (by omega)⟩
      · exfalso; omega
      · right; exact ⟨e, q.2.2, by omega, by omega⟩
theorem rb_ge (h : FitP t) {x : Int} (hx : Fin' 1099511627776 x) (he : Even2 x) : x ≤ rb t x := by
  rcases rb_cases h hx he with q | q
  · unfold Fin' at hx; omega
  · omega
theorem rb_mono (h : FitP t) {x y : Int} (hx : Fin' 1099511627776 x) (hy : Fin' 1099511627776 y) (ex : Even2 x) (ey : Even2 y) (hxy : x ≤ y) : rb t x ≤ rb t y := by
  have hh : half x ≤ half y := by
    unfold half Fin' at *; split <;> split <;> omega
  have := up_mono h hh
  rcases rb_cases h hx ex with q | q <;> rcases rb_cases h hy ey with r | r <;> (try omega)
theorem close_even {n : Nat} {m : Mx} (h : Snd n m) (hc : CloseOk n m) (i : Nat) (hi : i < n) : Even2 (closeM n m i (nb i)) := by
  have e := (tgt_of h hc).ev i hi
  rw [closeM_eq]
  rcases clip_cases (tgtM n m i (nb i)) with q | q | q
  · exact .inl q.2
  · rw [q.2]; exact .inr ⟨-549755813888, by decide⟩
  · rw [q.2.2]; exact e
def BarEven (n : Nat) (c : Mx) : Prop := ∀ i, i < n → Even2 (c i (nb i))
section
variable {n : Nat} {A C : Mx}
theorem round_snd (h : Snd n A) : Snd n (roundM t A) := by
  refine ⟨h.ev, fun i j hi hj => ?_, fun i j hi hj => ?_, fun i hi => by rw [roundM_eq, if_pos rfl]⟩
  · unfold roundM
    split
    · right; omega
    · split
      · exact twiceV_range _
      · exact clipV_range _
  · unfold roundM
    by_cases e : i = j
    · subst e; rw [if_pos rfl, if_pos rfl]
    · have e' : ¬ nb j = nb i := fun h => e (by rw [← nb_nb i, ← h, nb_nb])
      rw [if_neg e, if_neg e']
      by_cases f : i = nb j
      · subst f; simp only [nb_nb]
      · have f' : ¬ nb j = nb (nb i) := fun h => f (by rw [nb_nb] at h; exact h.symm)
        rw [if_neg f, if_neg f', h.coh i j hi hj]
theorem bar_of {n : Nat} {c : Mx} (hb : BarEven n c) {i j : Nat} (hi : i < n) (e : i = nb j) : Even2 (c i j) := by
  have := hb i hi
  rw [e, nb_nb] at this
  rw [e]; exact this
theorem round_ge (ht : FitP t) (h : Snd n A) (hb : BarEven n A) : Le n A (roundM t A) := by
  intro i j hi hj
  rw [roundM_eq]
  by_cases e : i = j
  · subst e; rw [if_pos rfl, h.dg i hi]; exact Int.le_refl _
  · rw [if_neg e]
    by_cases f : i = nb j
    · rw [if_pos f]; exact rb_ge ht (h.bd i j hi hj) (bar_of hb hi f)
    · rw [if_neg f]; exact rc_ge ht (h.bd i j hi hj)
theorem round_mono (ht : FitP t) (h : Snd n A) (h' : Snd n C) (hb : BarEven n A) (hb' : BarEven n C) (l : Le n A C) : Le n (roundM t A) (roundM t C) := by
  intro i j hi hj
  rw [roundM_eq, roundM_eq]
  by_cases e : i = j
  · rw [if_pos e, if_pos e]; exact Int.le_refl _
  · rw [if_neg e, if_neg e]
    by_cases f : i = nb j
    · rw [if_pos f, if_pos f]; exact rb_mono ht (h.bd i j hi hj) (h'.bd i j hi hj) (bar_of hb hi f) (bar_of hb' hi f) (l i j hi hj)
    · rw [if_neg f, if_neg f]; exact rc_mono ht (l i j hi hj)
def rhoM (n : Nat) (t : List Int) (A : Mx) : Mx := closeM n (roundM t A)
theorem rho_ok (ht : FitP t) {m : Mx} (h : Snd n m) (hc : CloseOk n m) : CloseOk n (roundM t (closeM n m)) ∧ Le n (closeM n m) (rhoM n t (closeM n m)) := by
  have hs := snd_close h hc
  have tw := close_twice h hc
  have r := round_ge ht hs (fun i hi => close_even h hc i hi)
  obtain ⟨c1, _, c3⟩ := close_mono hs (round_snd (t := t) hs) tw.1 (fun i j hi hj => Int.le_trans (tgt_le hs tw.1 i j hi hj) (r i j hi hj))
  exact ⟨c1, fun i j hi hj => by rw [← tw.2 i j hi hj]; exact c3 i j hi hj⟩
theorem rho_mono (ht : FitP t) {m m' : Mx} (h : Snd n m) (hc : CloseOk n m) (h' : Snd n m') (hc' : CloseOk n m') (l : Le n (closeM n m) (closeM n m')) : Le n (rhoM n t (closeM n m)) (rhoM n t (closeM n m')) := by
  have hs := snd_close h hc
  have hs' := snd_close h' hc'
  have r := round_mono ht hs hs' (fun i hi => close_even h hc i hi) (fun i hi => close_even h' hc' i hi) l
  have s := round_snd (t := t) hs
  obtain ⟨_, _, c3⟩ := close_mono s (round_snd (t := t) hs') (rho_ok ht h hc).1 (fun i j hi hj => Int.le_trans (tgt_le s (rho_ok ht h hc).1 i j hi hj) (r i j hi hj))
  exact c3
end
def thF (t vars m : List Int) (e : Bool) : List Int × List Int × Bool := if (closeF vars m e).2.2 = true then closeF vars m e else closeF vars (lst (2 * vars.length) (roundM t (closeM (2 * vars.length) (lowM vars.length m)))) false
section
variable {vars m m' : List Int} {e e' : Bool} {A B : Option Mx}
inductive RMean (n : Nat) (t : List Int) : Option Mx → Option Mx → Prop
  | none : RMean n t none none
  | some {c P : Mx} (h : Snd n c) (hc : CloseOk n c) (q : ∀ i j, i < n → j < n → P i j = rhoM n t (closeM n c) i j) : RMean n t (some (closeM n c)) (some P)
theorem th_mean (ht : FitP t) (h : OFit vars m e) (a : Mean vars m e A) : OFit vars (thF t vars m e).2.1 (thF t vars m e).2.2 ∧ (thF t vars m e).1 = vars ∧ ∃ P, Mean vars (thF t vars m e).2.1 (thF t vars m e).2.2 P ∧ RMean (2 * vars.length) t A P ∧ ((thF t vars m e).2.2 = true → (thF t vars m e).2.1 = []) := by
  unfold thF
  cases a with
  | none h1 h2 =>
    rw [h1, if_pos rfl]
    have q : closeF vars [] true = (vars, [], true) := by unfold closeF; rw [if_pos rfl]
    exact ⟨fit_none h.1, rfl, none, .none q (.inl rfl), .none, fun _ => rfl⟩
  | some h1 he hc hs =>
    subst he
    rw [h1, if_neg (by simp)]
    have sm := snd_of_fit h
    have rs := round_snd (t := t) hs
    have ro := rho_ok ht sm hc
    have hf := fit_of_snd h.1 rs
    -- the list of the rounded entries, closed
    have sn := snd_of_fit hf
    have ex := close_ext rs sn (fun i j hi hj => (lowM_lst h.1 rs i j hi hj).symm) ro.1
    have hcl : closeF vars (lst (2 * vars.length) (roundM t (closeM (2 * vars.length) (lowM vars.length m)))) false = (vars, lst (2 * vars.length) (closeM (2 * vars.length) (lowM vars.length (lst (2 * vars.length) (roundM t (closeM (2 * vars.length) (lowM vars.length m)))))), false) := by
      rcases close_cases hf with ⟨_, h2⟩ | ⟨_, _, h3⟩
      · rcases h2 with h2 | h2
        · cases h2
        · exact absurd ex.1 h2
      · exact h3
    rw [hcl]
    have tw := close_twice sn ex.1
    have ss := snd_close sn ex.1
    obtain ⟨hf2, K, hK, hKe⟩ := lst_mean h.1 ss tw.1
    exact ⟨hf2, rfl, some K, hK, .some sm hc (fun i j hi hj => by rw [hKe i j hi hj, tw.2 i j hi hj, ← ex.2 i j hi hj]; rfl), fun h => (by cases h)⟩
theorem rmean_le (ht : FitP t) {n : Nat} {P Q : Option Mx} (a : RMean n t A P) (b : RMean n t B Q) (l : OLe n A B) : OLe n A P ∧ OLe n P Q := by
  cases a with
  | none => exact ⟨trivial, trivial⟩
  | some h hc q =>
    refine ⟨fun i j hi hj => by rw [q i j hi hj]; exact (rho_ok ht h hc).2 i j hi hj, ?_⟩
    cases b with
    | none => exact l.elim
    | some h' hc' q' => exact fun i j hi hj => by rw [q i j hi hj, q' i j hi hj]; exact rho_mono ht h hc h' hc' l i j hi hj
end
end Upper
end Go.Proofs.Ytomgebmimgaojaa.Pure
end
end
section
noncomputable section
namespace Go.Proofs.Ytomgebmimgaojaa.QO
open Go.RowKit Go.Shelf Go.Proofs.YtomgebmimgaojaaW.PrintWords Go.Proofs.YtomgebmimgaojaaW.PrintLast Go.Proofs.YtomgebmimgaojaaW.PrintMore
open Go.Proofs.Ytomgebmimgaojaa.Pure Octs Two
attribute [local go_sem] Oper.semAt_some
attribute [local go_sem ↓] Go.wp_at_zero Go.wp_at_succ
set_option linter.unusedVariables false
set_option linter.unusedSimpArgs false
theorem leqL_at {vars : List Int} {A B : Mx} (hv : VarsOk vars) (ha : Snd (2 * vars.length) A) (hb : Snd (2 * vars.length) B) : leqL (2 * vars.length) (lst (2 * vars.length) A) (lst (2 * vars.length) B) = true ↔ ∀ k : Nat, k < 2 * vars.length * (2 * vars.length) → rd (lst (2 * vars.length) A) (k : Int) ≤ rd (lst (2 * vars.length) B) (k : Int) := by
 have at_ : ∀ (C : Mx) (k : Nat), k < 2 * vars.length * (2 * vars.length) → rd (lst (2 * vars.length) C) (k : Int) = C (k / (2 * vars.length)) (k % (2 * vars.length)) := fun C k hk => by
  have h0 : 0 < 2 * vars.length := by
   by_cases e : 2 * vars.length = 0
   ·
    rw [e] at hk; omega
   ·
    omega
  refine lst_rd (Nat.div_lt_of_lt_mul hk) (Nat.mod_lt _ h0) ?_
  congr 1
  rw [Nat.mul_comm]; exact (Nat.div_add_mod k _).symm
 unfold leqL
 rw [List.all_eq_true]
 constructor
 ·
  intro h k hk
  have := h k (by simpa using hk)
  obtain ⟨h1, h2⟩ := pairAt_lst hv ha hb k hk
  rw [h1, h2] at this
  rw [at_ A k hk, at_ B k hk]
  exact of_decide_eq_true this
 ·
  intro h k hk
  have hk' : k < 2 * vars.length * (2 * vars.length) := by simpa using hk
  obtain ⟨h1, h2⟩ := pairAt_lst hv ha hb k hk'
  rw [h1, h2]
  have := h k hk'
  rw [at_ A k hk', at_ B k hk'] at this
  exact decide_eq_true this
def rleq_T : Bool × List (List Nat × List Nat) := (true, [([], []), ([0], [0]), ([], []), ([2, 1], [2]), ([], []), ([], []), ([4, 1, 3, 0, 1, 4, 5], [1, 4]), ([5, 3, 6, 0, 1, 2, 3, 4, 5, 6], [3, 5])])
def rleq_T7 : Bool × List (List Nat × List Nat) := (true, [([], []), ([0], [0]), ([], []), ([1, 2], [1, 2]), ([3], [3]), ([], []), ([5], [5]), ([], []), ([6, 7], [6, 7]), ([8], [8]), ([4, 9], [4, 9])])
def rleq_B7 : List Nat := [0, 1, 0, 7, 15, 0, 32, 0, 224, 480, 1023]
theorem rleq_tab7 : rtab .any (opsOf Try.f30 7) = rleq_T7 := by kernel_rfl
theorem rleq_bits7 : waitsOk rleq_T7.2 rleq_B7 = true := by kernel_rfl
def rleq_B : List Nat := [0, 1, 0, 7, 0, 0, 63, 127]
theorem rleq_tab : rtab .any (opsOf Try.f30 1) = rleq_T := by kernel_rfl
theorem rleq_bits : waitsOk rleq_T.2 rleq_B = true := by kernel_rfl
theorem rclose_o {w W : World} {x : OV} (hx : Oc w W x) (hb : Below w.heap.size w W) (fx : OFit x.v x.m x.e) :
 Calls Try.prog 23 #[x.val] W fun e W' => ∃ z : OV, e = .returned z.val ∧ z.o = closeF x.v x.m x.e ∧ Oc w W' z ∧ Below W.heap.size W W' := by
 obtain ⟨K, hK⟩ := close_ev fx
 exact of_calls (gimbalref11_Close.calls K x.P x.p x.v x.Q x.q x.m x.e _ _ _ W (hx.r0.reads hb) hx.r0.le (hx.r1.reads hb) hx.r1.le (hK K (Nat.le_refl _)))
set_option maxHeartbeats 16000000 in
set_option maxRecDepth 100000 in
theorem rleq_o {vars : List Int} {X Y : OV} {w0 w : World} (hX : Oc w0 w X) (hY : Oc w0 w Y) (h0 : Below w0.heap.size w0 w) (fx : OkV vars X) (fy : OkV vars Y) : Says 30 #[X.val, Y.val] w (.bool (leqF vars X.m X.e Y.m Y.e)) := by
 have hu25 := Try.underlying25
 obtain ⟨ans, hans⟩ : ∃ t, leqF vars X.m X.e Y.m Y.e = t := ⟨_, rfl⟩
 rw [hans]
 have HAN := Aside0.mk hans
 clear hans
 have hX' : Oc w w X := ⟨⟨hX.r0.le, .inl (hX.r0.reads h0)⟩, ⟨hX.r1.le, .inl (hX.r1.reads h0)⟩⟩
 have hY' : Oc w w Y := ⟨⟨hY.r0.le, .inl (hY.r0.reads h0)⟩, ⟨hY.r1.le, .inl (hY.r1.reads h0)⟩⟩
 have HS := Aside0.mk (LS.two X Y hX' hY')
 have HF := Aside0.mk (And.intro fx fy)
 clear hX hY h0 hX' hY' fx fy
 go_enter Try.func30, Try.ntmps30
 go_upto_region 1 with fail
 generalize hW2 : ((w.alloc X.cells).alloc Y.cells) = W2 at HS ⊢
 generalize hgb : w.heap.size + 1 = gb at HS ⊢
 generalize hga : w.heap.size = ga at HS ⊢
 clear hW2 hgb hga
 refine startN_ (n := 8) (S := fun w' => w'.cell? ⟨ga, 0, none⟩ = some (.slice X.P X.v.length X.p) ∧ w'.cell? ⟨ga, 1, none⟩ = some (.slice X.Q X.m.length X.q) ∧ w'.cell? ⟨ga, 2, none⟩ = some (.bool X.e) ∧ w'.cell? ⟨gb, 0, none⟩ = some (.slice Y.P Y.v.length Y.p) ∧ w'.cell? ⟨gb, 1, none⟩ = some (.slice Y.Q Y.m.length Y.q) ∧ w'.cell? ⟨gb, 2, none⟩ = some (.bool Y.e)) (ds := [6, 7]) (mB 8 0) (by kernel_rfl) rfl (by kernel_rfl) ⟨(HS.out.drew.cell m0_).1, (HS.out.drew.cell m0_).2.1, (HS.out.drew.cell m0_).2.2, HS.out.drew.cell m1_⟩ (fun hHeld => ?_)
 refine with_tabW rleq_tab rleq_bits (fun HT_ HW_ => ?_)
 have n_ := Aside0.mk HS.out.drew; clear HS; have HS := n_; clear n_
 generalize hWd : World.drew _ = Wd at HS hHeld ⊢; clear hWd
 refine tV_ 0 8 (mB 8 1) HT_ HW_ hHeld ?_
 refine tV_ 2 10 (mB 8 5) HT_ HW_ hHeld ?_
 refine join_ (σ := OV × OV × Nat × Nat) 2 (mB 8 63) (fun s_ => [(9, .agg #[.slice s_.1.P s_.1.v.length s_.1.p, .slice s_.1.Q s_.1.m.length s_.1.q, .bool s_.1.e]), (11, .agg #[.slice s_.2.1.P s_.2.1.v.length s_.2.1.p, .slice s_.2.1.Q s_.2.1.m.length s_.2.1.q, .bool s_.2.1.e]), (5, .pointer (some ⟨s_.2.2.1, 0, none⟩)), (6, .pointer (some ⟨s_.2.2.2, 0, none⟩))]) (fun s_ w' => (s_.1.o = closeF X.v X.m X.e) ∧ (s_.2.1.o = closeF Y.v Y.m Y.e) ∧ LS w [(ga, X), (gb, Y)] [s_.2.1, s_.1] [s_.2.2.1, s_.2.2.2] w') ?_ ?_
 rotate_left
 ·
  intro hJ
  refine three_ (i := 1) (j := 4) (k := 5) (Ni := some 9) (Nj := some 5) (Nk := some 6) (mB 8 7) (mB 8 21) (mB 8 37) rfl rfl rfl rfl rfl rfl (three_of HT_.out (by kernel_rfl)) (by decide) (by decide) (by decide) (fun K hK => ?_) (fun K hK => ?_) (fun K hK => ?_)
  ·
   refine goes_ Try.func23 (by kernel_rfl) rfl #[X.val] (by rfl) rfl rfl vL ?_
   with_reducible refine (rclose_o (LS.oc HS m0_) (LS.bel HS) HF.out.1.1).mono ?_
   rintro e wk ⟨xv, rfl, hx, ho, hb⟩; refine ⟨_, rfl, ?_⟩
   have n_ := Aside0.mk (HS.out.call hb ho); clear HS; have HS := n_; clear n_ ho hb
   refine hK.out _ _ ⟨(HS.out.cell m0_).1, (HS.out.cell m0_).2.1, (HS.out.cell m0_).2.2, HS.out.cell m1_⟩ (fun hHeld => ?_)
   clear hK K
   refine nO_ 9 ?_
   refine three_ (i := 3) (j := 4) (k := 5) (Ni := some 11) (Nj := some 5) (Nk := some 6) (mB 8 15) (mB 8 23) (mB 8 39) rfl rfl rfl rfl rfl rfl (three_of HT_.out (by kernel_rfl)) (by decide) (by decide) (by decide) (fun K hK => ?_) (fun K hK => ?_) (fun K hK => ?_)
   ·
    refine goes_ Try.func23 (by kernel_rfl) rfl #[Y.val] (by rfl) rfl rfl vL ?_
    with_reducible refine (rclose_o (LS.oc HS m1_) (LS.bel HS) HF.out.2.1).mono ?_
    rintro e wk ⟨yv, rfl, hy, ho, hb⟩; refine ⟨_, rfl, ?_⟩
    have n_ := Aside0.mk (HS.out.call hb ho); clear HS; have HS := n_; clear n_ ho hb
    refine hK.out _ _ ⟨(HS.out.cell m0_).1, (HS.out.cell m0_).2.1, (HS.out.cell m0_).2.2, HS.out.cell m1_⟩ (fun hHeld => ?_)
    clear hK K
    refine nO_ 11 ?_
    refine two_ (i := 4) (j := 5) (Ni := some 5) (Nj := some 6) (mB 8 31) (mB 8 47) rfl rfl rfl rfl (two_of HT_.out (by kernel_rfl)) (by decide) (by decide) (fun K hK => ?_) (fun K hK => ?_)
    ·
     refine box_step ?hg (N := 5) ?hd (cs := #[.slice none 0 0, .slice none 0 0, .bool false]) (t := 25) ?hr ?_; (case hd => rfl); (case hg => rfl); (case hr => first | (go_simp; done) | (go_simp; rfl))
     intro gx hg wk hbox hb
     have n_ := Aside0.mk (HS.out.made hg hbox hb); clear HS; have HS := n_; clear n_ hg hbox hb
     refine hK.out _ _ ⟨(HS.out.cell m0_).1, (HS.out.cell m0_).2.1, (HS.out.cell m0_).2.2, HS.out.cell m1_⟩ (fun hHeld => ?_)
     clear hK K
     refine nO_ 5 ?_
     refine one_ (i := 5) (N := some 6) (mB 8 63) rfl rfl (one_of HT_.out (by kernel_rfl)) (by decide) (fun K hK => ?_)
     refine box_step ?hg (N := 6) ?hd (cs := #[.slice none 0 0, .slice none 0 0, .bool false]) (t := 25) ?hr ?_; (case hd => rfl); (case hg => rfl); (case hr => first | (go_simp; done) | (go_simp; rfl))
     intro gy hg wk hbox hb
     have n_ := Aside0.mk (HS.out.made hg hbox hb); clear HS; have HS := n_; clear n_ hg hbox hb
     refine hK.out _ _ ⟨(HS.out.cell m0_).1, (HS.out.cell m0_).2.1, (HS.out.cell m0_).2.2, HS.out.cell m1_⟩ (fun hHeld => ?_)
     clear hK K
     refine nO_ 6 ?_
     exact nP_ (hJ (xv, yv, gx, gy) _ ⟨hx, hy, HS.out.swap⟩)
    ·
     refine box_step ?hg (N := 6) ?hd (cs := #[.slice none 0 0, .slice none 0 0, .bool false]) (t := 25) ?hr ?_; (case hd => rfl); (case hg => rfl); (case hr => first | (go_simp; done) | (go_simp; rfl))
     intro gy hg wk hbox hb
     have n_ := Aside0.mk (HS.out.made hg hbox hb); clear HS; have HS := n_; clear n_ hg hbox hb
     refine hK.out _ _ ⟨(HS.out.cell m0_).1, (HS.out.cell m0_).2.1, (HS.out.cell m0_).2.2, HS.out.cell m1_⟩ (fun hHeld => ?_)
     clear hK K
     refine nO_ 6 ?_
     refine one_ (i := 4) (N := some 5) (mB 8 63) rfl rfl (one_of HT_.out (by kernel_rfl)) (by decide) (fun K hK => ?_)
     refine box_step ?hg (N := 5) ?hd (cs := #[.slice none 0 0, .slice none 0 0, .bool false]) (t := 25) ?hr ?_; (case hd => rfl); (case hg => rfl); (case hr => first | (go_simp; done) | (go_simp; rfl))
     intro gx hg wk hbox hb
     have n_ := Aside0.mk (HS.out.made hg hbox hb); clear HS; have HS := n_; clear n_ hg hbox hb
     refine hK.out _ _ ⟨(HS.out.cell m0_).1, (HS.out.cell m0_).2.1, (HS.out.cell m0_).2.2, HS.out.cell m1_⟩ (fun hHeld => ?_)
     clear hK K
     refine nO_ 5 ?_
     exact nP_ (hJ (xv, yv, gx, gy) _ ⟨hx, hy, HS.out⟩)
   ·
    refine box_step ?hg (N := 5) ?hd (cs := #[.slice none 0 0, .slice none 0 0, .bool false]) (t := 25) ?hr ?_; (case hd => rfl); (case hg => rfl); (case hr => first | (go_simp; done) | (go_simp; rfl))
    intro gx hg wk hbox hb
    have n_ := Aside0.mk (HS.out.made hg hbox hb); clear HS; have HS := n_; clear n_ hg hbox hb
    refine hK.out _ _ ⟨(HS.out.cell m0_).1, (HS.out.cell m0_).2.1, (HS.out.cell m0_).2.2, HS.out.cell m1_⟩ (fun hHeld => ?_)
    clear hK K
    refine nO_ 5 ?_
    refine two_ (i := 3) (j := 5) (Ni := some 11) (Nj := some 6) (mB 8 31) (mB 8 55) rfl rfl rfl rfl (two_of HT_.out (by kernel_rfl)) (by decide) (by decide) (fun K hK => ?_) (fun K hK => ?_)
    ·
     refine goes_ Try.func23 (by kernel_rfl) rfl #[Y.val] (by rfl) rfl rfl vL ?_
     with_reducible refine (rclose_o (LS.oc HS m1_) (LS.bel HS) HF.out.2.1).mono ?_
     rintro e wk ⟨yv, rfl, hy, ho, hb⟩; refine ⟨_, rfl, ?_⟩
     have n_ := Aside0.mk (HS.out.call hb ho); clear HS; have HS := n_; clear n_ ho hb
     refine hK.out _ _ ⟨(HS.out.cell m0_).1, (HS.out.cell m0_).2.1, (HS.out.cell m0_).2.2, HS.out.cell m1_⟩ (fun hHeld => ?_)
     clear hK K
     refine nO_ 11 ?_
     refine one_ (i := 5) (N := some 6) (mB 8 63) rfl rfl (one_of HT_.out (by kernel_rfl)) (by decide) (fun K hK => ?_)
     refine box_step ?hg (N := 6) ?hd (cs := #[.slice none 0 0, .slice none 0 0, .bool false]) (t := 25) ?hr ?_; (case hd => rfl); (case hg => rfl); (case hr => first | (go_simp; done) | (go_simp; rfl))
     intro gy hg wk hbox hb
     have n_ := Aside0.mk (HS.out.made hg hbox hb); clear HS; have HS := n_; clear n_ hg hbox hb
     refine hK.out _ _ ⟨(HS.out.cell m0_).1, (HS.out.cell m0_).2.1, (HS.out.cell m0_).2.2, HS.out.cell m1_⟩ (fun hHeld => ?_)
     clear hK K
     refine nO_ 6 ?_
     exact nP_ (hJ (xv, yv, gx, gy) _ ⟨hx, hy, HS.out.swap⟩)
    ·
     refine box_step ?hg (N := 6) ?hd (cs := #[.slice none 0 0, .slice none 0 0, .bool false]) (t := 25) ?hr ?_; (case hd => rfl); (case hg => rfl); (case hr => first | (go_simp; done) | (go_simp; rfl))
     intro gy hg wk hbox hb
     have n_ := Aside0.mk (HS.out.made hg hbox hb); clear HS; have HS := n_; clear n_ hg hbox hb
     refine hK.out _ _ ⟨(HS.out.cell m0_).1, (HS.out.cell m0_).2.1, (HS.out.cell m0_).2.2, HS.out.cell m1_⟩ (fun hHeld => ?_)
     clear hK K
     refine nO_ 6 ?_
     refine one_ (i := 3) (N := some 11) (mB 8 63) rfl rfl (one_of HT_.out (by kernel_rfl)) (by decide) (fun K hK => ?_)
     refine goes_ Try.func23 (by kernel_rfl) rfl #[Y.val] (by rfl) rfl rfl vL ?_
     with_reducible refine (rclose_o (LS.oc HS m1_) (LS.bel HS) HF.out.2.1).mono ?_
     rintro e wk ⟨yv, rfl, hy, ho, hb⟩; refine ⟨_, rfl, ?_⟩
     have n_ := Aside0.mk (HS.out.call hb ho); clear HS; have HS := n_; clear n_ ho hb
     refine hK.out _ _ ⟨(HS.out.cell m0_).1, (HS.out.cell m0_).2.1, (HS.out.cell m0_).2.2, HS.out.cell m1_⟩ (fun hHeld => ?_)
     clear hK K
     refine nO_ 11 ?_
     exact nP_ (hJ (xv, yv, gx, gy) _ ⟨hx, hy, HS.out.swap⟩)
   ·
    refine box_step ?hg (N := 6) ?hd (cs := #[.slice none 0 0, .slice none 0 0, .bool false]) (t := 25) ?hr ?_; (case hd => rfl); (case hg => rfl); (case hr => first | (go_simp; done) | (go_simp; rfl))
    intro gy hg wk hbox hb
    have n_ := Aside0.mk (HS.out.made hg hbox hb); clear HS; have HS := n_; clear n_ hg hbox hb
    refine hK.out _ _ ⟨(HS.out.cell m0_).1, (HS.out.cell m0_).2.1, (HS.out.cell m0_).2.2, HS.out.cell m1_⟩ (fun hHeld => ?_)
    clear hK K
    refine nO_ 6 ?_
    refine two_ (i := 3) (j := 4) (Ni := some 11) (Nj := some 5) (mB 8 47) (mB 8 55) rfl rfl rfl rfl (two_of HT_.out (by kernel_rfl)) (by decide) (by decide) (fun K hK => ?_) (fun K hK => ?_)
    ·
     refine goes_ Try.func23 (by kernel_rfl) rfl #[Y.val] (by rfl) rfl rfl vL ?_
     with_reducible refine (rclose_o (LS.oc HS m1_) (LS.bel HS) HF.out.2.1).mono ?_
     rintro e wk ⟨yv, rfl, hy, ho, hb⟩; refine ⟨_, rfl, ?_⟩
     have n_ := Aside0.mk (HS.out.call hb ho); clear HS; have HS := n_; clear n_ ho hb
     refine hK.out _ _ ⟨(HS.out.cell m0_).1, (HS.out.cell m0_).2.1, (HS.out.cell m0_).2.2, HS.out.cell m1_⟩ (fun hHeld => ?_)
     clear hK K
     refine nO_ 11 ?_
     refine one_ (i := 4) (N := some 5) (mB 8 63) rfl rfl (one_of HT_.out (by kernel_rfl)) (by decide) (fun K hK => ?_)
     refine box_step ?hg (N := 5) ?hd (cs := #[.slice none 0 0, .slice none 0 0, .bool false]) (t := 25) ?hr ?_; (case hd => rfl); (case hg => rfl); (case hr => first | (go_simp; done) | (go_simp; rfl))
     intro gx hg wk hbox hb
     have n_ := Aside0.mk (HS.out.made hg hbox hb); clear HS; have HS := n_; clear n_ hg hbox hb
     refine hK.out _ _ ⟨(HS.out.cell m0_).1, (HS.out.cell m0_).2.1, (HS.out.cell m0_).2.2, HS.out.cell m1_⟩ (fun hHeld => ?_)
     clear hK K
     refine nO_ 5 ?_
     exact nP_ (hJ (xv, yv, gx, gy) _ ⟨hx, hy, HS.out⟩)
    ·
     refine box_step ?hg (N := 5) ?hd (cs := #[.slice none 0 0, .slice none 0 0, .bool false]) (t := 25) ?hr ?_; (case hd => rfl); (case hg => rfl); (case hr => first | (go_simp; done) | (go_simp; rfl))
     intro gx hg wk hbox hb
     have n_ := Aside0.mk (HS.out.made hg hbox hb); clear HS; have HS := n_; clear n_ hg hbox hb
     refine hK.out _ _ ⟨(HS.out.cell m0_).1, (HS.out.cell m0_).2.1, (HS.out.cell m0_).2.2, HS.out.cell m1_⟩ (fun hHeld => ?_)
     clear hK K
     refine nO_ 5 ?_
     refine one_ (i := 3) (N := some 11) (mB 8 63) rfl rfl (one_of HT_.out (by kernel_rfl)) (by decide) (fun K hK => ?_)
     refine goes_ Try.func23 (by kernel_rfl) rfl #[Y.val] (by rfl) rfl rfl vL ?_
     with_reducible refine (rclose_o (LS.oc HS m1_) (LS.bel HS) HF.out.2.1).mono ?_
     rintro e wk ⟨yv, rfl, hy, ho, hb⟩; refine ⟨_, rfl, ?_⟩
     have n_ := Aside0.mk (HS.out.call hb ho); clear HS; have HS := n_; clear n_ ho hb
     refine hK.out _ _ ⟨(HS.out.cell m0_).1, (HS.out.cell m0_).2.1, (HS.out.cell m0_).2.2, HS.out.cell m1_⟩ (fun hHeld => ?_)
     clear hK K
     refine nO_ 11 ?_
     exact nP_ (hJ (xv, yv, gx, gy) _ ⟨hx, hy, HS.out⟩)
  ·
   refine box_step ?hg (N := 5) ?hd (cs := #[.slice none 0 0, .slice none 0 0, .bool false]) (t := 25) ?hr ?_; (case hd => rfl); (case hg => rfl); (case hr => first | (go_simp; done) | (go_simp; rfl))
   intro gx hg wk hbox hb
   have n_ := Aside0.mk (HS.out.made hg hbox hb); clear HS; have HS := n_; clear n_ hg hbox hb
   refine hK.out _ _ ⟨(HS.out.cell m0_).1, (HS.out.cell m0_).2.1, (HS.out.cell m0_).2.2, HS.out.cell m1_⟩ (fun hHeld => ?_)
   clear hK K
   refine nO_ 5 ?_
   refine two_ (i := 1) (j := 5) (Ni := some 9) (Nj := some 6) (mB 8 23) (mB 8 53) rfl rfl rfl rfl (two_of HT_.out (by kernel_rfl)) (by decide) (by decide) (fun K hK => ?_) (fun K hK => ?_)
   ·
    refine goes_ Try.func23 (by kernel_rfl) rfl #[X.val] (by rfl) rfl rfl vL ?_
    with_reducible refine (rclose_o (LS.oc HS m0_) (LS.bel HS) HF.out.1.1).mono ?_
    rintro e wk ⟨xv, rfl, hx, ho, hb⟩; refine ⟨_, rfl, ?_⟩
    have n_ := Aside0.mk (HS.out.call hb ho); clear HS; have HS := n_; clear n_ ho hb
    refine hK.out _ _ ⟨(HS.out.cell m0_).1, (HS.out.cell m0_).2.1, (HS.out.cell m0_).2.2, HS.out.cell m1_⟩ (fun hHeld => ?_)
    clear hK K
    refine nO_ 9 ?_
    refine two_ (i := 3) (j := 5) (Ni := some 11) (Nj := some 6) (mB 8 31) (mB 8 55) rfl rfl rfl rfl (two_of HT_.out (by kernel_rfl)) (by decide) (by decide) (fun K hK => ?_) (fun K hK => ?_)
    ·
     refine goes_ Try.func23 (by kernel_rfl) rfl #[Y.val] (by rfl) rfl rfl vL ?_
     with_reducible refine (rclose_o (LS.oc HS m1_) (LS.bel HS) HF.out.2.1).mono ?_
     rintro e wk ⟨yv, rfl, hy, ho, hb⟩; refine ⟨_, rfl, ?_⟩
     have n_ := Aside0.mk (HS.out.call hb ho); clear HS; have HS := n_; clear n_ ho hb
     refine hK.out _ _ ⟨(HS.out.cell m0_).1, (HS.out.cell m0_).2.1, (HS.out.cell m0_).2.2, HS.out.cell m1_⟩ (fun hHeld => ?_)
     clear hK K
     refine nO_ 11 ?_
     refine one_ (i := 5) (N := some 6) (mB 8 63) rfl rfl (one_of HT_.out (by kernel_rfl)) (by decide) (fun K hK => ?_)
     refine box_step ?hg (N := 6) ?hd (cs := #[.slice none 0 0, .slice none 0 0, .bool false]) (t := 25) ?hr ?_; (case hd => rfl); (case hg => rfl); (case hr => first | (go_simp; done) | (go_simp; rfl))
     intro gy hg wk hbox hb
     have n_ := Aside0.mk (HS.out.made hg hbox hb); clear HS; have HS := n_; clear n_ hg hbox hb
     refine hK.out _ _ ⟨(HS.out.cell m0_).1, (HS.out.cell m0_).2.1, (HS.out.cell m0_).2.2, HS.out.cell m1_⟩ (fun hHeld => ?_)
     clear hK K
     refine nO_ 6 ?_
     exact nP_ (hJ (xv, yv, gx, gy) _ ⟨hx, hy, HS.out.swap⟩)
    ·
     refine box_step ?hg (N := 6) ?hd (cs := #[.slice none 0 0, .slice none 0 0, .bool false]) (t := 25) ?hr ?_; (case hd => rfl); (case hg => rfl); (case hr => first | (go_simp; done) | (go_simp; rfl))
     intro gy hg wk hbox hb
     have n_ := Aside0.mk (HS.out.made hg hbox hb); clear HS; have HS := n_; clear n_ hg hbox hb
     refine hK.out _ _ ⟨(HS.out.cell m0_).1, (HS.out.cell m0_).2.1, (HS.out.cell m0_).2.2, HS.out.cell m1_⟩ (fun hHeld => ?_)
     clear hK K
     refine nO_ 6 ?_
     refine one_ (i := 3) (N := some 11) (mB 8 63) rfl rfl (one_of HT_.out (by kernel_rfl)) (by decide) (fun K hK => ?_)
     refine goes_ Try.func23 (by kernel_rfl) rfl #[Y.val] (by rfl) rfl rfl vL ?_
     with_reducible refine (rclose_o (LS.oc HS m1_) (LS.bel HS) HF.out.2.1).mono ?_
     rintro e wk ⟨yv, rfl, hy, ho, hb⟩; refine ⟨_, rfl, ?_⟩
     have n_ := Aside0.mk (HS.out.call hb ho); clear HS; have HS := n_; clear n_ ho hb
     refine hK.out _ _ ⟨(HS.out.cell m0_).1, (HS.out.cell m0_).2.1, (HS.out.cell m0_).2.2, HS.out.cell m1_⟩ (fun hHeld => ?_)
     clear hK K
     refine nO_ 11 ?_
     exact nP_ (hJ (xv, yv, gx, gy) _ ⟨hx, hy, HS.out.swap⟩)
   ·
    refine box_step ?hg (N := 6) ?hd (cs := #[.slice none 0 0, .slice none 0 0, .bool false]) (t := 25) ?hr ?_; (case hd => rfl); (case hg => rfl); (case hr => first | (go_simp; done) | (go_simp; rfl))
    intro gy hg wk hbox hb
    have n_ := Aside0.mk (HS.out.made hg hbox hb); clear HS; have HS := n_; clear n_ hg hbox hb
    refine hK.out _ _ ⟨(HS.out.cell m0_).1, (HS.out.cell m0_).2.1, (HS.out.cell m0_).2.2, HS.out.cell m1_⟩ (fun hHeld => ?_)
    clear hK K
    refine nO_ 6 ?_
    refine one_ (i := 1) (N := some 9) (mB 8 55) rfl rfl (one_of HT_.out (by kernel_rfl)) (by decide) (fun K hK => ?_)
    refine goes_ Try.func23 (by kernel_rfl) rfl #[X.val] (by rfl) rfl rfl vL ?_
    with_reducible refine (rclose_o (LS.oc HS m0_) (LS.bel HS) HF.out.1.1).mono ?_
    rintro e wk ⟨xv, rfl, hx, ho, hb⟩; refine ⟨_, rfl, ?_⟩
    have n_ := Aside0.mk (HS.out.call hb ho); clear HS; have HS := n_; clear n_ ho hb
    refine hK.out _ _ ⟨(HS.out.cell m0_).1, (HS.out.cell m0_).2.1, (HS.out.cell m0_).2.2, HS.out.cell m1_⟩ (fun hHeld => ?_)
    clear hK K
    refine nO_ 9 ?_
    refine one_ (i := 3) (N := some 11) (mB 8 63) rfl rfl (one_of HT_.out (by kernel_rfl)) (by decide) (fun K hK => ?_)
    refine goes_ Try.func23 (by kernel_rfl) rfl #[Y.val] (by rfl) rfl rfl vL ?_
    with_reducible refine (rclose_o (LS.oc HS m1_) (LS.bel HS) HF.out.2.1).mono ?_
    rintro e wk ⟨yv, rfl, hy, ho, hb⟩; refine ⟨_, rfl, ?_⟩
    have n_ := Aside0.mk (HS.out.call hb ho); clear HS; have HS := n_; clear n_ ho hb
    refine hK.out _ _ ⟨(HS.out.cell m0_).1, (HS.out.cell m0_).2.1, (HS.out.cell m0_).2.2, HS.out.cell m1_⟩ (fun hHeld => ?_)
    clear hK K
    refine nO_ 11 ?_
    exact nP_ (hJ (xv, yv, gx, gy) _ ⟨hx, hy, HS.out.swap⟩)
  ·
   refine box_step ?hg (N := 6) ?hd (cs := #[.slice none 0 0, .slice none 0 0, .bool false]) (t := 25) ?hr ?_; (case hd => rfl); (case hg => rfl); (case hr => first | (go_simp; done) | (go_simp; rfl))
   intro gy hg wk hbox hb
   have n_ := Aside0.mk (HS.out.made hg hbox hb); clear HS; have HS := n_; clear n_ hg hbox hb
   refine hK.out _ _ ⟨(HS.out.cell m0_).1, (HS.out.cell m0_).2.1, (HS.out.cell m0_).2.2, HS.out.cell m1_⟩ (fun hHeld => ?_)
   clear hK K
   refine nO_ 6 ?_
   refine two_ (i := 1) (j := 4) (Ni := some 9) (Nj := some 5) (mB 8 39) (mB 8 53) rfl rfl rfl rfl (two_of HT_.out (by kernel_rfl)) (by decide) (by decide) (fun K hK => ?_) (fun K hK => ?_)
   ·
    refine goes_ Try.func23 (by kernel_rfl) rfl #[X.val] (by rfl) rfl rfl vL ?_
    with_reducible refine (rclose_o (LS.oc HS m0_) (LS.bel HS) HF.out.1.1).mono ?_
    rintro e wk ⟨xv, rfl, hx, ho, hb⟩; refine ⟨_, rfl, ?_⟩
    have n_ := Aside0.mk (HS.out.call hb ho); clear HS; have HS := n_; clear n_ ho hb
    refine hK.out _ _ ⟨(HS.out.cell m0_).1, (HS.out.cell m0_).2.1, (HS.out.cell m0_).2.2, HS.out.cell m1_⟩ (fun hHeld => ?_)
    clear hK K
    refine nO_ 9 ?_
    refine two_ (i := 3) (j := 4) (Ni := some 11) (Nj := some 5) (mB 8 47) (mB 8 55) rfl rfl rfl rfl (two_of HT_.out (by kernel_rfl)) (by decide) (by decide) (fun K hK => ?_) (fun K hK => ?_)
    ·
     refine goes_ Try.func23 (by kernel_rfl) rfl #[Y.val] (by rfl) rfl rfl vL ?_
     with_reducible refine (rclose_o (LS.oc HS m1_) (LS.bel HS) HF.out.2.1).mono ?_
     rintro e wk ⟨yv, rfl, hy, ho, hb⟩; refine ⟨_, rfl, ?_⟩
     have n_ := Aside0.mk (HS.out.call hb ho); clear HS; have HS := n_; clear n_ ho hb
     refine hK.out _ _ ⟨(HS.out.cell m0_).1, (HS.out.cell m0_).2.1, (HS.out.cell m0_).2.2, HS.out.cell m1_⟩ (fun hHeld => ?_)
     clear hK K
     refine nO_ 11 ?_
     refine one_ (i := 4) (N := some 5) (mB 8 63) rfl rfl (one_of HT_.out (by kernel_rfl)) (by decide) (fun K hK => ?_)
     refine box_step ?hg (N := 5) ?hd (cs := #[.slice none 0 0, .slice none 0 0, .bool false]) (t := 25) ?hr ?_; (case hd => rfl); (case hg => rfl); (case hr => first | (go_simp; done) | (go_simp; rfl))
     intro gx hg wk hbox hb
     have n_ := Aside0.mk (HS.out.made hg hbox hb); clear HS; have HS := n_; clear n_ hg hbox hb
     refine hK.out _ _ ⟨(HS.out.cell m0_).1, (HS.out.cell m0_).2.1, (HS.out.cell m0_).2.2, HS.out.cell m1_⟩ (fun hHeld => ?_)
     clear hK K
     refine nO_ 5 ?_
     exact nP_ (hJ (xv, yv, gx, gy) _ ⟨hx, hy, HS.out⟩)
    ·
     refine box_step ?hg (N := 5) ?hd (cs := #[.slice none 0 0, .slice none 0 0, .bool false]) (t := 25) ?hr ?_; (case hd => rfl); (case hg => rfl); (case hr => first | (go_simp; done) | (go_simp; rfl))
     intro gx hg wk hbox hb
     have n_ := Aside0.mk (HS.out.made hg hbox hb); clear HS; have HS := n_; clear n_ hg hbox hb
     refine hK.out _ _ ⟨(HS.out.cell m0_).1, (HS.out.cell m0_).2.1, (HS.out.cell m0_).2.2, HS.out.cell m1_⟩ (fun hHeld => ?_)
     clear hK K
     refine nO_ 5 ?_
     refine one_ (i := 3) (N := some 11) (mB 8 63) rfl rfl (one_of HT_.out (by kernel_rfl)) (by decide) (fun K hK => ?_)
     refine goes_ Try.func23 (by kernel_rfl) rfl #[Y.val] (by rfl) rfl rfl vL ?_
     with_reducible refine (rclose_o (LS.oc HS m1_) (LS.bel HS) HF.out.2.1).mono ?_
     rintro e wk ⟨yv, rfl, hy, ho, hb⟩; refine ⟨_, rfl, ?_⟩
     have n_ := Aside0.mk (HS.out.call hb ho); clear HS; have HS := n_; clear n_ ho hb
     refine hK.out _ _ ⟨(HS.out.cell m0_).1, (HS.out.cell m0_).2.1, (HS.out.cell m0_).2.2, HS.out.cell m1_⟩ (fun hHeld => ?_)
     clear hK K
     refine nO_ 11 ?_
     exact nP_ (hJ (xv, yv, gx, gy) _ ⟨hx, hy, HS.out⟩)
   ·
    refine box_step ?hg (N := 5) ?hd (cs := #[.slice none 0 0, .slice none 0 0, .bool false]) (t := 25) ?hr ?_; (case hd => rfl); (case hg => rfl); (case hr => first | (go_simp; done) | (go_simp; rfl))
    intro gx hg wk hbox hb
    have n_ := Aside0.mk (HS.out.made hg hbox hb); clear HS; have HS := n_; clear n_ hg hbox hb
    refine hK.out _ _ ⟨(HS.out.cell m0_).1, (HS.out.cell m0_).2.1, (HS.out.cell m0_).2.2, HS.out.cell m1_⟩ (fun hHeld => ?_)
    clear hK K
    refine nO_ 5 ?_
    refine one_ (i := 1) (N := some 9) (mB 8 55) rfl rfl (one_of HT_.out (by kernel_rfl)) (by decide) (fun K hK => ?_)
    refine goes_ Try.func23 (by kernel_rfl) rfl #[X.val] (by rfl) rfl rfl vL ?_
    with_reducible refine (rclose_o (LS.oc HS m0_) (LS.bel HS) HF.out.1.1).mono ?_
    rintro e wk ⟨xv, rfl, hx, ho, hb⟩; refine ⟨_, rfl, ?_⟩
    have n_ := Aside0.mk (HS.out.call hb ho); clear HS; have HS := n_; clear n_ ho hb
    refine hK.out _ _ ⟨(HS.out.cell m0_).1, (HS.out.cell m0_).2.1, (HS.out.cell m0_).2.2, HS.out.cell m1_⟩ (fun hHeld => ?_)
    clear hK K
    refine nO_ 9 ?_
    refine one_ (i := 3) (N := some 11) (mB 8 63) rfl rfl (one_of HT_.out (by kernel_rfl)) (by decide) (fun K hK => ?_)
    refine goes_ Try.func23 (by kernel_rfl) rfl #[Y.val] (by rfl) rfl rfl vL ?_
    with_reducible refine (rclose_o (LS.oc HS m1_) (LS.bel HS) HF.out.2.1).mono ?_
    rintro e wk ⟨yv, rfl, hy, ho, hb⟩; refine ⟨_, rfl, ?_⟩
    have n_ := Aside0.mk (HS.out.call hb ho); clear HS; have HS := n_; clear n_ ho hb
    refine hK.out _ _ ⟨(HS.out.cell m0_).1, (HS.out.cell m0_).2.1, (HS.out.cell m0_).2.2, HS.out.cell m1_⟩ (fun hHeld => ?_)
    clear hK K
    refine nO_ 11 ?_
    exact nP_ (hJ (xv, yv, gx, gy) _ ⟨hx, hy, HS.out⟩)
 rintro ⟨xv, yv, gx, gy⟩ W4 ⟨hx, hy, HS4⟩
 clear HS hHeld
 have HS := Aside0.mk HS4
 clear HS4
 dsimp only at HS hx hy
 obtain ⟨⟨p0, p1, p2, p3, p4, p5⟩, ⟨q0, q1, q2, q3, q4, q5⟩, kne, kne'⟩ := HS.out.two_new
 refine nS_ ?_
 refine last_ (i := 6) (N := none) (mB 8 127) rfl rfl (one_of HT_.out (by kernel_rfl)) (by decide) (fun K hK => ?_)
 refine skip_ (w1 := ?_) (by rfl) rfl ?_ ?_
 rotate_left
 ·
  go_simp
  rfl
 refine hK.out _ _ ?_
 clear hK K
 refine last_ (i := 7) (N := none) (mB 8 255) rfl rfl (one_of HT_.out (by kernel_rfl)) (by decide) (fun K hK => ?_)
 refine skip_ (w1 := ?_) (by rfl) rfl ?_ ?_
 rotate_left
 ·
  go_simp
  rfl
 refine hK.out _ _ ?_
 clear hK K
 refine done_ (done_of HT_.out (by kernel_rfl)) ?_
 clear p0 p1 p2 p3 p4 p5 q0 q1 q2 q3 q4 q5 kne kne' HT_ HW_
 unfold OnlyN
 have n_ := Aside0.mk HS.out.put_two; clear HS; have HS := n_; clear n_
 generalize hW5 : ((((((W4.setCell ⟨gx, 0, none⟩ (.slice xv.P xv.v.length xv.p)).setCell ⟨gx, 1, none⟩ (.slice xv.Q xv.m.length xv.q)).setCell ⟨gx, 2, none⟩ (.bool xv.e)).setCell ⟨gy, 0, none⟩ (.slice yv.P yv.v.length yv.p)).setCell ⟨gy, 1, none⟩ (.slice yv.Q yv.m.length yv.q)).setCell ⟨gy, 2, none⟩ (.bool yv.e)) = W5 at HS ⊢; clear hW5
 obtain ⟨xP, xp, xQ, xq, xV, xM, xE⟩ := xv
 obtain ⟨yP, yp, yQ, yq, yV, yM, yE⟩ := yv
 have gx1 := hx
 have gy1 := hy
 clear hx hy
 have hans := HAN.out
 have HC : Aside0 ((xE = true ∨ yE = true → ans = xE) ∧ (xE = false → yE = false → xM.length = yM.length ∧ (xM.length < 4611686018427387904) ∧ (ans = true ↔ ∀ k : Nat, k < xM.length → rd xM (k : Int) ≤ rd yM (k : Int)))) := ⟨by
  obtain ⟨fx, e1⟩ := HF.out.1
  obtain ⟨fy, e2⟩ := HF.out.2
  rw [e1] at fx gx1
  rw [e2] at fy gy1
  rw [← hans]
  unfold leqF
  obtain ⟨A, a⟩ := mean_ex fx
  obtain ⟨B, b⟩ := mean_ex fy
  cases a with
  | none q _ =>
   rw [q] at gx1
   rw [q]
   obtain ⟨_, rfl, rfl⟩ := Prod.mk.inj gx1 |>.imp id Prod.mk.inj
   exact ⟨fun _ => if_pos (.inl rfl), fun h => by cases h⟩
  | some q _ _ s1 =>
   rw [q] at gx1
   obtain ⟨_, rfl, rfl⟩ := Prod.mk.inj gx1 |>.imp id Prod.mk.inj
   cases b with
   | none q' _ =>
    rw [q'] at gy1
    obtain ⟨_, rfl, rfl⟩ := Prod.mk.inj gy1 |>.imp id Prod.mk.inj
    rw [q, q']
    exact ⟨fun _ => if_pos (.inr rfl), fun _ h => by cases h⟩
   | some q' _ _ s2 =>
    rw [q'] at gy1
    obtain ⟨_, rfl, rfl⟩ := Prod.mk.inj gy1 |>.imp id Prod.mk.inj
    rw [q, q', if_neg (by simp)]
    have hl : (lst (2 * vars.length) (closeM (2 * vars.length) (lowM vars.length X.m))).length = 2 * vars.length * (2 * vars.length) := lst_length _ _
    refine ⟨fun h => (by rcases h with h | h <;> cases h), fun _ _ => ⟨by rw [lst_length, lst_length], by rw [hl]; have := fx.1.1; exact Nat.lt_of_le_of_lt (Nat.mul_le_mul (show 2 * vars.length ≤ 16 by omega) (show 2 * vars.length ≤ 16 by omega)) (by decide), ?_⟩⟩
    rw [hl]
    exact leqL_at fx.1 s1 s2⟩
 clear gx1 gy1 hans
 obtain ⟨⟨ky0, ky1, ky2⟩, fy0, fy1, fy2⟩ := LS.cells HS m0_; obtain ⟨⟨kx0, kx1, kx2⟩, fx0, fx1, fx2⟩ := LS.cells HS m1_; obtain ⟨⟨ka0, ka1, ka2⟩, fa0, fa1, fa2⟩ := LS.cells HS m2_; obtain ⟨⟨kb0, kb1, kb2⟩, fb0, fb1, fb2⟩ := LS.cells HS m3_
 dsimp only at kx0 kx1 kx2 ky0 ky1 ky2 ⊢
 cases xE with
 | true =>
  have ha := HC.out.1 (.inl rfl)
  subst ha
  go_wp2
  go_ret
  exact ⟨rfl, LS.bel HS⟩
 | false =>
  cases yE with
  | true =>
   have ha := HC.out.1 (.inr rfl)
   subst ha
   go_wp2
   go_ret
   exact ⟨rfl, LS.bel HS⟩
  | false =>
   have HL := Aside0.mk (HC.out.2 rfl rfl)
   clear HC
   go_wp2
   go_loopg [23] xM.length (fun kq v23 w' => ∃ (i : Int), v23 = .int .i64 i ∧ Aside0 (0 ≤ i ∧ i + (kq : Int) = (xM.length : Int)) ∧ Aside0 (∀ j : Nat, (j : Int) < i → rd xM (j : Int) ≤ rd yM (j : Int)) ∧ Aside0 (LS w [(gy, ⟨yP, yp, yQ, yq, yV, yM, false⟩), (gx, ⟨xP, xp, xQ, xq, xV, xM, false⟩), (ga, X), (gb, Y)] [⟨yP, yp, yQ, yq, yV, yM, false⟩, ⟨xP, xp, xQ, xq, xV, xM, false⟩] [] w'))
   case atStart => exact ⟨0, by rfl, ⟨by omega⟩, ⟨fun j h => absurd h (by omega)⟩, ⟨LS.to HS⟩⟩
   case round =>
    clear HS kx0 kx1 kx2 fx0 fx1 fx2 ky0 ky1 ky2 fy0 fy1 fy2 ka0 ka1 ka2 fa0 fa1 fa2 kb0 kb1 kb2 fb0 fb1 fb2
    obtain ⟨i, rfl, HI, HJ, HS⟩ := hrel
    obtain ⟨⟨ky0, ky1, ky2⟩, fy0, fy1, fy2⟩ := LS.cells HS m0_; obtain ⟨⟨kx0, kx1, kx2⟩, fx0, fx1, fx2⟩ := LS.cells HS m1_
    dsimp only at kx0 kx1 kx2 ky0 ky1 ky2
    cases gk with
    | succ k =>
     have q1 : (decide (i < (xM.length : Int))) = true := decide_eq_true (by have := HI.out; omega)
     have p2 : 0 ≤ i := HI.out.1
     have q2 : i < (xM.length : Int) := by have := HI.out; omega
     have q3 : i < (yM.length : Int) := by have := HI.out; have := HL.out.1; omega
     obtain ⟨ad, ea, hx0⟩ := Kd.at_int ((HS.out.box _ m1_).2.2.r1.reads HS.out.below) i p2 q2
     obtain ⟨bd, eb, hy0⟩ := Kd.at_int ((HS.out.box _ m0_).2.2.r1.reads HS.out.below) i p2 q3
     cases ea
     cases eb
     replace p2 := eq_true p2
     replace q2 := eq_true q2
     replace q3 := eq_true q3
     by_cases d1 : rd yM i < rd xM i
     ·
      have d1' := decide_eq_true d1
      have HD := Aside0.mk d1
      clear d1
      go_upto_region 7 with fail
      refine start_ (n := 11) (S := fun w' => w'.cell? ⟨gx, 1, none⟩ = some (.slice (some ad) xM.length xq) ∧ w'.cell? ⟨gy, 1, none⟩ = some (.slice (some bd) yM.length yq) ∧ w'.cell? (ad.add i.toNat) = some (.int .i64 (rd xM i)) ∧ w'.cell? (bd.add i.toNat) = some (.int .i64 (rd yM i))) (ds := []) (mB 11 0) (by kernel_rfl) rfl (by kernel_rfl) ⟨(HS.out.drew.cell m1_).2.1, (HS.out.drew.cell m0_).2.1, hx0, hy0⟩ (fun hHeld => ?_)
      refine with_tabW rleq_tab7 rleq_bits7 (fun HT_ HW_ => ?_)
      have n_ := Aside0.mk HS.out.drew; clear HS; have HS := n_; clear n_
      generalize hWd : World.drew _ = Wd at HS hHeld ⊢; clear hWd
      refine pV_ 0 26 (mB 11 1) HT_ ?_
      refine tV_ 1 27 (mB 11 3) HT_ HW_ hHeld ?_
      refine pV_ 2 28 (mB 11 7) HT_ ?_
      refine pV_ 3 29 (mB 11 15) HT_ ?_
      refine tV_ 4 30 (mB 11 31) HT_ HW_ hHeld ?_
      refine pV_ 5 31 (mB 11 63) HT_ ?_
      refine tV_ 6 32 (mB 11 127) HT_ HW_ hHeld ?_
      refine pV_ 7 33 (mB 11 255) HT_ ?_
      refine pV_ 8 34 (mB 11 511) HT_ ?_
      refine tV_ 9 35 (mB 11 1023) HT_ HW_ hHeld ?_
      refine pV_ 10 36 (mB 11 2047) HT_ ?_
      refine done_ (done_of HT_.out (by kernel_rfl)) ?_
      clear HT_ HW_ hHeld
      try go_wp2
      go_ret
      have hf : ans = false := by
       cases ans with
       | false => rfl
       | true =>
        have := (HL.out.2.2.1 rfl) i.toNat (by have := HI.out; omega)
        rw [Int.toNat_of_nonneg HI.out.1] at this
        have := HD.out; omega
      rw [hf]
      exact ⟨rfl, LS.bel HS⟩
     ·
      have d1' := decide_eq_false d1
      have HD := Aside0.mk d1
      clear d1
      go_upto_region 7 with fail
      refine start_ (n := 11) (S := fun w' => w'.cell? ⟨gx, 1, none⟩ = some (.slice (some ad) xM.length xq) ∧ w'.cell? ⟨gy, 1, none⟩ = some (.slice (some bd) yM.length yq) ∧ w'.cell? (ad.add i.toNat) = some (.int .i64 (rd xM i)) ∧ w'.cell? (bd.add i.toNat) = some (.int .i64 (rd yM i))) (ds := []) (mB 11 0) (by kernel_rfl) rfl (by kernel_rfl) ⟨(HS.out.drew.cell m1_).2.1, (HS.out.drew.cell m0_).2.1, hx0, hy0⟩ (fun hHeld => ?_)
      refine with_tabW rleq_tab7 rleq_bits7 (fun HT_ HW_ => ?_)
      have n_ := Aside0.mk HS.out.drew; clear HS; have HS := n_; clear n_
      generalize hWd : World.drew _ = Wd at HS hHeld ⊢; clear hWd
      refine pV_ 0 26 (mB 11 1) HT_ ?_
      refine tV_ 1 27 (mB 11 3) HT_ HW_ hHeld ?_
      refine pV_ 2 28 (mB 11 7) HT_ ?_
      refine pV_ 3 29 (mB 11 15) HT_ ?_
      refine tV_ 4 30 (mB 11 31) HT_ HW_ hHeld ?_
      refine pV_ 5 31 (mB 11 63) HT_ ?_
      refine tV_ 6 32 (mB 11 127) HT_ HW_ hHeld ?_
      refine pV_ 7 33 (mB 11 255) HT_ ?_
      refine pV_ 8 34 (mB 11 511) HT_ ?_
      refine tV_ 9 35 (mB 11 1023) HT_ HW_ hHeld ?_
      refine pV_ 10 36 (mB 11 2047) HT_ ?_
      refine done_ (done_of HT_.out (by kernel_rfl)) ?_
      clear HT_ HW_ hHeld
      try go_wp2
      go_roundg k
      case measure => exact Nat.lt_succ_self k
      case rel =>
       have hw : wrap64 (i + 1) = i + 1 := by have := HI.out; have := HL.out.2.1; unfold wrap64; omega
       exact ⟨wrap64 (i + 1), rfl, ⟨by rw [hw]; have := HI.out; omega⟩, ⟨by
        rw [hw]
        intro j hj
        have h1 := HD.out
        by_cases e : (j : Int) = i
        ·
         rw [e]; omega
        ·
         exact HJ.out j (by omega)⟩, ⟨LS.to HS⟩⟩
    | zero =>
     have q1 : (decide (i < (xM.length : Int))) = false := decide_eq_false (by have := HI.out; omega)
     have hf : ans = true := HL.out.2.2.2 (fun k hk => HJ.out k (by have := HI.out; omega))
     subst hf
     go_wp2
     go_ret
     exact ⟨rfl, LS.bel HS⟩
end Go.Proofs.Ytomgebmimgaojaa.QO
end
end
section
noncomputable section
namespace Go.Proofs.Ytomgebmimgaojaa.QO
open Go.RowKit Go.Shelf Go.Proofs.YtomgebmimgaojaaW.PrintWords Go.Proofs.YtomgebmimgaojaaW.PrintLast Go.Proofs.YtomgebmimgaojaaW.PrintMore
open Go.Proofs.Ytomgebmimgaojaa.Pure Octs Two
attribute [local go_sem] Oper.semAt_some
attribute [local go_sem ↓] Go.wp_at_zero Go.wp_at_succ
set_option linter.unusedVariables false
set_option linter.unusedSimpArgs false
def rjoin_T1 : Bool × List (List Nat × List Nat) := (true, [([], []), ([0], [0]), ([], []), ([2, 1], [2]), ([], []), ([], []), ([4, 1, 3, 0, 1, 4, 5], [1, 4]), ([5, 3, 6, 0, 1, 2, 3, 4, 5, 6], [3, 5])])
def rjoin_B1 : List Nat := [0, 1, 0, 7, 0, 0, 63, 127]
theorem rjoin_tab1 : rtab .any (opsOf Try.f29 1) = rjoin_T1 := by kernel_rfl
theorem rjoin_bits1 : waitsOk rjoin_T1.2 rjoin_B1 = true := by kernel_rfl
def rjoin_T9 : Bool × List (List Nat × List Nat) := (true, [([], []), ([0], [0]), ([], []), ([], []), ([3], [3]), ([], []), ([4, 5], [4, 5]), ([6], [6]), ([], []), ([8], [8]), ([], []), ([9, 10], [9, 10]), ([11], [11]), ([7, 12], [7, 12]), ([1, 2, 0, 1, 2, 3, 4, 5, 6, 7, 8, 9, 10, 11, 12, 13], [1, 2]), ([14, 13, 0, 1, 2, 3, 4, 5, 6, 7, 8, 9, 10, 11, 12, 13], [13, 14])])
def rjoin_B9 : List Nat := [0, 1, 0, 0, 8, 0, 56, 120, 0, 256, 0, 1792, 3840, 8184, 16383, 32767]
theorem rjoin_tab9 : rtab .any (opsOf Try.f29 9) = rjoin_T9 := by kernel_rfl
theorem rjoin_bits9 : waitsOk rjoin_T9.2 rjoin_B9 = true := by kernel_rfl
theorem rclose_own {w W : World} {x : OV} (hx : Oc w W x) (hb : Below w.heap.size w W) (fx : OFit x.v x.m x.e) :
 Calls Try.prog 23 #[x.val] W fun e W' => ∃ z : OV, e = .returned z.val ∧ z.o = closeF x.v x.m x.e ∧ Own W W' z ∧ Below W.heap.size W W' := by
 obtain ⟨K, hK⟩ := close_ev fx
 exact of_calls2 (gimbalref11_Close.calls K x.P x.p x.v x.Q x.q x.m x.e _ _ _ W (hx.r0.reads hb) hx.r0.le (hx.r1.reads hb) hx.r1.le (hK K (Nat.le_refl _)))
theorem lst_at {n k : Nat} {C : Mx} (hk : k < n * n) : rd (lst n C) (k : Int) = C (k / n) (k % n) := by
 have h0 : 0 < n := by
  by_cases e : n = 0
  ·
   rw [e] at hk; omega
  ·
   omega
 refine lst_rd (Nat.div_lt_of_lt_mul hk) (Nat.mod_lt _ h0) ?_
 congr 1
 rw [Nat.mul_comm]; exact (Nat.div_add_mod k _).symm
theorem join_list {vars : List Int} {A B : Mx} (hv : VarsOk vars) (ha : Snd (2 * vars.length) A) (hb : Snd (2 * vars.length) B) {xs : List Int} (hl : xs.length = (lst (2 * vars.length) A).length)
 (h : ∀ k : Nat, k < (lst (2 * vars.length) A).length → rd xs (k : Int) = mx (rd (lst (2 * vars.length) A) (k : Int)) (rd (lst (2 * vars.length) B) (k : Int))) : xs = mixL mx (2 * vars.length) (lst (2 * vars.length) A) (lst (2 * vars.length) B) := by
 have e : mixL mx (2 * vars.length) (lst (2 * vars.length) A) (lst (2 * vars.length) B) = lst (2 * vars.length) (fun i j => mx (A i j) (B i j)) := by
  rw [mixL_lst]
  unfold lst
  refine List.map_congr_left fun k hk => ?_
  have hk' : k < 2 * vars.length * (2 * vars.length) := by simpa using hk
  have h0 : 0 < 2 * vars.length := by
   by_cases e : 2 * vars.length = 0
   ·
    rw [e] at hk'; omega
   ·
    omega
  have h1 := lowM_lst hv ha (k / (2 * vars.length)) (k % (2 * vars.length)) (Nat.div_lt_of_lt_mul hk') (Nat.mod_lt _ h0)
  have h2 := lowM_lst hv hb (k / (2 * vars.length)) (k % (2 * vars.length)) (Nat.div_lt_of_lt_mul hk') (Nat.mod_lt _ h0)
  unfold lst at h1 h2
  dsimp only
  rw [h1, h2]
 rw [e]
 refine List.ext_getElem (by rw [hl, lst_length, lst_length]) fun k h1 h2 => ?_
 have hk : k < 2 * vars.length * (2 * vars.length) := by rw [hl, lst_length] at h1; exact h1
 have g := h k (by rw [lst_length]; exact hk)
 have r1 : rd xs (k : Int) = xs[k] := by unfold rd; simp [List.getD_eq_getElem?_getD, h1]
 have r2 : rd (lst (2 * vars.length) (fun i j => mx (A i j) (B i j))) (k : Int) = (lst (2 * vars.length) (fun i j => mx (A i j) (B i j)))[k] := by unfold rd; simp [List.getD_eq_getElem?_getD, h2]
 rw [← r1, ← r2, g, lst_at hk, lst_at hk, lst_at hk]
set_option maxHeartbeats 16000000 in
set_option maxRecDepth 100000 in
theorem rjoin_o {vars : List Int} {X Y : OV} {w0 w : World} (hX : Oc w0 w X) (hY : Oc w0 w Y) (h0 : Below w0.heap.size w0 w) (fx : OkV vars X) (fy : OkV vars Y) :
 Calls Try.prog 29 #[X.val, Y.val] w fun e W' => ∃ z : OV, e = .returned z.val ∧ z.o = joinF vars X.m X.e Y.m Y.e ∧ Own w W' z ∧ Below w.heap.size w W' := by
 have hu25 := Try.underlying25
 have HX : Aside0 (Oc w w X) := ⟨⟨⟨hX.r0.le, .inl (hX.r0.reads h0)⟩, ⟨hX.r1.le, .inl (hX.r1.reads h0)⟩⟩⟩
 have HY : Aside0 (Oc w w Y) := ⟨⟨⟨hY.r0.le, .inl (hY.r0.reads h0)⟩, ⟨hY.r1.le, .inl (hY.r1.reads h0)⟩⟩⟩
 have GF := Aside0.mk (And.intro fx fy)
 clear hX hY h0 fx fy
 obtain ⟨ans, hans⟩ : ∃ t, joinF vars X.m X.e Y.m Y.e = t := ⟨_, rfl⟩
 rw [hans]
 have HAN := Aside0.mk hans
 clear hans
 go_enter Try.func29, Try.ntmps29
 go_upto_region 1 with fail
 have HS : Aside0 (OS w [] (((w.alloc X.cells).alloc Y.cells).alloc (.cells #[.slice none 0 0, .slice none 0 0, .bool false] 25 (0, 0)))) := ⟨(OS.nil w).next (below_alloc (below_alloc (below_alloc (Below.refl _ _) _) _) _)⟩
 have HF : Aside0 (FX w [(w.heap.size + 1 + 1, .cells #[.slice none 0 0, .slice none 0 0, .bool false] 25 (0, 0)), (w.heap.size, X.cells), (w.heap.size + 1, Y.cells)] (((w.alloc X.cells).alloc Y.cells).alloc (.cells #[.slice none 0 0, .slice none 0 0, .bool false] 25 (0, 0)))) := ⟨by
  refine ⟨fun f hf => ?_, by simp; omega⟩
  cases hf with
  | head => exact ⟨by have h := blk_new ((w.alloc X.cells).alloc Y.cells) (.cells #[.slice none 0 0, .slice none 0 0, .bool false] 25 (0, 0)); simpa using h, by dsimp only; omega⟩
  | tail _ hf =>
   cases hf with
   | head => exact ⟨blk_alloc (blk_alloc (blk_new _ _) _) _, Nat.le_refl _⟩
   | tail _ hf =>
    cases hf with
    | head => exact ⟨blk_alloc (by have h := blk_new (w.alloc X.cells) Y.cells; simpa using h) _, Nat.le_succ _⟩
    | tail _ hf => cases hf⟩
 generalize hW2 : (((w.alloc X.cells).alloc Y.cells).alloc (.cells #[.slice none 0 0, .slice none 0 0, .bool false] 25 (0, 0))) = W2 at HS HF ⊢
 generalize hgr : w.heap.size + 1 + 1 = gr at HF ⊢
 generalize hgb : w.heap.size + 1 = gb at HF ⊢
 generalize hga : w.heap.size = ga at HF ⊢
 clear hW2 hgb hga hgr
 have n_ := Aside0.mk (HS.out.next (below_drew (Below.refl _ _))); have f_ := Aside0.mk (HF.out.next (below_drew (Below.refl _ _))); clear HS HF; have HS := n_; have HF := f_; clear n_ f_
 refine startN_ (n := 8) (S := fun w' => w'.cell? ⟨ga, 0, none⟩ = some (.slice X.P X.v.length X.p) ∧ w'.cell? ⟨ga, 1, none⟩ = some (.slice X.Q X.m.length X.q) ∧ w'.cell? ⟨ga, 2, none⟩ = some (.bool X.e) ∧ w'.cell? ⟨gb, 0, none⟩ = some (.slice Y.P Y.v.length Y.p) ∧ w'.cell? ⟨gb, 1, none⟩ = some (.slice Y.Q Y.m.length Y.q) ∧ w'.cell? ⟨gb, 2, none⟩ = some (.bool Y.e)) (ds := [6, 7]) (mB 8 0) (by kernel_rfl) rfl (by kernel_rfl) ⟨(FX.oct HF m1_).1.1, (FX.oct HF m1_).1.2.1, (FX.oct HF m1_).1.2.2, (FX.oct HF m2_).1⟩ (fun hHeld => ?_)
 refine with_tabW rjoin_tab1 rjoin_bits1 (fun HT_ HW_ => ?_)
 generalize hWd : World.drew _ = Wd at HS HF hHeld ⊢; clear hWd
 refine tV_ 0 8 (mB 8 1) HT_ HW_ hHeld ?_
 refine tV_ 2 10 (mB 8 5) HT_ HW_ hHeld ?_
 refine join_ (σ := OV × OV × Nat × Nat) 2 (mB 8 63) (fun s_ => [(9, .agg #[.slice s_.1.P s_.1.v.length s_.1.p, .slice s_.1.Q s_.1.m.length s_.1.q, .bool s_.1.e]), (11, .agg #[.slice s_.2.1.P s_.2.1.v.length s_.2.1.p, .slice s_.2.1.Q s_.2.1.m.length s_.2.1.q, .bool s_.2.1.e]), (5, .pointer (some ⟨s_.2.2.1, 0, none⟩)), (6, .pointer (some ⟨s_.2.2.2, 0, none⟩))]) (fun s_ w' => (s_.1.o = closeF X.v X.m X.e) ∧ (s_.2.1.o = closeF Y.v Y.m Y.e) ∧ OS w (s_.2.1 :: s_.1 :: []) w' ∧ FX w ((s_.2.2.1, .cells #[.slice none 0 0, .slice none 0 0, .bool false] 25 (0, 0)) :: (s_.2.2.2, .cells #[.slice none 0 0, .slice none 0 0, .bool false] 25 (0, 0)) :: [(gr, .cells #[.slice none 0 0, .slice none 0 0, .bool false] 25 (0, 0)), (ga, X.cells), (gb, Y.cells)]) w') ?_ ?_
 rotate_left
 ·
  intro hJ
  refine three_ (i := 1) (j := 4) (k := 5) (Ni := some 9) (Nj := some 5) (Nk := some 6) (mB 8 7) (mB 8 21) (mB 8 37) rfl rfl rfl rfl rfl rfl (three_of HT_.out (by kernel_rfl)) (by decide) (by decide) (by decide) (fun K hK => ?_) (fun K hK => ?_) (fun K hK => ?_)
  ·
   refine goes_ Try.func23 (by kernel_rfl) rfl #[X.val] (by rfl) rfl rfl vL ?_
   with_reducible refine (rclose_own (HX.out.next HS.out.below) HS.out.below GF.out.1.1).mono ?_
   rintro e wk ⟨xv, rfl, hx, ho, hb⟩; refine ⟨_, rfl, ?_⟩
   have n_ := Aside0.mk (HS.out.call hb ho); have f_ := Aside0.mk (HF.out.next hb); clear HS HF; have HS := n_; have HF := f_; clear n_ f_ ho hb
   refine hK.out _ _ ⟨(FX.oct HF m1_).1.1, (FX.oct HF m1_).1.2.1, (FX.oct HF m1_).1.2.2, (FX.oct HF m2_).1⟩ (fun hHeld => ?_)
   clear hK K
   refine nO_ 9 ?_
   refine three_ (i := 3) (j := 4) (k := 5) (Ni := some 11) (Nj := some 5) (Nk := some 6) (mB 8 15) (mB 8 23) (mB 8 39) rfl rfl rfl rfl rfl rfl (three_of HT_.out (by kernel_rfl)) (by decide) (by decide) (by decide) (fun K hK => ?_) (fun K hK => ?_) (fun K hK => ?_)
   ·
    refine goes_ Try.func23 (by kernel_rfl) rfl #[Y.val] (by rfl) rfl rfl vL ?_
    with_reducible refine (rclose_own (HY.out.next HS.out.below) HS.out.below GF.out.2.1).mono ?_
    rintro e wk ⟨yv, rfl, hy, ho, hb⟩; refine ⟨_, rfl, ?_⟩
    have n_ := Aside0.mk (HS.out.call hb ho); have f_ := Aside0.mk (HF.out.next hb); clear HS HF; have HS := n_; have HF := f_; clear n_ f_ ho hb
    refine hK.out _ _ ⟨(FX.oct HF m1_).1.1, (FX.oct HF m1_).1.2.1, (FX.oct HF m1_).1.2.2, (FX.oct HF m2_).1⟩ (fun hHeld => ?_)
    clear hK K
    refine nO_ 11 ?_
    refine two_ (i := 4) (j := 5) (Ni := some 5) (Nj := some 6) (mB 8 31) (mB 8 47) rfl rfl rfl rfl (two_of HT_.out (by kernel_rfl)) (by decide) (by decide) (fun K hK => ?_) (fun K hK => ?_)
    ·
     refine box_step ?hg (N := 5) ?hd (cs := #[.slice none 0 0, .slice none 0 0, .bool false]) (t := 25) ?hr ?_; (case hd => rfl); (case hg => rfl); (case hr => first | (go_simp; done) | (go_simp; rfl))
     intro gx hg wk hbox hb
     have f_ := Aside0.mk (HF.out.made HS.out.below.size hg hbox hb); have n_ := Aside0.mk (HS.out.next hb); clear HS HF; have HS := n_; have HF := f_; clear n_ f_ hg hbox hb
     refine hK.out _ _ ⟨(FX.oct HF m2_).1.1, (FX.oct HF m2_).1.2.1, (FX.oct HF m2_).1.2.2, (FX.oct HF m3_).1⟩ (fun hHeld => ?_)
     clear hK K
     refine nO_ 5 ?_
     refine one_ (i := 5) (N := some 6) (mB 8 63) rfl rfl (one_of HT_.out (by kernel_rfl)) (by decide) (fun K hK => ?_)
     refine box_step ?hg (N := 6) ?hd (cs := #[.slice none 0 0, .slice none 0 0, .bool false]) (t := 25) ?hr ?_; (case hd => rfl); (case hg => rfl); (case hr => first | (go_simp; done) | (go_simp; rfl))
     intro gy hg wk hbox hb
     have f_ := Aside0.mk (HF.out.made HS.out.below.size hg hbox hb); have n_ := Aside0.mk (HS.out.next hb); clear HS HF; have HS := n_; have HF := f_; clear n_ f_ hg hbox hb
     refine hK.out _ _ ⟨(FX.oct HF m3_).1.1, (FX.oct HF m3_).1.2.1, (FX.oct HF m3_).1.2.2, (FX.oct HF m4_).1⟩ (fun hHeld => ?_)
     clear hK K
     refine nO_ 6 ?_
     exact nP_ (hJ (xv, yv, gx, gy) _ ⟨hx, hy, HS.out, HF.out.swap⟩)
    ·
     refine box_step ?hg (N := 6) ?hd (cs := #[.slice none 0 0, .slice none 0 0, .bool false]) (t := 25) ?hr ?_; (case hd => rfl); (case hg => rfl); (case hr => first | (go_simp; done) | (go_simp; rfl))
     intro gy hg wk hbox hb
     have f_ := Aside0.mk (HF.out.made HS.out.below.size hg hbox hb); have n_ := Aside0.mk (HS.out.next hb); clear HS HF; have HS := n_; have HF := f_; clear n_ f_ hg hbox hb
     refine hK.out _ _ ⟨(FX.oct HF m2_).1.1, (FX.oct HF m2_).1.2.1, (FX.oct HF m2_).1.2.2, (FX.oct HF m3_).1⟩ (fun hHeld => ?_)
     clear hK K
     refine nO_ 6 ?_
     refine one_ (i := 4) (N := some 5) (mB 8 63) rfl rfl (one_of HT_.out (by kernel_rfl)) (by decide) (fun K hK => ?_)
     refine box_step ?hg (N := 5) ?hd (cs := #[.slice none 0 0, .slice none 0 0, .bool false]) (t := 25) ?hr ?_; (case hd => rfl); (case hg => rfl); (case hr => first | (go_simp; done) | (go_simp; rfl))
     intro gx hg wk hbox hb
     have f_ := Aside0.mk (HF.out.made HS.out.below.size hg hbox hb); have n_ := Aside0.mk (HS.out.next hb); clear HS HF; have HS := n_; have HF := f_; clear n_ f_ hg hbox hb
     refine hK.out _ _ ⟨(FX.oct HF m3_).1.1, (FX.oct HF m3_).1.2.1, (FX.oct HF m3_).1.2.2, (FX.oct HF m4_).1⟩ (fun hHeld => ?_)
     clear hK K
     refine nO_ 5 ?_
     exact nP_ (hJ (xv, yv, gx, gy) _ ⟨hx, hy, HS.out, HF.out⟩)
   ·
    refine box_step ?hg (N := 5) ?hd (cs := #[.slice none 0 0, .slice none 0 0, .bool false]) (t := 25) ?hr ?_; (case hd => rfl); (case hg => rfl); (case hr => first | (go_simp; done) | (go_simp; rfl))
    intro gx hg wk hbox hb
    have f_ := Aside0.mk (HF.out.made HS.out.below.size hg hbox hb); have n_ := Aside0.mk (HS.out.next hb); clear HS HF; have HS := n_; have HF := f_; clear n_ f_ hg hbox hb
    refine hK.out _ _ ⟨(FX.oct HF m2_).1.1, (FX.oct HF m2_).1.2.1, (FX.oct HF m2_).1.2.2, (FX.oct HF m3_).1⟩ (fun hHeld => ?_)
    clear hK K
    refine nO_ 5 ?_
    refine two_ (i := 3) (j := 5) (Ni := some 11) (Nj := some 6) (mB 8 31) (mB 8 55) rfl rfl rfl rfl (two_of HT_.out (by kernel_rfl)) (by decide) (by decide) (fun K hK => ?_) (fun K hK => ?_)
    ·
     refine goes_ Try.func23 (by kernel_rfl) rfl #[Y.val] (by rfl) rfl rfl vL ?_
     with_reducible refine (rclose_own (HY.out.next HS.out.below) HS.out.below GF.out.2.1).mono ?_
     rintro e wk ⟨yv, rfl, hy, ho, hb⟩; refine ⟨_, rfl, ?_⟩
     have n_ := Aside0.mk (HS.out.call hb ho); have f_ := Aside0.mk (HF.out.next hb); clear HS HF; have HS := n_; have HF := f_; clear n_ f_ ho hb
     refine hK.out _ _ ⟨(FX.oct HF m2_).1.1, (FX.oct HF m2_).1.2.1, (FX.oct HF m2_).1.2.2, (FX.oct HF m3_).1⟩ (fun hHeld => ?_)
     clear hK K
     refine nO_ 11 ?_
     refine one_ (i := 5) (N := some 6) (mB 8 63) rfl rfl (one_of HT_.out (by kernel_rfl)) (by decide) (fun K hK => ?_)
     refine box_step ?hg (N := 6) ?hd (cs := #[.slice none 0 0, .slice none 0 0, .bool false]) (t := 25) ?hr ?_; (case hd => rfl); (case hg => rfl); (case hr => first | (go_simp; done) | (go_simp; rfl))
     intro gy hg wk hbox hb
     have f_ := Aside0.mk (HF.out.made HS.out.below.size hg hbox hb); have n_ := Aside0.mk (HS.out.next hb); clear HS HF; have HS := n_; have HF := f_; clear n_ f_ hg hbox hb
     refine hK.out _ _ ⟨(FX.oct HF m3_).1.1, (FX.oct HF m3_).1.2.1, (FX.oct HF m3_).1.2.2, (FX.oct HF m4_).1⟩ (fun hHeld => ?_)
     clear hK K
     refine nO_ 6 ?_
     exact nP_ (hJ (xv, yv, gx, gy) _ ⟨hx, hy, HS.out, HF.out.swap⟩)
    ·
     refine box_step ?hg (N := 6) ?hd (cs := #[.slice none 0 0, .slice none 0 0, .bool false]) (t := 25) ?hr ?_; (case hd => rfl); (case hg => rfl); (case hr => first | (go_simp; done) | (go_simp; rfl))
     intro gy hg wk hbox hb
     have f_ := Aside0.mk (HF.out.made HS.out.below.size hg hbox hb); have n_ := Aside0.mk (HS.out.next hb); clear HS HF; have HS := n_; have HF := f_; clear n_ f_ hg hbox hb
     refine hK.out _ _ ⟨(FX.oct HF m3_).1.1, (FX.oct HF m3_).1.2.1, (FX.oct HF m3_).1.2.2, (FX.oct HF m4_).1⟩ (fun hHeld => ?_)
     clear hK K
     refine nO_ 6 ?_
     refine one_ (i := 3) (N := some 11) (mB 8 63) rfl rfl (one_of HT_.out (by kernel_rfl)) (by decide) (fun K hK => ?_)
     refine goes_ Try.func23 (by kernel_rfl) rfl #[Y.val] (by rfl) rfl rfl vL ?_
     with_reducible refine (rclose_own (HY.out.next HS.out.below) HS.out.below GF.out.2.1).mono ?_
     rintro e wk ⟨yv, rfl, hy, ho, hb⟩; refine ⟨_, rfl, ?_⟩
     have n_ := Aside0.mk (HS.out.call hb ho); have f_ := Aside0.mk (HF.out.next hb); clear HS HF; have HS := n_; have HF := f_; clear n_ f_ ho hb
     refine hK.out _ _ ⟨(FX.oct HF m3_).1.1, (FX.oct HF m3_).1.2.1, (FX.oct HF m3_).1.2.2, (FX.oct HF m4_).1⟩ (fun hHeld => ?_)
     clear hK K
     refine nO_ 11 ?_
     exact nP_ (hJ (xv, yv, gx, gy) _ ⟨hx, hy, HS.out, HF.out.swap⟩)
   ·
    refine box_step ?hg (N := 6) ?hd (cs := #[.slice none 0 0, .slice none 0 0, .bool false]) (t := 25) ?hr ?_; (case hd => rfl); (case hg => rfl); (case hr => first | (go_simp; done) | (go_simp; rfl))
    intro gy hg wk hbox hb
    have f_ := Aside0.mk (HF.out.made HS.out.below.size hg hbox hb); have n_ := Aside0.mk (HS.out.next hb); clear HS HF; have HS := n_; have HF := f_; clear n_ f_ hg hbox hb
    refine hK.out _ _ ⟨(FX.oct HF m2_).1.1, (FX.oct HF m2_).1.2.1, (FX.oct HF m2_).1.2.2, (FX.oct HF m3_).1⟩ (fun hHeld => ?_)
    clear hK K
    refine nO_ 6 ?_
    refine two_ (i := 3) (j := 4) (Ni := some 11) (Nj := some 5) (mB 8 47) (mB 8 55) rfl rfl rfl rfl (two_of HT_.out (by kernel_rfl)) (by decide) (by decide) (fun K hK => ?_) (fun K hK => ?_)
    ·
     refine goes_ Try.func23 (by kernel_rfl) rfl #[Y.val] (by rfl) rfl rfl vL ?_
     with_reducible refine (rclose_own (HY.out.next HS.out.below) HS.out.below GF.out.2.1).mono ?_
     rintro e wk ⟨yv, rfl, hy, ho, hb⟩; refine ⟨_, rfl, ?_⟩
     have n_ := Aside0.mk (HS.out.call hb ho); have f_ := Aside0.mk (HF.out.next hb); clear HS HF; have HS := n_; have HF := f_; clear n_ f_ ho hb
     refine hK.out _ _ ⟨(FX.oct HF m2_).1.1, (FX.oct HF m2_).1.2.1, (FX.oct HF m2_).1.2.2, (FX.oct HF m3_).1⟩ (fun hHeld => ?_)
     clear hK K
     refine nO_ 11 ?_
     refine one_ (i := 4) (N := some 5) (mB 8 63) rfl rfl (one_of HT_.out (by kernel_rfl)) (by decide) (fun K hK => ?_)
     refine box_step ?hg (N := 5) ?hd (cs := #[.slice none 0 0, .slice none 0 0, .bool false]) (t := 25) ?hr ?_; (case hd => rfl); (case hg => rfl); (case hr => first | (go_simp; done) | (go_simp; rfl))
     intro gx hg wk hbox hb
     have f_ := Aside0.mk (HF.out.made HS.out.below.size hg hbox hb); have n_ := Aside0.mk (HS.out.next hb); clear HS HF; have HS := n_; have HF := f_; clear n_ f_ hg hbox hb
     refine hK.out _ _ ⟨(FX.oct HF m3_).1.1, (FX.oct HF m3_).1.2.1, (FX.oct HF m3_).1.2.2, (FX.oct HF m4_).1⟩ (fun hHeld => ?_)
     clear hK K
     refine nO_ 5 ?_
     exact nP_ (hJ (xv, yv, gx, gy) _ ⟨hx, hy, HS.out, HF.out⟩)
    ·
     refine box_step ?hg (N := 5) ?hd (cs := #[.slice none 0 0, .slice none 0 0, .bool false]) (t := 25) ?hr ?_; (case hd => rfl); (case hg => rfl); (case hr => first | (go_simp; done) | (go_simp; rfl))
     intro gx hg wk hbox hb
     have f_ := Aside0.mk (HF.out.made HS.out.below.size hg hbox hb); have n_ := Aside0.mk (HS.out.next hb); clear HS HF; have HS := n_; have HF := f_; clear n_ f_ hg hbox hb
     refine hK.out _ _ ⟨(FX.oct HF m3_).1.1, (FX.oct HF m3_).1.2.1, (FX.oct HF m3_).1.2.2, (FX.oct HF m4_).1⟩ (fun hHeld => ?_)
     clear hK K
     refine nO_ 5 ?_
     refine one_ (i := 3) (N := some 11) (mB 8 63) rfl rfl (one_of HT_.out (by kernel_rfl)) (by decide) (fun K hK => ?_)
     refine goes_ Try.func23 (by kernel_rfl) rfl #[Y.val] (by rfl) rfl rfl vL ?_
     with_reducible refine (rclose_own (HY.out.next HS.out.below) HS.out.below GF.out.2.1).mono ?_
     rintro e wk ⟨yv, rfl, hy, ho, hb⟩; refine ⟨_, rfl, ?_⟩
     have n_ := Aside0.mk (HS.out.call hb ho); have f_ := Aside0.mk (HF.out.next hb); clear HS HF; have HS := n_; have HF := f_; clear n_ f_ ho hb
     refine hK.out _ _ ⟨(FX.oct HF m3_).1.1, (FX.oct HF m3_).1.2.1, (FX.oct HF m3_).1.2.2, (FX.oct HF m4_).1⟩ (fun hHeld => ?_)
     clear hK K
     refine nO_ 11 ?_
     exact nP_ (hJ (xv, yv, gx, gy) _ ⟨hx, hy, HS.out, HF.out⟩)
  ·
   refine box_step ?hg (N := 5) ?hd (cs := #[.slice none 0 0, .slice none 0 0, .bool false]) (t := 25) ?hr ?_; (case hd => rfl); (case hg => rfl); (case hr => first | (go_simp; done) | (go_simp; rfl))
   intro gx hg wk hbox hb
   have f_ := Aside0.mk (HF.out.made HS.out.below.size hg hbox hb); have n_ := Aside0.mk (HS.out.next hb); clear HS HF; have HS := n_; have HF := f_; clear n_ f_ hg hbox hb
   refine hK.out _ _ ⟨(FX.oct HF m2_).1.1, (FX.oct HF m2_).1.2.1, (FX.oct HF m2_).1.2.2, (FX.oct HF m3_).1⟩ (fun hHeld => ?_)
   clear hK K
   refine nO_ 5 ?_
   refine two_ (i := 1) (j := 5) (Ni := some 9) (Nj := some 6) (mB 8 23) (mB 8 53) rfl rfl rfl rfl (two_of HT_.out (by kernel_rfl)) (by decide) (by decide) (fun K hK => ?_) (fun K hK => ?_)
   ·
    refine goes_ Try.func23 (by kernel_rfl) rfl #[X.val] (by rfl) rfl rfl vL ?_
    with_reducible refine (rclose_own (HX.out.next HS.out.below) HS.out.below GF.out.1.1).mono ?_
    rintro e wk ⟨xv, rfl, hx, ho, hb⟩; refine ⟨_, rfl, ?_⟩
    have n_ := Aside0.mk (HS.out.call hb ho); have f_ := Aside0.mk (HF.out.next hb); clear HS HF; have HS := n_; have HF := f_; clear n_ f_ ho hb
    refine hK.out _ _ ⟨(FX.oct HF m2_).1.1, (FX.oct HF m2_).1.2.1, (FX.oct HF m2_).1.2.2, (FX.oct HF m3_).1⟩ (fun hHeld => ?_)
    clear hK K
    refine nO_ 9 ?_
    refine two_ (i := 3) (j := 5) (Ni := some 11) (Nj := some 6) (mB 8 31) (mB 8 55) rfl rfl rfl rfl (two_of HT_.out (by kernel_rfl)) (by decide) (by decide) (fun K hK => ?_) (fun K hK => ?_)
    ·
     refine goes_ Try.func23 (by kernel_rfl) rfl #[Y.val] (by rfl) rfl rfl vL ?_
     with_reducible refine (rclose_own (HY.out.next HS.out.below) HS.out.below GF.out.2.1).mono ?_
     rintro e wk ⟨yv, rfl, hy, ho, hb⟩; refine ⟨_, rfl, ?_⟩
     have n_ := Aside0.mk (HS.out.call hb ho); have f_ := Aside0.mk (HF.out.next hb); clear HS HF; have HS := n_; have HF := f_; clear n_ f_ ho hb
     refine hK.out _ _ ⟨(FX.oct HF m2_).1.1, (FX.oct HF m2_).1.2.1, (FX.oct HF m2_).1.2.2, (FX.oct HF m3_).1⟩ (fun hHeld => ?_)
     clear hK K
     refine nO_ 11 ?_
     refine one_ (i := 5) (N := some 6) (mB 8 63) rfl rfl (one_of HT_.out (by kernel_rfl)) (by decide) (fun K hK => ?_)
     refine box_step ?hg (N := 6) ?hd (cs := #[.slice none 0 0, .slice none 0 0, .bool false]) (t := 25) ?hr ?_; (case hd => rfl); (case hg => rfl); (case hr => first | (go_simp; done) | (go_simp; rfl))
     intro gy hg wk hbox hb
     have f_ := Aside0.mk (HF.out.made HS.out.below.size hg hbox hb); have n_ := Aside0.mk (HS.out.next hb); clear HS HF; have HS := n_; have HF := f_; clear n_ f_ hg hbox hb
     refine hK.out _ _ ⟨(FX.oct HF m3_).1.1, (FX.oct HF m3_).1.2.1, (FX.oct HF m3_).1.2.2, (FX.oct HF m4_).1⟩ (fun hHeld => ?_)
     clear hK K
     refine nO_ 6 ?_
     exact nP_ (hJ (xv, yv, gx, gy) _ ⟨hx, hy, HS.out, HF.out.swap⟩)
    ·
     refine box_step ?hg (N := 6) ?hd (cs := #[.slice none 0 0, .slice none 0 0, .bool false]) (t := 25) ?hr ?_; (case hd => rfl); (case hg => rfl); (case hr => first | (go_simp; done) | (go_simp; rfl))
     intro gy hg wk hbox hb
     have f_ := Aside0.mk (HF.out.made HS.out.below.size hg hbox hb); have n_ := Aside0.mk (HS.out.next hb); clear HS HF; have HS := n_; have HF := f_; clear n_ f_ hg hbox hb
     refine hK.out _ _ ⟨(FX.oct HF m3_).1.1, (FX.oct HF m3_).1.2.1, (FX.oct HF m3_).1.2.2, (FX.oct HF m4_).1⟩ (fun hHeld => ?_)
     clear hK K
     refine nO_ 6 ?_
     refine one_ (i := 3) (N := some 11) (mB 8 63) rfl rfl (one_of HT_.out (by kernel_rfl)) (by decide) (fun K hK => ?_)
     refine goes_ Try.func23 (by kernel_rfl) rfl #[Y.val] (by rfl) rfl rfl vL ?_
     with_reducible refine (rclose_own (HY.out.next HS.out.below) HS.out.below GF.out.2.1).mono ?_
     rintro e wk ⟨yv, rfl, hy, ho, hb⟩; refine ⟨_, rfl, ?_⟩
     have n_ := Aside0.mk (HS.out.call hb ho); have f_ := Aside0.mk (HF.out.next hb); clear HS HF; have HS := n_; have HF := f_; clear n_ f_ ho hb
     refine hK.out _ _ ⟨(FX.oct HF m3_).1.1, (FX.oct HF m3_).1.2.1, (FX.oct HF m3_).1.2.2, (FX.oct HF m4_).1⟩ (fun hHeld => ?_)
     clear hK K
     refine nO_ 11 ?_
     exact nP_ (hJ (xv, yv, gx, gy) _ ⟨hx, hy, HS.out, HF.out.swap⟩)
   ·
    refine box_step ?hg (N := 6) ?hd (cs := #[.slice none 0 0, .slice none 0 0, .bool false]) (t := 25) ?hr ?_; (case hd => rfl); (case hg => rfl); (case hr => first | (go_simp; done) | (go_simp; rfl))
    intro gy hg wk hbox hb
    have f_ := Aside0.mk (HF.out.made HS.out.below.size hg hbox hb); have n_ := Aside0.mk (HS.out.next hb); clear HS HF; have HS := n_; have HF := f_; clear n_ f_ hg hbox hb
    refine hK.out _ _ ⟨(FX.oct HF m3_).1.1, (FX.oct HF m3_).1.2.1, (FX.oct HF m3_).1.2.2, (FX.oct HF m4_).1⟩ (fun hHeld => ?_)
    clear hK K
    refine nO_ 6 ?_
    refine one_ (i := 1) (N := some 9) (mB 8 55) rfl rfl (one_of HT_.out (by kernel_rfl)) (by decide) (fun K hK => ?_)
    refine goes_ Try.func23 (by kernel_rfl) rfl #[X.val] (by rfl) rfl rfl vL ?_
    with_reducible refine (rclose_own (HX.out.next HS.out.below) HS.out.below GF.out.1.1).mono ?_
    rintro e wk ⟨xv, rfl, hx, ho, hb⟩; refine ⟨_, rfl, ?_⟩
    have n_ := Aside0.mk (HS.out.call hb ho); have f_ := Aside0.mk (HF.out.next hb); clear HS HF; have HS := n_; have HF := f_; clear n_ f_ ho hb
    refine hK.out _ _ ⟨(FX.oct HF m3_).1.1, (FX.oct HF m3_).1.2.1, (FX.oct HF m3_).1.2.2, (FX.oct HF m4_).1⟩ (fun hHeld => ?_)
    clear hK K
    refine nO_ 9 ?_
    refine one_ (i := 3) (N := some 11) (mB 8 63) rfl rfl (one_of HT_.out (by kernel_rfl)) (by decide) (fun K hK => ?_)
    refine goes_ Try.func23 (by kernel_rfl) rfl #[Y.val] (by rfl) rfl rfl vL ?_
    with_reducible refine (rclose_own (HY.out.next HS.out.below) HS.out.below GF.out.2.1).mono ?_
    rintro e wk ⟨yv, rfl, hy, ho, hb⟩; refine ⟨_, rfl, ?_⟩
    have n_ := Aside0.mk (HS.out.call hb ho); have f_ := Aside0.mk (HF.out.next hb); clear HS HF; have HS := n_; have HF := f_; clear n_ f_ ho hb
    refine hK.out _ _ ⟨(FX.oct HF m3_).1.1, (FX.oct HF m3_).1.2.1, (FX.oct HF m3_).1.2.2, (FX.oct HF m4_).1⟩ (fun hHeld => ?_)
    clear hK K
    refine nO_ 11 ?_
    exact nP_ (hJ (xv, yv, gx, gy) _ ⟨hx, hy, HS.out, HF.out.swap⟩)
  ·
   refine box_step ?hg (N := 6) ?hd (cs := #[.slice none 0 0, .slice none 0 0, .bool false]) (t := 25) ?hr ?_; (case hd => rfl); (case hg => rfl); (case hr => first | (go_simp; done) | (go_simp; rfl))
   intro gy hg wk hbox hb
   have f_ := Aside0.mk (HF.out.made HS.out.below.size hg hbox hb); have n_ := Aside0.mk (HS.out.next hb); clear HS HF; have HS := n_; have HF := f_; clear n_ f_ hg hbox hb
   refine hK.out _ _ ⟨(FX.oct HF m2_).1.1, (FX.oct HF m2_).1.2.1, (FX.oct HF m2_).1.2.2, (FX.oct HF m3_).1⟩ (fun hHeld => ?_)
   clear hK K
   refine nO_ 6 ?_
   refine two_ (i := 1) (j := 4) (Ni := some 9) (Nj := some 5) (mB 8 39) (mB 8 53) rfl rfl rfl rfl (two_of HT_.out (by kernel_rfl)) (by decide) (by decide) (fun K hK => ?_) (fun K hK => ?_)
   ·
    refine goes_ Try.func23 (by kernel_rfl) rfl #[X.val] (by rfl) rfl rfl vL ?_
    with_reducible refine (rclose_own (HX.out.next HS.out.below) HS.out.below GF.out.1.1).mono ?_
    rintro e wk ⟨xv, rfl, hx, ho, hb⟩; refine ⟨_, rfl, ?_⟩
    have n_ := Aside0.mk (HS.out.call hb ho); have f_ := Aside0.mk (HF.out.next hb); clear HS HF; have HS := n_; have HF := f_; clear n_ f_ ho hb
    refine hK.out _ _ ⟨(FX.oct HF m2_).1.1, (FX.oct HF m2_).1.2.1, (FX.oct HF m2_).1.2.2, (FX.oct HF m3_).1⟩ (fun hHeld => ?_)
    clear hK K
    refine nO_ 9 ?_
    refine two_ (i := 3) (j := 4) (Ni := some 11) (Nj := some 5) (mB 8 47) (mB 8 55) rfl rfl rfl rfl (two_of HT_.out (by kernel_rfl)) (by decide) (by decide) (fun K hK => ?_) (fun K hK => ?_)
    ·
     refine goes_ Try.func23 (by kernel_rfl) rfl #[Y.val] (by rfl) rfl rfl vL ?_
     with_reducible refine (rclose_own (HY.out.next HS.out.below) HS.out.below GF.out.2.1).mono ?_
     rintro e wk ⟨yv, rfl, hy, ho, hb⟩; refine ⟨_, rfl, ?_⟩
     have n_ := Aside0.mk (HS.out.call hb ho); have f_ := Aside0.mk (HF.out.next hb); clear HS HF; have HS := n_; have HF := f_; clear n_ f_ ho hb
     refine hK.out _ _ ⟨(FX.oct HF m2_).1.1, (FX.oct HF m2_).1.2.1, (FX.oct HF m2_).1.2.2, (FX.oct HF m3_).1⟩ (fun hHeld => ?_)
     clear hK K
     refine nO_ 11 ?_
     refine one_ (i := 4) (N := some 5) (mB 8 63) rfl rfl (one_of HT_.out (by kernel_rfl)) (by decide) (fun K hK => ?_)
     refine box_step ?hg (N := 5) ?hd (cs := #[.slice none 0 0, .slice none 0 0, .bool false]) (t := 25) ?hr ?_; (case hd => rfl); (case hg => rfl); (case hr => first | (go_simp; done) | (go_simp; rfl))
     intro gx hg wk hbox hb
     have f_ := Aside0.mk (HF.out.made HS.out.below.size hg hbox hb); have n_ := Aside0.mk (HS.out.next hb); clear HS HF; have HS := n_; have HF := f_; clear n_ f_ hg hbox hb
     refine hK.out _ _ ⟨(FX.oct HF m3_).1.1, (FX.oct HF m3_).1.2.1, (FX.oct HF m3_).1.2.2, (FX.oct HF m4_).1⟩ (fun hHeld => ?_)
     clear hK K
     refine nO_ 5 ?_
     exact nP_ (hJ (xv, yv, gx, gy) _ ⟨hx, hy, HS.out, HF.out⟩)
    ·
     refine box_step ?hg (N := 5) ?hd (cs := #[.slice none 0 0, .slice none 0 0, .bool false]) (t := 25) ?hr ?_; (case hd => rfl); (case hg => rfl); (case hr => first | (go_simp; done) | (go_simp; rfl))
     intro gx hg wk hbox hb
     have f_ := Aside0.mk (HF.out.made HS.out.below.size hg hbox hb); have n_ := Aside0.mk (HS.out.next hb); clear HS HF; have HS := n_; have HF := f_; clear n_ f_ hg hbox hb
     refine hK.out _ _ ⟨(FX.oct HF m3_).1.1, (FX.oct HF m3_).1.2.1, (FX.oct HF m3_).1.2.2, (FX.oct HF m4_).1⟩ (fun hHeld => ?_)
     clear hK K
     refine nO_ 5 ?_
     refine one_ (i := 3) (N := some 11) (mB 8 63) rfl rfl (one_of HT_.out (by kernel_rfl)) (by decide) (fun K hK => ?_)
     refine goes_ Try.func23 (by kernel_rfl) rfl #[Y.val] (by rfl) rfl rfl vL ?_
     with_reducible refine (rclose_own (HY.out.next HS.out.below) HS.out.below GF.out.2.1).mono ?_
     rintro e wk ⟨yv, rfl, hy, ho, hb⟩; refine ⟨_, rfl, ?_⟩
     have n_ := Aside0.mk (HS.out.call hb ho); have f_ := Aside0.mk (HF.out.next hb); clear HS HF; have HS := n_; have HF := f_; clear n_ f_ ho hb
     refine hK.out _ _ ⟨(FX.oct HF m3_).1.1, (FX.oct HF m3_).1.2.1, (FX.oct HF m3_).1.2.2, (FX.oct HF m4_).1⟩ (fun hHeld => ?_)
     clear hK K
     refine nO_ 11 ?_
     exact nP_ (hJ (xv, yv, gx, gy) _ ⟨hx, hy, HS.out, HF.out⟩)
   ·
    refine box_step ?hg (N := 5) ?hd (cs := #[.slice none 0 0, .slice none 0 0, .bool false]) (t := 25) ?hr ?_; (case hd => rfl); (case hg => rfl); (case hr => first | (go_simp; done) | (go_simp; rfl))
    intro gx hg wk hbox hb
    have f_ := Aside0.mk (HF.out.made HS.out.below.size hg hbox hb); have n_ := Aside0.mk (HS.out.next hb); clear HS HF; have HS := n_; have HF := f_; clear n_ f_ hg hbox hb
    refine hK.out _ _ ⟨(FX.oct HF m3_).1.1, (FX.oct HF m3_).1.2.1, (FX.oct HF m3_).1.2.2, (FX.oct HF m4_).1⟩ (fun hHeld => ?_)
    clear hK K
    refine nO_ 5 ?_
    refine one_ (i := 1) (N := some 9) (mB 8 55) rfl rfl (one_of HT_.out (by kernel_rfl)) (by decide) (fun K hK => ?_)
    refine goes_ Try.func23 (by kernel_rfl) rfl #[X.val] (by rfl) rfl rfl vL ?_
    with_reducible refine (rclose_own (HX.out.next HS.out.below) HS.out.below GF.out.1.1).mono ?_
    rintro e wk ⟨xv, rfl, hx, ho, hb⟩; refine ⟨_, rfl, ?_⟩
    have n_ := Aside0.mk (HS.out.call hb ho); have f_ := Aside0.mk (HF.out.next hb); clear HS HF; have HS := n_; have HF := f_; clear n_ f_ ho hb
    refine hK.out _ _ ⟨(FX.oct HF m3_).1.1, (FX.oct HF m3_).1.2.1, (FX.oct HF m3_).1.2.2, (FX.oct HF m4_).1⟩ (fun hHeld => ?_)
    clear hK K
    refine nO_ 9 ?_
    refine one_ (i := 3) (N := some 11) (mB 8 63) rfl rfl (one_of HT_.out (by kernel_rfl)) (by decide) (fun K hK => ?_)
    refine goes_ Try.func23 (by kernel_rfl) rfl #[Y.val] (by rfl) rfl rfl vL ?_
    with_reducible refine (rclose_own (HY.out.next HS.out.below) HS.out.below GF.out.2.1).mono ?_
    rintro e wk ⟨yv, rfl, hy, ho, hb⟩; refine ⟨_, rfl, ?_⟩
    have n_ := Aside0.mk (HS.out.call hb ho); have f_ := Aside0.mk (HF.out.next hb); clear HS HF; have HS := n_; have HF := f_; clear n_ f_ ho hb
    refine hK.out _ _ ⟨(FX.oct HF m3_).1.1, (FX.oct HF m3_).1.2.1, (FX.oct HF m3_).1.2.2, (FX.oct HF m4_).1⟩ (fun hHeld => ?_)
    clear hK K
    refine nO_ 11 ?_
    exact nP_ (hJ (xv, yv, gx, gy) _ ⟨hx, hy, HS.out, HF.out⟩)
 rintro ⟨xv, yv, gx, gy⟩ W4 ⟨hx, hy, HS4, HF4⟩
 clear HS HF hHeld
 have HS := Aside0.mk HS4; have HF := Aside0.mk HF4
 have kne := FX.nes HF4; have kne' := fun e => kne (Eq.symm e)
 clear HS4 HF4
 dsimp only at HS HF hx hy kne kne'
 obtain ⟨⟨p0, p1, p2⟩, p3, p4, p5⟩ := FX.oct HF m0_; obtain ⟨⟨q0, q1, q2⟩, q3, q4, q5⟩ := FX.oct HF m1_
 refine nS_ ?_
 refine last_ (i := 6) (N := none) (mB 8 127) rfl rfl (one_of HT_.out (by kernel_rfl)) (by decide) (fun K hK => ?_)
 refine skip_ (w1 := ?_) (by rfl) rfl ?_ ?_
 rotate_left
 ·
  go_simp
  rfl
 refine hK.out _ _ ?_
 clear hK K
 refine last_ (i := 7) (N := none) (mB 8 255) rfl rfl (one_of HT_.out (by kernel_rfl)) (by decide) (fun K hK => ?_)
 refine skip_ (w1 := ?_) (by rfl) rfl ?_ ?_
 rotate_left
 ·
  go_simp
  rfl
 refine hK.out _ _ ?_
 clear hK K
 refine done_ (done_of HT_.out (by kernel_rfl)) ?_
 clear p0 p1 p2 p3 p4 p5 q0 q1 q2 q3 q4 q5 kne kne' HT_ HW_
 unfold OnlyN
 have f1_ := HF.out.put3 (a' := .slice xv.P xv.v.length xv.p) (b' := .slice xv.Q xv.m.length xv.q) (c' := .bool xv.e); have s1_ := OS.box3 (a' := .slice xv.P xv.v.length xv.p) (b' := .slice xv.Q xv.m.length xv.q) (c' := .bool xv.e) HS.out (HF.out.all _ m0_).1 (HF.out.all _ m0_).2 (by decide) (by decide); have f2_ := f1_.swap; have f3_ := Aside0.mk (f2_.put3 (a' := .slice yv.P yv.v.length yv.p) (b' := .slice yv.Q yv.m.length yv.q) (c' := .bool yv.e)); have s3_ := Aside0.mk (OS.box3 (a' := .slice yv.P yv.v.length yv.p) (b' := .slice yv.Q yv.m.length yv.q) (c' := .bool yv.e) s1_ (f2_.all _ m0_).1 (f2_.all _ m0_).2 (by decide) (by decide)); clear HS HF f1_ f2_ s1_; have HS := s3_; have HF := f3_; clear s3_ f3_
 generalize hW5 : ((((((W4.setCell ⟨gx, 0, none⟩ (.slice xv.P xv.v.length xv.p)).setCell ⟨gx, 1, none⟩ (.slice xv.Q xv.m.length xv.q)).setCell ⟨gx, 2, none⟩ (.bool xv.e)).setCell ⟨gy, 0, none⟩ (.slice yv.P yv.v.length yv.p)).setCell ⟨gy, 1, none⟩ (.slice yv.Q yv.m.length yv.q)).setCell ⟨gy, 2, none⟩ (.bool yv.e)) = W5 at HS HF ⊢; clear hW5
 obtain ⟨xP, xp, xQ, xq, xV, xM, xE⟩ := xv
 obtain ⟨yP, yp, yQ, yq, yV, yM, yE⟩ := yv
 have gx1 := hx
 have gy1 := hy
 clear hx hy
 have hans := HAN.out
 have HC : Aside0 ((xE = true → (yV, yM, yE) = ans) ∧ (xE = false → yE = true → (xV, xM, xE) = ans) ∧ (xE = false → yE = false → xM.length = yM.length ∧ xM.length < 4611686018427387904 ∧ ∀ xs : List Int, xs.length = xM.length → (∀ k : Nat, k < xM.length → rd xs (k : Int) = mx (rd xM (k : Int)) (rd yM (k : Int))) → (xV, xs, xE) = ans)) := ⟨by
  obtain ⟨fx, e1⟩ := GF.out.1
  obtain ⟨fy, e2⟩ := GF.out.2
  rw [e1] at fx gx1
  rw [e2] at fy gy1
  rw [← hans]
  unfold joinF
  obtain ⟨A, a⟩ := mean_ex fx
  obtain ⟨B, b⟩ := mean_ex fy
  cases a with
  | none q _ =>
   rw [q] at gx1
   rw [q]
   obtain ⟨_, rfl, rfl⟩ := Prod.mk.inj gx1 |>.imp id Prod.mk.inj
   exact ⟨fun _ => by rw [if_pos rfl]; exact gy1, fun h => (by cases h), fun h => (by cases h)⟩
  | some q _ _ s1 =>
   rw [q] at gx1
   obtain ⟨hv1, rfl, rfl⟩ := Prod.mk.inj gx1 |>.imp id Prod.mk.inj
   have hv2 : xV = vars := hv1
   clear hv1
   subst hv2
   cases b with
   | none q' _ =>
    rw [q'] at gy1
    obtain ⟨_, rfl, rfl⟩ := Prod.mk.inj gy1 |>.imp id Prod.mk.inj
    rw [q, q', if_neg (by simp), if_pos rfl]
    exact ⟨fun h => (by cases h), fun _ _ => rfl, fun _ h => (by cases h)⟩
   | some q' _ _ s2 =>
    rw [q'] at gy1
    obtain ⟨_, rfl, rfl⟩ := Prod.mk.inj gy1 |>.imp id Prod.mk.inj
    rw [q, q', if_neg (by simp), if_neg (by simp)]
    refine ⟨fun h => (by cases h), fun _ h => (by cases h), fun _ _ => ⟨by rw [lst_length, lst_length], by rw [lst_length]; have := fx.1.1; exact Nat.lt_of_le_of_lt (Nat.mul_le_mul (show 2 * xV.length ≤ 16 by omega) (show 2 * xV.length ≤ 16 by omega)) (by decide), fun xs hl h => ?_⟩⟩
    rw [join_list fx.1 s1 s2 hl h]⟩
 clear gx1 gy1 hans HAN GF HX HY
 obtain ⟨⟨ky0, ky1, ky2⟩, fy0, fy1, fy2⟩ := FX.oct HF m0_; obtain ⟨⟨kx0, kx1, kx2⟩, fx0, fx1, fx2⟩ := FX.oct HF m1_; obtain ⟨⟨kr0, kr1, kr2⟩, fr0, fr1, fr2⟩ := FX.oct HF m2_; obtain ⟨⟨ka0, ka1, ka2⟩, fa0, fa1, fa2⟩ := FX.oct HF m3_; obtain ⟨⟨kb0, kb1, kb2⟩, fb0, fb1, fb2⟩ := FX.oct HF m4_
 dsimp only at kx0 kx1 kx2 ky0 ky1 ky2 kr0 kr1 kr2 ⊢
 cases xE with
 | true =>
  have ha := HC.out.1 rfl
  subst ha
  go_wp2
  refine bodyPost_ret (results_cell_row rfl _ _ gr 25 #[.slice yP yV.length yp, .slice yQ yM.length yq, .bool yE] (0, 0) _ rfl (store3 (HF.out.all _ m2_).1 _ _ _).1 Try.underlying25 rfl (by kernel_rfl)) rfl ?_
  exact ⟨⟨yP, yp, yQ, yq, yV, yM, yE⟩, rfl, ⟨rfl, rfl, rfl⟩, (OS.box3 HS.out (HF.out.all _ m2_).1 (HF.out.all _ m2_).2 (by decide) (by decide)).own _ m0_, (OS.box3 HS.out (HF.out.all _ m2_).1 (HF.out.all _ m2_).2 (by decide) (by decide)).below⟩
 | false =>
  cases yE with
  | true =>
   have ha := HC.out.2.1 rfl rfl
   subst ha
   go_wp2
   refine bodyPost_ret (results_cell_row rfl _ _ gr 25 #[.slice xP xV.length xp, .slice xQ xM.length xq, .bool false] (0, 0) _ rfl (store3 (HF.out.all _ m2_).1 _ _ _).1 Try.underlying25 rfl (by kernel_rfl)) rfl ?_
   exact ⟨⟨xP, xp, xQ, xq, xV, xM, false⟩, rfl, ⟨rfl, rfl, rfl⟩, (OS.box3 HS.out (HF.out.all _ m2_).1 (HF.out.all _ m2_).2 (by decide) (by decide)).own _ m1_, (OS.box3 HS.out (HF.out.all _ m2_).1 (HF.out.all _ m2_).2 (by decide) (by decide)).below⟩
  | false =>
   have HL := Aside0.mk (HC.out.2.2 rfl rfl)
   clear HC
   go_wp2
   have s_ := Aside0.mk (OS.swap (OS.to HS)); have f_ := Aside0.mk (FX.to HF); clear HS HF; have HS := s_; have HF := f_; clear s_ f_
   go_loopg [21] xM.length (fun kq v21 w' => ∃ (i : Int) (xs : List Int), v21 = .int .i64 i ∧ Aside0 (0 ≤ i ∧ i + (kq : Int) = (xM.length : Int)) ∧ Aside0 (xs.length = xM.length) ∧ Aside0 (∀ k : Nat, k < xM.length → rd xs (k : Int) = if (k : Int) < i then mx (rd xM (k : Int)) (rd yM (k : Int)) else rd xM (k : Int)) ∧ Aside0 (OS w [⟨xP, xp, xQ, xq, xV, xs, false⟩, ⟨yP, yp, yQ, yq, yV, yM, false⟩] w') ∧ Aside0 (FX w [(gy, OV.cells ⟨yP, yp, yQ, yq, yV, yM, false⟩), (gx, OV.cells ⟨xP, xp, xQ, xq, xV, xM, false⟩), (gr, .cells #[.slice none 0 0, .slice none 0 0, .bool false] 25 (0, 0))] w'))
   case atStart => exact ⟨0, xM, by rfl, ⟨by omega⟩, ⟨rfl⟩, ⟨fun k h => by rw [if_neg (by omega)]⟩, ⟨OS.to HS⟩, ⟨FX.sub (FX.to HF) (List.Sublist.cons_cons _ (List.Sublist.cons_cons _ (List.Sublist.cons_cons _ (List.nil_sublist _))))⟩⟩
   case round =>
    clear HS HF kx0 kx1 kx2 fx0 fx1 fx2 ky0 ky1 ky2 fy0 fy1 fy2 ka0 ka1 ka2 fa0 fa1 fa2 kb0 kb1 kb2 fb0 fb1 fb2 kr0 kr1 kr2 fr0 fr1 fr2
    obtain ⟨i, xs, rfl, HI, HN, HJ, HS, HF⟩ := hrel
    obtain ⟨⟨ky0, ky1, ky2⟩, fy0, fy1, fy2⟩ := FX.oct HF m0_; obtain ⟨⟨kx0, kx1, kx2⟩, fx0, fx1, fx2⟩ := FX.oct HF m1_; obtain ⟨⟨kr0, kr1, kr2⟩, fr0, fr1, fr2⟩ := FX.oct HF m2_
    dsimp only at kx0 kx1 kx2 ky0 ky1 ky2 kr0 kr1 kr2
    cases gk with
    | succ k =>
     have q1 : (decide (i < (xM.length : Int))) = true := decide_eq_true (by have := HI.out; omega)
     have p2 : 0 ≤ i := HI.out.1
     have q2 : i < (xM.length : Int) := by have := HI.out; omega
     have q3 : i < (yM.length : Int) := by have := HI.out; have := HL.out.1; omega
     have q4 : i < (xs.length : Int) := by rw [HN.out]; exact q2
     obtain ⟨xb, xc, ex, _, _, _, _⟩ := HS.out.place (show 0 < xs.length by omega)
     cases ex
     obtain ⟨hx0, hfx⟩ := Kd.R_cell 0 (HS.out.own _ m0_).r1 i p2 q4
     obtain ⟨bd, eb, hy0⟩ := Kd.at_int (HS.out.own _ m1_).now i p2 q3
     cases eb
     replace p2 := eq_true p2
     replace q2 := eq_true q2
     replace q3 := eq_true q3
     obtain ⟨ji, hji⟩ : ∃ j : Int, (if rd xs i < rd yM i then rd yM i else rd xs i) = j := ⟨_, rfl⟩
     go_upto_region 9 with fail
     have n_ := Aside0.mk (HS.out.next (below_drew (Below.refl _ _))); have f_ := Aside0.mk (HF.out.next (below_drew (Below.refl _ _))); clear HS HF; have HS := n_; have HF := f_; clear n_ f_
     refine start_ (n := 16) (S := fun w' => w'.cell? ⟨gx, 1, none⟩ = some (.slice (some ⟨xb, 0, none⟩) xM.length xq) ∧ w'.cell? ⟨gy, 1, none⟩ = some (.slice (some bd) yM.length yq) ∧ w'.cell? ⟨xb, i.toNat, none⟩ = some (.int .i64 (rd xs i)) ∧ w'.cell? (bd.add i.toNat) = some (.int .i64 (rd yM i))) (ds := [15]) (mB 16 0) (by kernel_rfl) rfl (by kernel_rfl) ⟨kx1, ky1, hx0, hy0⟩ (fun hHeld => ?_)
     refine with_tabW rjoin_tab9 rjoin_bits9 (fun HT_ HW_ => ?_)
     generalize hWd : World.drew _ = Wd at HS HF hHeld ⊢; clear hWd; clear hx0 hfx hy0; obtain ⟨hx0, hfx⟩ := Kd.R_cell 0 (HS.out.own _ m0_).r1 i HI.out.1 q4
     refine pV_ 0 24 (mB 16 1) HT_ ?_
     refine tV_ 1 25 (mB 16 3) HT_ HW_ hHeld ?_
     refine pV_ 2 26 (mB 16 7) HT_ ?_
     refine pV_ 3 27 (mB 16 15) HT_ ?_
     refine tV_ 4 28 (mB 16 31) HT_ HW_ hHeld ?_
     refine pV_ 5 29 (mB 16 63) HT_ ?_
     refine pV_ 6 30 (mB 16 127) HT_ ?_
     refine tV_ 7 31 (mB 16 255) HT_ HW_ hHeld ?_
     refine pV_ 8 32 (mB 16 511) HT_ ?_
     refine tV_ 9 33 (mB 16 1023) HT_ HW_ hHeld ?_
     refine pV_ 10 34 (mB 16 2047) HT_ ?_
     refine pV_ 11 35 (mB 16 4095) HT_ ?_
     refine tV_ 12 36 (mB 16 8191) HT_ HW_ hHeld ?_
     refine pV_ 13 37 (mB 16 16383) HT_ ?_
     refine pV_ 14 38 (mB 16 32767) HT_ ?_
     refine last_ (i := 15) (N := none) (mB 16 65535) rfl rfl (one_of HT_.out (by kernel_rfl)) (by decide) (fun K hK => ?_)
     refine skip_ (w1 := ?_) (by rfl) rfl ?_ ?_
     rotate_left
     ·
      go_simp
      rfl
     refine hK.out _ _ ?_
     clear hK K
     refine done_ (done_of HT_.out (by kernel_rfl)) ?_
     clear HT_ HW_ hHeld
     try go_wp2
     have hji' : mx (rd xs i) (rd yM i) = ji := hji
     go_roundg k
     case measure => exact Nat.lt_succ_self k
     case rel =>
      have hw : wrap64 (i + 1) = i + 1 := by have := HI.out; have := HL.out.2.1; unfold wrap64; omega
      refine ⟨wrap64 (i + 1), xs.set i.toNat ji, rfl, ⟨by rw [hw]; have := HI.out; omega⟩, ⟨by rw [List.length_set]; exact HN.out⟩, ⟨?_⟩, ⟨?_⟩, ⟨?_⟩⟩
      ·
       rw [hw]
       intro j hj
       have h1 := HJ.out j hj
       by_cases e : (j : Int) = i
       ·
        subst e
        rw [if_pos (by omega)]
        rw [if_neg (by omega)] at h1
        rw [← h1, hji']
        unfold rd
        simp [List.getD_eq_getElem?_getD, HN.out, hj]
       ·
        have : rd (xs.set i.toNat ji) (j : Int) = rd xs (j : Int) := by
         unfold rd
         have : i.toNat ≠ j := by have := HI.out; omega
         simp [List.getD_eq_getElem?_getD, List.getElem?_set, this]
        rw [this, h1]
        by_cases c : (j : Int) < i
        ·
         rw [if_pos c, if_pos (by omega)]
        ·
         rw [if_neg c, if_neg (by omega)]
      ·
       exact HS.out.poke rfl (by have := HI.out; have := HN.out; dsimp only; omega) i ji
      ·
       exact FX.poke HF.out (HS.out.own _ m0_) rfl (fun f hf => by
        simp only [List.mem_cons, List.not_mem_nil, or_false] at hf
        rcases hf with rfl | rfl | rfl <;> exact ⟨_, _, rfl, by decide, by decide⟩) _ _
    | zero =>
     have q1 : (decide (i < (xM.length : Int))) = false := decide_eq_false (by have := HI.out; omega)
     have ha := HL.out.2.2 xs HN.out (fun k hk => by rw [HJ.out k hk, if_pos (by have := HI.out; omega)])
     subst ha
     go_wp2
     refine bodyPost_ret (results_cell_row rfl _ _ gr 25 #[.slice xP xV.length xp, .slice xQ xM.length xq, .bool false] (0, 0) _ rfl (store3 (HF.out.all _ m2_).1 _ _ _).1 Try.underlying25 rfl (by kernel_rfl)) rfl ?_
     exact ⟨⟨xP, xp, xQ, xq, xV, xs, false⟩, by rw [← HN.out], rfl, (OS.box3 HS.out (HF.out.all _ m2_).1 (HF.out.all _ m2_).2 (by decide) (by decide)).own _ m0_, (OS.box3 HS.out (HF.out.all _ m2_).1 (HF.out.all _ m2_).2 (by decide) (by decide)).below⟩
end Go.Proofs.Ytomgebmimgaojaa.QO
end
end
section
noncomputable section
namespace Go.Proofs.Ytomgebmimgaojaa.QO
open Go.RowKit Go.Shelf Go.Proofs.YtomgebmimgaojaaW.PrintWords Go.Proofs.YtomgebmimgaojaaW.PrintLast Go.Proofs.YtomgebmimgaojaaW.PrintMore
open OctMath (over overs plus Bd Fin' Top62)
attribute [local go_sem] max2_int min2_int max_two min_two max_three min_three max_four min_four
attribute [local go_sem ↓] Go.wp_at_zero Go.wp_at_succ
set_option linter.unusedVariables false
set_option linter.unusedSimpArgs false
def upK (c : Nat → Nat → Int) (n k : Nat) : Nat → Nat → Int := fun a b => if a * n + b < k then c a b else 0
theorem upK_zero (n : Nat) (c : Nat → Nat → Int) : List.replicate (n * n) (0 : Int) = lst n (upK c n 0) := by
  apply List.ext_getElem
  · simp [lst]
  · intro t h1 h2; simp [lst, upK]
theorem upK_all {c : Nat → Nat → Int} {n : Nat} (a b : Nat) (ha : a < n) (hb : b < n) : upK c n (n * n) a b = c a b := by unfold upK; rw [if_pos (ij_lt ha hb)]
theorem upK_step {c : Nat → Nat → Int} {n i j : Nat} (hj : j < n) (a b : Nat) (hb : b < n) : upK c n (i * n + j + 1) a b = if a = i ∧ b = j then c i j else upK c n (i * n + j) a b := by
  unfold upK
  by_cases e : a = i ∧ b = j
  · rw [if_pos e, e.1, e.2, if_pos (by omega)]
  · rw [if_neg e]
    have hne : a * n + b ≠ i * n + j := fun h => e (by
      have h1 := ij_div (n := n) (i := a) hb; have h2 := ij_div (n := n) (i := i) hj
      have h3 := ij_mod (n := n) (i := a) hb; have h4 := ij_mod (n := n) (i := i) hj
      rw [h] at h1 h3
      exact ⟨by rw [← h1, h2], by rw [← h3, h4]⟩)
    by_cases h : a * n + b < i * n + j
    · rw [if_pos h, if_pos (by omega)]
    · rw [if_neg h, if_neg (by omega)]
theorem upK_diag {c : Nat → Nat → Int} {n i : Nat} (hi : i < n) (h0 : c i i = 0) (a b : Nat) (hb : b < n) : upK c n (i * n + i + 1) a b = upK c n (i * n + i) a b := by
  rw [upK_step hi a b hb]
  by_cases e : a = i ∧ b = i
  · rw [if_pos e, e.1, e.2, h0]; unfold upK; rw [if_neg (by omega)]
  · rw [if_neg e]
structure QS (w : World) (bo br bc bq s : Nat) (ov : Array Value) (vv vd vq : Value) (vars : List Int) (W : World) (rowd rowq : List Int) : Prop where
  ob : OB w bo br ov W
  c : W.heap[bc]? = some (.cells #[vv, vd, .bool false] 25 (0, 0))
  q : W.heap[bq]? = some (.cells #[vv, vq, .bool false] 25 (0, 0))
  rv : Kd.R (Kd.int .i64) 3 W w.heap.size (fun _ => True) vv vars
  rd : Kd.R (Kd.int .i64) 2 W w.heap.size (fun k => k < s) vd rowd
  rq : Kd.R (Kd.int .i64) 2 W s (fun _ => True) vq rowq
  hs : w.heap.size ≤ s
theorem QS.next {w : World} {bo br bc bq s : Nat} {ov : Array Value} {vv vd vq : Value} {vars : List Int} {W W' : World} {rowd rowq : List Int} (h : QS w bo br bc bq s ov vv vd vq vars W rowd rowq) (hb : Below W.heap.size W W') : QS w bo br bc bq s ov vv vd vq vars W' rowd rowq :=
  ⟨h.ob.next hb, blk_below h.c hb, blk_below h.q hb, Kd.R_below h.rv hb, Kd.R_below h.rd hb, Kd.R_below h.rq hb, h.hs⟩
theorem QS.put {w : World} {bo br bc bq s g len cap : Nat} {ov : Array Value} {vv vd : Value} {vars : List Int} {W : World} {rowd rowq : List Int} (h : QS w bo br bc bq s ov vv vd (.slice (some ⟨g, 0, none⟩) len cap) vars W rowd rowq) (hp : 0 < rowq.length) (i v : Int) :
    QS w bo br bc bq s ov vv vd (.slice (some ⟨g, 0, none⟩) len cap) vars (W.setCell ⟨g, i.toNat, none⟩ (.int .i64 v)) rowd (rowq.set i.toNat v) := by
  obtain ⟨hg, cells, hc⟩ := row_block h.rq hp
  have n1 := typed_ne h.ob.o hc (by decide)
  have n2 := typed_ne h.ob.r hc (by decide)
  have n3 := typed_ne h.c hc (by decide)
  have n4 := typed_ne h.q hc (by decide)
  have hw : w.heap.size ≤ g := Nat.le_trans h.hs hg
  refine ⟨⟨blk_far h.ob.o n1 _, blk_far h.ob.r n2 _, below_set h.ob.below hw, h.ob.ob, h.ob.rb, h.ob.ne⟩, blk_far h.c n3 _, blk_far h.q n4 _, ?_, ?_, (Kd.R_putg h.rq i v).1, h.hs⟩
  · exact Kd.R_set h.rv hc (fun q hq => by
      rcases List.mem_cons.1 hq with rfl | hq
      · decide
      · cases hq) _ _
  · exact Kd.R_far (p := ⟨g, i.toNat, none⟩) h.rd (fun k hk e => by subst e; exact absurd hk (by simp; omega)) _
theorem th_clip (x : Int) : thresh_clip.f x = some (clipV x) := by
  unfold thresh_clip.f clipV mx
  by_cases e : x > 1099511627776
  · rw [if_pos e, if_pos e]
  · rw [if_neg e, if_neg e]
theorem th_twice (x : Int) : thresh_twice.f x = some (twiceV x) := by
  unfold thresh_twice.f twiceV
  by_cases e : x > 1099511627776
  · rw [if_pos e, if_pos e]
  · rw [if_neg e, if_neg e, th_clip]
    have h : wrap64 (2 * mx x (-1099511627776)) = 2 * mx x (-1099511627776) := by unfold mx wrap64; split <;> omega
    rw [h]; rfl
theorem th_up {k : Nat} {t : List Int} (h : thresh_Fit.f k t = some true) (hu : UpOk t) (x : Int) : thresh_Up.f k t x = some (upT t x) := by
  unfold thresh_Up.f upT
  rw [h, Option.bind_some, if_pos rfl, if_pos ⟨hu.1 x, by have := hu.2; omega⟩]
set_option maxHeartbeats 16000000 in
set_option maxRecDepth 100000 in
theorem thresh_Oct_any (k : Nat) (At : Option Addr) (ct : Nat) (t : List Int) (A0 : Option Addr) (c0 : Nat) (vars : List Int) (A1 : Option Addr) (c1 : Nat) (m : List Int) (e : Bool) (w : World) (hrt : Kd.C (Kd.int .i64) w At t.length t) (hct : t.length ≤ ct)
    (hr0 : Kd.C (Kd.int .i64) w A0 vars.length vars) (hc0 : vars.length ≤ c0) (hr1 : Kd.C (Kd.int .i64) w A1 m.length m) (hc1 : m.length ≤ c1) (hfit : OFit vars m e) (r : List Int × List Int × Bool)
    (h : ((closeF vars m e).2.2 = true ∧ r = closeF vars m e) ∨ ((closeF vars m e).2.2 = false ∧ thresh_Fit.f k t = some false ∧ oct_Top.f k vars = some r) ∨
      ((closeF vars m e).2.2 = false ∧ thresh_Fit.f k t = some true ∧ UpOk t ∧ r = closeF vars (lst (2 * vars.length) (roundM t (closeM (2 * vars.length) (lowM vars.length m)))) false)) :
    Calls Try.prog 26 #[.slice At t.length ct, .agg #[.slice A0 vars.length c0, .slice A1 m.length c1, .bool e]] w fun e' w' => ∃ v0_ v1_ : Value, e' = .returned (.agg #[v0_, v1_, .bool r.2.2]) ∧
      Kd.R (Kd.int .i64) 3 w' w.heap.size (fun _ => True) v0_ r.1 ∧ Kd.R (Kd.int .i64) 2 w' w.heap.size (fun _ => True) v1_ r.2.1 ∧ Below w.heap.size w w' := by
  have hu25 := Try.underlying25
  have CLS := Aside0.mk (fun (W : World) (hW : Below w.heap.size w W) => oct_Close_any A0 c0 vars A1 c1 m e W (Kd.C_below hr0 hW) hc0 (Kd.C_below hr1 hW) hc1 hfit)
  have FIT := Aside0.mk (fun (b : Bool) (W : World) (hW : Below w.heap.size w W) (hb : thresh_Fit.f k t = some b) => thresh_Fit.calls k At ct t b W (Kd.C_below hrt hW) hct hb)
  have UPT := Aside0.mk (fun (x y : Int) (W : World) (hW : Below w.heap.size w W) (hb : thresh_Up.f k t x = some y) => thresh_Up.calls k At ct t x y W (Kd.C_below hrt hW) hct hb)
  have HFIT := Aside0.mk hfit
  clear hrt hct hr0 hc0 hr1 hc1 hfit
  obtain ⟨rc, hrc⟩ : ∃ rc, closeF vars m e = rc := ⟨_, rfl⟩
  rw [hrc] at CLS h
  have HRC := Aside0.mk hrc
  clear hrc
  obtain ⟨rv, rm, rb⟩ := rc
  go_enter Try.func26, Try.ntmps26
  go_upto_region 2 with (first
      | ((with_reducible refine gate_dst (N := 3) rfl ?_); refine box_event ?hg (N := 3) ?hd (cs := #[.slice A0 vars.length c0, .slice A1 m.length c1, .bool e]) (t := 25) ?hr ?_; (case hd => rfl); (case hg => rfl); (case hr => first | (go_simp; done) | (go_simp; rfl)); intro bo hgo wa hbo hba; have HBO := Aside0.mk (And.intro hgo (And.intro hbo hba)); clear hgo hbo hba)
      | ((with_reducible refine gate_dst (N := 4) rfl ?_); refine box_event ?hg (N := 4) ?hd (cs := #[.slice none 0 0, .slice none 0 0, .bool false]) (t := 25) ?hr ?_; (case hd => rfl); (case hg => rfl); (case hr => first | (go_simp; done) | (go_simp; rfl)); intro br hgr wb hbr hbb; have HOB : Aside0 (OB w bo br #[.slice A0 vars.length c0, .slice A1 m.length c1, .bool e] wb) := ⟨⟨blk_below HBO.out.2.1 hbb, hbr, HBO.out.2.2.trans (hbb.mono HBO.out.2.2.size), by rw [HBO.out.1]; exact Nat.le_refl _, by rw [hgr]; exact HBO.out.2.2.size, by rw [hgr]; exact Nat.ne_of_lt (blk_lt HBO.out.2.1)⟩⟩; obtain ⟨ho0, ho1, ho2⟩ := HOB.out.cells; clear hgr hbr hbb HBO)
      | (go_at_call 22; (with_reducible refine (CLS.out _ ?s1).mono ?_); (case s1 => exact HOB.out.below); rintro e' w1 ⟨v0, v1, rfl, h0, h1, hb⟩; obtain ⟨Av, cv, ev⟩ := Kd.R_slice h0; subst ev; obtain ⟨Ad, cd, ed⟩ := Kd.R_slice h1; subst ed; have H0 := Aside0.mk (Kd.R_lower h0 HOB.out.below.size); have H1 := Aside0.mk (Kd.R_lower h1 HOB.out.below.size); have HO1 := Aside0.mk (OB.next HOB.out hb); clear h0 h1 hb HOB ho0 ho1 ho2 CLS))
  obtain ⟨s, hs⟩ : ∃ s, w1.heap.size = s := ⟨_, rfl⟩
  rw [hs]
  obtain ⟨w2, hw2⟩ : ∃ w2, w1.alloc (.cells #[.slice Av rv.length cv, .slice Ad rm.length cd, .bool rb] 25) = w2 := ⟨_, rfl⟩
  rw [hw2]
  have HO2 : Aside0 (OB w bo br #[.slice A0 vars.length c0, .slice A1 m.length c1, .bool e] w2) := ⟨by rw [← hw2]; exact OB.next HO1.out (below_alloc (Below.refl _ _) _)⟩
  have HC2 : Aside0 (w2.heap[s]? = some (.cells #[.slice Av rv.length cv, .slice Ad rm.length cd, .bool rb] 25 (0, 0))) := ⟨by rw [← hw2, ← hs]; exact blk_new _ _⟩
  have HV2 : Aside0 (Kd.R (Kd.int .i64) 3 w2 w.heap.size (fun _ => True) (.slice Av rv.length cv) rv) := ⟨by rw [← hw2]; exact Kd.R_alloc H0.out _⟩
  have HD2 : Aside0 (Kd.R (Kd.int .i64) 2 w2 w.heap.size (fun k => k < s) (.slice Ad rm.length cd) rm) := ⟨by rw [← hw2, ← hs]; exact Kd.R_alloc (Kd.R_mono (Kd.R_bound H1.out) (fun k hk => hk.2.2.1)) _⟩
  have HS : Aside0 (w.heap.size ≤ s ∧ s < w2.heap.size) := ⟨by rw [← hs, ← hw2]; exact ⟨HO1.out.below.size, by simp⟩⟩
  clear hw2 hs HO1 H0 H1
  obtain ⟨hq0, hq1, hq2⟩ : w2.cell? ⟨s, 0, none⟩ = some (.slice Av rv.length cv) ∧ w2.cell? ⟨s, 1, none⟩ = some (.slice Ad rm.length cd) ∧ w2.cell? ⟨s, 2, none⟩ = some (.bool rb) := ⟨blk_cell HC2.out 0, blk_cell HC2.out 1, blk_cell HC2.out 2⟩
  rcases h with ⟨hb1, rfl⟩ | ⟨hb1, hb2, hb3⟩ | ⟨hb1, hb2, hb3, hr⟩
  · obtain rfl : rb = true := hb1
    obtain ⟨⟨hr0, hr1, hr2⟩, hr3, hr4, hr5⟩ := HO2.out.res
    go_wp2
    refine bodyPost_ret (results_cell_row rfl _ _ br 25 #[.slice Av rv.length cv, .slice Ad rm.length cd, .bool true] (0, 0) _ rfl (store3 HO2.out.r _ _ _).1 Try.underlying25 rfl (by kernel_rfl)) rfl ?_
    exact ⟨_, _, rfl, OB.answer HO2.out (Nat.le_refl _) HV2.out (Kd.R_mono HD2.out (fun _ _ => trivial)) _⟩
  · obtain rfl : rb = false := hb1
    have ev : rv = vars := by have := HRC.out; unfold closeF at this; split at this <;> exact (congrArg Prod.fst this).symm
    subst ev
    have HB2 := Aside0.mk hb2
    have TOP := Aside0.mk (fun (W : World) (hW : Below w2.heap.size w2 W) => oct_Top.calls k Av cv rv r.1 r.2.1 r.2.2 W (Kd.C_below (Kd.R_reads' HV2.out).2.2 hW) (Kd.R_reads' HV2.out).2.1 hb3)
    clear hb2 hb3
    go_wp2_with (first
      | (go_at_call 63; (with_reducible refine (FIT.out false _ ?s1 HB2.out).mono ?_); (case s1 => exact HO2.out.below); rintro e' w3 ⟨rfl, hb⟩; have HBB := Aside0.mk hb.below; have hz0 := (blk_cell (blk_below HC2.out hb.below) 0).trans rfl; clear hb hq0 hq1 hq2)
      | (go_at_call 13; (with_reducible refine (TOP.out _ HBB.out).mono ?_); rintro e' w4 ⟨v0, v1, rfl, h0, h1, hb⟩; obtain ⟨Ao, co, eo⟩ := Kd.R_slice h0; subst eo; obtain ⟨Ap, cp, ep⟩ := Kd.R_slice h1; subst ep; have H0 := Aside0.mk h0; have H1 := Aside0.mk h1; have HO4 := Aside0.mk ((HO2.out.next HBB.out).next hb); have HBW := Aside0.mk (HO2.out.next HBB.out).below.size; obtain ⟨⟨hr0, hr1, hr2⟩, hr3, hr4, hr5⟩ := HO4.out.res; clear h0 h1 hb hz0))
    refine bodyPost_ret (results_cell_row rfl _ _ br 25 #[.slice Ao r.1.length co, .slice Ap r.2.1.length cp, .bool r.2.2] (0, 0) _ rfl (store3 HO4.out.r _ _ _).1 Try.underlying25 rfl (by kernel_rfl)) rfl ?_
    exact ⟨_, _, rfl, OB.answer HO4.out HBW.out H0.out H1.out _⟩
  · obtain rfl : rb = false := hb1
    have ev : rv = vars := by have := HRC.out; unfold closeF at this; split at this <;> exact (congrArg Prod.fst this).symm
    subst ev
    have ee : e = false := by
      cases e with
      | true => have := HRC.out; unfold closeF at this; rw [if_pos rfl] at this; cases this
      | false => rfl
    subst ee
    obtain ⟨n2, hn2⟩ : ∃ n2, n2 = 2 * rv.length := ⟨_, rfl⟩
    obtain ⟨NN, hNN⟩ : ∃ NN, n2 * n2 = NN := ⟨_, rfl⟩
    have hok : CloseOk (2 * rv.length) (lowM rv.length m) := closeB_true.1 (by
      have := HRC.out; unfold closeF at this; rw [if_neg (by decide)] at this
      have h3 := congrArg (fun p => p.2.2) this
      cases hc : closeB (2 * rv.length) (lowM rv.length m) with
      | true => rfl
      | false => simp [hc] at h3)
    have hrm : rm = lst n2 (closeM n2 (lowM rv.length m)) := by
      have := HRC.out; unfold closeF closeL at this; rw [if_neg (by decide), if_pos (closeB_true.2 hok)] at this
      rw [hn2]; exact (congrArg (fun p => p.2.1) this).symm
    have HRF := Aside0.mk (round_fit (t := t) HFIT.out hok)
    rw [← hn2] at HRF hr
    obtain ⟨C0, hC0⟩ : ∃ C0, closeM n2 (lowM rv.length m) = C0 := ⟨_, rfl⟩
    rw [hC0] at HRF hrm hr
    obtain ⟨R0, hR0⟩ : ∃ R0, roundM t C0 = R0 := ⟨_, rfl⟩
    rw [hR0] at HRF hr
    have HR0 := Aside0.mk hR0
    have HCB : Aside0 (Bd n2 1152921504606846976 C0) := ⟨fun i j _ _ => by rw [← hC0]; have := clipV_range (strg (tig (overs (lowM rv.length m) n2)) i j); unfold closeM Fin'; omega⟩
    have HRR := Aside0.mk hr
    have HL := Aside0.mk HFIT.out.1.1
    have HN2 := Aside0.mk hn2
    have HNN := Aside0.mk hNN
    subst hrm
    have hll : (lst n2 C0).length = NN := by rw [lst_length, hNN]
    rw [hll] at HD2 HC2 hq1
    try rw [hll]
    obtain ⟨mc, mk1, mk2⟩ := make64 NN (by rw [← hNN]; have := HL.out; exact Nat.le_trans (Nat.mul_le_mul (show n2 ≤ 16 by omega) (show n2 ≤ 16 by omega)) (by omega))
    have HMK := Aside0.mk mk2
    obtain ⟨nn, hnn⟩ : ∃ nn : Int, 2 * (rv.length : Int) = nn := ⟨_, rfl⟩
    have hw : wrap64 (2 * (rv.length : Int)) = nn := by have := HL.out; unfold wrap64; omega
    have hw' : IntKind.i64.wrap (2 * (rv.length : Int)) = nn := (i64_w _).trans hw
    have HNV := Aside0.mk hnn
    have HB2 := Aside0.mk hb2
    have HB3 := Aside0.mk hb3
    clear hb2 hb3 hC0 hR0 hn2 hNN hll mk2 hok hnn HRC hr
    go_wp2_with (first
      | (go_at_call 63; (with_reducible refine (FIT.out true _ ?s1 HB2.out).mono ?_); (case s1 => exact HO2.out.below); rintro e' w3 ⟨rfl, hb⟩; have HBB := Aside0.mk hb.below; have hz0 := (blk_cell (blk_below HC2.out hb.below) 0).trans rfl; have hz1 : w3.cell? ⟨s, 1, none⟩ = some (.slice Ad NN cd) := (blk_cell (blk_below HC2.out hb.below) 1).trans rfl; clear hb hq0 hq1 hq2))
    have KN := World.new_ne _ _ hz0
    have kb1 : s ≠ w3.heap.size := Nat.ne_of_lt (Nat.lt_of_lt_of_le HS.out.2 HBB.out.size)
    have kb2 : s ≠ w3.heap.size + 1 := by have := Nat.lt_of_lt_of_le HS.out.2 HBB.out.size; omega
    have kb3 : w3.heap.size ≠ s := fun e => kb1 e.symm
    have kb4 : w3.heap.size + 1 ≠ s := fun e => kb2 e.symm
    go_cut [7] (fun v7 wc => ∃ (bq : Nat) (Ac : Option Addr) (cc : Nat), v7 = .pointer (some ⟨bq, 0, none⟩) ∧ Aside0 (QS w bo br s bq s #[.slice A0 rv.length c0, .slice A1 m.length c1, .bool false] (.slice Av rv.length cv) (.slice Ad NN cd) (.slice Ac NN cc) rv wc (lst n2 C0) (lst n2 (upK R0 n2 0))))
    case first =>
      go_region_held3 (fun w' => w'.cell? ⟨s, 0, none⟩ = some (.slice Av rv.length cv) ∧ w'.cell? ⟨s, 1, none⟩ = some (.slice Ad NN cd)) (go_keep) (fail)
      all_goals go_wp2
      all_goals go_meet
      all_goals have HZ : List.replicate NN (0 : Int) = lst n2 (upK R0 n2 0) := by rw [← HNN.out]; exact upK_zero _ _
      all_goals have BA : ∀ (W : World) (o : Obj), Below W.heap.size W (W.alloc o) := fun W o => below_alloc (Below.refl _ _) o
      all_goals have BD : ∀ (W : World), Below W.heap.size W W.drew := fun W => below_drew (Below.refl _ _)
      all_goals have sz : s ≤ w3.heap.size := Nat.le_of_lt (Nat.lt_of_lt_of_le HS.out.2 HBB.out.size)
      · have rq := HMK.out w3 s sz
        rw [HZ] at rq
        have hq := blk_new (w3.alloc (.cells mc 2)) (.cells #[.slice Av rv.length cv, .slice (some ⟨w3.heap.size, 0, none⟩) NN NN, .bool false] 25)
        rw [World.size_alloc] at hq
        exact ⟨_, _, _, rfl, ⟨⟨(((HO2.out.next HBB.out).next (BA _ _)).next (BA _ _)).next (BD _), blk_drew (blk_alloc (blk_alloc (blk_below HC2.out HBB.out) _) _), blk_drew hq, Kd.R_drew (Kd.R_alloc (Kd.R_alloc (Kd.R_below HV2.out HBB.out) _) _), Kd.R_drew (Kd.R_alloc (Kd.R_alloc (Kd.R_below HD2.out HBB.out) _) _), Kd.R_drew (Kd.R_alloc rq _), HS.out.1⟩⟩⟩
      · have rq := HMK.out (w3.alloc (.cells #[.slice Av rv.length cv, .slice (some ⟨w3.heap.size + 1, 0, none⟩) NN NN, .bool false] 25)) s (by rw [World.size_alloc]; omega)
        rw [HZ, World.size_alloc] at rq
        exact ⟨_, _, _, rfl, ⟨⟨(((HO2.out.next HBB.out).next (BA _ _)).next (BA _ _)).next (BD _), blk_drew (blk_alloc (blk_alloc (blk_below HC2.out HBB.out) _) _), blk_drew (blk_alloc (blk_new _ _) _), Kd.R_drew (Kd.R_alloc (Kd.R_alloc (Kd.R_below HV2.out HBB.out) _) _), Kd.R_drew (Kd.R_alloc (Kd.R_alloc (Kd.R_below HD2.out HBB.out) _) _), Kd.R_drew rq, HS.out.1⟩⟩⟩
    case rest =>
      clear hz0 hz1 KN kb1 kb2 kb3 kb4 HMK mk1 HO2 HC2 HV2 HD2 HBB
      obtain ⟨bq, Ac, cc, rfl, HQ⟩ := hcut
      have hs0 := (blk_cell HQ.out.c 0).trans rfl
      have hs1 : wc.cell? ⟨s, 1, none⟩ = some (.slice Ad NN cd) := (blk_cell HQ.out.c 1).trans rfl
      go_wp2
      clear hs0 hs1
      go_loopg [37] NN (fun gg s37 wr => ∃ (q : Nat) (qq : Int), s37 = .int .i64 qq ∧ Aside0 (qq = (q : Int) ∧ q ≤ NN ∧ NN - q ≤ gg) ∧ Aside0 (QS w bo br s bq s #[.slice A0 rv.length c0, .slice A1 m.length c1, .bool false] (.slice Av rv.length cv) (.slice Ad NN cd) (.slice Ac NN cc) rv wr (lst n2 C0) (lst n2 (upK R0 n2 q))))
      case atStart => exact ⟨0, 0, rfl, ⟨rfl, Nat.zero_le _, by omega⟩, HQ⟩
      case round =>
        clear HQ
        obtain ⟨q, qq, rfl, HQQ, HQ⟩ := hrel
        by_cases hlt : q < NN
        · have f3 : decide (qq < (NN : Int)) = true := decide_eq_true (by have := HQQ.out; omega)
          have HQL := Aside0.mk hlt
          have hi0 : 0 < n2 := by
            rcases Nat.eq_zero_or_pos n2 with h | h
            · have h9 := HNN.out; rw [h] at h9; omega
            · exact h
          obtain ⟨i, hi⟩ : ∃ i, q / n2 = i := ⟨_, rfl⟩
          obtain ⟨j, hj⟩ : ∃ j, q % n2 = j := ⟨_, rfl⟩
          have HI : Aside0 (i < n2 ∧ j < n2 ∧ q = i * n2 + j) := ⟨by
            have h1 := Nat.div_add_mod q n2
            rw [hi, hj, Nat.mul_comm] at h1
            exact ⟨by rw [← hi]; exact Nat.div_lt_of_lt_mul (by rw [HNN.out]; exact hlt), by rw [← hj]; exact Nat.mod_lt _ hi0, h1.symm⟩⟩
          have HW : Aside0 (wrap64 (qq + 1) = ((q + 1 : Nat) : Int)) := ⟨by
            have h1 := HQQ.out; have h2 := HQL.out; have h3 := HNN.out; have h4 := HL.out; have h5 := HN2.out
            have : n2 * n2 ≤ 16 * 16 := Nat.mul_le_mul (by omega) (by omega)
            unfold wrap64; omega⟩
          have hp1 : 0 < (lst n2 C0).length := by rw [lst_length, HNN.out]; omega
          obtain ⟨gd, cap, eg, _⟩ := Kd.R_form HQ.out.rd hp1
          injection eg with e1 e2 e3
          subst e1
          clear e2 e3 cap hp1
          have hp2 : 0 < (lst n2 (upK R0 n2 q)).length := by rw [lst_length, HNN.out]; omega
          obtain ⟨g, cap, eg, hg1, hg2, cells, hg3⟩ := Kd.R_form HQ.out.rq hp2
          injection eg with e1 e2 e3
          subst e1
          have HP0 : Aside0 (∀ d, 0 < (lst n2 d).length) := ⟨fun d => by rw [lst_length, HNN.out]; omega⟩
          have n5 : bq ≠ g := typed_ne HQ.out.q hg3 (by decide)
          have n6 : g ≠ bq := fun e => n5 e.symm
          clear e2 e3 cap hg1 hg2 hg3 cells hp2
          have HQB : Aside0 (0 ≤ qq ∧ qq < (NN : Int)) := ⟨by have := HQQ.out; omega⟩
          have r10 := eq_true HQB.out.1
          have r11 := eq_true HQB.out.2
          obtain ⟨x, hx⟩ : ∃ x, C0 i j = x := ⟨_, rfl⟩
          have HX := Aside0.mk hx
          have hx1 : wr.cell? ⟨gd, qq.toNat, none⟩ = some (.int .i64 x) := (Kd.R_celln 0 HQ.out.rd qq HQB.out.1 HQB.out.2).1.trans (congrArg (fun v => some (Value.int .i64 v)) (by
            show rd (lst n2 C0) qq = x
            rw [lst_rd HI.out.1 HI.out.2.1 (HQQ.out.1.trans (congrArg Int.ofNat HI.out.2.2)), hx]))
          obtain ⟨ii, hii⟩ : ∃ ii : Int, ii = (i : Int) := ⟨_, rfl⟩
          obtain ⟨jj, hjj⟩ : ∃ jj : Int, jj = (j : Int) := ⟨_, rfl⟩
          have HIJ := Aside0.mk (And.intro hii hjj)
          have hn0 : nn ≠ 0 := by have := HNV.out; have := HN2.out; omega
          have hdi : IntKind.i64.wrap (qq.tdiv nn) = ii := by
            have e1 : nn = (n2 : Int) := by have := HNV.out; have := HN2.out; omega
            have e2 : qq.tdiv nn = ii := by rw [HQQ.out.1, e1, hii, ← hi]; rfl
            have h5 := HN2.out; have h4 := HL.out; have h6 := HI.out.1
            rw [e2, IntKind.wrap_i64, hii]; omega
          have hmo : qq.tmod nn = jj := by
            have e1 : nn = (n2 : Int) := by have := HNV.out; have := HN2.out; omega
            rw [HQQ.out.1, e1, hjj, ← hj]; rfl
          have hdi' := (i64_w _).symm.trans hdi
          obtain ⟨bj, hbj⟩ : ∃ b, nbar jj = b := ⟨_, rfl⟩
          have hxo : Go.bits .xor .i64 jj 1 = bj := by rw [← hbj]; exact xor_one jj (by omega) (by have h5 := HN2.out; have h4 := HL.out; have h6 := HI.out.2.1; omega)
          have HBJ : Aside0 (bj = ((nb j : Nat) : Int)) := ⟨by rw [← hbj, hjj, nbar_nb]⟩
          clear hlt hi hj hi0 hx hii hjj hbj
          have hs1 : wr.cell? ⟨bq, 1, none⟩ = some (.slice (some ⟨g, 0, none⟩) NN cc) := (blk_cell HQ.out.q 1).trans rfl
          by_cases hd : ii = jj
          · have f5 : (ii == jj) = true := by simpa using hd
            have HD := Aside0.mk hd
            clear hd
            go_wp2
            go_quiet (fail)
            go_wp2
            go_roundg (NN - (q + 1))
            case measure => have := HQQ.out; have := HQL.out; omega
            case rel =>
              refine ⟨q + 1, wrap64 (qq + 1), rfl, ⟨by have := HW.out; have := HQL.out; omega⟩, ⟨?_⟩⟩
              have h1 := QS.next HQ.out (pw_below_drewN (Below.refl _ _) nq)
              have hij : i = j := by have := HIJ.out; have := HD.out; omega
              have h0 : R0 i i = 0 := by rw [← HR0.out]; unfold roundM; rw [if_pos rfl]
              have hq : q = i * n2 + i := by rw [HI.out.2.2, hij]
              rw [lst_congr (d := upK R0 n2 q) (e := upK R0 n2 (q + 1)) (fun a b _ hb => by rw [hq]; exact (upK_diag HI.out.1 h0 a b hb).symm)] at h1
              exact h1
          · have f5 : (ii == jj) = false := by simpa using hd
            have HD := Aside0.mk hd
            clear hd
            have hxb := HX.out ▸ HCB.out i j HI.out.1 HI.out.2.1
            have HXB := Aside0.mk hxb
            clear hxb
            by_cases hd : ii = bj
            · have f6 : (ii == bj) = true := by simpa using hd
              have HD2 := Aside0.mk hd
              obtain ⟨hf, hhf⟩ : ∃ h, half x = h := ⟨_, rfl⟩
              obtain ⟨u, hu⟩ : ∃ u, upT t hf = u := ⟨_, rfl⟩
              obtain ⟨v, hv⟩ : ∃ v, twiceV u = v := ⟨_, rfl⟩
              have HALF := Aside0.mk (fun (W : World) => bound_Half.calls x hf W (by rw [← hhf]; exact half_half HXB.out))
              have HU : Aside0 (thresh_Up.f k t hf = some u) := ⟨by rw [← hu]; exact th_up HB2.out HB3.out hf⟩
              have TW := Aside0.mk (fun (W : World) => thresh_twice.calls u v W (by rw [← hv]; exact th_twice u))
              have HVV : Aside0 (R0 i j = v) := ⟨by
                have h1 : i ≠ j := by have := HIJ.out; have := HD.out; omega
                have h2 : i = nb j := by have := HIJ.out; have := HBJ.out; omega
                rw [← HR0.out]; unfold roundM; rw [if_neg h1, if_pos h2, HX.out, hhf, hu, hv]⟩
              clear hd hhf hu hv
              go_wp2
              go_quiet (fail)
              go_wp2
              obtain ⟨wq, hwq⟩ : ∃ wq, wr.drewN nq = wq := ⟨_, rfl⟩
              have HQ' := Aside0.mk (QS.next HQ.out (pw_below_drewN (Below.refl _ _) nq))
              clear hs1 HQ
              have HQ := HQ'
              clear HQ'
              have hs1 : (wr.drewN nq).cell? ⟨bq, 1, none⟩ = some (.slice (some ⟨g, 0, none⟩) NN cc) := (blk_cell HQ.out.q 1).trans rfl
              rw [hwq] at HQ hs1 ⊢
              clear hwq hx1
              go_region_held3 (fun w' => w'.cell? ⟨bq, 1, none⟩ = some (.slice (some ⟨g, 0, none⟩) NN cc)) (first | go_keep | exact KS)
                (first
               | (go_at_call 56; (with_reducible refine (HALF.out _).mono ?_); rintro e' w7 ⟨rfl, hb⟩; have HQ7 := Aside0.mk (QS.next (QS.next HQ.out (below_drew (Below.refl _ _))) hb.below); have KS : w7.cell? ⟨bq, 1, none⟩ = some (.slice (some ⟨g, 0, none⟩) NN cc) := (blk_cell HQ7.out.q 1).trans rfl; clear hb)
               | (go_at_call 61; (with_reducible refine (UPT.out hf u _ HQ7.out.ob.below HU.out).mono ?_); rintro e' w8 ⟨rfl, hb⟩; have HQ8 := Aside0.mk (QS.next HQ7.out hb); have KS : w8.cell? ⟨bq, 1, none⟩ = some (.slice (some ⟨g, 0, none⟩) NN cc) := (blk_cell HQ8.out.q 1).trans rfl; clear hb)
               | (go_at_call 64; (with_reducible refine (TW.out _).mono ?_); rintro e' w9 ⟨rfl, hb⟩; have HQ9 := Aside0.mk (QS.next HQ8.out hb); have KS : w9.cell? ⟨bq, 1, none⟩ = some (.slice (some ⟨g, 0, none⟩) NN cc) := (blk_cell HQ9.out.q 1).trans rfl; clear hb; obtain ⟨hz1, hz2⟩ := Kd.R_celln 0 HQ9.out.rq qq HQB.out.1 HQB.out.2))
              go_wp2
              go_roundg (NN - (q + 1))
              case measure => have := HQQ.out; have := HQL.out; omega
              case rel =>
                refine ⟨q + 1, wrap64 (qq + 1), rfl, ⟨by have := HW.out; have := HQL.out; omega⟩, ⟨?_⟩⟩
                have h1 := QS.put HQ9.out (HP0.out _) qq v
                have hv : R0 i j = v := HVV.out
                rw [lst_set HI.out.1 HI.out.2.1 (HQQ.out.1.trans (congrArg Int.ofNat HI.out.2.2)), lst_congr (d := fun a b => if a = i ∧ b = j then v else upK R0 n2 q a b) (e := upK R0 n2 (q + 1)) (fun a b _ hb => by
                  rw [show q + 1 = i * n2 + j + 1 by have := HI.out.2.2; omega, upK_step HI.out.2.1 a b hb, ← HI.out.2.2]
                  by_cases h : a = i ∧ b = j
                  · rw [if_pos h, if_pos h, hv]
                  · rw [if_neg h, if_neg h])] at h1
                exact h1
            · have f6 : (ii == bj) = false := by simpa using hd
              have HD2 := Aside0.mk hd
              obtain ⟨u, hu⟩ : ∃ u, upT t x = u := ⟨_, rfl⟩
              obtain ⟨v, hv⟩ : ∃ v, clipV u = v := ⟨_, rfl⟩
              have HU : Aside0 (thresh_Up.f k t x = some u) := ⟨by rw [← hu]; exact th_up HB2.out HB3.out x⟩
              have TW := Aside0.mk (fun (W : World) => thresh_clip.calls u v W (by rw [← hv]; exact th_clip u))
              have HVV : Aside0 (R0 i j = v) := ⟨by
                have h1 : i ≠ j := by have := HIJ.out; have := HD.out; omega
                have h2 : i ≠ nb j := by have := HIJ.out; have := HBJ.out; have := HD2.out; omega
                rw [← HR0.out]; unfold roundM; rw [if_neg h1, if_neg h2, HX.out, hu, hv]⟩
              clear hd hu hv
              go_wp2
              go_quiet (fail)
              go_wp2
              obtain ⟨wq, hwq⟩ : ∃ wq, wr.drewN nq = wq := ⟨_, rfl⟩
              have HQ' := Aside0.mk (QS.next HQ.out (pw_below_drewN (Below.refl _ _) nq))
              clear hs1 HQ
              have HQ := HQ'
              clear HQ'
              have hs1 : (wr.drewN nq).cell? ⟨bq, 1, none⟩ = some (.slice (some ⟨g, 0, none⟩) NN cc) := (blk_cell HQ.out.q 1).trans rfl
              rw [hwq] at HQ hs1 ⊢
              clear hwq hx1
              go_region_held3 (fun w' => w'.cell? ⟨bq, 1, none⟩ = some (.slice (some ⟨g, 0, none⟩) NN cc)) (first | go_keep | exact KS)
                (first
               | (go_at_call 61; (with_reducible refine (UPT.out x u _ (QS.next HQ.out (below_drew (Below.refl _ _))).ob.below HU.out).mono ?_); rintro e' w8 ⟨rfl, hb⟩; have HQ8 := Aside0.mk (QS.next (QS.next HQ.out (below_drew (Below.refl _ _))) hb); have KS : w8.cell? ⟨bq, 1, none⟩ = some (.slice (some ⟨g, 0, none⟩) NN cc) := (blk_cell HQ8.out.q 1).trans rfl; clear hb)
               | (go_at_call 65; (with_reducible refine (TW.out _).mono ?_); rintro e' w9 ⟨rfl, hb⟩; have HQ9 := Aside0.mk (QS.next HQ8.out hb); have KS : w9.cell? ⟨bq, 1, none⟩ = some (.slice (some ⟨g, 0, none⟩) NN cc) := (blk_cell HQ9.out.q 1).trans rfl; clear hb; obtain ⟨hz1, hz2⟩ := Kd.R_celln 0 HQ9.out.rq qq HQB.out.1 HQB.out.2))
              go_wp2
              go_roundg (NN - (q + 1))
              case measure => have := HQQ.out; have := HQL.out; omega
              case rel =>
                refine ⟨q + 1, wrap64 (qq + 1), rfl, ⟨by have := HW.out; have := HQL.out; omega⟩, ⟨?_⟩⟩
                have h1 := QS.put HQ9.out (HP0.out _) qq v
                have hv : R0 i j = v := HVV.out
                rw [lst_set HI.out.1 HI.out.2.1 (HQQ.out.1.trans (congrArg Int.ofNat HI.out.2.2)), lst_congr (d := fun a b => if a = i ∧ b = j then v else upK R0 n2 q a b) (e := upK R0 n2 (q + 1)) (fun a b _ hb => by
                  rw [show q + 1 = i * n2 + j + 1 by have := HI.out.2.2; omega, upK_step HI.out.2.1 a b hb, ← HI.out.2.2]
                  by_cases h : a = i ∧ b = j
                  · rw [if_pos h, if_pos h, hv]
                  · rw [if_neg h, if_neg h])] at h1
                exact h1
        · have f3 : decide (qq < (NN : Int)) = false := decide_eq_false (by have := HQQ.out; omega)
          have eq : q = NN := by have := HQQ.out; omega
          have HEQ := Aside0.mk eq
          clear hlt eq
          have hrow := HQ.out.rq
          rw [HEQ.out, ← HNN.out, lst_congr (fun a b ha hb => upK_all a b ha hb)] at hrow
          have CL2 := Aside0.mk (fun (W : World) (hW : Below wr.heap.size wr W) => oct_Close_any Av cv rv Ac cc (lst n2 R0) false W (Kd.C_below (Kd.R_reads' HQ.out.rv).2.2 hW) (Kd.R_reads' HQ.out.rv).2.1 (Kd.C_below (by have := Kd.R_reads' hrow; exact this.2.2) hW) (by have := Kd.R_reads' hrow; rw [← this.1]; exact this.2.1) HRF.out)
          have hs0 : wr.cell? ⟨bq, 0, none⟩ = some (.slice Av rv.length cv) := (blk_cell HQ.out.q 0).trans rfl
          have hs1 : wr.cell? ⟨bq, 1, none⟩ = some (.slice Ac NN cc) := (blk_cell HQ.out.q 1).trans rfl
          have hs2 : wr.cell? ⟨bq, 2, none⟩ = some (.bool false) := (blk_cell HQ.out.q 2).trans rfl
          have hll : (lst n2 R0).length = NN := by rw [lst_length, HNN.out]
          rw [hll, ← HRR.out] at CL2
          clear hrow hll
          go_wp2_with (go_at_call 22; (with_reducible refine (CL2.out _ (Below.refl _ _)).mono ?_); rintro e' w4 ⟨v0, v1, rfl, h0, h1, hb⟩; obtain ⟨Ao, co, eo⟩ := Kd.R_slice h0; subst eo; obtain ⟨Ap, cp, ep⟩ := Kd.R_slice h1; subst ep; have H0 := Aside0.mk h0; have H1 := Aside0.mk h1; have HO4 := Aside0.mk (HQ.out.ob.next hb); have HBW := Aside0.mk HQ.out.ob.below.size; obtain ⟨⟨hr0, hr1, hr2⟩, hr3, hr4, hr5⟩ := HO4.out.res; clear h0 h1 hb hs0 hs1 hs2)
          refine bodyPost_ret (results_cell_row rfl _ _ br 25 #[.slice Ao r.1.length co, .slice Ap r.2.1.length cp, .bool r.2.2] (0, 0) _ rfl (store3 HO4.out.r _ _ _).1 Try.underlying25 rfl (by kernel_rfl)) rfl ?_
          exact ⟨_, _, rfl, OB.answer HO4.out HBW.out H0.out H1.out _⟩
end Go.Proofs.Ytomgebmimgaojaa.QO
end
end
section
namespace Go.Proofs.Ytomgebmimgaojaa.QO
open Go.RowKit Go.Proofs.YtomgebmimgaojaaW.PrintWords Go.Proofs.YtomgebmimgaojaaW.PrintLast
set_option linter.unusedVariables false
set_option linter.unusedSimpArgs false
noncomputable def upOkB (t : List Int) : Bool := @decide (UpOk t) (Classical.propDecidable _)
theorem upOkB_true {t : List Int} : upOkB t = true ↔ UpOk t := by unfold upOkB; exact @decide_eq_true_iff _ (Classical.propDecidable _)
noncomputable def thresh_Oct.f (k : Nat) (l0 : List Int) (l1_0 : List Int) (l1_1 : List Int) (a1_2 : Bool) : Option (List Int × List Int × Bool) :=
  if ofitB l1_0 l1_1 a1_2 = true then (if (closeF l1_0 l1_1 a1_2).2.2 = true then some (closeF l1_0 l1_1 a1_2) else (thresh_Fit.f k l0).bind fun b => (if b = true then (if upOkB l0 = true then some (closeF l1_0 (lst (2 * l1_0.length) (roundM l0 (closeM (2 * l1_0.length) (lowM l1_0.length l1_1)))) false) else none) else oct_Top.f k l1_0)) else none
theorem thresh_Oct.mono : ∀ a0 a1 a2 a3 k, LeO (thresh_Oct.f k a0 a1 a2 a3) (thresh_Oct.f (k + 1) a0 a1 a2 a3) := by
  intro a0 a1 a2 a3 k
  unfold thresh_Oct.f
  refine LeO.ite (LeO.ite (LeO.refl _) (LeO.bind (thresh_Fit.mono _ _) (fun _ => LeO.ite (LeO.refl _) (oct_Top.mono _ _)))) (LeO.refl _)
theorem thresh_Oct.calls (k : Nat) (A0 : Option Addr) (c0 : Nat) (l0 : List Int) (A1_0 : Option Addr) (c1_0 : Nat) (l1_0 : List Int) (A1_1 : Option Addr) (c1_1 : Nat) (l1_1 : List Int) (a1_2 : Bool) (r1 : List Int) (r2 : List Int) (r3 : Bool) (w : World) (hr0 : Kd.C (Kd.int .i64) w A0 l0.length l0) (hc0 : l0.length ≤ c0) (hr1_0 : Kd.C (Kd.int .i64) w A1_0 l1_0.length l1_0) (hc1_0 : l1_0.length ≤ c1_0) (hr1_1 : Kd.C (Kd.int .i64) w A1_1 l1_1.length l1_1) (hc1_1 : l1_1.length ≤ c1_1) (h : thresh_Oct.f k l0 l1_0 l1_1 a1_2 = some (r1, r2, r3)) :
    Calls Try.prog 26 #[.slice A0 l0.length c0, .agg #[.slice A1_0 l1_0.length c1_0, .slice A1_1 l1_1.length c1_1, .bool a1_2]] w fun e w' => ∃ v0_ v1_ : Value, e = .returned (.agg #[v0_, v1_, .bool r3]) ∧ Kd.R (Kd.int .i64) 3 w' w.heap.size (fun _ => True) v0_ r1 ∧ Kd.R (Kd.int .i64) 2 w' w.heap.size (fun _ => True) v1_ r2 ∧ Below w.heap.size w w' := by
  unfold thresh_Oct.f at h
  by_cases hf : ofitB l1_0 l1_1 a1_2 = true
  · rw [if_pos hf] at h
    refine thresh_Oct_any k A0 c0 l0 A1_0 c1_0 l1_0 A1_1 c1_1 l1_1 a1_2 w hr0 hc0 hr1_0 hc1_0 hr1_1 hc1_1 (ofitB_true.1 hf) (r1, r2, r3) ?_
    by_cases hb : (closeF l1_0 l1_1 a1_2).2.2 = true
    · rw [if_pos hb] at h
      exact .inl ⟨hb, (Option.some.inj h).symm⟩
    · rw [if_neg hb] at h
      obtain ⟨b, h1, h2⟩ := Option.bind_eq_some_iff.1 h
      have hb' : (closeF l1_0 l1_1 a1_2).2.2 = false := by simpa using hb
      cases b with
      | true =>
        rw [if_pos rfl] at h2
        by_cases hu : upOkB l0 = true
        · rw [if_pos hu] at h2
          exact .inr (.inr ⟨hb', h1, upOkB_true.1 hu, (Option.some.inj h2).symm⟩)
        · rw [if_neg hu] at h2; cases h2
      | false =>
        rw [if_neg (by decide)] at h2
        exact .inr (.inl ⟨hb', h1, h2⟩)
  · rw [if_neg hf] at h; cases h
end Go.Proofs.Ytomgebmimgaojaa.QO
end
section
noncomputable section
namespace Go.Proofs.Ytomgebmimgaojaa.QO
open Go.RowKit Go.Shelf Go.Proofs.YtomgebmimgaojaaW.PrintWords Go.Proofs.YtomgebmimgaojaaW.PrintLast Go.Proofs.YtomgebmimgaojaaW.PrintMore
open Go.Proofs.Ytomgebmimgaojaa.Pure Octs Holds Two Upper
open Go.Proofs.Ytomgebmimgaojaa.ThFacts (FitP)
set_option linter.unusedVariables false
section
variable {w W W' W0 : World} {x y z : OV} {vars t : List Int} {A : Option Addr} {c : Nat}
theorem awake13_o : Says 25 #[] W (.bool true) := gimballaw13_awake.calls 258 true W (by kernel_rfl)
theorem rfit_o (hx : Oc w W x) (hb : Below w.heap.size w W) (l : x.v.length ≤ 17592186044416) : Says 19 #[x.val] W (.bool (ofitB x.v x.m x.e)) :=
  gimbalref11_Fit.calls x.P x.p x.v x.Q x.q x.m x.e _ W (hx.r0.reads hb) hx.r0.le (hx.r1.reads hb) hx.r1.le (by unfold gimbalref11_Fit.f; rw [if_pos l])
theorem rfit_at {b : Bool} (hx : Oc w W x) (hb : Below w.heap.size w W) (l : x.v.length ≤ 17592186044416) (e : ofitB x.v x.m x.e = b) : Says 19 #[x.val] W (.bool b) := by
  rw [← e]; exact rfit_o hx hb l
theorem tfit_ex (l : t.length ≤ 17592186044416) : ∃ b, (b = true → FitP t) ∧ ∀ {w W : World}, Kd.C (Kd.int .i64) w A t.length t → t.length ≤ c → Below w.heap.size w W → Says 27 #[.slice A t.length c] W (.bool b) := by
  obtain ⟨b, _, h2, h3⟩ := ThFacts.fits t l
  exact ⟨b, fun e => h3.1 e, fun h hc hb => (gimbalref13_Fit.calls 258 A c t b _ (Kd.C_below h hb) hc (h2 258 (Nat.le_refl _))).mono fun e w' ⟨he, hd⟩ => ⟨he, hd.below⟩⟩
theorem rleq_as {b : Bool} (hx : Oc w W x) (hy : Oc w W y) (hb : Below w.heap.size w W) (fx : OkV vars x) (fy : OkV vars y) (ht : leqF vars x.m x.e y.m y.e = b) : Says 30 #[x.val, y.val] W (.bool b) := by
  rw [← ht]; exact rleq_o hx hy hb fx fy
theorem th_own (ht : FitP t) (h : Kd.C (Kd.int .i64) w A t.length t) (hc : t.length ≤ c) (hb : Below w.heap.size w W) (hx : Oc W0 W x) (hb0 : Below W0.heap.size W0 W) (fx : OkV vars x) :
    Calls Try.prog 26 #[.slice A t.length c, x.val] W fun e W' => ∃ z : OV, e = .returned z.val ∧ z.o = thF t vars x.m x.e ∧ Own W W' z ∧ Below W.heap.size W W' := by
  obtain ⟨f, rfl⟩ := fx
  refine of_calls2 (thresh_Oct.calls 258 A c t x.P x.p x.v x.Q x.q x.m x.e _ _ _ W (Kd.C_below h hb) hc (hx.r0.reads hb0) hx.r0.le (hx.r1.reads hb0) hx.r1.le ?_)
  unfold thresh_Oct.f thF
  rw [if_pos (ofitB_true.2 f)]
  by_cases he : (closeF x.v x.m x.e).2.2 = true
  · rw [if_pos he, if_pos he]
  · rw [if_neg he, if_neg he, (fitb ht 258 (Nat.le_refl _)).1, Option.bind_some, if_pos rfl, if_pos (upOkB_true.2 (upOk_of ht))]
end
end Go.Proofs.Ytomgebmimgaojaa.QO
end
end
section
noncomputable section
namespace Go.Proofs.Ytomgebmimgaojaa.Pure
open Go.RowKit Go.Proofs.Ytomgebmimgaojaa.QO Go.Proofs.YtomgebmimgaojaaW.PrintWords Go.Proofs.YtomgebmimgaojaaW.PrintLast Go.Proofs.YtomgebmimgaojaaW.PrintMore
open Go.Proofs.Ytomgebmimgaojaa.ThFacts (FitP)
open OctMath (Le Fin' Bd)
open Upper
namespace Chain
theorem sum_le {l : List Nat} {f g : Nat → Nat} (h : ∀ k, k ∈ l → f k ≤ g k) : (l.map f).sum ≤ (l.map g).sum := by
  induction l with
  | nil => simp
  | cons a l ih =>
    simp only [List.map_cons, List.sum_cons]
    have h1 := h a (.head _)
    have h2 := ih (fun k hk => h k (.tail _ hk))
    omega
theorem sum_lt {l : List Nat} {f g : Nat → Nat} (h : ∀ k, k ∈ l → f k ≤ g k) {a : Nat} (ha : a ∈ l) (hl : f a < g a) : (l.map f).sum < (l.map g).sum := by
  induction l with
  | nil => cases ha
  | cons b l ih =>
    simp only [List.map_cons, List.sum_cons]
    have h1 := h b (.head _)
    have h2 := sum_le (fun k hk => h k (.tail _ hk))
    cases ha with
    | head => omega
    | tail _ ha =>
      have := ih (fun k hk => h k (.tail _ hk)) ha
      omega
theorem sum_bound {l : List Nat} {f : Nat → Nat} {B : Nat} (h : ∀ k, k ∈ l → f k ≤ B) : (l.map f).sum ≤ l.length * B := by
  induction l with
  | nil => simp
  | cons b l ih =>
    simp only [List.map_cons, List.sum_cons, List.length_cons]
    have h1 := h b (.head _)
    have h2 := ih (fun k hk => h k (.tail _ hk))
    rw [Nat.add_mul]; omega
def gI (i j : Nat) (x : Int) : Int := if i = j then 0 else if i = nb j then twiceV x else clipV x
def Img (t : List Int) (i j : Nat) (v : Int) : Prop := ∃ N : Nat, N < t.length ∧ v = gI i j (rd t N)
def rank (t : List Int) (i j : Nat) (v : Int) : Nat := ((List.range t.length).filter (fun (N : Nat) => decide (gI i j (rd t (N : Int)) < v))).length
theorem rank_le (t : List Int) (i j : Nat) (v : Int) : rank t i j v ≤ t.length := by
  have := List.length_filter_le (fun (N : Nat) => decide (gI i j (rd t (N : Int)) < v)) (List.range t.length)
  rw [List.length_range] at this
  exact this
theorem filter_le {l : List Nat} {p q : Nat → Bool} (h : ∀ k, p k = true → q k = true) : (l.filter p).length ≤ (l.filter q).length := by
  induction l with
  | nil => simp
  | cons a l ih =>
    by_cases hp : p a = true
    · rw [List.filter_cons_of_pos hp, List.filter_cons_of_pos (h a hp)]; simpa using ih
    · rw [List.filter_cons_of_neg hp]
      by_cases hq : q a = true
      · rw [List.filter_cons_of_pos hq]; simp only [List.length_cons]; omega
      · rw [List.filter_cons_of_neg hq]; exact ih
theorem filter_lt {l : List Nat} {p q : Nat → Bool} (h : ∀ k, p k = true → q k = true) {a : Nat} (ha : a ∈ l) (h1 : p a = false) (h2 : q a = true) : (l.filter p).length < (l.filter q).length := by
  induction l with
  | nil => cases ha
  | cons b l ih =>
    have hle := filter_le (l := l) h
    cases ha with
    | head =>
      rw [List.filter_cons_of_neg (by simp [h1]), List.filter_cons_of_pos h2]
      simp only [List.length_cons]; omega
    | tail _ ha =>
      have := ih ha
      by_cases hp : p b = true
      · rw [List.filter_cons_of_pos hp, List.filter_cons_of_pos (h b hp)]; simpa using this
      · rw [List.filter_cons_of_neg hp]
        by_cases hq : q b = true
        · rw [List.filter_cons_of_pos hq]; simp only [List.length_cons]; omega
        · rw [List.filter_cons_of_neg hq]; exact this
theorem rank_mono {t : List Int} {i j : Nat} {v v' : Int} (h : v ≤ v') : rank t i j v ≤ rank t i j v' :=
  filter_le (fun k hk => decide_eq_true (by have := of_decide_eq_true hk; omega))
theorem rank_lt {t : List Int} {i j : Nat} {v v' : Int} (hv : Img t i j v) (h : v < v') : rank t i j v < rank t i j v' := by
  obtain ⟨N, hN, e⟩ := hv
  exact filter_lt (fun k hk => decide_eq_true (by have := of_decide_eq_true hk; omega)) (a := N) (List.mem_range.2 hN) (decide_eq_false (by rw [← e]; omega)) (decide_eq_true (by rw [← e]; exact h))
theorem round_img {t : List Int} (ht : FitP t) (c : Mx) (i j : Nat) : Img t i j (roundM t c i j) := by
  unfold roundM Img gI
  by_cases e : i = j
  · exact ⟨0, by have := ht.1; omega, by rw [if_pos e, if_pos e]⟩
  · rw [if_neg e]
    by_cases f : i = nb j
    · obtain ⟨N, hN, h, _⟩ := up_at ht (half (c i j))
      exact ⟨N, hN, by rw [if_pos f, if_neg e, if_pos f, h]⟩
    · obtain ⟨N, hN, h, _⟩ := up_at ht (c i j)
      exact ⟨N, hN, by rw [if_neg f, if_neg e, if_neg f, h]⟩
def Phi (n : Nat) (t : List Int) (R : Mx) : Nat := ((List.range (n * n)).map (fun k => rank t (k / n) (k % n) (R (k / n) (k % n)))).sum
theorem phi_le (n : Nat) (t : List Int) (R : Mx) : Phi n t R ≤ n * n * t.length := by
  have := sum_bound (l := List.range (n * n)) (f := fun k => rank t (k / n) (k % n) (R (k / n) (k % n))) (B := t.length) (fun k _ => rank_le _ _ _ _)
  rw [List.length_range] at this
  exact this
theorem k_lt {n k : Nat} (hk : k < n * n) : k / n < n ∧ k % n < n := by
  have h0 : 0 < n := by
    by_cases e : n = 0
    · rw [e] at hk; omega
    · omega
  exact ⟨Nat.div_lt_of_lt_mul hk, Nat.mod_lt _ h0⟩
theorem phi_mono {n : Nat} {t : List Int} {R R' : Mx} (h : Le n R R') : Phi n t R ≤ Phi n t R' :=
  sum_le (fun k hk => rank_mono (by have := k_lt (List.mem_range.1 hk); exact h _ _ this.1 this.2))
theorem phi_lt {n : Nat} {t : List Int} {R R' : Mx} (h : Le n R R') (hR : ∀ i j, Img t i j (R i j)) {i j : Nat} (hi : i < n) (hj : j < n) (hne : R i j ≠ R' i j) : Phi n t R < Phi n t R' := by
  have hk : i * n + j < n * n := ij_lt hi hj
  refine sum_lt (fun k hk => rank_mono (by have := k_lt (List.mem_range.1 hk); exact h _ _ this.1 this.2)) (a := i * n + j) (List.mem_range.2 hk) ?_
  have e1 : (i * n + j) / n = i := ij_div hj
  have e2 : (i * n + j) % n = j := ij_mod hj
  rw [e1, e2]
  exact rank_lt (hR i j) (by have := h i j hi hj; omega)
inductive Gr (t vars m : List Int) (e : Bool) (g : Nat) : Prop
  | none (h : Mean vars m e none) (hg : g = 0)
  | some {c P : Mx} (h : Mean vars m e (some P)) (hs : Snd (2 * vars.length) c) (hc : CloseOk (2 * vars.length) c) (q : ∀ i j, i < 2 * vars.length → j < 2 * vars.length → P i j = rhoM (2 * vars.length) t (closeM (2 * vars.length) c) i j) (hg : g ≤ Phi (2 * vars.length) t (roundM t (closeM (2 * vars.length) c)) + 1)
theorem Gr.bound {t vars m : List Int} {e : Bool} {g : Nat} (h : Gr t vars m e g) : g ≤ (2 * vars.length) * (2 * vars.length) * t.length + 1 := by
  cases h with
  | none _ hg => omega
  | some _ _ _ _ hg => exact Nat.le_trans hg (Nat.add_le_add_right (phi_le _ _ _) 1)
theorem rho_ext {n : Nat} {t : List Int} {A C : Mx} (hA : Snd n (roundM t A)) (hC : Snd n (roundM t C)) (hc : CloseOk n (roundM t A)) (h : ∀ i j, i < n → j < n → roundM t A i j = roundM t C i j) : ∀ i j, i < n → j < n → rhoM n t A i j = rhoM n t C i j :=
  (close_ext hA hC h hc).2
theorem step {t vars m m' : List Int} {e e' : Bool} {g : Nat} (ht : FitP t) (h : OFit vars m e) (h' : OFit vars m' e') (G : Gr t vars m e g) :
    (OFit vars (joinF vars m e m' e').2.1 (joinF vars m e m' e').2.2 ∧ (joinF vars m e m' e').1 = vars) ∧
    (OFit vars (thF t vars (joinF vars m e m' e').2.1 (joinF vars m e m' e').2.2).2.1 (thF t vars (joinF vars m e m' e').2.1 (joinF vars m e m' e').2.2).2.2 ∧ (thF t vars (joinF vars m e m' e').2.1 (joinF vars m e m' e').2.2).1 = vars) ∧
    leqF vars m e (thF t vars (joinF vars m e m' e').2.1 (joinF vars m e m' e').2.2).2.1 (thF t vars (joinF vars m e m' e').2.1 (joinF vars m e m' e').2.2).2.2 = true ∧
    Gr t vars (thF t vars (joinF vars m e m' e').2.1 (joinF vars m e m' e').2.2).2.1 (thF t vars (joinF vars m e m' e').2.1 (joinF vars m e m' e').2.2).2.2
      (if leqF vars (thF t vars (joinF vars m e m' e').2.1 (joinF vars m e m' e').2.2).2.1 (thF t vars (joinF vars m e m' e').2.1 (joinF vars m e m' e').2.2).2.2 m e = true then g else g + 1) := by
  obtain ⟨A, a⟩ := mean_ex h
  obtain ⟨B, b⟩ := mean_ex h'
  obtain ⟨fj, vj, J, j, j1, _, _⟩ := join_mean h h' a b
  obtain ⟨fp, vp, P, p, rp, _⟩ := th_mean ht fj j
  generalize joinF vars m e m' e' = jj at *
  generalize thF t vars jj.2.1 jj.2.2 = pp at *
  have rr := rmean_le ht rp rp ole_refl
  have l1 : OLe (2 * vars.length) A P := ole_trans j1 rr.1
  refine ⟨⟨fj, vj⟩, ⟨fp, vp⟩, (leq_mean h a p).2 l1, ?_⟩
  have lpo := leq_mean fp p a
  cases rp with
  | none =>
    have hA : A = none := by
      cases A with
      | none => rfl
      | some A => exact l1.elim
    subst hA
    have hg : g = 0 := by
      cases G with
      | none _ hg => exact hg
      | some hm _ _ _ _ =>
        exfalso
        cases a with
        | none q1 _ => cases hm with
          | some q2 _ _ _ => rw [q1] at q2; exact absurd (congrArg (fun x => x.2.2) q2) (by simp)
    rw [if_pos (lpo.2 trivial)]
    exact .none p hg
  | @some c P0 hs hc q =>
    refine .some p hs hc q ?_
    cases G with
    | none hm hg =>
      subst hg
      split <;> omega
    | @some c0 P1 hm hs0 hc0 q0 hg0 =>
      -- the closed matrix is the same
      have hA : ∀ i j, i < 2 * vars.length → j < 2 * vars.length → ∃ A0, A = some A0 ∧ A0 i j = rhoM (2 * vars.length) t (closeM (2 * vars.length) c0) i j := fun i j hi hj => by
        cases hm with
        | some q2 he2 hc2 hs2 => cases a with
          | none q1 _ => rw [q1] at q2; exact absurd (congrArg (fun x => x.2.2) q2) (by simp)
          | some q1 he1 hc1 hs1 => exact ⟨_, rfl, q0 i j hi hj⟩
      obtain ⟨A0, hA0, eA⟩ : ∃ A0, A = some A0 ∧ ∀ i j, i < 2 * vars.length → j < 2 * vars.length → A0 i j = rhoM (2 * vars.length) t (closeM (2 * vars.length) c0) i j := by
        cases A with
        | none =>
          exfalso
          cases hm with
          | some q2 _ _ _ => cases a with
            | none q1 _ => rw [q1] at q2; exact absurd (congrArg (fun x => x.2.2) q2) (by simp)
        | some A0 =>
          refine ⟨A0, rfl, fun i j hi hj => ?_⟩
          obtain ⟨A1, e1, e2⟩ := hA i j hi hj
          cases e1; exact e2
      subst hA0
      have r0 := rho_ok ht hs0 hc0
      have lc : Le (2 * vars.length) (closeM (2 * vars.length) c0) (closeM (2 * vars.length) c) := fun i j hi hj => by
        have h1 := r0.2 i j hi hj
        have h2 := j1 i j hi hj
        rw [eA i j hi hj] at h2
        exact Int.le_trans h1 h2
      have s0 := snd_close hs0 hc0
      have s1 := snd_close hs hc
      have lR := round_mono ht s0 s1 (fun i hi => close_even hs0 hc0 i hi) (fun i hi => close_even hs hc i hi) lc
      have pm := phi_mono (t := t) lR
      split
      · omega
      · rename_i hn
        have : ∃ i j, i < 2 * vars.length ∧ j < 2 * vars.length ∧ roundM t (closeM (2 * vars.length) c0) i j ≠ roundM t (closeM (2 * vars.length) c) i j := by
          refine Classical.byContradiction fun hx => hn (lpo.2 ?_)
          have eq : ∀ i j, i < 2 * vars.length → j < 2 * vars.length → roundM t (closeM (2 * vars.length) c0) i j = roundM t (closeM (2 * vars.length) c) i j := fun i j hi hj => Classical.byContradiction fun h => hx ⟨i, j, hi, hj, h⟩
          have ee := rho_ext (round_snd (t := t) s0) (round_snd (t := t) s1) r0.1 eq
          exact fun i j hi hj => by rw [q i j hi hj, eA i j hi hj, ee i j hi hj]; exact Int.le_refl _
        obtain ⟨i, j, hi, hj, hne⟩ := this
        have := phi_lt lR (fun i j => round_img ht _ i j) hi hj hne
        omega
theorem gr_bottom {t vars : List Int} : Gr t vars [] true 0 := .none (.none (by unfold closeF; rw [if_pos rfl]) (.inl rfl)) rfl
end Chain
end Go.Proofs.Ytomgebmimgaojaa.Pure
end
end
section
noncomputable section
namespace Go.Proofs.Ytomgebmimgaojaa.QO
open Go.RowKit Go.Shelf Go.Proofs.YtomgebmimgaojaaW.PrintWords Go.Proofs.YtomgebmimgaojaaW.PrintLast Go.Proofs.YtomgebmimgaojaaW.PrintMore
open Go.Proofs.Ytomgebmimgaojaa.Pure Octs Two Upper
set_option linter.unusedVariables false
structure S25 where
  f0 : List Int
  f1 : List Int
  f2 : Bool
def z25 : S25 := ⟨[], [], false⟩
def k25 : Kd S25 := Kd.iso (Kd.pair (Kd.slice 3 (Kd.int .i64)) (Kd.pair (Kd.slice 2 (Kd.int .i64)) Kd.bool)) (fun x : S25 => (x.f0, x.f1, x.f2))
def rd_T25 (xs : List S25) (i : Int) : S25 := xs.getD i.toNat z25
abbrev S25.o (x : S25) : List Int × List Int × Bool := (x.f0, x.f1, x.f2)
section
variable {w W : World} {A : Option Addr}
theorem elem_at {l : List S25} (h : Kd.C k25 w A l.length l) (i : Int) (h0 : 0 ≤ i) (h1 : i < l.length) : ∃ (ad : Addr) (X : OV), A = some ad ∧ X.o = (rd_T25 l i).o ∧ Oc w w X ∧
    w.cell? (ad.add (i.toNat * 3)) = some (.slice X.P X.v.length X.p) ∧ w.cell? ⟨(ad.add (i.toNat * 3)).block, (ad.add (i.toNat * 3)).off + 1, none⟩ = some (.slice X.Q X.m.length X.q) ∧ w.cell? ⟨(ad.add (i.toNat * 3)).block, (ad.add (i.toNat * 3)).off + 2, none⟩ = some (.bool X.e) := by
  obtain ⟨ad, c, e, _, hK, hc0⟩ := Kd.C_get h z25 i h0 h1
  have hc : ∀ j u, c[j]? = some u → w.cell? (ad.add (i.toNat * 3 + j)) = some u := hc0
  obtain ⟨_, _, rfl, ⟨A0, c0, rfl, l0, g0⟩, ⟨_, _, rfl, ⟨A1, c1, rfl, l1, g1⟩, rfl⟩⟩ := hK
  exact ⟨ad, ⟨A0, c0, A1, c1, (rd_T25 l i).f0, (rd_T25 l i).f1, (rd_T25 l i).f2⟩, e, rfl, ⟨⟨l0, .inl g0⟩, ⟨l1, .inl g1⟩⟩, hc 0 _ rfl, by rw [← add_field _ _ 1 (by omega)]; exact hc 1 _ rfl, by rw [← add_field _ _ 2 (by omega)]; exact hc 2 _ rfl⟩
theorem bottom_own {vars : List Int} {c : Nat} (h : Kd.C (Kd.int .i64) W A vars.length vars) (hc : vars.length ≤ c) (hv : VarsOk vars) :
    Calls Try.prog 17 #[.slice A vars.length c] W fun e W' => ∃ z : OV, e = .returned z.val ∧ z.o = (vars, [], true) ∧ Own W W' z ∧ Below W.heap.size W W' := by
  have h8 := hv.1
  have hd : gimbalref11_copied.f vars = some vars := by unfold gimbalref11_copied.f; rw [if_pos (by simp; omega)]; rfl
  refine of_calls2 (a := (vars, [], true)) (gimbalref11_Bottom.calls A c vars vars [] true W h hc ?_)
  unfold gimbalref11_Bottom.f gimbalref11_VarsFit.f; rw [varsB_true.2 hv, Option.bind_some, if_pos rfl, hd]; rfl
end
end Go.Proofs.Ytomgebmimgaojaa.QO
end
end
section
noncomputable section
namespace Go.Proofs.Ytomgebmimgaojaa.QO
open Go.RowKit Go.Shelf Go.Proofs.YtomgebmimgaojaaW.PrintWords Go.Proofs.YtomgebmimgaojaaW.PrintLast Go.Proofs.YtomgebmimgaojaaW.PrintMore
open Go.Proofs.Ytomgebmimgaojaa.Pure Octs Two Upper
open Go.Proofs.Ytomgebmimgaojaa.ThFacts (FitP)
attribute [local go_sem] Oper.semAt_some
attribute [local go_sem] max2_int min2_int max_two min_two max_three min_three max_four min_four
attribute [local go_sem ↓] Go.wp_at_zero Go.wp_at_succ
set_option linter.unusedVariables false
set_option linter.unusedSimpArgs false
def tc_T6 : Bool × List (List Nat × List Nat) := (true, [([], []), ([0], [0]), ([1], [1]), ([2, 1], [2]), ([3], [3]), ([4, 3], [3, 4]), ([5, 3], [3, 5]), ([3], [3]), ([7, 3], [3, 7]), ([8, 3], [3, 8]), ([9, 3], [3, 9]), ([10, 3], [3, 10]), ([6, 11, 3], [3, 6, 11]), ([3, 12], [3, 12])])
def tc_B6 : List Nat := [0, 1, 3, 7, 15, 31, 63, 15, 143, 399, 911, 1935, 4095, 8191]
theorem tc_tab6 : rtab .any (opsOf Try.f7 6) = tc_T6 := by kernel_rfl
theorem tc_bits6 : waitsOk tc_T6.2 tc_B6 = true := by kernel_rfl
def tc_T11 : Bool × List (List Nat × List Nat) := (true, [([], []), ([0], [0]), ([], []), ([1, 2], [1, 2]), ([3], [3]), ([], []), ([5], [5]), ([6], [6]), ([7], [7]), ([], []), ([8, 9], [8, 9]), ([10], [10]), ([4, 11], [4, 11])])
def tc_B11 : List Nat := [0, 1, 0, 7, 15, 0, 32, 96, 224, 0, 992, 2016, 4095]
theorem tc_tab11 : rtab .any (opsOf Try.f7 11) = tc_T11 := by kernel_rfl
theorem tc_bits11 : waitsOk tc_T11.2 tc_B11 = true := by kernel_rfl
theorem u64w {x : Int} (h0 : 0 ≤ x) (h1 : x < 18446744073709551616) : IntKind.u64.wrap x = x := by
  unfold IntKind.wrap
  simp [IntKind.bits, IntKind.signed]
  omega
theorem vars_eq {a b : List Int} (hl : a.length = b.length) (h : ∀ j : Nat, j < a.length → rd a (j : Int) = rd b (j : Int)) : b = a := by
  refine List.ext_getElem hl.symm fun k h1 h2 => ?_
  have := h k h2
  unfold rd at this
  simp [List.getD_eq_getElem?_getD, h1, h2] at this
  exact this.symm
set_option maxHeartbeats 16000000 in
set_option maxRecDepth 100000 in
theorem threshChains_walk (tA : Option Addr) (tc : Nat) (t : List Int) (lA : Option Addr) (lc : Nat) (l : List S25) (w : World) (hT : Kd.C (Kd.int .i64) w tA t.length t) (hc : t.length ≤ tc) (hL : Kd.C k25 w lA l.length l) (hlc : l.length ≤ lc) (lt : t.length ≤ 17592186044416) (ll : l.length ≤ 17592186044416) (lv : ∀ x, x ∈ l → x.f0.length ≤ 17592186044416) : Says 7 #[.slice tA t.length tc, .slice lA l.length lc] w (.bool true) := by
  have hu25 := Try.underlying25
  obtain ⟨b0, b1, b2⟩ := tfit_ex (A := tA) (c := tc) lt
  have B1 := Aside0.mk b1
  have B0 := Aside0.mk @b2
  have GT := Aside0.mk (And.intro hT hc)
  have GL := Aside0.mk hL
  have LL := Aside0.mk (And.intro ll lv)
  clear b1 b2 lt hT hc hL ll lv
  have HS : Aside0 (OS w [] w) := ⟨OS.nil w⟩
  have HF : Aside0 (FX w [] w) := ⟨⟨fun f hf => absurd hf List.not_mem_nil, List.nodup_nil⟩⟩
  go_enter Try.func7, Try.ntmps7
  go_upto_region 1 with fail
  cases b0 with
  | false =>
    go_wp2_with (first | (go_at_call 27; (with_reducible refine (B0.out GT.out.1 GT.out.2 (OS.bel HS)).mono ?_); rintro e wk ⟨rfl, hb⟩; have n_ := Aside0.mk ((OS.to HS).next hb); have f_ := Aside0.mk ((FX.to HF).next hb); clear HS HF; have HS := n_; have HF := f_; clear n_ f_ hb) | (go_at_call 25; (with_reducible refine (awake13_o).mono ?_); rintro e wk ⟨rfl, hb⟩; have n_ := Aside0.mk ((OS.to HS).next hb); have f_ := Aside0.mk ((FX.to HF).next hb); clear HS HF; have HS := n_; have HF := f_; clear n_ f_ hb))
    go_ret
    exact ⟨rfl, OS.bel HS⟩
  | true =>
  have FT := Aside0.mk (B1.out rfl)
  by_cases c1 : (l.length : Int) = 0
  case pos =>
    have q1 : ((l.length : Int) == 0) = true := by simpa using c1
    go_wp2_with (first | (go_at_call 27; (with_reducible refine (B0.out GT.out.1 GT.out.2 (OS.bel HS)).mono ?_); rintro e wk ⟨rfl, hb⟩; have n_ := Aside0.mk ((OS.to HS).next hb); have f_ := Aside0.mk ((FX.to HF).next hb); clear HS HF; have HS := n_; have HF := f_; clear n_ f_ hb) | (go_at_call 25; (with_reducible refine (awake13_o).mono ?_); rintro e wk ⟨rfl, hb⟩; have n_ := Aside0.mk ((OS.to HS).next hb); have f_ := Aside0.mk ((FX.to HF).next hb); clear HS HF; have HS := n_; have HF := f_; clear n_ f_ hb))
    go_ret
    exact ⟨rfl, OS.bel HS⟩
  have q1 : ((l.length : Int) == 0) = false := by simpa using c1
  obtain ⟨ad, Z, ea, eZ, hZ, hz0, _, _⟩ := elem_at GL.out 0 (by omega) (by omega)
  cases ea
  have HZ := Aside0.mk hZ
  have EZ := Aside0.mk eZ
  have HZ0 : Aside0 (w.cell? ad = some (.slice Z.P Z.v.length Z.p)) := ⟨by
    have e : ad.add ((0 : Int).toNat * 3) = ad := by simp [Addr.add]
    rw [e] at hz0; exact hz0⟩
  have NZ : Aside0 (0 < l.length) := ⟨by omega⟩
  have z0 : (0 < l.length) = True := eq_true NZ.out
  clear hZ eZ hz0 c1
  go_upto_region 3 with (first | (go_at_call 27; (with_reducible refine (B0.out GT.out.1 GT.out.2 (OS.bel HS)).mono ?_); rintro e wk ⟨rfl, hb⟩; have n_ := Aside0.mk ((OS.to HS).next hb); have f_ := Aside0.mk ((FX.to HF).next hb); clear HS HF; have HS := n_; have HF := f_; clear n_ f_ hb))
  clear q1
  go_wp2
  go_loopg [25] l.length (fun kq v25 w' => ∃ (i : Int), v25 = .int .i64 i ∧ Aside0 (0 ≤ i ∧ i + (kq : Int) = (l.length : Int)) ∧ Aside0 (∀ j : Nat, (j : Int) < i → OFit (rd_T25 l j).f0 (rd_T25 l j).f1 (rd_T25 l j).f2 ∧ (rd_T25 l j).f0 = Z.v) ∧ Aside0 (OS w [] w') ∧ Aside0 (FX w [] w'))
  case atStart => exact ⟨0, by rfl, ⟨by omega⟩, ⟨fun j h => absurd h (by omega)⟩, ⟨OS.to HS⟩, ⟨FX.to HF⟩⟩
  case round =>
    clear HS HF
    obtain ⟨i0, rfl, HI0, HJ0, HS, HF⟩ := hrel
    cases gk with
    | succ k =>
      have q1 : (decide (i0 < (l.length : Int))) = true := decide_eq_true (by have := HI0.out; omega)
      have p2 : 0 ≤ i0 := HI0.out.1
      have q2 : i0 < (l.length : Int) := by have := HI0.out; omega
      obtain ⟨ad', X, ea, eX, hX, x0, x1, x2⟩ := elem_at GL.out i0 p2 q2
      cases ea
      have HX := Aside0.mk hX
      have EX := Aside0.mk eX
      have LX : Aside0 (X.v.length ≤ 17592186044416) := ⟨by
        have e1 : X.v = (rd_T25 l i0).f0 := congrArg (·.1) eX
        rw [e1]
        refine LL.out.2 _ ?_
        unfold rd_T25
        have h1 : i0.toNat < l.length := by omega
        simp [List.getD_eq_getElem?_getD, h1]⟩
      replace x0 := pw_cell_below HS.out.below x0
      replace x1 := pw_cell_below HS.out.below x1
      replace x2 := pw_cell_below HS.out.below x2
      clear hX eX
      replace p2 := eq_true p2
      replace q2 := eq_true q2
      go_upto_region 6 with (first | ((with_reducible refine gate_dst (N := 6) rfl ?_); refine box_event ?hg (N := 6) ?hd (cs := #[.slice none 0 0, .slice none 0 0, .bool false]) (t := 25) ?hr ?_; (case hd => rfl); (case hg => rfl); (case hr => first | (go_simp; done) | (go_simp; rfl)); intro g6 hg wk hbox hb; have f_ := Aside0.mk ((FX.to HF).made (OS.bel HS).size hg hbox hb); have n_ := Aside0.mk ((OS.to HS).next hb); clear HS HF; have HS := n_; have HF := f_; clear n_ f_ hg hbox hb; obtain ⟨⟨p0, p1, p2⟩, p3, p4, p5⟩ := FX.oct HF m0_))
      clear x0 x1 x2
      have f_ := Aside0.mk (HF.out.put3 (a' := .slice X.P X.v.length X.p) (b' := .slice X.Q X.m.length X.q) (c' := .bool X.e))
      have n_ := Aside0.mk (OS.box3 (a' := .slice X.P X.v.length X.p) (b' := .slice X.Q X.m.length X.q) (c' := .bool X.e) HS.out (HF.out.all _ m0_).1 (HF.out.all _ m0_).2 (by decide) (by decide))
      clear HS HF p0 p1 p2 p3 p4 p5
      have HS := n_
      have HF := f_
      clear n_ f_
      generalize hW : (((World.setCell _ ⟨g6, 0, none⟩ (.slice X.P X.v.length X.p)).setCell ⟨g6, 1, none⟩ (.slice X.Q X.m.length X.q)).setCell ⟨g6, 2, none⟩ (.bool X.e)) = W9 at HS HF ⊢
      clear hW
      obtain ⟨eA, hA⟩ : ∃ b, ofitB X.v X.m X.e = b := ⟨_, rfl⟩
      have EA := Aside0.mk hA
      clear hA
      cases eA with
      | false =>
        have n_ := Aside0.mk (HS.out.next (below_drew (Below.refl _ _))); have f_ := Aside0.mk (HF.out.next (below_drew (Below.refl _ _))); clear HS HF; have HS := n_; have HF := f_; clear n_ f_
        refine start_ (n := 14) (S := fun w' => w'.cell? ⟨g6, 0, none⟩ = some (.slice X.P X.v.length X.p) ∧ w'.cell? ⟨g6, 1, none⟩ = some (.slice X.Q X.m.length X.q) ∧ w'.cell? ⟨g6, 2, none⟩ = some (.bool X.e) ∧ w'.cell? ad = some (.slice Z.P Z.v.length Z.p)) (ds := []) (mB 14 0) (by kernel_rfl) rfl (by kernel_rfl) ⟨(FX.oct HF m0_).1.1, (FX.oct HF m0_).1.2.1, (FX.oct HF m0_).1.2.2, pw_cell_below HS.out.below HZ0.out⟩ (fun hHeld => ?_)
        refine with_tabW tc_tab6 tc_bits6 (fun HT_ HW_ => ?_)
        generalize hWd : World.drew _ = Wd at HS HF hHeld ⊢; clear hWd
        refine tV_ 0 29 (mB 14 1) HT_ HW_ hHeld ?_
        refine one_ (i := 1) (N := some 30) (mB 14 3) rfl rfl (one_of HT_.out (by kernel_rfl)) (by decide) (fun K hK => ?_)
        refine goes_ Try.func19 (by kernel_rfl) rfl #[X.val] (by rfl) rfl rfl vL ?_
        with_reducible refine (rfit_at (HX.out.next HS.out.below) HS.out.below LX.out EA.out).mono ?_
        rintro e wk ⟨rfl, hb⟩; refine ⟨_, rfl, ?_⟩
        have n_ := Aside0.mk (HS.out.next hb); have f_ := Aside0.mk (HF.out.next hb); clear HS HF; have HS := n_; have HF := f_; clear n_ f_ hb
        refine hK.out _ _ ⟨(FX.oct HF m0_).1.1, (FX.oct HF m0_).1.2.1, (FX.oct HF m0_).1.2.2, pw_cell_below HS.out.below HZ0.out⟩ (fun hHeld => ?_)
        clear hK K
        refine nO_ 30 ?_
        refine pV_ 2 31 (mB 14 7) HT_ ?_
        refine pV_ 3 32 (mB 14 15) HT_ ?_
        refine pU_ 4 33 (mB 14 31) HT_ ?_
        refine pU_ 5 34 (mB 14 63) HT_ ?_
        refine pU_ 6 35 (mB 14 127) HT_ ?_
        refine pU_ 7 36 (mB 14 255) HT_ ?_
        refine pU_ 8 37 (mB 14 511) HT_ ?_
        refine pU_ 9 38 (mB 14 1023) HT_ ?_
        refine pU_ 10 39 (mB 14 2047) HT_ ?_
        refine pU_ 11 40 (mB 14 4095) HT_ ?_
        refine pU_ 12 41 (mB 14 8191) HT_ ?_
        refine pV_ 13 42 (mB 14 16383) HT_ ?_
        refine done_ (done_of HT_.out (by kernel_rfl)) ?_
        clear HT_ HW_ hHeld
        go_wp2_with (first | (go_at_call 25; (with_reducible refine (awake13_o).mono ?_); rintro e wk ⟨rfl, hb⟩; have n_ := Aside0.mk ((OS.to HS).next hb); have f_ := Aside0.mk ((FX.to HF).next hb); clear HS HF; have HS := n_; have HF := f_; clear n_ f_ hb))
        go_ret
        exact ⟨rfl, OS.bel HS⟩
      | true =>
      have FA := Aside0.mk (ofitB_true.1 EA.out)
      by_cases c2 : (X.v.length : Int) = (Z.v.length : Int)
      case neg =>
        have q3 : ((X.v.length : Int) != (Z.v.length : Int)) = true := bne_iff_ne.mpr c2
        have n_ := Aside0.mk (HS.out.next (below_drew (Below.refl _ _))); have f_ := Aside0.mk (HF.out.next (below_drew (Below.refl _ _))); clear HS HF; have HS := n_; have HF := f_; clear n_ f_
        refine start_ (n := 14) (S := fun w' => w'.cell? ⟨g6, 0, none⟩ = some (.slice X.P X.v.length X.p) ∧ w'.cell? ⟨g6, 1, none⟩ = some (.slice X.Q X.m.length X.q) ∧ w'.cell? ⟨g6, 2, none⟩ = some (.bool X.e) ∧ w'.cell? ad = some (.slice Z.P Z.v.length Z.p)) (ds := []) (mB 14 0) (by kernel_rfl) rfl (by kernel_rfl) ⟨(FX.oct HF m0_).1.1, (FX.oct HF m0_).1.2.1, (FX.oct HF m0_).1.2.2, pw_cell_below HS.out.below HZ0.out⟩ (fun hHeld => ?_)
        refine with_tabW tc_tab6 tc_bits6 (fun HT_ HW_ => ?_)
        generalize hWd : World.drew _ = Wd at HS HF hHeld ⊢; clear hWd
        refine tV_ 0 29 (mB 14 1) HT_ HW_ hHeld ?_
        refine one_ (i := 1) (N := some 30) (mB 14 3) rfl rfl (one_of HT_.out (by kernel_rfl)) (by decide) (fun K hK => ?_)
        refine goes_ Try.func19 (by kernel_rfl) rfl #[X.val] (by rfl) rfl rfl vL ?_
        with_reducible refine (rfit_at (HX.out.next HS.out.below) HS.out.below LX.out EA.out).mono ?_
        rintro e wk ⟨rfl, hb⟩; refine ⟨_, rfl, ?_⟩
        have n_ := Aside0.mk (HS.out.next hb); have f_ := Aside0.mk (HF.out.next hb); clear HS HF; have HS := n_; have HF := f_; clear n_ f_ hb
        refine hK.out _ _ ⟨(FX.oct HF m0_).1.1, (FX.oct HF m0_).1.2.1, (FX.oct HF m0_).1.2.2, pw_cell_below HS.out.below HZ0.out⟩ (fun hHeld => ?_)
        clear hK K
        refine nO_ 30 ?_
        refine pV_ 2 31 (mB 14 7) HT_ ?_
        refine pV_ 3 32 (mB 14 15) HT_ ?_
        refine pV_ 4 33 (mB 14 31) HT_ ?_
        refine tV_ 5 34 (mB 14 63) HT_ HW_ hHeld ?_
        refine pV_ 6 35 (mB 14 127) HT_ ?_
        refine pV_ 7 36 (mB 14 255) HT_ ?_
        refine pV_ 8 37 (mB 14 511) HT_ ?_
        refine pV_ 9 38 (mB 14 1023) HT_ ?_
        refine tV_ 10 39 (mB 14 2047) HT_ HW_ hHeld ?_
        refine pV_ 11 40 (mB 14 4095) HT_ ?_
        refine pV_ 12 41 (mB 14 8191) HT_ ?_
        refine pV_ 13 42 (mB 14 16383) HT_ ?_
        refine done_ (done_of HT_.out (by kernel_rfl)) ?_
        clear HT_ HW_ hHeld
        go_wp2_with (first | (go_at_call 25; (with_reducible refine (awake13_o).mono ?_); rintro e wk ⟨rfl, hb⟩; have n_ := Aside0.mk ((OS.to HS).next hb); have f_ := Aside0.mk ((FX.to HF).next hb); clear HS HF; have HS := n_; have HF := f_; clear n_ f_ hb))
        go_ret
        exact ⟨rfl, OS.bel HS⟩
      have q3 : ((X.v.length : Int) != (Z.v.length : Int)) = false := bne_eq_false_iff_eq.mpr c2
      have CL : Aside0 (X.v.length = Z.v.length) := ⟨by omega⟩
      have L8 : Aside0 (X.v.length ≤ 8) := ⟨FA.out.1.1⟩
      clear c2
      have n_ := Aside0.mk (HS.out.next (below_drew (Below.refl _ _))); have f_ := Aside0.mk (HF.out.next (below_drew (Below.refl _ _))); clear HS HF; have HS := n_; have HF := f_; clear n_ f_
      refine start_ (n := 14) (S := fun w' => w'.cell? ⟨g6, 0, none⟩ = some (.slice X.P X.v.length X.p) ∧ w'.cell? ⟨g6, 1, none⟩ = some (.slice X.Q X.m.length X.q) ∧ w'.cell? ⟨g6, 2, none⟩ = some (.bool X.e) ∧ w'.cell? ad = some (.slice Z.P Z.v.length Z.p)) (ds := []) (mB 14 0) (by kernel_rfl) rfl (by kernel_rfl) ⟨(FX.oct HF m0_).1.1, (FX.oct HF m0_).1.2.1, (FX.oct HF m0_).1.2.2, pw_cell_below HS.out.below HZ0.out⟩ (fun hHeld => ?_)
      refine with_tabW tc_tab6 tc_bits6 (fun HT_ HW_ => ?_)
      generalize hWd : World.drew _ = Wd at HS HF hHeld ⊢; clear hWd
      refine tV_ 0 29 (mB 14 1) HT_ HW_ hHeld ?_
      refine one_ (i := 1) (N := some 30) (mB 14 3) rfl rfl (one_of HT_.out (by kernel_rfl)) (by decide) (fun K hK => ?_)
      refine goes_ Try.func19 (by kernel_rfl) rfl #[X.val] (by rfl) rfl rfl vL ?_
      with_reducible refine (rfit_at (HX.out.next HS.out.below) HS.out.below LX.out EA.out).mono ?_
      rintro e wk ⟨rfl, hb⟩; refine ⟨_, rfl, ?_⟩
      have n_ := Aside0.mk (HS.out.next hb); have f_ := Aside0.mk (HF.out.next hb); clear HS HF; have HS := n_; have HF := f_; clear n_ f_ hb
      refine hK.out _ _ ⟨(FX.oct HF m0_).1.1, (FX.oct HF m0_).1.2.1, (FX.oct HF m0_).1.2.2, pw_cell_below HS.out.below HZ0.out⟩ (fun hHeld => ?_)
      clear hK K
      refine nO_ 30 ?_
      refine pV_ 2 31 (mB 14 7) HT_ ?_
      refine pV_ 3 32 (mB 14 15) HT_ ?_
      refine pV_ 4 33 (mB 14 31) HT_ ?_
      refine tV_ 5 34 (mB 14 63) HT_ HW_ hHeld ?_
      refine pV_ 6 35 (mB 14 127) HT_ ?_
      refine pV_ 7 36 (mB 14 255) HT_ ?_
      refine pV_ 8 37 (mB 14 511) HT_ ?_
      refine pV_ 9 38 (mB 14 1023) HT_ ?_
      refine tV_ 10 39 (mB 14 2047) HT_ HW_ hHeld ?_
      refine pV_ 11 40 (mB 14 4095) HT_ ?_
      refine pV_ 12 41 (mB 14 8191) HT_ ?_
      refine pV_ 13 42 (mB 14 16383) HT_ ?_
      refine done_ (done_of HT_.out (by kernel_rfl)) ?_
      clear HT_ HW_ hHeld
      clear q3
      obtain ⟨⟨k60, k61, k62⟩, f60, f61, f62⟩ := FX.oct HF m0_
      go_wp2
      go_loopg [47] X.v.length (fun kq v47 w' => ∃ (i : Int), v47 = .int .i64 i ∧ Aside0 (0 ≤ i ∧ i + (kq : Int) = (X.v.length : Int)) ∧ Aside0 (∀ j : Nat, (j : Int) < i → rd X.v (j : Int) = rd Z.v (j : Int)) ∧ Aside0 (OS w [] w') ∧ Aside0 (FX w [(g6, X.cells)] w'))
      case atStart => exact ⟨0, by rfl, ⟨by omega⟩, ⟨fun j h => absurd h (by omega)⟩, ⟨OS.to HS⟩, ⟨FX.to HF⟩⟩
      case round =>
        clear HS HF k60 k61 k62 f60 f61 f62 q1
        obtain ⟨i, rfl, HI, HJ, HS, HF⟩ := hrel
        obtain ⟨⟨k60, k61, k62⟩, f60, f61, f62⟩ := FX.oct HF m0_
        cases gk with
        | succ k2 =>
          obtain ⟨XP, xp, XQ, xq, XV, XM, XE⟩ := X
          obtain ⟨ZP, zp, ZQ, zq, ZV, ZM, ZE⟩ := Z
          dsimp only at HI HJ CL L8 k60 k61 k62 ⊢
          have q1 : (decide (i < (XV.length : Int))) = true := decide_eq_true (by have := HI.out; omega)
          have p5 : 0 ≤ i := HI.out.1
          have q5 : i < (XV.length : Int) := by have := HI.out; omega
          have q6 : i < (ZV.length : Int) := by have := HI.out; have := CL.out; omega
          obtain ⟨bx, e1, hx0⟩ := Kd.at_int ((HX.out.next HS.out.below).r0.reads HS.out.below) i p5 q5
          obtain ⟨bz, e2, hz0⟩ := Kd.at_int ((HZ.out.next HS.out.below).r0.reads HS.out.below) i p5 q6
          cases e1
          cases e2
          replace p5 := eq_true p5
          replace q5 := eq_true q5
          replace q6 := eq_true q6
          by_cases d1 : rd XV i = rd ZV i
          · have d1' : (rd XV i != rd ZV i) = false := bne_eq_false_iff_eq.mpr d1
            have HD := Aside0.mk d1
            clear d1
            go_upto_region 11 with fail
            have n_ := Aside0.mk (HS.out.next (below_drew (Below.refl _ _))); have f_ := Aside0.mk (HF.out.next (below_drew (Below.refl _ _))); clear HS HF; have HS := n_; have HF := f_; clear n_ f_
            refine start_ (n := 13) (S := fun w' => w'.cell? ⟨g6, 0, none⟩ = some (.slice (some bx) XV.length xp) ∧ w'.cell? ad = some (.slice (some bz) ZV.length zp) ∧ w'.cell? (bx.add i.toNat) = some (.int .i64 (rd XV i)) ∧ w'.cell? (bz.add i.toNat) = some (.int .i64 (rd ZV i))) (ds := []) (mB 13 0) (by kernel_rfl) rfl (by kernel_rfl) ⟨(FX.oct HF m0_).1.1, pw_cell_below HS.out.below HZ0.out, hx0, hz0⟩ (fun hHeld => ?_)
            refine with_tabW tc_tab11 tc_bits11 (fun HT_ HW_ => ?_)
            generalize hWd : World.drew _ = Wd at HS HF hHeld ⊢; clear hWd; clear k60 k61 k62 f60 f61 f62 hx0 hz0; obtain ⟨⟨k60, k61, k62⟩, f60, f61, f62⟩ := FX.oct HF m0_
            refine pV_ 0 50 (mB 13 1) HT_ ?_
            refine tV_ 1 51 (mB 13 3) HT_ HW_ hHeld ?_
            refine pV_ 2 52 (mB 13 7) HT_ ?_
            refine pV_ 3 53 (mB 13 15) HT_ ?_
            refine tV_ 4 54 (mB 13 31) HT_ HW_ hHeld ?_
            refine pV_ 5 55 (mB 13 63) HT_ ?_
            refine pV_ 6 56 (mB 13 127) HT_ ?_
            refine pV_ 7 57 (mB 13 255) HT_ ?_
            refine tV_ 8 58 (mB 13 511) HT_ HW_ hHeld ?_
            refine pV_ 9 59 (mB 13 1023) HT_ ?_
            refine pV_ 10 60 (mB 13 2047) HT_ ?_
            refine tV_ 11 61 (mB 13 4095) HT_ HW_ hHeld ?_
            refine pV_ 12 62 (mB 13 8191) HT_ ?_
            refine done_ (done_of HT_.out (by kernel_rfl)) ?_
            clear HT_ HW_ hHeld
            try go_wp2
            go_roundg k2
            case measure => exact Nat.lt_succ_self k2
            case rel =>
              have hw : wrap64 (i + 1) = i + 1 := by have := HI.out; have := L8.out; unfold wrap64; omega
              exact ⟨wrap64 (i + 1), rfl, ⟨by rw [hw]; have := HI.out; omega⟩, ⟨by
                rw [hw]
                intro j hj
                by_cases e : (j : Int) = i
                · rw [e]; exact HD.out
                · exact HJ.out j (by omega)⟩, ⟨OS.to HS⟩, ⟨FX.to HF⟩⟩
          · have d1' : (rd XV i != rd ZV i) = true := bne_iff_ne.mpr d1
            clear d1
            go_upto_region 11 with fail
            have n_ := Aside0.mk (HS.out.next (below_drew (Below.refl _ _))); have f_ := Aside0.mk (HF.out.next (below_drew (Below.refl _ _))); clear HS HF; have HS := n_; have HF := f_; clear n_ f_
            refine start_ (n := 13) (S := fun w' => w'.cell? ⟨g6, 0, none⟩ = some (.slice (some bx) XV.length xp) ∧ w'.cell? ad = some (.slice (some bz) ZV.length zp) ∧ w'.cell? (bx.add i.toNat) = some (.int .i64 (rd XV i)) ∧ w'.cell? (bz.add i.toNat) = some (.int .i64 (rd ZV i))) (ds := []) (mB 13 0) (by kernel_rfl) rfl (by kernel_rfl) ⟨(FX.oct HF m0_).1.1, pw_cell_below HS.out.below HZ0.out, hx0, hz0⟩ (fun hHeld => ?_)
            refine with_tabW tc_tab11 tc_bits11 (fun HT_ HW_ => ?_)
            generalize hWd : World.drew _ = Wd at HS HF hHeld ⊢; clear hWd; clear k60 k61 k62 f60 f61 f62 hx0 hz0; obtain ⟨⟨k60, k61, k62⟩, f60, f61, f62⟩ := FX.oct HF m0_
            refine pV_ 0 50 (mB 13 1) HT_ ?_
            refine tV_ 1 51 (mB 13 3) HT_ HW_ hHeld ?_
            refine pV_ 2 52 (mB 13 7) HT_ ?_
            refine pV_ 3 53 (mB 13 15) HT_ ?_
            refine tV_ 4 54 (mB 13 31) HT_ HW_ hHeld ?_
            refine pV_ 5 55 (mB 13 63) HT_ ?_
            refine pV_ 6 56 (mB 13 127) HT_ ?_
            refine pV_ 7 57 (mB 13 255) HT_ ?_
            refine tV_ 8 58 (mB 13 511) HT_ HW_ hHeld ?_
            refine pV_ 9 59 (mB 13 1023) HT_ ?_
            refine pV_ 10 60 (mB 13 2047) HT_ ?_
            refine tV_ 11 61 (mB 13 4095) HT_ HW_ hHeld ?_
            refine pV_ 12 62 (mB 13 8191) HT_ ?_
            refine done_ (done_of HT_.out (by kernel_rfl)) ?_
            clear HT_ HW_ hHeld
            go_wp2_with (first | (go_at_call 25; (with_reducible refine (awake13_o).mono ?_); rintro e wk ⟨rfl, hb⟩; have n_ := Aside0.mk ((OS.to HS).next hb); have f_ := Aside0.mk ((FX.to HF).next hb); clear HS HF; have HS := n_; have HF := f_; clear n_ f_ hb))
            go_ret
            exact ⟨rfl, OS.bel HS⟩
        | zero =>
          have q1 : (decide (i < (X.v.length : Int))) = false := decide_eq_false (by have := HI.out; omega)
          have ev : Z.v = X.v := vars_eq CL.out (fun j hj => HJ.out j (by have := HI.out; omega))
          go_wp2
          go_roundg k
          case measure => exact Nat.lt_succ_self k
          case rel =>
            have hw : wrap64 (i0 + 1) = i0 + 1 := by have := HI0.out; have := LL.out.1; unfold wrap64; omega
            exact ⟨wrap64 (i0 + 1), rfl, ⟨by rw [hw]; have := HI0.out; omega⟩, ⟨by
              rw [hw]
              intro j hj
              by_cases e : (j : Int) = i0
              · rw [e]
                have e3 := EX.out
                have f := FA.out
                rw [show X.v = (rd_T25 l i0).f0 from congrArg (·.1) e3, show X.m = (rd_T25 l i0).f1 from congrArg (·.2.1) e3, show X.e = (rd_T25 l i0).f2 from congrArg (·.2.2) e3] at f
                exact ⟨f, by rw [ev]; exact (congrArg (·.1) e3).symm⟩
              · exact HJ0.out j (by omega)⟩, ⟨(OS.to HS)⟩, ⟨(FX.to HF).sub (List.nil_sublist _)⟩⟩
    | zero =>
      have q1 : (decide (i0 < (l.length : Int))) = false := decide_eq_false (by have := HI0.out; omega)
      have AL : Aside0 (∀ j : Nat, j < l.length → OFit (rd_T25 l j).f0 (rd_T25 l j).f1 (rd_T25 l j).f2 ∧ (rd_T25 l j).f0 = Z.v) := ⟨fun j hj => HJ0.out j (by have := HI0.out; omega)⟩
      clear HI0 HJ0
      have A0 := AL.out 0 NZ.out
      have HV : Aside0 (VarsOk Z.v) := ⟨by rw [← A0.2]; exact A0.1.1⟩
      have z8 : Z.v.length ≤ 8 := HV.out.1
      have Z8 := Aside0.mk z8
      obtain ⟨n, hn⟩ : ∃ n : Int, 2 * (Z.v.length : Int) = n := ⟨_, rfl⟩
      have NW : Aside0 (IntKind.u64.wrap (wrap64 (2 * (Z.v.length : Int))) = n) := ⟨by rw [show wrap64 (2 * (Z.v.length : Int)) = 2 * (Z.v.length : Int) by unfold wrap64; omega, u64w (by omega) (by omega), hn]⟩
      have HN := Aside0.mk hn
      clear A0 z8 hn
      have hz0 := pw_cell_below (OS.bel HS) HZ0.out
      go_upto_region 18 with (first | (go_at_call 17; (with_reducible refine (bottom_own ((Oc.at_ HZ (OS.bel HS)).r0.reads (OS.bel HS)) (Oc.at_ HZ (OS.bel HS)).r0.le HV.out).mono ?_); rintro e wk ⟨bo, rfl, hbo, ho, hb⟩; have n_ := Aside0.mk ((OS.to HS).call hb ho); have f_ := Aside0.mk ((FX.to HF).next hb); clear HS HF; have HS := n_; have HF := f_; clear n_ f_ hb ho) | ((with_reducible refine gate_dst (N := 10) rfl ?_); refine box_event ?hg (N := 10) ?hd (cs := #[.slice none 0 0, .slice none 0 0, .bool false]) (t := 25) ?hr ?_; (case hd => rfl); (case hg => rfl); (case hr => first | (go_simp; done) | (go_simp; rfl)); intro g10 hg wk hbox hb; have f_ := Aside0.mk ((FX.to HF).made (OS.bel HS).size hg hbox hb); have n_ := Aside0.mk ((OS.to HS).next hb); clear HS HF; have HS := n_; have HF := f_; clear n_ f_ hg hbox hb; obtain ⟨⟨p0, p1, p2⟩, p3, p4, p5⟩ := FX.oct HF m0_))
      rw [NW.out]
      clear hz0 q1
      have f_ := Aside0.mk (HF.out.put3 (a' := .slice bo.P bo.v.length bo.p) (b' := .slice bo.Q bo.m.length bo.q) (c' := .bool bo.e))
      have n_ := Aside0.mk (OS.box3 (a' := .slice bo.P bo.v.length bo.p) (b' := .slice bo.Q bo.m.length bo.q) (c' := .bool bo.e) HS.out (HF.out.all _ m0_).1 (HF.out.all _ m0_).2 (by decide) (by decide))
      clear HS HF p0 p1 p2 p3 p4 p5
      have HS := n_
      have HF := f_
      clear n_ f_
      generalize hW : (((World.setCell _ ⟨g10, 0, none⟩ (.slice bo.P bo.v.length bo.p)).setCell ⟨g10, 1, none⟩ (.slice bo.Q bo.m.length bo.q)).setCell ⟨g10, 2, none⟩ (.bool bo.e)) = W8 at HS HF ⊢
      clear hW
      have GB : Aside0 (OkV Z.v bo) := ⟨OkV.of hbo (fit_none HV.out) rfl⟩
      have GG : Aside0 (Chain.Gr t Z.v bo.m bo.e 0) := ⟨by
        have e1 : bo.m = [] := congrArg (·.2.1) hbo
        have e2 : bo.e = true := congrArg (·.2.2) hbo
        rw [e1, e2]; exact Chain.gr_bottom⟩
      clear hbo
      go_wp2
      go_loopg [80, 9] l.length (fun kq v80 v9 w' => ∃ (i : Int) (g : Nat) (z : OV), v80 = .int .i64 i ∧ v9 = .int .u64 (g : Int) ∧ Aside0 (0 ≤ i ∧ i + (kq : Int) = (l.length : Int)) ∧ Aside0 (Chain.Gr t Z.v z.m z.e g) ∧ Aside0 (OkV Z.v z) ∧ Aside0 (OS w [z] w') ∧ Aside0 (FX w [(g10, z.cells)] w'))
      case atStart => exact ⟨0, 0, bo, by rfl, by rfl, ⟨by omega⟩, GG, GB, ⟨OS.to HS⟩, ⟨FX.to HF⟩⟩
      case round =>
        clear HS HF GB GG
        obtain ⟨i, g, z, rfl, rfl, HI, GG, GB, HS, HF⟩ := hrel
        cases gk with
        | succ k =>
          have q1 : (decide (i < (l.length : Int))) = true := decide_eq_true (by have := HI.out; omega)
          have p2 : 0 ≤ i := HI.out.1
          have q2 : i < (l.length : Int) := by have := HI.out; omega
          obtain ⟨ad', X, ea, eX, hX, x0, x1, x2⟩ := elem_at GL.out i p2 q2
          cases ea
          have HX := Aside0.mk hX
          have GX : Aside0 (OkV Z.v X) := ⟨by
            have h := AL.out i.toNat (by omega)
            rw [show ((i.toNat : Nat) : Int) = i by omega] at h
            refine ⟨?_, (congrArg (·.1) eX).trans h.2⟩
            rw [show X.v = (rd_T25 l i).f0 from congrArg (·.1) eX, show X.m = (rd_T25 l i).f1 from congrArg (·.2.1) eX, show X.e = (rd_T25 l i).f2 from congrArg (·.2.2) eX]
            exact h.1⟩
          replace x0 := pw_cell_below HS.out.below x0
          replace x1 := pw_cell_below HS.out.below x1
          replace x2 := pw_cell_below HS.out.below x2
          clear hX eX
          replace p2 := eq_true p2
          replace q2 := eq_true q2
          go_upto_region 21 with (first | ((with_reducible refine gate_dst (N := 12) rfl ?_); refine box_event ?hg (N := 12) ?hd (cs := #[.slice none 0 0, .slice none 0 0, .bool false]) (t := 25) ?hr ?_; (case hd => rfl); (case hg => rfl); (case hr => first | (go_simp; done) | (go_simp; rfl)); intro g12 hg wk hbox hb; have f_ := Aside0.mk ((FX.to HF).made (OS.bel HS).size hg hbox hb); have n_ := Aside0.mk ((OS.to HS).next hb); clear HS HF; have HS := n_; have HF := f_; clear n_ f_ hg hbox hb; obtain ⟨⟨p0, p1, p2⟩, p3, p4, p5⟩ := FX.oct HF m0_))
          clear x0 x1 x2 p2 q2 q1
          have f_ := Aside0.mk (HF.out.put3 (a' := .slice X.P X.v.length X.p) (b' := .slice X.Q X.m.length X.q) (c' := .bool X.e))
          have n_ := Aside0.mk (OS.box3 (a' := .slice X.P X.v.length X.p) (b' := .slice X.Q X.m.length X.q) (c' := .bool X.e) HS.out (HF.out.all _ m0_).1 (HF.out.all _ m0_).2 (by decide) (by decide))
          clear HS HF p0 p1 p2 p3 p4 p5
          have HS := n_
          have HF := f_
          clear n_ f_
          generalize hW : (((World.setCell _ ⟨g12, 0, none⟩ (.slice X.P X.v.length X.p)).setCell ⟨g12, 1, none⟩ (.slice X.Q X.m.length X.q)).setCell ⟨g12, 2, none⟩ (.bool X.e)) = W7 at HS HF ⊢
          clear hW
          obtain ⟨⟨k120, k121, k122⟩, f120, f121, f122⟩ := FX.oct HF m0_; obtain ⟨⟨k100, k101, k102⟩, f100, f101, f102⟩ := FX.oct HF m1_
          go_upto_region 22 with (first | (go_at_call 29; (with_reducible refine (rjoin_o (OS.oc HS m0_) (Oc.at_ HX (OS.bel HS)) (OS.bel HS) GB.out GX.out).mono ?_); rintro e wk ⟨cv, rfl, hcv, ho, hb⟩; have n_ := Aside0.mk ((OS.to HS).call hb ho); have f_ := Aside0.mk ((FX.to HF).next hb); clear HS HF; have HS := n_; have HF := f_; clear n_ f_ hb ho; clear k120 k121 k122 f120 f121 f122; obtain ⟨⟨k120, k121, k122⟩, f120, f121, f122⟩ := FX.oct HF m0_; clear k100 k101 k102 f100 f101 f102; obtain ⟨⟨k100, k101, k102⟩, f100, f101, f102⟩ := FX.oct HF m1_) | (go_at_call 26; (with_reducible refine (th_own FT.out GT.out.1 GT.out.2 (OS.bel HS) (OS.oc HS m0_) (OS.bel HS) (OkV.of hcv (Chain.step FT.out GB.out.fit GX.out.fit GG.out).1.1 (Chain.step FT.out GB.out.fit GX.out.fit GG.out).1.2)).mono ?_); rintro e wk ⟨pv, rfl, hpv, ho, hb⟩; have n_ := Aside0.mk ((OS.to HS).call hb ho); have f_ := Aside0.mk ((FX.to HF).next hb); clear HS HF; have HS := n_; have HF := f_; clear n_ f_ hb ho; clear k120 k121 k122 f120 f121 f122; obtain ⟨⟨k120, k121, k122⟩, f120, f121, f122⟩ := FX.oct HF m0_; clear k100 k101 k102 f100 f101 f102; obtain ⟨⟨k100, k101, k102⟩, f100, f101, f102⟩ := FX.oct HF m1_) | ((with_reducible refine gate_dst (N := 13) rfl ?_); refine box_event ?hg (N := 13) ?hd (cs := #[.slice none 0 0, .slice none 0 0, .bool false]) (t := 25) ?hr ?_; (case hd => rfl); (case hg => rfl); (case hr => first | (go_simp; done) | (go_simp; rfl)); intro g13 hg wk hbox hb; have f_ := Aside0.mk ((FX.to HF).made (OS.bel HS).size hg hbox hb); have n_ := Aside0.mk ((OS.to HS).next hb); clear HS HF; have HS := n_; have HF := f_; clear n_ f_ hg hbox hb; obtain ⟨⟨p0, p1, p2⟩, p3, p4, p5⟩ := FX.oct HF m0_))
          clear k120 k121 k122 f120 f121 f122 k100 k101 k102 f100 f101 f102
          have f_ := Aside0.mk (HF.out.put3 (a' := .slice pv.P pv.v.length pv.p) (b' := .slice pv.Q pv.m.length pv.q) (c' := .bool pv.e))
          have n_ := Aside0.mk (OS.box3 (a' := .slice pv.P pv.v.length pv.p) (b' := .slice pv.Q pv.m.length pv.q) (c' := .bool pv.e) HS.out (HF.out.all _ m0_).1 (HF.out.all _ m0_).2 (by decide) (by decide))
          clear HS HF p0 p1 p2 p3 p4 p5
          have HS := n_
          have HF := f_
          clear n_ f_
          generalize hW : (((World.setCell _ ⟨g13, 0, none⟩ (.slice pv.P pv.v.length pv.p)).setCell ⟨g13, 1, none⟩ (.slice pv.Q pv.m.length pv.q)).setCell ⟨g13, 2, none⟩ (.bool pv.e)) = W6 at HS HF ⊢
          clear hW
          have st := Chain.step FT.out GB.out.fit GX.out.fit GG.out
          rw [← hcv] at st
          rw [← hpv] at st
          obtain ⟨⟨_, _⟩, ⟨fp, vp⟩, l1, gr⟩ := st
          have GP : Aside0 (OkV Z.v pv) := ⟨OkV.of rfl fp vp⟩
          have L1 := Aside0.mk l1
          obtain ⟨b, hb⟩ : ∃ b, leqF Z.v pv.m pv.e z.m z.e = b := ⟨_, rfl⟩
          have L2 := Aside0.mk hb
          rw [hb] at gr
          have GR := Aside0.mk gr
          have GN : Aside0 (g < 65538) := ⟨by
            have h1 := GG.out.bound
            have h2 := FT.out.2.1
            have h3 := Z8.out
            have h4 : (2 * Z.v.length) * (2 * Z.v.length) * t.length ≤ (2 * 8) * (2 * 8) * 256 := Nat.mul_le_mul (Nat.mul_le_mul (by omega) (by omega)) h2
            omega⟩
          clear fp vp l1 gr hb hcv hpv GX
          obtain ⟨⟨k130, k131, k132⟩, f130, f131, f132⟩ := FX.oct HF m0_; obtain ⟨⟨k120, k121, k122⟩, f120, f121, f122⟩ := FX.oct HF m1_; obtain ⟨⟨k100, k101, k102⟩, f100, f101, f102⟩ := FX.oct HF m2_
          cases b with
          | true =>
            go_wp2_with (first | (go_at_call 30; (with_reducible refine (rleq_as (OS.oc HS m2_) (OS.oc HS m0_) (OS.bel HS) GB.out GP.out L1.out).mono ?_); rintro e wk ⟨rfl, hb⟩; have n_ := Aside0.mk ((OS.to HS).next hb); have f_ := Aside0.mk ((FX.to HF).next hb); clear HS HF; have HS := n_; have HF := f_; clear n_ f_ hb; clear k130 k131 k132 f130 f131 f132; obtain ⟨⟨k130, k131, k132⟩, f130, f131, f132⟩ := FX.oct HF m0_; clear k120 k121 k122 f120 f121 f122; obtain ⟨⟨k120, k121, k122⟩, f120, f121, f122⟩ := FX.oct HF m1_; clear k100 k101 k102 f100 f101 f102; obtain ⟨⟨k100, k101, k102⟩, f100, f101, f102⟩ := FX.oct HF m2_) | (go_at_call 30; (with_reducible refine (rleq_as (OS.oc HS m0_) (OS.oc HS m2_) (OS.bel HS) GP.out GB.out L2.out).mono ?_); rintro e wk ⟨rfl, hb⟩; have n_ := Aside0.mk ((OS.to HS).next hb); have f_ := Aside0.mk ((FX.to HF).next hb); clear HS HF; have HS := n_; have HF := f_; clear n_ f_ hb; clear k130 k131 k132 f130 f131 f132; obtain ⟨⟨k130, k131, k132⟩, f130, f131, f132⟩ := FX.oct HF m0_; clear k120 k121 k122 f120 f121 f122; obtain ⟨⟨k120, k121, k122⟩, f120, f121, f122⟩ := FX.oct HF m1_; clear k100 k101 k102 f100 f101 f102; obtain ⟨⟨k100, k101, k102⟩, f100, f101, f102⟩ := FX.oct HF m2_))
            go_roundg k
            case measure => exact Nat.lt_succ_self k
            case rel =>
              have hw : wrap64 (i + 1) = i + 1 := by have := HI.out; have := LL.out.1; unfold wrap64; omega
              refine ⟨wrap64 (i + 1), g, pv, rfl, rfl, ⟨by rw [hw]; have := HI.out; omega⟩, ⟨by have h := GR.out; simpa using h⟩, GP, ⟨?_⟩, ⟨?_⟩⟩
              · exact (OS.box3 (OS.to HS) ((FX.to HF).all _ m2_).1 ((FX.to HF).all _ m2_).2 (by decide) (by decide)).sub (.cons_cons _ (List.nil_sublist _))
              · exact (((FX.to HF).sub (fs' := [(g13, pv.cells), (g10, z.cells)]) (.cons_cons _ (.cons _ (.cons_cons _ .slnil)))).swap.put3).sub (.cons_cons _ (List.nil_sublist _))
          | false =>
            go_wp2_with (first | (go_at_call 30; (with_reducible refine (rleq_as (OS.oc HS m2_) (OS.oc HS m0_) (OS.bel HS) GB.out GP.out L1.out).mono ?_); rintro e wk ⟨rfl, hb⟩; have n_ := Aside0.mk ((OS.to HS).next hb); have f_ := Aside0.mk ((FX.to HF).next hb); clear HS HF; have HS := n_; have HF := f_; clear n_ f_ hb; clear k130 k131 k132 f130 f131 f132; obtain ⟨⟨k130, k131, k132⟩, f130, f131, f132⟩ := FX.oct HF m0_; clear k120 k121 k122 f120 f121 f122; obtain ⟨⟨k120, k121, k122⟩, f120, f121, f122⟩ := FX.oct HF m1_; clear k100 k101 k102 f100 f101 f102; obtain ⟨⟨k100, k101, k102⟩, f100, f101, f102⟩ := FX.oct HF m2_) | (go_at_call 30; (with_reducible refine (rleq_as (OS.oc HS m0_) (OS.oc HS m2_) (OS.bel HS) GP.out GB.out L2.out).mono ?_); rintro e wk ⟨rfl, hb⟩; have n_ := Aside0.mk ((OS.to HS).next hb); have f_ := Aside0.mk ((FX.to HF).next hb); clear HS HF; have HS := n_; have HF := f_; clear n_ f_ hb; clear k130 k131 k132 f130 f131 f132; obtain ⟨⟨k130, k131, k132⟩, f130, f131, f132⟩ := FX.oct HF m0_; clear k120 k121 k122 f120 f121 f122; obtain ⟨⟨k120, k121, k122⟩, f120, f121, f122⟩ := FX.oct HF m1_; clear k100 k101 k102 f100 f101 f102; obtain ⟨⟨k100, k101, k102⟩, f100, f101, f102⟩ := FX.oct HF m2_))
            go_roundg k
            case measure => exact Nat.lt_succ_self k
            case rel =>
              have hw : wrap64 (i + 1) = i + 1 := by have := HI.out; have := LL.out.1; unfold wrap64; omega
              refine ⟨wrap64 (i + 1), g + 1, pv, rfl, by rw [u64w (by omega) (by have := GN.out; omega)]; push_cast; rfl, ⟨by rw [hw]; have := HI.out; omega⟩, ⟨by have h := GR.out; simpa using h⟩, GP, ⟨?_⟩, ⟨?_⟩⟩
              · exact (OS.box3 (OS.to HS) ((FX.to HF).all _ m2_).1 ((FX.to HF).all _ m2_).2 (by decide) (by decide)).sub (.cons_cons _ (List.nil_sublist _))
              · exact (((FX.to HF).sub (fs' := [(g13, pv.cells), (g10, z.cells)]) (.cons_cons _ (.cons _ (.cons_cons _ .slnil)))).swap.put3).sub (.cons_cons _ (List.nil_sublist _))
        | zero =>
          have q1 : (decide (i < (l.length : Int))) = false := decide_eq_false (by have := HI.out; omega)
          have n0 : 0 ≤ n ∧ n ≤ 16 := by have := HN.out; have := Z8.out; omega
          have t0 := FT.out.2.1
          obtain ⟨N1, h1⟩ : ∃ N1 : Int, n * n = N1 := ⟨_, rfl⟩
          have b1 : 0 ≤ N1 ∧ N1 ≤ 256 := by
            rw [← h1]
            exact ⟨Int.mul_nonneg n0.1 n0.1, Int.le_trans (Int.mul_le_mul n0.2 n0.2 n0.1 (by decide)) (by decide)⟩
          obtain ⟨N2, h2⟩ : ∃ N2 : Int, N1 * (t.length : Int) = N2 := ⟨_, rfl⟩
          have b2 : 0 ≤ N2 ∧ N2 ≤ 65536 := by
            rw [← h2]
            exact ⟨Int.mul_nonneg b1.1 (by omega), Int.le_trans (Int.mul_le_mul b1.2 (show (t.length : Int) ≤ 256 by omega) (by omega) (by decide)) (by decide)⟩
          have w1 : IntKind.u64.wrap (n * n) = N1 := by rw [h1]; exact u64w (by omega) (by omega)
          have w2 : IntKind.u64.wrap (t.length : Int) = (t.length : Int) := u64w (by omega) (by omega)
          have w3 : IntKind.u64.wrap (N1 * (t.length : Int)) = N2 := by rw [h2]; exact u64w (by omega) (by omega)
          obtain ⟨N3, h3⟩ : ∃ N3 : Int, N2 + 1 = N3 := ⟨_, rfl⟩
          have w4 : IntKind.u64.wrap (N2 + 1) = N3 := by rw [h3]; exact u64w (by omega) (by omega)
          have d1 : decide ((g : Int) ≤ N3) = true := decide_eq_true (by
            have hb := GG.out.bound
            have e : ((2 * Z.v.length * (2 * Z.v.length) * t.length : Nat) : Int) = N2 := by
              rw [← h2, ← h1, ← HN.out]; push_cast; rfl
            omega)
          clear h1 h2 h3 b1 b2 n0 t0
          go_wp2_with (first | (go_at_call 25; (with_reducible refine (awake13_o).mono ?_); rintro e wk ⟨rfl, hb⟩; have n_ := Aside0.mk ((OS.to HS).next hb); have f_ := Aside0.mk ((FX.to HF).next hb); clear HS HF; have HS := n_; have HF := f_; clear n_ f_ hb))
          go_ret
          exact ⟨rfl, OS.bel HS⟩
end Go.Proofs.Ytomgebmimgaojaa.QO
end
end
section
namespace Go.Proofs.Ytomgebmimgaojaa.Open
open Go.RowKit Go.ChangeShapes Go.WideShapes Go.Proofs.YtomgebmimgaojaaW.PrintWords Go.Proofs.YtomgebmimgaojaaW.PrintMore
def Opens {α : Type} (P : Program) (t : TypeId) (R : World → α → List Value → Prop) (Q : α → Prop) : Prop :=
  ∀ (H : Type) (enc : TypeId × Value → H) (w : World) (base : Nat) (spare : Nat → Bool) (held : Bool) (fuel : Nat) (cs : List Value) (x : DataW H × List MemPlace),
    DataW.trod enc P w base spare held fuel t cs = some x → (∀ n ∈ DataW.weights P t x.1, n ≤ 140737488351232) → ∃ a : α, R w a cs ∧ Q a
variable {P : Program} {t e : TypeId}
theorem opens_int {k : IntKind} (ht : P.underlying t = some (.int k)) : Opens P t (Kd.int k).K (fun n => (Lit.int k n).wf = true) := by
  intro H enc w base spare held fuel cs x h _
  obtain ⟨n, rfl, _, hw⟩ := DataW.trod_int ht h
  exact ⟨n, rfl, hw⟩
theorem opens_bool (ht : P.underlying t = some .bool) : Opens P t Kd.bool.K (fun _ => True) := by
  intro H enc w base spare held fuel cs x h _
  obtain ⟨n, rfl, _⟩ := DataW.trod_bool ht h
  exact ⟨n, rfl, trivial⟩
theorem weightsAll_mem {H : Type} {l : List (DataW H)} {d : DataW H} (hd : d ∈ l) {n : Nat} (hn : n ∈ DataW.weights P e d) : n ∈ DataW.weightsAll P e l := by
  induction l with
  | nil => cases hd
  | cons y r ih =>
    unfold DataW.weightsAll
    rcases List.mem_cons.1 hd with rfl | h
    · exact List.mem_append_left _ hn
    · exact List.mem_append_right _ (ih h)
theorem weightsEach_mem {H : Type} : ∀ {ts : List TypeId} {l : List (DataW H)} {i : Nat} {t : TypeId} {d : DataW H}, ts[i]? = some t → l[i]? = some d → ∀ {n : Nat}, n ∈ DataW.weights P t d → n ∈ DataW.weightsEach P ts l
  | [], _, i, _, _, h, _, _, _ => by simp at h
  | _ :: _, [], i, _, _, _, h, _, _ => by simp at h
  | t' :: ts, d' :: l, 0, t, d, h1, h2, n, hn => by
    simp at h1 h2; subst h1; subst h2
    unfold DataW.weightsEach; exact List.mem_append_left _ hn
  | t' :: ts, d' :: l, i + 1, t, d, h1, h2, n, hn => by
    simp at h1 h2
    unfold DataW.weightsEach; exact List.mem_append_right _ (weightsEach_mem h1 h2 hn)
theorem all_some {α β : Type} {Q : Nat → α → β → Prop} : ∀ (xs : List β) (_ : ∀ i y, xs[i]? = some y → ∃ a, Q i a y), ∃ l : List α, l.length = xs.length ∧ ∀ i a, l[i]? = some a → ∃ y, xs[i]? = some y ∧ Q i a y
  | [], _ => ⟨[], rfl, fun i a h => by simp at h⟩
  | y :: r, h => by
    obtain ⟨a0, h0⟩ := h 0 y rfl
    obtain ⟨l, hl, hr⟩ := all_some (Q := fun i a y => Q (i + 1) a y) r (fun i y hy => h (i + 1) y (by simpa using hy))
    refine ⟨a0 :: l, by simp [hl], fun i a hi => ?_⟩
    cases i with
    | zero => simp at hi; subst hi; exact ⟨y, rfl, h0⟩
    | succ i => obtain ⟨z, hz, hq⟩ := hr i a (by simpa using hi); exact ⟨z, by simpa using hz, hq⟩
theorem opens_slice {α : Type} {d : Kd α} {Q : α → Prop} {B : Nat} (ht : P.underlying t = some (.slice e)) (hs : P.cellsOf e = d.sz) (hB : P.bytesOf e = B) (ho : Opens P e d.K Q) :
    Opens P t (Kd.slice e d).K (fun l => l.length * B ≤ 140737488351232 ∧ l.length ≤ maxLen ∧ ∀ x ∈ l, Q x) := by
  intro H enc w base spare held fuel cs x h hw
  rcases DataW.trod_slice ht h with ⟨rfl, _⟩ | ⟨a, len, cap, elems, rest, n, _, rfl, rfl, hb, hl, hc, hlen, hel, _, _⟩
  · exact ⟨[], ⟨none, 0, rfl, Nat.le_refl _, ⟨rfl, by simp, fun h => absurd h (by simp)⟩⟩, by simp, by simp, fun x hx => by cases hx⟩
  · have hwt : ∀ m ∈ DataW.weights P t (.slice (elems.map (·.1)) (rest.map (·.1))), m ≤ 140737488351232 := hw
    have each : ∀ i y, elems[i]? = some y → ∃ a' : α, (∃ c : List Value, c.length = d.sz ∧ d.K w a' c ∧ ∀ j u, c[j]? = some u → w.cell? (a.add (i * d.sz + j)) = some u) ∧ Q a' := by
      intro i y hy
      have hi : i < len := by rw [← hlen]; exact (List.getElem?_eq_some_iff.1 hy).1
      have h1 := hel i hi
      rw [hy] at h1
      obtain ⟨c, hc1, hc2⟩ := Option.bind_eq_some_iff.1 h1
      obtain ⟨a', hk, hq⟩ := ho H enc w base spare held n c y hc2 (fun m hm => hwt m (by
        simp only [DataW.weights, ht]
        exact List.mem_cons_of_mem _ (List.mem_append_left _ (weightsAll_mem (List.mem_map_of_mem (List.mem_of_getElem? hy)) hm))))
      refine ⟨a', ⟨c, d.K_len hk, hk, fun j u hj => ?_⟩, hq⟩
      unfold World.cells? at hc1
      split at hc1
      · have hlc := mapM_some_length hc1
        have hj' : j < P.cellsOf e := by have := (List.getElem?_eq_some_iff.1 hj).1; rw [List.length_range] at hlc; omega
        have := mapM_some_get hc1 j j (by simp [hj'])
        rw [hj] at this
        rw [← hs, ← Addr.add_add]
        exact this
      · cases hc1
    obtain ⟨l, hll, hlr⟩ := all_some elems each
    refine ⟨l, ⟨some a, cap, ?_, by omega, ⟨rfl, ?_, fun _ => ⟨a, rfl, fun j p hj => ?_⟩⟩⟩, ?_, by omega, fun x hx => ?_⟩
    · rw [hll, hlen]
    · unfold maxLen at hc; omega
    · obtain ⟨_, _, ⟨c, h1, h2, h3⟩, _⟩ := hlr j p hj
      exact ⟨c, h1, h2, h3⟩
    · have := hwt (((elems.map (·.1)).length + (rest.map (·.1)).length) * P.bytesOf e) (by simp only [DataW.weights, ht]; exact List.mem_cons_self ..)
      rw [hB] at this
      simp only [List.length_map] at this
      rw [hll]
      exact Nat.le_trans (Nat.mul_le_mul_right _ (by omega)) this
    · obtain ⟨i, hi⟩ := List.getElem?_of_mem hx
      obtain ⟨_, _, _, hq⟩ := hlr i x hi
      exact hq
theorem open_field {H : Type} {enc : TypeId × Value → H} {w : World} {base : Nat} {spare : Nat → Bool} {held : Bool} {fs : Array Field} {xs : List (DataW H × List MemPlace)} {n : Nat} {cs : List Value}
    (ht : P.underlying t = some (.struct fs)) (hw : ∀ m ∈ DataW.weights P t (.agg (xs.map (·.1))), m ≤ 140737488351232) (hx : xs.length = fs.size)
    (hf : ∀ (i : Nat) (f : Field), fs[i]? = some f → DataW.trod enc P w base spare held n f.type ((cs.drop f.offset).take (P.cellsOf f.type)) = xs[i]?)
    (i : Nat) (f : Field) (hi : fs[i]? = some f) (o s : Nat) (eo : f.offset = o) (es : P.cellsOf f.type = s) {α : Type} {R : World → α → List Value → Prop} {Q : α → Prop} (ho : Opens P f.type R Q) : ∃ a : α, R w a ((cs.drop o).take s) ∧ Q a := by
  have h1 := hf i f hi
  rw [eo, es] at h1
  have hlt : i < xs.length := by rw [hx]; exact (Array.getElem?_eq_some_iff.1 hi).1
  rw [List.getElem?_eq_getElem hlt] at h1
  refine ho H enc w base spare held n _ _ h1 (fun m hm => hw m ?_)
  simp only [DataW.weights, ht]
  refine weightsEach_mem (i := i) (t := f.type) (d := xs[i].1) ?_ ?_ hm
  · simp only [List.getElem?_map, Array.getElem?_toList, hi, Option.map_some]
  · simp only [List.getElem?_map, List.getElem?_eq_getElem hlt, Option.map_some]
theorem arg_slice {H : Type} {enc : TypeId × Value → H} {w : World} {base : Nat} {spare : Nat → Bool} {held : Bool} {v : Value} {dd : DataW H} {ps : List MemPlace} {α : Type} {d : Kd α} {Q : List α → Prop}
    (ho : Opens P t (Kd.slice e d).K Q) (h : DataW.Trod enc P w base spare held t v dd ps) (hw : ∀ m ∈ DataW.weights P t dd, m ≤ 140737488351232) (hv : ∃ a n c, v = .slice a n c) :
    ∃ A c l, v = .slice A l.length c ∧ l.length ≤ c ∧ Kd.C d w A l.length l ∧ Q l := by
  obtain ⟨fuel, hf⟩ := h
  obtain ⟨l, ⟨A, c, hc, hl, hr⟩, hq⟩ := ho H enc w base spare held fuel _ _ hf hw
  obtain ⟨a, n, c', rfl⟩ := hv
  simp [Value.cells] at hc
  obtain ⟨rfl, rfl, rfl⟩ := hc
  exact ⟨_, _, l, rfl, hl, hr, hq⟩
theorem weights_at {H : Type} {ts : List TypeId} {ds : List (DataW H)} (hsz : (DataW.weightsEach P ts ds).all (· ≤ reachBytes) = true) {j : Nat} {d : DataW H} (h1 : ts[j]? = some t) (h2 : ds[j]? = some d) : ∀ m ∈ DataW.weights P t d, m ≤ 140737488351232 := by
  intro m hm
  exact of_decide_eq_true (List.all_eq_true.1 hsz m (weightsEach_mem h1 h2 hm))
end Go.Proofs.Ytomgebmimgaojaa.Open
end
