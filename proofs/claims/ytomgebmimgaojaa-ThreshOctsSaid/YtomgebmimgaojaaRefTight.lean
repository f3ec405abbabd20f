/- The document's own closing, ways doubled in length, comes to what the program's closing comes to. -/
import Derived.Test.YtomgebmimgaojaaQOx1023
import Derived.Test.YtomgebmimgaojaaCloseW
noncomputable section
namespace Go.Proofs.Ytomgebmimgaojaa.Pure
open Go.RowKit Go.Proofs.Ytomgebmimgaojaa.QO Go.Proofs.YtomgebmimgaojaaW.PrintWords Go.Proofs.YtomgebmimgaojaaW.PrintLast Go.Proofs.YtomgebmimgaojaaW.PrintMore
open Go.Proofs.Ytomgebmimgaojaa.OctMath (over overs plus Bd Fin' Top62 dbl dbls least IsClosure)

/-- with enough rounds the answer is v -/
def Ev {α : Type} (g : Nat → Option α) (v : α) : Prop := ∃ K, ∀ k, K ≤ k → g k = some v
theorem Ev.step {α : Type} {g h : Nat → Option α} {v : α} (e : ∀ k, g (k + 1) = h k) (hh : Ev h v) : Ev g v := by
  obtain ⟨K, hK⟩ := hh
  refine ⟨K + 1, fun k hk => ?_⟩
  obtain ⟨k, rfl⟩ : ∃ j, k = j + 1 := ⟨k - 1, by omega⟩
  rw [e]; exact hK k (by omega)
theorem Ev.of {α : Type} (v : α) : Ev (fun _ => some v) v := ⟨0, fun _ _ => rfl⟩
theorem Ev.bind {α β : Type} {f : Nat → Option α} {g : Nat → α → Option β} {a : α} {v : β} (hf : Ev f a) (hg : Ev (fun k => g k a) v) : Ev (fun k => (f k).bind (g k)) v := by
  obtain ⟨K, hK⟩ := hf
  obtain ⟨L, hL⟩ := hg
  refine ⟨K + L, fun k hk => ?_⟩
  show (f k).bind (g k) = some v
  rw [hK k (by omega)]; exact hL k (by omega)
theorem Ev.congr {α : Type} {g h : Nat → Option α} {v : α} (e : ∀ k, g k = h k) (hh : Ev h v) : Ev g v := by
  obtain ⟨K, hK⟩ := hh
  exact ⟨K, fun k hk => (e k).trans (hK k hk)⟩

theorem bsome {α β : Type} (a : α) (f : α → Option β) : (some a).bind f = f a := by rw [Option.bind_some]
theorem idx {n i j : Nat} (hn : n ≤ 16) (hi : i ≤ 16) (hj : j ≤ 16) : wrap64 (wrap64 ((i : Int) * (n : Int)) + (j : Int)) = ((i * n + j : Nat) : Int) := by
  have m : i * n ≤ 16 * 16 := Nat.mul_le_mul hi hn
  have e : (i : Int) * (n : Int) = ((i * n : Nat) : Int) := by push_cast; rfl
  rw [e]
  have h1 : wrap64 ((i * n : Nat) : Int) = ((i * n : Nat) : Int) := by unfold wrap64; omega
  rw [h1]; unfold wrap64; omega
theorem sq {n : Nat} (hn : n ≤ 16) : wrap64 ((n : Int) * (n : Int)) = ((n * n : Nat) : Int) := by
  have m : n * n ≤ 16 * 16 := Nat.mul_le_mul hn hn
  have e : (n : Int) * (n : Int) = ((n * n : Nat) : Int) := by push_cast; rfl
  rw [e]; unfold wrap64; omega
theorem suc {i : Nat} (hi : i ≤ 100) : wrap64 ((i : Int) + 1) = ((i + 1 : Nat) : Int) := by unfold wrap64; omega
theorem plus_f {B a b : Int} (hB : B ≤ 1152921504606846976) (ha : Fin' B a) (hb : Fin' B b) : gimbalref11_plus.f a b = some (plus a b) := by
  unfold gimbalref11_plus.f plus
  by_cases h1 : a = 4611686018427387904
  · rw [if_pos h1, if_pos (.inl h1)]
  · rw [if_neg h1]
    by_cases h2 : b = 4611686018427387904
    · rw [if_pos h2, if_pos (.inr h2)]
    · rw [if_neg h2, if_neg (by rintro (h | h) <;> contradiction)]
      unfold Fin' at ha hb
      congr 1; unfold wrap64; omega
theorem in_row {n i j : Nat} {d : Nat → Nat → Int} (hi : i < n) (hj : j < n) : 0 ≤ ((i * n + j : Nat) : Int) ∧ ((i * n + j : Nat) : Int) < ((lst n d).length : Int) := by
  have := ij_lt hi hj
  rw [lst_length]; omega

/-- over the middle nodes -/
theorem l3_ev {n i j : Nat} {A b : Nat → Nat → Int} {B long : Int} {v : List Int × Bool} (hn : n ≤ 16) (hi : i < n) (hj : j < n) (hB : B ≤ 1152921504606846976) (hA : Bd n B A)
    (hv : Ev (fun k => gimbalref11_Tight.l2 k (n : Int) (lst n A) long ((lst n b).set (i * n + j) (dbl n A i j)) (i : Int) ((j + 1 : Nat) : Int)) v) :
    ∀ d kk, kk + d = n → Ev (fun k => gimbalref11_Tight.l3 k (n : Int) (lst n A) long (lst n b) (i : Int) (j : Int) (least A i j kk) (kk : Int)) v := by
  intro d
  induction d with
  | zero =>
    intro kk h
    obtain rfl : kk = n := by omega
    refine Ev.step (fun k => by rw [gimbalref11_Tight.l3]) ?_
    have r := in_row (d := b) hi hj
    simp only [Int.lt_irrefl, if_false, idx hn (by omega : i ≤ 16) (by omega : j ≤ 16), r.1, r.2, if_true, suc (show j ≤ 100 by omega), Int.toNat_natCast]
    exact hv
  | succ d ih =>
    intro kk h
    refine Ev.step (fun k => by rw [gimbalref11_Tight.l3]) ?_
    have r1 := in_row (d := A) hi (show kk < n by omega)
    have r2 := in_row (d := A) (show kk < n by omega) hj
    have hlt : (kk : Int) < (n : Int) := by omega
    simp only [hlt, if_true, idx hn (by omega : i ≤ 16) (by omega : kk ≤ 16), idx hn (by omega : kk ≤ 16) (by omega : j ≤ 16), r1.1, r1.2, r2.1, r2.2, lst_rd (d := A) hi (show kk < n by omega) rfl, lst_rd (d := A) (show kk < n by omega) hj rfl,
      plus_f hB (hA i kk hi (by omega)) (hA kk j (by omega) hj), bsome, suc (show kk ≤ 100 by omega)]
    have := ih (kk + 1) (by omega)
    have e : least A i j (kk + 1) = mn (least A i j kk) (plus (A i kk) (A kk j)) := rfl
    rw [e] at this
    exact this
/-- over a row -/
theorem l2_ev {n i : Nat} {A : Nat → Nat → Int} {B long : Int} {v : List Int × Bool} (hn : n ≤ 16) (hi : i < n) (hB : B ≤ 1152921504606846976) (hA : Bd n B A)
    (hbad : dbl n A i i < 0 → v = ([], false)) (hv : 0 ≤ dbl n A i i → Ev (fun k => gimbalref11_Tight.l1 k (n : Int) (lst n A) long (lst n (upTo (dbl n A) (i + 1) 0)) ((i + 1 : Nat) : Int)) v) :
    ∀ d j, j + d = n → Ev (fun k => gimbalref11_Tight.l2 k (n : Int) (lst n A) long (lst n (upTo (dbl n A) i j)) (i : Int) (j : Int)) v := by
  intro d
  induction d with
  | zero =>
    intro j h
    obtain rfl : j = n := by omega
    refine Ev.step (fun k => by rw [gimbalref11_Tight.l2]) ?_
    have r := in_row (d := upTo (dbl j A) i j) hi hi
    have e : upTo (dbl j A) i j i i = dbl j A i i := by unfold upTo; rw [if_pos (.inr ⟨rfl, hi⟩)]
    simp only [Int.lt_irrefl, if_false, idx hn (by omega : i ≤ 16) (by omega : i ≤ 16), r.1, r.2, if_true, lst_rd (d := upTo (dbl j A) i j) hi hi rfl, e, suc (show i ≤ 100 by omega)]
    by_cases hneg : dbl j A i i < 0
    · rw [hbad hneg]; exact Ev.congr (fun k => if_pos hneg) (Ev.of _)
    · have := hv (by omega)
      rw [lst_congr (fun a b _ hb => (upTo_row (c := dbl j A) (i := i) a b hb).symm)] at this
      exact Ev.congr (fun k => if_neg hneg) this
  | succ d ih =>
    intro j h
    refine Ev.step (fun k => by rw [gimbalref11_Tight.l2]) ?_
    have hj : j < n := by omega
    have r := in_row (d := A) hi hj
    have hlt : (j : Int) < (n : Int) := by omega
    simp only [hlt, if_true, idx hn (by omega : i ≤ 16) (by omega : j ≤ 16), r.1, r.2, lst_rd (d := A) hi hj rfl]
    have h1 := ih (j + 1) (by omega)
    have h2 := lst_set (d := upTo (dbl n A) i j) (v := dbl n A i j) hi hj (q := ((i * n + j : Nat) : Int)) rfl
    rw [Int.toNat_natCast, lst_congr (fun a b _ _ => (upTo_step (c := dbl n A) (i := i) (j := j) a b).symm)] at h2
    rw [← h2] at h1
    exact l3_ev hn hi hj hB hA h1 n 0 (by omega)
/-- over all rows -/
theorem l1_ev {n : Nat} {A : Nat → Nat → Int} {B long : Int} {v : List Int × Bool} (hn : n ≤ 16) (hB : B ≤ 1152921504606846976) (hA : Bd n B A)
    (hbad : (∃ i, i < n ∧ dbl n A i i < 0) → v = ([], false)) (hv : (∀ i, i < n → 0 ≤ dbl n A i i) → Ev (fun k => gimbalref11_Tight.l0 k (n : Int) (lst n (dbl n A)) (wrap64 (2 * long))) v) :
    ∀ d i, i + d = n → (∀ a, a < i → 0 ≤ dbl n A a a) → Ev (fun k => gimbalref11_Tight.l1 k (n : Int) (lst n A) long (lst n (upTo (dbl n A) i 0)) (i : Int)) v := by
  intro d
  induction d with
  | zero =>
    intro i h hp
    obtain rfl : i = n := by omega
    refine Ev.step (fun k => by rw [gimbalref11_Tight.l1]) ?_
    simp only [Int.lt_irrefl, if_false]
    rw [lst_congr (fun a b ha _ => upTo_all a b ha)]
    exact hv hp
  | succ d ih =>
    intro i h hp
    refine Ev.step (fun k => by rw [gimbalref11_Tight.l1]) ?_
    have hlt : (i : Int) < (n : Int) := by omega
    simp only [hlt, if_true]
    refine l2_ev hn (by omega) hB hA (fun hb => hbad ⟨i, by omega, hb⟩) (fun hg => ih (i + 1) (by omega) (fun a ha => ?_)) n 0 (by omega)
    by_cases e : a = i
    · rw [e]; exact hg
    · exact hp a (by omega)
theorem half_f {x : Int} (h : Fin' 1152921504606846976 x) (hx : x ≠ 4611686018427387904) : gimbalref11_halved.f x = some (half x) := by
  unfold gimbalref11_halved.f half
  unfold Fin' at h
  rw [if_neg hx]
  by_cases h0 : x ≥ 0
  · rw [if_pos h0, Int.tdiv_eq_ediv_of_nonneg h0]; congr 1; unfold wrap64; omega
  · rw [if_neg h0]
    have e : wrap64 (1 - x) = 1 - x := by unfold wrap64; omega
    rw [e, Int.tdiv_eq_ediv_of_nonneg (by omega)]; congr 1; unfold wrap64; omega
theorem bar_f {i n : Nat} (hn : n ≤ 16) (hi : i < n) : gimbalref11_bar.f (i : Int) = some ((nb i : Nat) : Int) := by
  unfold gimbalref11_bar.f; rw [if_pos (by omega), nbar_nb]
theorem plus_fin {a b : Int} (ha : Fin' 288230376151711744 a) (hb : Fin' 288230376151711744 b) : Fin' 1152921504606846976 (plus a b) := by
  unfold plus Fin' at *; split <;> omega
theorem strg_inf {T : Nat → Nat → Int} {i j : Nat} (hx : Fin' 288230376151711744 (T i j)) (hs : plus (T i (nb i)) (T (nb j) j) = 4611686018427387904) : strg T i j = T i j := by
  unfold strg half mn; rw [if_pos hs, hs]
  unfold Fin' at hx; rw [if_neg (by omega)]
/-- the last loops: by way of the scalars' own bounds -/
theorem l7_ev {n i : Nat} {T : Nat → Nat → Int} {v : List Int × Bool} (hn : n ≤ 16) (he : ∀ a, a < n → nb a < n) (hi : i < n) (hT : Bd n 288230376151711744 T)
    (hv : Ev (fun k => gimbalref11_Tight.l6 k (n : Int) (lst n T) (lst n (upTo (strg T) (i + 1) 0)) ((i + 1 : Nat) : Int)) v) :
    ∀ d j, j + d = n → Ev (fun k => gimbalref11_Tight.l7 k (n : Int) (lst n T) (lst n (upTo (strg T) i j)) (i : Int) (j : Int)) v := by
  intro d
  induction d with
  | zero =>
    intro j h
    obtain rfl : j = n := by omega
    refine Ev.step (fun k => by rw [gimbalref11_Tight.l7]) ?_
    simp only [Int.lt_irrefl, if_false, suc (show i ≤ 100 by omega)]
    rw [lst_congr (fun a b _ hb => (upTo_row (c := strg T) (i := i) a b hb).symm)] at hv
    exact hv
  | succ d ih =>
    intro j h
    refine Ev.step (fun k => by rw [gimbalref11_Tight.l7]) ?_
    have hj : j < n := by omega
    have hlt : (j : Int) < (n : Int) := by omega
    have r0 := in_row (d := T) hi hj
    have r1 := in_row (d := upTo (strg T) i j) hi hj
    have r2 := in_row (d := T) hi (he i hi)
    have r3 := in_row (d := T) (he j hj) hj
    have l1 := he i hi; have l2 := he j hj
    have hp := plus_f (B := 1152921504606846976) (by decide) (OctMath.fin_mono (hT i (nb i) hi l1) (by decide)) (OctMath.fin_mono (hT (nb j) j l2 hj) (by decide))
    simp only [hlt, if_true, idx hn (by omega : i ≤ 16) (by omega : j ≤ 16), r0.1, r0.2, r1.2, lst_rd (d := T) hi hj rfl, bsome, bar_f hn hi, bar_f hn hj, idx hn (by omega : i ≤ 16) (by omega : nb i ≤ 16), r2.1, r2.2,
      idx hn (by omega : nb j ≤ 16) (by omega : j ≤ 16), r3.1, r3.2, lst_rd (d := T) hi l1 rfl, lst_rd (d := T) l2 hj rfl, hp, suc (show j ≤ 100 by omega), Int.toNat_natCast]
    have h1 := ih (j + 1) (by omega)
    have s1 : ∀ w : Int, (lst n (upTo (strg T) i j)).set (i * n + j) w = lst n (fun a b => if a = i ∧ b = j then w else upTo (strg T) i j a b) := fun w => by
      have := lst_set (d := upTo (strg T) i j) (v := w) hi hj (q := ((i * n + j : Nat) : Int)) rfl
      rwa [Int.toNat_natCast] at this
    have hx := hT i j hi hj
    clear h
    have hq1 := hT i (nb i) hi l1; have hq2 := hT (nb j) j l2 hj
    by_cases hs : plus (T i (nb i)) (T (nb j) j) = 4611686018427387904
    · refine Ev.congr (fun k => if_pos hs) ?_
      have e : strg T i j = T i j := strg_inf hx hs
      rw [s1, ← e, lst_congr (fun a b _ _ => (upTo_step (c := strg T) (i := i) (j := j) a b).symm)]
      exact h1
    · refine Ev.congr (fun k => if_neg hs) ?_
      have hb := plus_fin hq1 hq2
      rw [half_f hb hs]
      simp only [bsome]
      rw [s1, lst_rd hi hj rfl, if_pos ⟨rfl, rfl⟩]
      have s2 := lst_set (d := fun a b => if a = i ∧ b = j then T i j else upTo (strg T) i j a b) (v := mn (T i j) (half (plus (T i (nb i)) (T (nb j) j)))) hi hj (q := ((i * n + j : Nat) : Int)) rfl
      rw [Int.toNat_natCast] at s2
      have s3 : lst n (fun a b => if a = i ∧ b = j then mn (T i j) (half (plus (T i (nb i)) (T (nb j) j))) else if a = i ∧ b = j then T i j else upTo (strg T) i j a b) = lst n (upTo (strg T) i (j + 1)) := lst_congr (fun a b _ _ => by
        rw [upTo_step]
        by_cases h : a = i ∧ b = j
        · rw [if_pos h, if_pos h]; rfl
        · rw [if_neg h, if_neg h, if_neg h])
      rw [s2, s3]
      exact h1
theorem l6_ev {n : Nat} {T : Nat → Nat → Int} (hn : n ≤ 16) (he : ∀ a, a < n → nb a < n) (hT : Bd n 288230376151711744 T) :
    ∀ d i, i + d = n → Ev (fun k => gimbalref11_Tight.l6 k (n : Int) (lst n T) (lst n (upTo (strg T) i 0)) (i : Int)) (lst n (strg T), true) := by
  intro d
  induction d with
  | zero =>
    intro i h
    obtain rfl : i = n := by omega
    refine Ev.step (fun k => by rw [gimbalref11_Tight.l6]) ?_
    simp only [Int.lt_irrefl, if_false]
    rw [lst_congr (fun a b ha _ => upTo_all a b ha)]
    exact Ev.of _
  | succ d ih =>
    intro i h
    refine Ev.step (fun k => by rw [gimbalref11_Tight.l6]) ?_
    have hlt : (i : Int) < (n : Int) := by omega
    simp only [hlt, if_true]
    exact l7_ev hn he (by omega) hT (ih (i + 1) (by omega)) n 0 (by omega)
/-- is there no value? -/
theorem l5_ev {n : Nat} {T : Nat → Nat → Int} {v : List Int × Bool} (hn : n ≤ 16) (he : ∀ a, a < n → nb a < n) (hT : Bd n 288230376151711744 T)
    (hbad : ¬ StrOk n T → v = ([], false)) (hv : StrOk n T → v = (lst n (strg T), true)) :
    ∀ d i, i + d = n → (∀ a, a < i → 0 ≤ plus (T a (nb a)) (T (nb a) a)) → Ev (fun k => gimbalref11_Tight.l5 k (n : Int) (lst n T) (i : Int)) v := by
  intro d
  induction d with
  | zero =>
    intro i h hp
    obtain rfl : i = n := by omega
    refine Ev.step (fun k => by rw [gimbalref11_Tight.l5]) ?_
    have m : i * i ≤ 16 * 16 := Nat.mul_le_mul hn hn
    have c1 : (0 : Int) ≤ ((i * i : Nat) : Int) := by omega
    have c2 : i * i ≤ 35184372088832 := by omega
    simp only [Int.lt_irrefl, if_false, sq hn, c1, c2, if_true, Int.toNat_natCast]
    rw [lst_zero i (strg T), hv hp]
    exact l6_ev hn he hT i 0 (by omega)
  | succ d ih =>
    intro i h hp
    refine Ev.step (fun k => by rw [gimbalref11_Tight.l5]) ?_
    have hi : i < n := by omega
    have hlt : (i : Int) < (n : Int) := by omega
    have l1 := he i hi
    have r2 := in_row (d := T) hi l1
    have r3 := in_row (d := T) l1 hi
    have hpl := plus_f (B := 1152921504606846976) (by decide) (OctMath.fin_mono (hT i (nb i) hi l1) (by decide)) (OctMath.fin_mono (hT (nb i) i l1 hi) (by decide))
    simp only [hlt, if_true, bar_f hn hi, bsome, idx hn (by omega : i ≤ 16) (by omega : nb i ≤ 16), r2.1, r2.2, idx hn (by omega : nb i ≤ 16) (by omega : i ≤ 16), r3.1, r3.2, lst_rd (d := T) hi l1 rfl, lst_rd (d := T) l1 hi rfl, hpl, suc (show i ≤ 100 by omega)]
    by_cases hs : plus (T i (nb i)) (T (nb i) i) < 0
    · rw [hbad (fun h => by have := h i hi; omega)]
      exact Ev.congr (fun k => if_pos hs) (Ev.of _)
    · refine Ev.congr (fun k => if_neg hs) (ih (i + 1) (by omega) (fun a ha => ?_))
      by_cases e : a = i
      · subst e; omega
      · exact hp a (by omega)
theorem even_w {D : Nat → Nat → Int} {i : Nat} (hb : Fin' 72057594037927936 (D i (nb i))) (hs : D i (nb i) ≠ 4611686018427387904) : wrap64 (2 * half (D i (nb i))) = tig D i (nb i) := by
  have e : tig D i (nb i) = 2 * (D i (nb i) / 2) := by unfold tig; rw [if_pos rfl, if_neg hs]
  have e1 : half (D i (nb i)) = D i (nb i) / 2 := by unfold half; rw [if_neg hs]
  rw [e, e1]
  unfold Fin' at hb
  generalize D i (nb i) = x at *
  unfold wrap64; omega
/-- the scalars' own bounds are made even -/
theorem l4_ev {n : Nat} {D : Nat → Nat → Int} {v : List Int × Bool} (hn : n ≤ 16) (he : ∀ a, a < n → nb a < n) (hD : Bd n 72057594037927936 D)
    (hbad : ¬ StrOk n (tig D) → v = ([], false)) (hv : StrOk n (tig D) → v = (lst n (strg (tig D)), true)) :
    ∀ d i, i + d = n → Ev (fun k => gimbalref11_Tight.l4 k (n : Int) (lst n (tigTo D i)) (i : Int)) v := by
  intro d
  induction d with
  | zero =>
    intro i h
    obtain rfl : i = n := by omega
    refine Ev.step (fun k => by rw [gimbalref11_Tight.l4]) ?_
    simp only [Int.lt_irrefl, if_false]
    rw [lst_congr (fun a b ha _ => tigTo_all a b ha)]
    have hT : Bd i 288230376151711744 (tig D) := fun a b ha hb => OctMath.fin_mono (tig_bd hD (by decide) a b ha hb) (by decide)
    exact l5_ev hn he hT hbad hv i 0 (by omega) (fun a ha => absurd ha (by omega))
  | succ d ih =>
    intro i h
    refine Ev.step (fun k => by rw [gimbalref11_Tight.l4]) ?_
    have hi : i < n := by omega
    have hlt : (i : Int) < (n : Int) := by omega
    have l1 := he i hi
    have r2 := in_row (d := tigTo D i) hi l1
    have ed : tigTo D i i (nb i) = D i (nb i) := by unfold tigTo; rw [if_neg (by omega)]
    simp only [hlt, if_true, bar_f hn hi, bsome, idx hn (by omega : i ≤ 16) (by omega : nb i ≤ 16), r2.1, r2.2, lst_rd (d := tigTo D i) hi l1 rfl, ed, suc (show i ≤ 100 by omega), Int.toNat_natCast]
    have h1 := ih (i + 1) (by omega)
    by_cases hs : D i (nb i) = 4611686018427387904
    · refine Ev.congr (fun k => if_pos hs) ?_
      rw [lst_congr (e := tigTo D (i + 1)) (fun a b _ _ => by
        rw [tigTo_step a b]
        by_cases h : a = i ∧ b = nb i
        · rw [if_pos h, h.1, h.2, ed]; unfold tig; rw [if_pos rfl, if_pos hs, hs]
        · rw [if_neg h])]
      exact h1
    · refine Ev.congr (fun k => if_neg hs) ?_
      have hb := hD i (nb i) hi l1
      rw [half_f (OctMath.fin_mono hb (by decide)) hs]
      simp only [bsome]
      have e2 := even_w hb hs
      have s2 := lst_set (d := tigTo D i) (v := tig D i (nb i)) hi l1 (q := ((i * n + nb i : Nat) : Int)) rfl
      rw [Int.toNat_natCast, lst_congr (fun a b _ _ => (tigTo_step (d := D) (i := i) a b).symm)] at s2
      rw [e2, s2]
      exact h1

/-- what the document's Tight answers -/
def tightR (n : Nat) (M : Nat → Nat → Int) : List Int × Bool := if closeB n M = true then (lst n (strg (tig (overs M n))), true) else ([], false)
theorem l0_ev {n : Nat} {M : Nat → Nat → Int} (hn : n ≤ 16) (he : ∀ a, a < n → nb a < n) (hM : Bd n 1099511627776 M) (hd : ∀ i, i < n → M i i = 0) :
    ∀ d t, t + d = 6 → (∀ s i, s ≤ t → i < n → 0 ≤ dbls n M s i i) → Ev (fun k => gimbalref11_Tight.l0 k (n : Int) (lst n (dbls n M t)) (2 ^ t)) (tightR n M) := by
  have top : Top62 n M := OctMath.fin_of_low hM (by decide)
  have w2 : wrap64 (2 * (n : Int)) = 2 * (n : Int) := by unfold wrap64; omega
  have bd : ∀ t, t ≤ 6 → Bd n 70368744177664 (dbls n M t) := fun t ht i j hi hj => by
    have hp : (2 : Int) ^ t ≤ 2 ^ 6 := by
      have := Nat.pow_le_pow_right (n := 2) (by decide) ht
      exact_mod_cast this
    have h4 : (1099511627776 : Int) * 2 ^ t ≤ 1099511627776 * 2 ^ 6 := Int.mul_le_mul_of_nonneg_left hp (by decide)
    exact OctMath.fin_mono (OctMath.bd_dbls hM (by decide) t (by omega) i j hi hj) (by omega)
  have pw : (2 : Int) ^ n ≤ 2 ^ 16 := by
    have := Nat.pow_le_pow_right (n := 2) (by decide) hn
    exact_mod_cast this
  have h16 : (1099511627776 : Int) * 2 ^ n ≤ 1099511627776 * 2 ^ 16 := Int.mul_le_mul_of_nonneg_left pw (by decide)
  have floyd : FloydOk n M → IsClosure n M true (overs M n) ∧ Top62 n (overs M n) := fun h =>
    ⟨OctMath.overs_closure hM (by decide) (by omega) hd (fun k i hk hi => h k i hk hi), OctMath.fin_of_low (overs_bd hM hn) (by decide)⟩
  have nofloyd : ¬ FloydOk n M → IsClosure n M false (overs M n) := fun h => by
    obtain ⟨t, h⟩ := Classical.not_forall.1 h
    obtain ⟨i, h⟩ := Classical.not_forall.1 h
    have h1 : t ≤ n ∧ i < n ∧ overs M t i i < 0 := by
      refine ⟨?_, ?_, ?_⟩
      · exact Classical.byContradiction fun e => h (fun a => absurd a e)
      · exact Classical.byContradiction fun e => h (fun _ a => absurd a e)
      · exact Classical.byContradiction fun e => h (fun _ _ => by omega)
    exact OctMath.overs_none top h1.1 h1.2.1 h1.2.2
  have same : ∀ {b : Bool} {e : Nat → Nat → Int}, IsClosure n M b e → (b = true → Top62 n e) → (b = true ↔ FloydOk n M) ∧ (b = true → ∀ i j, i < n → j < n → e i j = overs M n i j) := fun {b e} hc ht => by
    by_cases hf : FloydOk n M
    · have := OctMath.closure_unique hc (floyd hf).1 ht (fun _ => (floyd hf).2)
      exact ⟨⟨fun _ => hf, fun _ => this.1⟩, this.2⟩
    · have := OctMath.closure_unique hc (nofloyd hf) ht (fun h => by cases h)
      exact ⟨⟨(fun h => by rw [this.1] at h; cases h), fun h => absurd h hf⟩, this.2⟩
  have last : ∀ t, t ≤ 6 → ¬ ((2 : Int) ^ t ≤ 2 * (n : Int)) → (∀ s i, s ≤ t → i < n → 0 ≤ dbls n M s i i) → Ev (fun k => gimbalref11_Tight.l4 k (n : Int) (lst n (dbls n M t)) 0) (tightR n M) := fun t ht h2 hp => by
    have h3 : n + 1 ≤ 2 ^ t := by
      have : (n : Int) + 1 ≤ 2 ^ t := by omega
      exact_mod_cast this
    have h5 : (2 : Int) ^ t ≤ 2 ^ 6 := by
      have := Nat.pow_le_pow_right (n := 2) (by decide) ht
      exact_mod_cast this
    have h4 : (1099511627776 : Int) * 2 ^ t ≤ 1099511627776 * 2 ^ 6 := Int.mul_le_mul_of_nonneg_left h5 (by decide)
    have hcl := OctMath.dbls_closure (t := t) hM (by decide) hd (by omega) h3 (fun i hi => hp t i (Nat.le_refl _) hi)
    have hs := same hcl (fun _ => OctMath.fin_of_low (bd t ht) (by decide))
    have hok := hs.1.1 rfl
    rw [lst_congr (e := tigTo (overs M n) 0) (fun a b ha hb => by rw [hs.2 rfl a b ha hb, tigTo_zero])]
    refine l4_ev hn he (overs_bd hM hn) (fun hb => ?_) (fun hg => ?_) n 0 (by omega)
    · unfold tightR; rw [closeB_false.2 (fun h => hb h.2)]; rfl
    · unfold tightR; rw [if_pos (closeB_true.2 ⟨hok, hg⟩)]
  intro d
  induction d with
  | zero =>
    intro t h hp
    obtain rfl : t = 6 := by omega
    refine Ev.step (fun k => by rw [gimbalref11_Tight.l0]) ?_
    have c : ¬ ((2 : Int) ^ 6 ≤ 2 * (n : Int)) := by omega
    simp only [w2, c, if_false]
    exact last 6 (Nat.le_refl _) c hp
  | succ d ih =>
    intro t h hp
    refine Ev.step (fun k => by rw [gimbalref11_Tight.l0]) ?_
    simp only [w2]
    by_cases c : (2 : Int) ^ t ≤ 2 * (n : Int)
    · have m : n * n ≤ 16 * 16 := Nat.mul_le_mul hn hn
      have c1 : (0 : Int) ≤ ((n * n : Nat) : Int) := by omega
      have c2 : n * n ≤ 35184372088832 := by omega
      simp only [c, if_true, sq hn, c1, c2, Int.toNat_natCast]
      rw [lst_zero n (dbl n (dbls n M t))]
      refine l1_ev hn (by decide) (bd t (by omega)) (fun hb => ?_) (fun hg => ?_) n 0 (by omega) (fun a ha => absurd ha (by omega))
      · obtain ⟨i, hi, hneg⟩ := hb
        have hc : IsClosure n M false (overs M n) := OctMath.dbls_none (t := t + 1) top hi hneg
        have hs := same hc (fun h => by cases h)
        unfold tightR
        rw [closeB_false.2 (fun h => by have := hs.1.2 h.1; cases this)]; rfl
      · have e : wrap64 (2 * (2 : Int) ^ t) = 2 ^ (t + 1) := by
          have e1 : (2 : Int) ^ (t + 1) = 2 * 2 ^ t := by rw [Int.pow_succ]; omega
          have e2 : (0 : Int) ≤ 2 ^ t := Int.pow_nonneg (by decide)
          rw [e1]; unfold wrap64; omega
        rw [e]
        refine ih (t + 1) (by omega) (fun s i hs hi => ?_)
        by_cases e : s = t + 1
        · rw [e]; exact hg i hi
        · exact hp s i (by omega) hi
    · simp only [c, if_false]
      exact last t (by omega) c hp
/-- **the document's Tight** -/
theorem tight_ev {nv : Nat} {m : List Int} {M : Nat → Nat → Int} (hn : nv ≤ 8) (hm : m = lst (2 * nv) M) (hM : Bd (2 * nv) 1099511627776 M) (hd : ∀ i, i < 2 * nv → M i i = 0) :
    Ev (fun k => gimbalref11_Tight.f k m (wrap64 (2 * (nv : Int)))) (tightR (2 * nv) M) := by
  have w2 : wrap64 (2 * (nv : Int)) = ((2 * nv : Nat) : Int) := by unfold wrap64; omega
  have hl : m.length ≤ 256 := by rw [hm, lst_length]; exact Nat.mul_le_mul (show 2 * nv ≤ 16 by omega) (show 2 * nv ≤ 16 by omega)
  refine Ev.congr (fun k => by unfold gimbalref11_Tight.f; rw [if_pos (by simp; omega), List.nil_append, w2]) ?_
  rw [hm]
  exact l0_ev (n := 2 * nv) (by omega) (fun a ha => nb_lt ha) hM hd 6 0 (by omega) (fun s i hs hi => by
    have e : s = 0 := by omega
    rw [e]; show 0 ≤ M i i; rw [hd i hi]; exact Int.le_refl _)
theorem clip_f (x : Int) : gimbalref11_clip.f x = some (clipV x) := by
  unfold gimbalref11_clip.f clipV
  split
  · rfl
  · split <;> rfl
theorem clip_loop (vars : List Int) : ∀ (d : Nat) (l : List Int) (i : Nat) (done : List Int), i + d = l.length → l.length ≤ 1000 → done.length ≤ 1000 + i →
    Ev (fun k => gimbalref11_Close.l0 k l (l.length : Int) (i : Int) vars done false) (vars, done ++ (l.drop i).map clipV, false) := by
  intro d
  induction d with
  | zero =>
    intro l i done h _ _
    refine Ev.step (fun k => by rw [gimbalref11_Close.l0]) ?_
    have c : ¬ ((i : Int) < (l.length : Int)) := by omega
    simp only [c, if_false]
    rw [List.drop_of_length_le (by omega), List.map_nil, List.append_nil]
    exact Ev.of _
  | succ d ih =>
    intro l i done h hl hd
    refine Ev.step (fun k => by rw [gimbalref11_Close.l0]) ?_
    have c : (i : Int) < (l.length : Int) := by omega
    have c0 : (0 : Int) ≤ (i : Int) := by omega
    have c1 : done.length < 17592186044416 := by omega
    have hw : wrap64 ((i : Int) + 1) = ((i + 1 : Nat) : Int) := by unfold wrap64; omega
    simp only [c, c0, if_true, clip_f, bsome, c1, hw]
    have e : done ++ (l.drop i).map clipV = (done ++ [clipV (rd l (i : Int))]) ++ (l.drop (i + 1)).map clipV := by
      rw [List.drop_eq_getElem_cons (by omega), List.map_cons]
      have : rd l (i : Int) = l[i] := by unfold rd; rw [Int.toNat_natCast]; simp [show i < l.length by omega]
      rw [this]; simp
    rw [e]
    exact ih l (i + 1) _ (by omega) hl (by simp; omega)
/-- **the document's Close is the program's** -/
theorem close_ev {vars m : List Int} {empty : Bool} (h : OFit vars m empty) : Ev (fun k => gimbalref11_Close.f k vars m empty) (closeF vars m empty) := by
  have h8 := h.1.1
  have hc : gimbalref11_copied.f vars = some vars := by unfold gimbalref11_copied.f; rw [if_pos (by simp; omega)]; rfl
  have hb : gimbalref11_Bottom.f vars = some (vars, [], true) := by unfold gimbalref11_Bottom.f gimbalref11_VarsFit.f; rw [varsB_true.2 h.1, bsome, if_pos rfl, hc]; rfl
  cases empty with
  | true =>
    refine Ev.congr (fun k => ?_) (Ev.of _)
    unfold gimbalref11_Close.f closeF
    rw [if_pos rfl, if_pos rfl, hb]; rfl
  | false =>
    obtain ⟨hM, hd⟩ := lowM_ok h
    have hm : m = lst (2 * vars.length) (lowM vars.length m) := by
      have hl : m.length = (2 * vars.length) * (2 * vars.length) := by
        have h1 := (h.2.2 rfl).1
        have e : ((m.length : Nat) : Int) = (((2 * vars.length) * (2 * vars.length) : Nat) : Int) := by rw [h1]; push_cast; rfl
        omega
      apply List.ext_getElem
      · rw [lst_length]; exact hl
      · intro t h1 h2
        have ht : t < (2 * vars.length) * (2 * vars.length) := by omega
        have h0 : 0 < 2 * vars.length := by
          rcases Nat.eq_zero_or_pos (2 * vars.length) with e | e
          · rw [e] at ht; omega
          · exact e
        have ha : t / (2 * vars.length) < 2 * vars.length := Nat.div_lt_of_lt_mul ht
        have hb := Nat.mod_lt t h0
        have hdm := Nat.div_add_mod t (2 * vars.length)
        simp only [lst, List.getElem_map, List.getElem_range]
        generalize t / (2 * vars.length) = a at *
        generalize t % (2 * vars.length) = b at *
        unfold lowM
        rw [lowAt_same h (by omega) (by omega) (by omega) (by omega)]
        have e : (a : Int) * (2 * (vars.length : Int)) + (b : Int) = (t : Int) := by
          have e2 : ((2 * vars.length * a + b : Nat) : Int) = (t : Int) := by rw [hdm]
          push_cast at e2
          rw [Int.mul_comm]; exact e2
        rw [e]; unfold rd; rw [Int.toNat_natCast]; simp [h1]
    have ht := tight_ev h8 hm hM hd
    refine Ev.congr (h := fun k => (gimbalref11_Tight.f k m (wrap64 (2 * (vars.length : Int)))).bind fun bt => (if bt.2 = true then ((gimbalref11_copied.f vars).bind fun t286 => (gimbalref11_Close.l0 k bt.1 (bt.1.length : Int) 0 t286 ([] : List Int) false)) else ((gimbalref11_Bottom.f vars).bind fun bt279 => (some (bt279.1, bt279.2.1, bt279.2.2))))) (fun k => by unfold gimbalref11_Close.f; rw [if_neg (by decide)]) ?_
    refine Ev.bind ht ?_
    unfold tightR closeF closeL
    rw [if_neg (show ¬ (false = true) by decide)]
    by_cases hcb : closeB (2 * vars.length) (lowM vars.length m) = true
    · rw [if_pos hcb, if_pos hcb, hcb]
      simp only [if_true, hc, bsome]
      have := clip_loop vars _ (lst (2 * vars.length) (strg (tig (overs (lowM vars.length m) (2 * vars.length))))) 0 [] (Nat.zero_add _) (by rw [lst_length]; exact Nat.le_trans (Nat.mul_le_mul (show 2 * vars.length ≤ 16 by omega) (show 2 * vars.length ≤ 16 by omega)) (by decide)) (by simp)
      rw [List.nil_append, List.drop_zero] at this
      have e : (lst (2 * vars.length) (strg (tig (overs (lowM vars.length m) (2 * vars.length))))).map clipV = lst (2 * vars.length) (closeM (2 * vars.length) (lowM vars.length m)) := by
        unfold lst closeM; rw [List.map_map]; rfl
      rw [e] at this
      exact this
    · rw [if_neg hcb, if_neg hcb]
      have hcb' : closeB (2 * vars.length) (lowM vars.length m) = false := by simpa using hcb
      rw [hcb']
      simp only [Bool.false_eq_true, if_false, hb, bsome]
      exact Ev.of _
end Go.Proofs.Ytomgebmimgaojaa.Pure
