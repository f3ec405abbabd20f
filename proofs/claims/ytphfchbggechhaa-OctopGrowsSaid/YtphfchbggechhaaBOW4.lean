/- Own texts of this claim, joined. -/
import Derived.Test.YtphfchbggechhaaBOW0
import Derived.Test.YtphfchbggechhaaBOW1
import Derived.Test.YtphfchbggechhaaBOW2
import Derived.Test.YtphfchbggechhaaBOW3
import Derived.ChangeKeysEq
import Derived.Laws.EntriesVeiled
set_option maxRecDepth 100000
set_option maxHeartbeats 16000000
section
namespace Go.Proofs.Ytphfchbggechhaa.Places
open Go.RowKit Ytphfchbggechhaa.QO YtphfchbggechhaaW.PrintWords YtphfchbggechhaaW.PrintLast YtphfchbggechhaaW.PrintMore
theorem search (l : List Int) (hl : l.length ≤ 4096) (x : Int) (d : Nat) : ∀ i : Nat, l.length - i = d → i ≤ l.length → ∃ v : Int, -1 ≤ v ∧ v < l.length ∧ (0 ≤ v → rd l v = x) ∧
 ∀ k, d < k → slices_Index_int_int.l0 k l x (l.length : Int) (i : Int) = some v ∧ gimbalref11_Place.l0 k x l (l.length : Int) (i : Int) = some v := by
 induction d with
 | zero =>
  intro i hi hle
  refine ⟨-1, by omega, by omega, fun h => absurd h (by decide), fun k hk => ?_⟩
  obtain ⟨k, rfl⟩ : ∃ m, k = m + 1 := ⟨k - 1, by omega⟩
  unfold slices_Index_int_int.l0 gimbalref11_Place.l0
  rw [if_neg (by omega), if_neg (by omega)]
  exact ⟨rfl, rfl⟩
 | succ d ih =>
  intro i hi hle
  have hlt : i < l.length := by omega
  have hw : wrap64 ((i : Int) + 1) = ((i + 1 : Nat) : Int) := by unfold wrap64; omega
  by_cases hx : rd l (i : Int) = x
  ·
   refine ⟨i, by omega, by omega, fun _ => hx, fun k hk => ?_⟩
   obtain ⟨k, rfl⟩ : ∃ m, k = m + 1 := ⟨k - 1, by omega⟩
   unfold slices_Index_int_int.l0 gimbalref11_Place.l0
   rw [if_pos (by omega), if_pos (by omega), if_pos (by omega), if_pos hx.symm, if_pos (by omega), if_pos (by omega), if_pos (by omega), if_pos hx]
   exact ⟨rfl, rfl⟩
  ·
   obtain ⟨v, h1, h2, h3, h4⟩ := ih (i + 1) (by omega) (by omega)
   refine ⟨v, h1, h2, h3, fun k hk => ?_⟩
   obtain ⟨k, rfl⟩ : ∃ m, k = m + 1 := ⟨k - 1, by omega⟩
   have h5 := h4 k (by omega)
   unfold slices_Index_int_int.l0 gimbalref11_Place.l0
   rw [if_pos (by omega), if_pos (by omega), if_pos (by omega), if_neg (fun e => hx e.symm), if_pos (by omega), if_pos (by omega), if_pos (by omega), if_neg hx, hw]
   exact h5
theorem place (l m : List Int) (e : Bool) (hl : l.length ≤ 4096) (x : Int) : ∃ v : Int, -1 ≤ v ∧ v < l.length ∧ (0 ≤ v → rd l v = x) ∧
 ∀ k, l.length < k → slices_Index_int_int.f k l x = some v ∧ gimbalref11_Place.f k l m e x = some v := by
 obtain ⟨v, h1, h2, h3, h4⟩ := search l hl x l.length 0 (by omega) (by omega)
 exact ⟨v, h1, h2, h3, fun k hk => h4 k hk⟩
theorem node (l m : List Int) (e : Bool) (hl : l.length ≤ 4096) (x : Int) : ∃ v : Int, -1 ≤ v ∧ v < l.length ∧
 (∀ k, l.length < k → gimbalref11_Place.f k l m e x = some v) ∧
 (∀ s : Int, ∀ k, l.length < k → oct_node.f k l m e x s = some (if 0 ≤ v ∧ s < 0 then 2 * v + 1 else 2 * v)) ∧
 (∀ s : Int, s ≠ 0 → 0 ≤ v → gimbalref11_Node.f v s = some (if 0 ≤ v ∧ s < 0 then 2 * v + 1 else 2 * v)) := by
 obtain ⟨v, h1, h2, h3, h4⟩ := place l m e hl x
 have hw : wrap64 (2 * v) = 2 * v := by unfold wrap64; omega
 have hw2 : wrap64 (2 * v + 1) = 2 * v + 1 := by unfold wrap64; omega
 refine ⟨v, h1, h2, fun k hk => (h4 k hk).2, fun s k hk => ?_, fun s hs h0 => ?_⟩
 ·
  unfold oct_node.f
  rw [(h4 k hk).1]
  simp only [Option.bind_some]
  rw [hw, hw2]
  by_cases h0 : v ≥ 0
  ·
   rw [if_pos h0]
   by_cases hs : s < 0
   ·
    rw [if_pos hs, if_pos ⟨h0, hs⟩]
   ·
    rw [if_neg hs, if_neg (fun h => hs h.2)]
  ·
   rw [if_neg h0, if_neg (fun h => h0 h.1)]
 ·
  unfold gimbalref11_Node.f
  rw [hw, hw2]
  by_cases hs' : s < 0
  ·
   rw [if_neg (by omega), if_pos ⟨h0, hs'⟩]
  ·
   rw [if_pos (by omega), if_neg (fun h => hs' h.2)]
end Go.Proofs.Ytphfchbggechhaa.Places
end
section
namespace Go.Proofs.Ytphfchbggechhaa.Arith
open Go.RowKit Ytphfchbggechhaa.QO YtphfchbggechhaaW.PrintWords YtphfchbggechhaaW.PrintLast YtphfchbggechhaaW.PrintMore
def Sm (g : Int) : Prop := g = 4611686018427387904 ∨ (-4611686018427 ≤ g ∧ g ≤ 4611686018427)
theorem fit_sm {g : Int} (h : Sm g) : bfit g = g := by unfold Sm at h; unfold bfit; (repeat' split) <;> omega
theorem fit_neg {g : Int} (h : Sm g) : bfit (-g) = -g := by unfold Sm at h; unfold bfit; (repeat' split) <;> omega
theorem up_sm {c g : Int} (hc : -4611686018427 ≤ c ∧ c ≤ 4611686018427) (hg : Sm g) : bound_Up.f c g = some (if g = 4611686018427387904 then 4611686018427387904 else c + g) := by
 unfold bound_Up.f bound_Fit.f
 rw [fit_sm (.inr hc), fit_sm hg]
 simp only [Option.bind_some]
 rw [if_neg (by omega)]
 by_cases e : g = 4611686018427387904
 ·
  rw [if_pos e, if_pos e]
 ·
  rw [if_neg e, if_neg e]
  have h1 : wrap64 (c + g) = c + g := by unfold Sm at hg; unfold wrap64; omega
  rw [h1]
  unfold Sm at hg; unfold mn mx
  congr 1
  split <;> split <;> omega
theorem neg_sm {g : Int} (hg : Sm g) : bound_Neg.f g = some (-g) := by
 unfold bound_Neg.f bound_Fit.f
 rw [fit_sm hg]
 simp only [Option.bind_some]
 congr 1
 unfold Sm at hg; unfold wrap64; omega
theorem down_sm {c g : Int} (hc : -4611686018427 ≤ c ∧ c ≤ 4611686018427) (hg : Sm g) : bound_Down.f c (-g) = some (if g = 4611686018427387904 then -4611686018427387904 else c - g) := by
 unfold bound_Down.f bound_Fit.f
 rw [fit_sm (.inr hc), fit_neg hg]
 simp only [Option.bind_some]
 have h1 : wrap64 (-c) = -c := by unfold wrap64; omega
 have h2 : wrap64 (- -g) = g := by unfold Sm at hg; unfold wrap64; omega
 rw [h1, h2, up_sm (by omega) hg]
 simp only [Option.bind_some]
 by_cases e : g = 4611686018427387904
 ·
  rw [if_pos e, if_pos e]; congr 1; unfold wrap64; omega
 ·
  rw [if_neg e, if_neg e]
  congr 1
  unfold Sm at hg; unfold wrap64; omega
end Go.Proofs.Ytphfchbggechhaa.Arith
end
section
noncomputable section
namespace Go.Proofs.Ytphfchbggechhaa.Pure
open Go.RowKit Ytphfchbggechhaa.QO YtphfchbggechhaaW.PrintWords YtphfchbggechhaaW.PrintLast YtphfchbggechhaaW.PrintMore
open Ytphfchbggechhaa.OctMath (over overs plus Bd Fin' Top62 dbl dbls least IsClosure)
theorem idx {n i j : Nat} (hn : n ≤ 16) (hi : i ≤ 16) (hj : j ≤ 16) : wrap64 (wrap64 ((i : Int) * (n : Int)) + (j : Int)) = ((i * n + j : Nat) : Int) := by
 have m : i * n ≤ 16 * 16 := Nat.mul_le_mul hi hn
 have e : (i : Int) * (n : Int) = ((i * n : Nat) : Int) := by push_cast; rfl
 rw [e]
 have h1 : wrap64 ((i * n : Nat) : Int) = ((i * n : Nat) : Int) := by unfold wrap64; omega
 rw [h1]; unfold wrap64; omega
theorem sq {n : Nat} (hn : n ≤ 16) : wrap64 ((n : Int) * (n : Int)) = ((n * n : Nat) : Int) := by
 have m : n * n ≤ 16 * 16 := Nat.mul_le_mul hn hn
 have e : (n : Int) * (n : Int) = ((n * n : Nat) : Int) := by push_cast; rfl
 rw [e]; unfold wrap64; omega
theorem suc {i : Nat} (hi : i ≤ 100) : wrap64 ((i : Int) + 1) = ((i + 1 : Nat) : Int) := by unfold wrap64; omega
theorem plus_f {B a b : Int} (hB : B ≤ 1152921504606846976) (ha : Fin' B a) (hb : Fin' B b) : gimbalref11_plus.f a b = some (plus a b) := by
 unfold gimbalref11_plus.f plus
 by_cases h1 : a = 4611686018427387904
 ·
  rw [if_pos h1, if_pos (.inl h1)]
 ·
  rw [if_neg h1]
  by_cases h2 : b = 4611686018427387904
  ·
   rw [if_pos h2, if_pos (.inr h2)]
  ·
   rw [if_neg h2, if_neg (by rintro (h | h) <;> contradiction)]
   unfold Fin' at ha hb
   congr 1; unfold wrap64; omega
theorem in_row {n i j : Nat} {d : Nat → Nat → Int} (hi : i < n) (hj : j < n) : 0 ≤ ((i * n + j : Nat) : Int) ∧ ((i * n + j : Nat) : Int) < ((lst n d).length : Int) := by
 have := ij_lt hi hj
 rw [lst_length]; omega
theorem l3_ev {n i j : Nat} {A b : Nat → Nat → Int} {B long : Int} {v : List Int × Bool} (hn : n ≤ 16) (hi : i < n) (hj : j < n) (hB : B ≤ 1152921504606846976) (hA : Bd n B A)
 (hv : Ev (fun k => gimbalref11_Tight.l2 k (n : Int) (lst n A) long ((lst n b).set (i * n + j) (dbl n A i j)) (i : Int) ((j + 1 : Nat) : Int)) v) :
 ∀ d kk, kk + d = n → Ev (fun k => gimbalref11_Tight.l3 k (n : Int) (lst n A) long (lst n b) (i : Int) (j : Int) (least A i j kk) (kk : Int)) v := by
 intro d
 induction d with
 | zero =>
  intro kk h
  obtain rfl : kk = n := by omega
  refine Ev.step (fun k => by rw [gimbalref11_Tight.l3]) ?_
  have r := in_row (d := b) hi hj
  simp only [Int.lt_irrefl, if_false, idx hn (by omega : i ≤ 16) (by omega : j ≤ 16), r.1, r.2, if_true, suc (show j ≤ 100 by omega), Int.toNat_natCast]
  exact hv
 | succ d ih =>
  intro kk h
  refine Ev.step (fun k => by rw [gimbalref11_Tight.l3]) ?_
  have r1 := in_row (d := A) hi (show kk < n by omega)
  have r2 := in_row (d := A) (show kk < n by omega) hj
  have hlt : (kk : Int) < (n : Int) := by omega
  simp only [hlt, if_true, idx hn (by omega : i ≤ 16) (by omega : kk ≤ 16), idx hn (by omega : kk ≤ 16) (by omega : j ≤ 16), r1.1, r1.2, r2.1, r2.2, lst_rd (d := A) hi (show kk < n by omega) rfl, lst_rd (d := A) (show kk < n by omega) hj rfl,
   plus_f hB (hA i kk hi (by omega)) (hA kk j (by omega) hj), bsome, suc (show kk ≤ 100 by omega)]
  have := ih (kk + 1) (by omega)
  have e : least A i j (kk + 1) = mn (least A i j kk) (plus (A i kk) (A kk j)) := rfl
  rw [e] at this
  exact this
theorem l2_ev {n i : Nat} {A : Nat → Nat → Int} {B long : Int} {v : List Int × Bool} (hn : n ≤ 16) (hi : i < n) (hB : B ≤ 1152921504606846976) (hA : Bd n B A)
 (hbad : dbl n A i i < 0 → v = ([], false)) (hv : 0 ≤ dbl n A i i → Ev (fun k => gimbalref11_Tight.l1 k (n : Int) (lst n A) long (lst n (upTo (dbl n A) (i + 1) 0)) ((i + 1 : Nat) : Int)) v) :
 ∀ d j, j + d = n → Ev (fun k => gimbalref11_Tight.l2 k (n : Int) (lst n A) long (lst n (upTo (dbl n A) i j)) (i : Int) (j : Int)) v := by
 intro d
 induction d with
 | zero =>
  intro j h
  obtain rfl : j = n := by omega
  refine Ev.step (fun k => by rw [gimbalref11_Tight.l2]) ?_
  have r := in_row (d := upTo (dbl j A) i j) hi hi
  have e : upTo (dbl j A) i j i i = dbl j A i i := by unfold upTo; rw [if_pos (.inr ⟨rfl, hi⟩)]
  simp only [Int.lt_irrefl, if_false, idx hn (by omega : i ≤ 16) (by omega : i ≤ 16), r.1, r.2, if_true, lst_rd (d := upTo (dbl j A) i j) hi hi rfl, e, suc (show i ≤ 100 by omega)]
  by_cases hneg : dbl j A i i < 0
  ·
   rw [hbad hneg]; exact Ev.congr (fun k => if_pos hneg) (Ev.of _)
  ·
   have := hv (by omega)
   rw [lst_congr (fun a b _ hb => (upTo_row (c := dbl j A) (i := i) a b hb).symm)] at this
   exact Ev.congr (fun k => if_neg hneg) this
 | succ d ih =>
  intro j h
  refine Ev.step (fun k => by rw [gimbalref11_Tight.l2]) ?_
  have hj : j < n := by omega
  have r := in_row (d := A) hi hj
  have hlt : (j : Int) < (n : Int) := by omega
  simp only [hlt, if_true, idx hn (by omega : i ≤ 16) (by omega : j ≤ 16), r.1, r.2, lst_rd (d := A) hi hj rfl]
  have h1 := ih (j + 1) (by omega)
  have h2 := lst_set (d := upTo (dbl n A) i j) (v := dbl n A i j) hi hj (q := ((i * n + j : Nat) : Int)) rfl
  rw [Int.toNat_natCast, lst_congr (fun a b _ _ => (upTo_step (c := dbl n A) (i := i) (j := j) a b).symm)] at h2
  rw [← h2] at h1
  exact l3_ev hn hi hj hB hA h1 n 0 (by omega)
theorem l1_ev {n : Nat} {A : Nat → Nat → Int} {B long : Int} {v : List Int × Bool} (hn : n ≤ 16) (hB : B ≤ 1152921504606846976) (hA : Bd n B A)
 (hbad : (∃ i, i < n ∧ dbl n A i i < 0) → v = ([], false)) (hv : (∀ i, i < n → 0 ≤ dbl n A i i) → Ev (fun k => gimbalref11_Tight.l0 k (n : Int) (lst n (dbl n A)) (wrap64 (2 * long))) v) :
 ∀ d i, i + d = n → (∀ a, a < i → 0 ≤ dbl n A a a) → Ev (fun k => gimbalref11_Tight.l1 k (n : Int) (lst n A) long (lst n (upTo (dbl n A) i 0)) (i : Int)) v := by
 intro d
 induction d with
 | zero =>
  intro i h hp
  obtain rfl : i = n := by omega
  refine Ev.step (fun k => by rw [gimbalref11_Tight.l1]) ?_
  simp only [Int.lt_irrefl, if_false]
  rw [lst_congr (fun a b ha _ => upTo_all a b ha)]
  exact hv hp
 | succ d ih =>
  intro i h hp
  refine Ev.step (fun k => by rw [gimbalref11_Tight.l1]) ?_
  have hlt : (i : Int) < (n : Int) := by omega
  simp only [hlt, if_true]
  refine l2_ev hn (by omega) hB hA (fun hb => hbad ⟨i, by omega, hb⟩) (fun hg => ih (i + 1) (by omega) (fun a ha => ?_)) n 0 (by omega)
  by_cases e : a = i
  ·
   rw [e]; exact hg
  ·
   exact hp a (by omega)
theorem half_f {x : Int} (h : Fin' 1152921504606846976 x) (hx : x ≠ 4611686018427387904) : gimbalref11_halved.f x = some (half x) := by
 unfold gimbalref11_halved.f half
 unfold Fin' at h
 rw [if_neg hx]
 by_cases h0 : x ≥ 0
 ·
  rw [if_pos h0, Int.tdiv_eq_ediv_of_nonneg h0]; congr 1; unfold wrap64; omega
 ·
  rw [if_neg h0]
  have e : wrap64 (1 - x) = 1 - x := by unfold wrap64; omega
  rw [e, Int.tdiv_eq_ediv_of_nonneg (by omega)]; congr 1; unfold wrap64; omega
theorem bar_f {i n : Nat} (hn : n ≤ 16) (hi : i < n) : gimbalref11_bar.f (i : Int) = some ((nb i : Nat) : Int) := by
 unfold gimbalref11_bar.f; rw [if_pos (by omega), nbar_nb]
theorem plus_fin {a b : Int} (ha : Fin' 288230376151711744 a) (hb : Fin' 288230376151711744 b) : Fin' 1152921504606846976 (plus a b) := by
 unfold plus Fin' at *; split <;> omega
theorem strg_inf {T : Nat → Nat → Int} {i j : Nat} (hx : Fin' 288230376151711744 (T i j)) (hs : plus (T i (nb i)) (T (nb j) j) = 4611686018427387904) : strg T i j = T i j := by
 unfold strg half mn; rw [if_pos hs, hs]
 unfold Fin' at hx; rw [if_neg (by omega)]
theorem l7_ev {n i : Nat} {T : Nat → Nat → Int} {v : List Int × Bool} (hn : n ≤ 16) (he : ∀ a, a < n → nb a < n) (hi : i < n) (hT : Bd n 288230376151711744 T)
 (hv : Ev (fun k => gimbalref11_Tight.l6 k (n : Int) (lst n T) (lst n (upTo (strg T) (i + 1) 0)) ((i + 1 : Nat) : Int)) v) :
 ∀ d j, j + d = n → Ev (fun k => gimbalref11_Tight.l7 k (n : Int) (lst n T) (lst n (upTo (strg T) i j)) (i : Int) (j : Int)) v := by
 intro d
 induction d with
 | zero =>
  intro j h
  obtain rfl : j = n := by omega
  refine Ev.step (fun k => by rw [gimbalref11_Tight.l7]) ?_
  simp only [Int.lt_irrefl, if_false, suc (show i ≤ 100 by omega)]
  rw [lst_congr (fun a b _ hb => (upTo_row (c := strg T) (i := i) a b hb).symm)] at hv
  exact hv
 | succ d ih =>
  intro j h
  refine Ev.step (fun k => by rw [gimbalref11_Tight.l7]) ?_
  have hj : j < n := by omega
  have hlt : (j : Int) < (n : Int) := by omega
  have r0 := in_row (d := T) hi hj
  have r1 := in_row (d := upTo (strg T) i j) hi hj
  have r2 := in_row (d := T) hi (he i hi)
  have r3 := in_row (d := T) (he j hj) hj
  have l1 := he i hi; have l2 := he j hj
  have hp := plus_f (B := 1152921504606846976) (by decide) (OctMath.fin_mono (hT i (nb i) hi l1) (by decide)) (OctMath.fin_mono (hT (nb j) j l2 hj) (by decide))
  simp only [hlt, if_true, idx hn (by omega : i ≤ 16) (by omega : j ≤ 16), r0.1, r0.2, r1.2, lst_rd (d := T) hi hj rfl, bsome, bar_f hn hi, bar_f hn hj, idx hn (by omega : i ≤ 16) (by omega : nb i ≤ 16), r2.1, r2.2,
   idx hn (by omega : nb j ≤ 16) (by omega : j ≤ 16), r3.1, r3.2, lst_rd (d := T) hi l1 rfl, lst_rd (d := T) l2 hj rfl, hp, suc (show j ≤ 100 by omega), Int.toNat_natCast]
  have h1 := ih (j + 1) (by omega)
  have s1 : ∀ w : Int, (lst n (upTo (strg T) i j)).set (i * n + j) w = lst n (fun a b => if a = i ∧ b = j then w else upTo (strg T) i j a b) := fun w => by
   have := lst_set (d := upTo (strg T) i j) (v := w) hi hj (q := ((i * n + j : Nat) : Int)) rfl
   rwa [Int.toNat_natCast] at this
  have hx := hT i j hi hj
  clear h
  have hq1 := hT i (nb i) hi l1; have hq2 := hT (nb j) j l2 hj
  by_cases hs : plus (T i (nb i)) (T (nb j) j) = 4611686018427387904
  ·
   refine Ev.congr (fun k => if_pos hs) ?_
   have e : strg T i j = T i j := strg_inf hx hs
   rw [s1, ← e, lst_congr (fun a b _ _ => (upTo_step (c := strg T) (i := i) (j := j) a b).symm)]
   exact h1
  ·
   refine Ev.congr (fun k => if_neg hs) ?_
   have hb := plus_fin hq1 hq2
   rw [half_f hb hs]
   simp only [bsome]
   rw [s1, lst_rd hi hj rfl, if_pos ⟨rfl, rfl⟩]
   have s2 := lst_set (d := fun a b => if a = i ∧ b = j then T i j else upTo (strg T) i j a b) (v := mn (T i j) (half (plus (T i (nb i)) (T (nb j) j)))) hi hj (q := ((i * n + j : Nat) : Int)) rfl
   rw [Int.toNat_natCast] at s2
   have s3 : lst n (fun a b => if a = i ∧ b = j then mn (T i j) (half (plus (T i (nb i)) (T (nb j) j))) else if a = i ∧ b = j then T i j else upTo (strg T) i j a b) = lst n (upTo (strg T) i (j + 1)) := lst_congr (fun a b _ _ => by
    rw [upTo_step]
    by_cases h : a = i ∧ b = j
    ·
     rw [if_pos h, if_pos h]; rfl
    ·
     rw [if_neg h, if_neg h, if_neg h])
   rw [s2, s3]
   exact h1
theorem l6_ev {n : Nat} {T : Nat → Nat → Int} (hn : n ≤ 16) (he : ∀ a, a < n → nb a < n) (hT : Bd n 288230376151711744 T) :
 ∀ d i, i + d = n → Ev (fun k => gimbalref11_Tight.l6 k (n : Int) (lst n T) (lst n (upTo (strg T) i 0)) (i : Int)) (lst n (strg T), true) := by
 intro d
 induction d with
 | zero =>
  intro i h
  obtain rfl : i = n := by omega
  refine Ev.step (fun k => by rw [gimbalref11_Tight.l6]) ?_
  simp only [Int.lt_irrefl, if_false]
  rw [lst_congr (fun a b ha _ => upTo_all a b ha)]
  exact Ev.of _
 | succ d ih =>
  intro i h
  refine Ev.step (fun k => by rw [gimbalref11_Tight.l6]) ?_
  have hlt : (i : Int) < (n : Int) := by omega
  simp only [hlt, if_true]
  exact l7_ev hn he (by omega) hT (ih (i + 1) (by omega)) n 0 (by omega)
theorem l5_ev {n : Nat} {T : Nat → Nat → Int} {v : List Int × Bool} (hn : n ≤ 16) (he : ∀ a, a < n → nb a < n) (hT : Bd n 288230376151711744 T)
 (hbad : ¬ StrOk n T → v = ([], false)) (hv : StrOk n T → v = (lst n (strg T), true)) :
 ∀ d i, i + d = n → (∀ a, a < i → 0 ≤ plus (T a (nb a)) (T (nb a) a)) → Ev (fun k => gimbalref11_Tight.l5 k (n : Int) (lst n T) (i : Int)) v := by
 intro d
 induction d with
 | zero =>
  intro i h hp
  obtain rfl : i = n := by omega
  refine Ev.step (fun k => by rw [gimbalref11_Tight.l5]) ?_
  have m : i * i ≤ 16 * 16 := Nat.mul_le_mul hn hn
  have c1 : (0 : Int) ≤ ((i * i : Nat) : Int) := by omega
  have c2 : i * i ≤ 35184372088832 := by omega
  simp only [Int.lt_irrefl, if_false, sq hn, c1, c2, if_true, Int.toNat_natCast]
  rw [lst_zero i (strg T), hv hp]
  exact l6_ev hn he hT i 0 (by omega)
 | succ d ih =>
  intro i h hp
  refine Ev.step (fun k => by rw [gimbalref11_Tight.l5]) ?_
  have hi : i < n := by omega
  have hlt : (i : Int) < (n : Int) := by omega
  have l1 := he i hi
  have r2 := in_row (d := T) hi l1
  have r3 := in_row (d := T) l1 hi
  have hpl := plus_f (B := 1152921504606846976) (by decide) (OctMath.fin_mono (hT i (nb i) hi l1) (by decide)) (OctMath.fin_mono (hT (nb i) i l1 hi) (by decide))
  simp only [hlt, if_true, bar_f hn hi, bsome, idx hn (by omega : i ≤ 16) (by omega : nb i ≤ 16), r2.1, r2.2, idx hn (by omega : nb i ≤ 16) (by omega : i ≤ 16), r3.1, r3.2, lst_rd (d := T) hi l1 rfl, lst_rd (d := T) l1 hi rfl, hpl, suc (show i ≤ 100 by omega)]
  by_cases hs : plus (T i (nb i)) (T (nb i) i) < 0
  ·
   rw [hbad (fun h => by have := h i hi; omega)]
   exact Ev.congr (fun k => if_pos hs) (Ev.of _)
  ·
   refine Ev.congr (fun k => if_neg hs) (ih (i + 1) (by omega) (fun a ha => ?_))
   by_cases e : a = i
   ·
    subst e; omega
   ·
    exact hp a (by omega)
theorem even_w {D : Nat → Nat → Int} {i : Nat} (hb : Fin' 72057594037927936 (D i (nb i))) (hs : D i (nb i) ≠ 4611686018427387904) : wrap64 (2 * half (D i (nb i))) = tig D i (nb i) := by
 have e : tig D i (nb i) = 2 * (D i (nb i) / 2) := by unfold tig; rw [if_pos rfl, if_neg hs]
 have e1 : half (D i (nb i)) = D i (nb i) / 2 := by unfold half; rw [if_neg hs]
 rw [e, e1]
 unfold Fin' at hb
 generalize D i (nb i) = x at *
 unfold wrap64; omega
theorem l4_ev {n : Nat} {D : Nat → Nat → Int} {v : List Int × Bool} (hn : n ≤ 16) (he : ∀ a, a < n → nb a < n) (hD : Bd n 72057594037927936 D)
 (hbad : ¬ StrOk n (tig D) → v = ([], false)) (hv : StrOk n (tig D) → v = (lst n (strg (tig D)), true)) :
 ∀ d i, i + d = n → Ev (fun k => gimbalref11_Tight.l4 k (n : Int) (lst n (tigTo D i)) (i : Int)) v := by
 intro d
 induction d with
 | zero =>
  intro i h
  obtain rfl : i = n := by omega
  refine Ev.step (fun k => by rw [gimbalref11_Tight.l4]) ?_
  simp only [Int.lt_irrefl, if_false]
  rw [lst_congr (fun a b ha _ => tigTo_all a b ha)]
  have hT : Bd i 288230376151711744 (tig D) := fun a b ha hb => OctMath.fin_mono (tig_bd hD (by decide) a b ha hb) (by decide)
  exact l5_ev hn he hT hbad hv i 0 (by omega) (fun a ha => absurd ha (by omega))
 | succ d ih =>
  intro i h
  refine Ev.step (fun k => by rw [gimbalref11_Tight.l4]) ?_
  have hi : i < n := by omega
  have hlt : (i : Int) < (n : Int) := by omega
  have l1 := he i hi
  have r2 := in_row (d := tigTo D i) hi l1
  have ed : tigTo D i i (nb i) = D i (nb i) := by unfold tigTo; rw [if_neg (by omega)]
  simp only [hlt, if_true, bar_f hn hi, bsome, idx hn (by omega : i ≤ 16) (by omega : nb i ≤ 16), r2.1, r2.2, lst_rd (d := tigTo D i) hi l1 rfl, ed, suc (show i ≤ 100 by omega), Int.toNat_natCast]
  have h1 := ih (i + 1) (by omega)
  by_cases hs : D i (nb i) = 4611686018427387904
  ·
   refine Ev.congr (fun k => if_pos hs) ?_
   rw [lst_congr (e := tigTo D (i + 1)) (fun a b _ _ => by
    rw [tigTo_step a b]
    by_cases h : a = i ∧ b = nb i
    ·
     rw [if_pos h, h.1, h.2, ed]; unfold tig; rw [if_pos rfl, if_pos hs, hs]
    ·
     rw [if_neg h])]
   exact h1
  ·
   refine Ev.congr (fun k => if_neg hs) ?_
   have hb := hD i (nb i) hi l1
   rw [half_f (OctMath.fin_mono hb (by decide)) hs]
   simp only [bsome]
   have e2 := even_w hb hs
   have s2 := lst_set (d := tigTo D i) (v := tig D i (nb i)) hi l1 (q := ((i * n + nb i : Nat) : Int)) rfl
   rw [Int.toNat_natCast, lst_congr (fun a b _ _ => (tigTo_step (d := D) (i := i) a b).symm)] at s2
   rw [e2, s2]
   exact h1
def tightR (n : Nat) (M : Nat → Nat → Int) : List Int × Bool := if closeB n M = true then (lst n (strg (tig (overs M n))), true) else ([], false)
theorem l0_ev {n : Nat} {M : Nat → Nat → Int} (hn : n ≤ 16) (he : ∀ a, a < n → nb a < n) (hM : Bd n 1099511627776 M) (hd : ∀ i, i < n → M i i = 0) :
 ∀ d t, t + d = 6 → (∀ s i, s ≤ t → i < n → 0 ≤ dbls n M s i i) → Ev (fun k => gimbalref11_Tight.l0 k (n : Int) (lst n (dbls n M t)) (2 ^ t)) (tightR n M) := by
 have top : Top62 n M := OctMath.fin_of_low hM (by decide)
 have w2 : wrap64 (2 * (n : Int)) = 2 * (n : Int) := by unfold wrap64; omega
 have bd : ∀ t, t ≤ 6 → Bd n 70368744177664 (dbls n M t) := fun t ht i j hi hj => by
  have hp : (2 : Int) ^ t ≤ 2 ^ 6 := by
   have := Nat.pow_le_pow_right (n := 2) (by decide) ht
   exact_mod_cast this
  have h4 : (1099511627776 : Int) * 2 ^ t ≤ 1099511627776 * 2 ^ 6 := Int.mul_le_mul_of_nonneg_left hp (by decide)
  exact OctMath.fin_mono (OctMath.bd_dbls hM (by decide) t (by omega) i j hi hj) (by omega)
 have pw : (2 : Int) ^ n ≤ 2 ^ 16 := by
  have := Nat.pow_le_pow_right (n := 2) (by decide) hn
  exact_mod_cast this
 have h16 : (1099511627776 : Int) * 2 ^ n ≤ 1099511627776 * 2 ^ 16 := Int.mul_le_mul_of_nonneg_left pw (by decide)
 have floyd : FloydOk n M → IsClosure n M true (overs M n) ∧ Top62 n (overs M n) := fun h =>
  ⟨OctMath.overs_closure hM (by decide) (by omega) hd (fun k i hk hi => h k i hk hi), OctMath.fin_of_low (overs_bd hM hn) (by decide)⟩
 have nofloyd : ¬ FloydOk n M → IsClosure n M false (overs M n) := fun h => by
  obtain ⟨t, h⟩ := Classical.not_forall.1 h
  obtain ⟨i, h⟩ := Classical.not_forall.1 h
  have h1 : t ≤ n ∧ i < n ∧ overs M t i i < 0 := by
   refine ⟨?_, ?_, ?_⟩
   ·
    exact Classical.byContradiction fun e => h (fun a => absurd a e)
   ·
    exact Classical.byContradiction fun e => h (fun _ a => absurd a e)
   ·
    exact Classical.byContradiction fun e => h (fun _ _ => by omega)
  exact OctMath.overs_none top h1.1 h1.2.1 h1.2.2
 have same : ∀ {b : Bool} {e : Nat → Nat → Int}, IsClosure n M b e → (b = true → Top62 n e) → (b = true ↔ FloydOk n M) ∧ (b = true → ∀ i j, i < n → j < n → e i j = overs M n i j) := fun {b e} hc ht => by
  by_cases hf : FloydOk n M
  ·
   have := OctMath.closure_unique hc (floyd hf).1 ht (fun _ => (floyd hf).2)
   exact ⟨⟨fun _ => hf, fun _ => this.1⟩, this.2⟩
  ·
   have := OctMath.closure_unique hc (nofloyd hf) ht (fun h => by cases h)
   exact ⟨⟨(fun h => by rw [this.1] at h; cases h), fun h => absurd h hf⟩, this.2⟩
 have last : ∀ t, t ≤ 6 → ¬ ((2 : Int) ^ t ≤ 2 * (n : Int)) → (∀ s i, s ≤ t → i < n → 0 ≤ dbls n M s i i) → Ev (fun k => gimbalref11_Tight.l4 k (n : Int) (lst n (dbls n M t)) 0) (tightR n M) := fun t ht h2 hp => by
  have h3 : n + 1 ≤ 2 ^ t := by
   have : (n : Int) + 1 ≤ 2 ^ t := by omega
   exact_mod_cast this
  have h5 : (2 : Int) ^ t ≤ 2 ^ 6 := by
   have := Nat.pow_le_pow_right (n := 2) (by decide) ht
   exact_mod_cast this
  have h4 : (1099511627776 : Int) * 2 ^ t ≤ 1099511627776 * 2 ^ 6 := Int.mul_le_mul_of_nonneg_left h5 (by decide)
  have hcl := OctMath.dbls_closure (t := t) hM (by decide) hd (by omega) h3 (fun i hi => hp t i (Nat.le_refl _) hi)
  have hs := same hcl (fun _ => OctMath.fin_of_low (bd t ht) (by decide))
  have hok := hs.1.1 rfl
  rw [lst_congr (e := tigTo (overs M n) 0) (fun a b ha hb => by rw [hs.2 rfl a b ha hb, tigTo_zero])]
  refine l4_ev hn he (overs_bd hM hn) (fun hb => ?_) (fun hg => ?_) n 0 (by omega)
  ·
   unfold tightR; rw [closeB_false.2 (fun h => hb h.2)]; rfl
  ·
   unfold tightR; rw [if_pos (closeB_true.2 ⟨hok, hg⟩)]
 intro d
 induction d with
 | zero =>
  intro t h hp
  obtain rfl : t = 6 := by omega
  refine Ev.step (fun k => by rw [gimbalref11_Tight.l0]) ?_
  have c : ¬ ((2 : Int) ^ 6 ≤ 2 * (n : Int)) := by omega
  simp only [w2, c, if_false]
  exact last 6 (Nat.le_refl _) c hp
 | succ d ih =>
  intro t h hp
  refine Ev.step (fun k => by rw [gimbalref11_Tight.l0]) ?_
  simp only [w2]
  by_cases c : (2 : Int) ^ t ≤ 2 * (n : Int)
  ·
   have m : n * n ≤ 16 * 16 := Nat.mul_le_mul hn hn
   have c1 : (0 : Int) ≤ ((n * n : Nat) : Int) := by omega
   have c2 : n * n ≤ 35184372088832 := by omega
   simp only [c, if_true, sq hn, c1, c2, Int.toNat_natCast]
   rw [lst_zero n (dbl n (dbls n M t))]
   refine l1_ev hn (by decide) (bd t (by omega)) (fun hb => ?_) (fun hg => ?_) n 0 (by omega) (fun a ha => absurd ha (by omega))
   ·
    obtain ⟨i, hi, hneg⟩ := hb
    have hc : IsClosure n M false (overs M n) := OctMath.dbls_none (t := t + 1) top hi hneg
    have hs := same hc (fun h => by cases h)
    unfold tightR
    rw [closeB_false.2 (fun h => by have := hs.1.2 h.1; cases this)]; rfl
   ·
    have e : wrap64 (2 * (2 : Int) ^ t) = 2 ^ (t + 1) := by
     have e1 : (2 : Int) ^ (t + 1) = 2 * 2 ^ t := by rw [Int.pow_succ]; omega
     have e2 : (0 : Int) ≤ 2 ^ t := Int.pow_nonneg (by decide)
     rw [e1]; unfold wrap64; omega
    rw [e]
    refine ih (t + 1) (by omega) (fun s i hs hi => ?_)
    by_cases e : s = t + 1
    ·
     rw [e]; exact hg i hi
    ·
     exact hp s i (by omega) hi
  ·
   simp only [c, if_false]
   exact last t (by omega) c hp
theorem tight_ev {nv : Nat} {m : List Int} {M : Nat → Nat → Int} (hn : nv ≤ 8) (hm : m = lst (2 * nv) M) (hM : Bd (2 * nv) 1099511627776 M) (hd : ∀ i, i < 2 * nv → M i i = 0) :
 Ev (fun k => gimbalref11_Tight.f k m (wrap64 (2 * (nv : Int)))) (tightR (2 * nv) M) := by
 have w2 : wrap64 (2 * (nv : Int)) = ((2 * nv : Nat) : Int) := by unfold wrap64; omega
 have hl : m.length ≤ 256 := by rw [hm, lst_length]; exact Nat.mul_le_mul (show 2 * nv ≤ 16 by omega) (show 2 * nv ≤ 16 by omega)
 refine Ev.congr (fun k => by unfold gimbalref11_Tight.f; rw [if_pos (by simp; omega), List.nil_append, w2]) ?_
 rw [hm]
 exact l0_ev (n := 2 * nv) (by omega) (fun a ha => nb_lt ha) hM hd 6 0 (by omega) (fun s i hs hi => by
  have e : s = 0 := by omega
  rw [e]; show 0 ≤ M i i; rw [hd i hi]; exact Int.le_refl _)
theorem clip_f (x : Int) : gimbalref11_clip.f x = some (clipV x) := by
 unfold gimbalref11_clip.f clipV
 split
 ·
  rfl
 ·
  split <;> rfl
theorem clip_loop (vars : List Int) : ∀ (d : Nat) (l : List Int) (i : Nat) (done : List Int), i + d = l.length → l.length ≤ 1000 → done.length ≤ 1000 + i →
 Ev (fun k => gimbalref11_Close.l0 k l (l.length : Int) (i : Int) vars done false) (vars, done ++ (l.drop i).map clipV, false) := by
 intro d
 induction d with
 | zero =>
  intro l i done h _ _
  refine Ev.step (fun k => by rw [gimbalref11_Close.l0]) ?_
  have c : ¬ ((i : Int) < (l.length : Int)) := by omega
  simp only [c, if_false]
  rw [List.drop_of_length_le (by omega), List.map_nil, List.append_nil]
  exact Ev.of _
 | succ d ih =>
  intro l i done h hl hd
  refine Ev.step (fun k => by rw [gimbalref11_Close.l0]) ?_
  have c : (i : Int) < (l.length : Int) := by omega
  have c0 : (0 : Int) ≤ (i : Int) := by omega
  have c1 : done.length < 17592186044416 := by omega
  have hw : wrap64 ((i : Int) + 1) = ((i + 1 : Nat) : Int) := by unfold wrap64; omega
  simp only [c, c0, if_true, clip_f, bsome, c1, hw]
  have e : done ++ (l.drop i).map clipV = (done ++ [clipV (rd l (i : Int))]) ++ (l.drop (i + 1)).map clipV := by
   rw [List.drop_eq_getElem_cons (by omega), List.map_cons]
   have : rd l (i : Int) = l[i] := by unfold rd; rw [Int.toNat_natCast]; simp [show i < l.length by omega]
   rw [this]; simp
  rw [e]
  exact ih l (i + 1) _ (by omega) hl (by simp; omega)
theorem close_ev {vars m : List Int} {empty : Bool} (h : OFit vars m empty) : Ev (fun k => gimbalref11_Close.f k vars m empty) (closeF vars m empty) := by
 have h8 := h.1.1
 have hc : gimbalref11_copied.f vars = some vars := by unfold gimbalref11_copied.f; rw [if_pos (by simp; omega)]; rfl
 have hb : gimbalref11_Bottom.f vars = some (vars, [], true) := by unfold gimbalref11_Bottom.f gimbalref11_VarsFit.f; rw [varsB_true.2 h.1, bsome, if_pos rfl, hc]; rfl
 cases empty with
 | true =>
  refine Ev.congr (fun k => ?_) (Ev.of _)
  unfold gimbalref11_Close.f closeF
  rw [if_pos rfl, if_pos rfl, hb]; rfl
 | false =>
  obtain ⟨hM, hd⟩ := lowM_ok h
  have hm : m = lst (2 * vars.length) (lowM vars.length m) := by
   have hl : m.length = (2 * vars.length) * (2 * vars.length) := by
    have h1 := (h.2.2 rfl).1
    have e : ((m.length : Nat) : Int) = (((2 * vars.length) * (2 * vars.length) : Nat) : Int) := by rw [h1]; push_cast; rfl
    omega
   apply List.ext_getElem
   ·
    rw [lst_length]; exact hl
   ·
    intro t h1 h2
    have ht : t < (2 * vars.length) * (2 * vars.length) := by omega
    have h0 : 0 < 2 * vars.length := by
     rcases Nat.eq_zero_or_pos (2 * vars.length) with e | e
     ·
      rw [e] at ht; omega
     ·
      exact e
    have ha : t / (2 * vars.length) < 2 * vars.length := Nat.div_lt_of_lt_mul ht
    have hb := Nat.mod_lt t h0
    have hdm := Nat.div_add_mod t (2 * vars.length)
    simp only [lst, List.getElem_map, List.getElem_range]
    generalize t / (2 * vars.length) = a at *
    generalize t % (2 * vars.length) = b at *
    unfold lowM
    rw [lowAt_same h (by omega) (by omega) (by omega) (by omega)]
    have e : (a : Int) * (2 * (vars.length : Int)) + (b : Int) = (t : Int) := by
     have e2 : ((2 * vars.length * a + b : Nat) : Int) = (t : Int) := by rw [hdm]
     push_cast at e2
     rw [Int.mul_comm]; exact e2
    rw [e]; unfold rd; rw [Int.toNat_natCast]; simp [h1]
  have ht := tight_ev h8 hm hM hd
  refine Ev.congr (h := fun k => (gimbalref11_Tight.f k m (wrap64 (2 * (vars.length : Int)))).bind fun bt => (if bt.2 = true then ((gimbalref11_copied.f vars).bind fun t286 => (gimbalref11_Close.l0 k bt.1 (bt.1.length : Int) 0 t286 ([] : List Int) false)) else ((gimbalref11_Bottom.f vars).bind fun bt279 => (some (bt279.1, bt279.2.1, bt279.2.2))))) (fun k => by unfold gimbalref11_Close.f; rw [if_neg (by decide)]) ?_
  refine Ev.bind ht ?_
  unfold tightR closeF closeL
  rw [if_neg (show ¬ (false = true) by decide)]
  by_cases hcb : closeB (2 * vars.length) (lowM vars.length m) = true
  ·
   rw [if_pos hcb, if_pos hcb, hcb]
   simp only [if_true, hc, bsome]
   have := clip_loop vars _ (lst (2 * vars.length) (strg (tig (overs (lowM vars.length m) (2 * vars.length))))) 0 [] (Nat.zero_add _) (by rw [lst_length]; exact Nat.le_trans (Nat.mul_le_mul (show 2 * vars.length ≤ 16 by omega) (show 2 * vars.length ≤ 16 by omega)) (by decide)) (by simp)
   rw [List.nil_append, List.drop_zero] at this
   have e : (lst (2 * vars.length) (strg (tig (overs (lowM vars.length m) (2 * vars.length))))).map clipV = lst (2 * vars.length) (closeM (2 * vars.length) (lowM vars.length m)) := by
    unfold lst closeM; rw [List.map_map]; rfl
   rw [e] at this
   exact this
  ·
   rw [if_neg hcb, if_neg hcb]
   have hcb' : closeB (2 * vars.length) (lowM vars.length m) = false := by simpa using hcb
   rw [hcb']
   simp only [Bool.false_eq_true, if_false, hb, bsome]
   exact Ev.of _
end Go.Proofs.Ytphfchbggechhaa.Pure
end
end
section
namespace Go.Proofs.Ytphfchbggechhaa.Most
open Go.RowKit Ytphfchbggechhaa.QO YtphfchbggechhaaW.PrintWords YtphfchbggechhaaW.PrintLast YtphfchbggechhaaW.PrintMore
open OctMath (Fin')
open Ytphfchbggechhaa.Pure (bsome half_f)
structure Mat (n : Nat) (m : List Int) : Prop where
 n8 : n ≤ 8
 len : (m.length : Int) = (2 * (n : Int)) * (2 * (n : Int))
 sm : ∀ i j : Int, 0 ≤ i → i < 2 * (n : Int) → 0 ≤ j → j < 2 * (n : Int) → Arith.Sm (rd m (i * (2 * (n : Int)) + j))
 low : ∀ i j : Int, 0 ≤ i → i < 2 * (n : Int) → 0 ≤ j → j < 2 * (n : Int) → lowAt (2 * (n : Int)) m i j = rd m (i * (2 * (n : Int)) + j)
theorem half_sm {g : Int} (h : Arith.Sm g) : Arith.Sm (half g) := by
 unfold Arith.Sm at *; unfold half; split <;> omega
theorem idx {n i j : Int} (hn : n ≤ 16) (hi : 0 ≤ i) (hi' : i < n) (hj : 0 ≤ j) (hj' : j < n) : wrap64 (wrap64 (i * n) + j) = i * n + j ∧ 0 ≤ i * n + j ∧ i * n + j < n * n := by
 have h1 : 0 ≤ i * n := Int.mul_nonneg hi (by omega)
 have h2 : (i + 1) * n ≤ n * n := Int.mul_le_mul_of_nonneg_right (by omega) (by omega)
 have h3 : n * n ≤ 16 * 16 := Int.mul_le_mul hn hn (by omega) (by decide)
 rw [Int.add_mul, Int.one_mul] at h2
 have h4 : wrap64 (i * n) = i * n := by unfold wrap64; omega
 rw [h4]
 refine ⟨by unfold wrap64; omega, by omega, by omega⟩
theorem most (l m : List Int) (e : Bool) (h : Mat l.length m) (x sx y sy c : Int)
 (hx : sx ≠ 0 → ∀ v, (∀ k, l.length < k → gimbalref11_Place.f k l m e x = some v) → 0 ≤ v)
 (hy : sx ≠ 0 → sy ≠ 0 → ∀ v, (∀ k, l.length < k → gimbalref11_Place.f k l m e y = some v) → 0 ≤ v) :
 ∃ g, Arith.Sm g ∧ ∀ k, l.length < k → oct_most.f k l m e x sx y sy c = some g ∧ gimbalref11_greatest.f k l m e x sx y sy c = some g := by
 have n8 := h.n8
 have hw : wrap64 (2 * (l.length : Int)) = 2 * (l.length : Int) := by unfold wrap64; omega
 by_cases h0 : sx = 0
 ·
  refine ⟨0, .inr (by omega), fun k hk => ?_⟩
  unfold oct_most.f gimbalref11_greatest.f
  rw [if_pos h0, if_pos h0]; exact ⟨rfl, rfl⟩
 ·
  obtain ⟨v, v1, v2, v3, v4, v5⟩ := Places.node l m e (by omega) x
  have v0 := hx h0 v v3
  obtain ⟨X, hX⟩ : ∃ X, (if 0 ≤ v ∧ sx < 0 then 2 * v + 1 else 2 * v) = X := ⟨_, rfl⟩
  have X0 : 0 ≤ X ∧ X < 2 * (l.length : Int) := by rw [← hX]; split <;> omega
  have nX := nbar_in (i := X) (n := l.length) X0.1 X0.2
  have hb : gimbalref11_bar.f X = some (nbar X) := by unfold gimbalref11_bar.f; rw [if_pos ⟨X0.1, by omega⟩]
  by_cases hs : sy = 0
  ·
   obtain ⟨i1, i2, i3⟩ := idx (n := 2 * (l.length : Int)) (by omega) nX.1 nX.2 X0.1 X0.2
   have hsm := h.sm (nbar X) X nX.1 nX.2 X0.1 X0.2
   obtain ⟨g, hg⟩ : ∃ g, rd m (nbar X * (2 * (l.length : Int)) + X) = g := ⟨_, rfl⟩
   rw [hg] at hsm
   have hf : Fin' 1152921504606846976 g := by unfold Arith.Sm at hsm; unfold OctMath.Fin'; omega
   refine ⟨half g, half_sm hsm, fun k hk => ?_⟩
   unfold oct_most.f gimbalref11_greatest.f
   rw [if_neg h0, if_neg h0, v4 sx k hk, v3 k hk, hX, bsome, if_pos ⟨n8, h.len, X0.1, X0.2⟩, if_pos hs, h.low _ _ nX.1 nX.2 X0.1 X0.2, hg, half_half hf, bsome, v5 sx h0 v0, hX, bsome, if_pos hs, hb, bsome, hw, i1, if_pos i2, if_pos (by rw [h.len]; exact i3), hg]
   refine ⟨rfl, ?_⟩
   by_cases he : g = 4611686018427387904
   ·
    rw [if_pos he]; unfold half; rw [if_pos he, he]
   ·
    rw [if_neg he, half_f hf he, bsome]
  ·
   obtain ⟨u, u1, u2, u3, u4, u5⟩ := Places.node l m e (by omega) y
   have u0 := hy h0 hs u u3
   obtain ⟨Y, hY⟩ : ∃ Y, (if 0 ≤ u ∧ sy < 0 then 2 * u + 1 else 2 * u) = Y := ⟨_, rfl⟩
   have Y0 : 0 ≤ Y ∧ Y < 2 * (l.length : Int) := by rw [← hY]; split <;> omega
   obtain ⟨i1, i2, i3⟩ := idx (n := 2 * (l.length : Int)) (by omega) nX.1 nX.2 Y0.1 Y0.2
   refine ⟨rd m (nbar X * (2 * (l.length : Int)) + Y), h.sm _ _ nX.1 nX.2 Y0.1 Y0.2, fun k hk => ?_⟩
   unfold oct_most.f gimbalref11_greatest.f
   rw [if_neg h0, if_neg h0, v4 sx k hk, v3 k hk, hX, bsome, if_pos ⟨n8, h.len, X0.1, X0.2⟩, if_neg hs, u4 sy k hk, hY, bsome, if_pos ⟨Y0.1, Y0.2⟩, h.low _ _ nX.1 nX.2 Y0.1 Y0.2, bsome, v5 sx h0 v0, hX, bsome, if_neg hs, u3 k hk, bsome, u5 sy hs u0, hY, bsome, hb, bsome, hw, i1, if_pos i2, if_pos (by rw [h.len]; exact i3)]
   exact ⟨rfl, rfl⟩
end Go.Proofs.Ytphfchbggechhaa.Most
end
section
namespace Go.Proofs.Ytphfchbggechhaa.QO
open Go.RowKit YtphfchbggechhaaW.PrintWords YtphfchbggechhaaW.PrintLast YtphfchbggechhaaW.PrintMore
theorem fit_mat {vars m : List Int} (h : OFit vars m false) (h8 : vars.length ≤ 8) : Most.Mat vars.length m := by
 refine ⟨h8, (h.2.2 rfl).1, fun i j h0 h1 h2 h3 => ?_, fun i j h0 h1 h2 h3 => lowAt_same h h0 h1 h2 h3⟩
 have e := ((h.2.2 rfl).2 i j h0 h1 h2 h3).1
 unfold Arith.Sm
 rcases e with e | e
 ·
  exact .inl e
 ·
  right; omega
end Go.Proofs.Ytphfchbggechhaa.QO
end
section
noncomputable section
namespace Go.Proofs.Ytphfchbggechhaa.Pure
open Go.RowKit Ytphfchbggechhaa.QO YtphfchbggechhaaW.PrintWords YtphfchbggechhaaW.PrintLast YtphfchbggechhaaW.PrintMore
open OctMath (Le Fin')
set_option linter.unusedVariables false
namespace BndF
def nX (v s : Int) : Nat := (if 0 ≤ v ∧ s < 0 then 2 * v + 1 else 2 * v).toNat
def mostF (N : Mx) (v sx u sy : Int) : Int := if sx = 0 then 0 else if sy = 0 then half (N (nb (nX v sx)) (nX v sx)) else N (nb (nX v sx)) (nX u sy)
theorem nX_lt {v s : Int} {n : Nat} (h0 : 0 ≤ v) (h1 : v < n) : nX v s < 2 * n := by unfold nX; split <;> omega
theorem nX_int {v s : Int} (h0 : 0 ≤ v) : (if 0 ≤ v ∧ s < 0 then 2 * v + 1 else 2 * v) = (nX v s : Int) := by unfold nX; split <;> omega
section
variable {vars : List Int} {N : Mx}
theorem most_f (hv : VarsOk vars) (hN : Snd (2 * vars.length) N) {x y v u : Int} (hx : v < vars.length) (hy : u < vars.length)
 (nx : ∀ (m : List Int) (e : Bool) (s : Int) (k : Nat), vars.length < k → oct_node.f k vars m e x s = some (if 0 ≤ v ∧ s < 0 then 2 * v + 1 else 2 * v))
 (ny : ∀ (m : List Int) (e : Bool) (s : Int) (k : Nat), vars.length < k → oct_node.f k vars m e y s = some (if 0 ≤ u ∧ s < 0 then 2 * u + 1 else 2 * u))
 (sx sy c : Int) (h0 : sx ≠ 0 → 0 ≤ v) (h1 : sy ≠ 0 → 0 ≤ u) (e : Bool) (k : Nat) (hk : vars.length < k) : oct_most.f k vars (lst (2 * vars.length) N) e x sx y sy c = some (mostF N v sx u sy) := by
 have h8 := hv.1
 have hlen : ((lst (2 * vars.length) N).length : Int) = (2 * (vars.length : Int)) * (2 * (vars.length : Int)) := by rw [lst_length]; push_cast; rfl
 unfold oct_most.f mostF
 by_cases z : sx = 0
 ·
  rw [if_pos z, if_pos z]
 ·
  rw [if_neg z, if_neg z, nx _ _ _ _ hk, nX_int (h0 z)]
  simp only [Option.bind_some]
  have hX := nX_lt (s := sx) (h0 z) hx
  rw [if_pos ⟨h8, hlen, by omega, by omega⟩]
  have hn := nb_lt hX
  have low : ∀ j, j < 2 * vars.length → lowAt (2 * (vars.length : Int)) (lst (2 * vars.length) N) (nbar (nX v sx : Int)) (j : Int) = N (nb (nX v sx)) j := fun j hj => by
   rw [nbar_nb]; exact lowM_lst hv hN _ _ hn hj
  by_cases z2 : sy = 0
  ·
   rw [if_pos z2, if_pos z2, low _ hX]
   have := hN.bd _ _ hn hX
   exact half_half (by unfold Fin' at *; omega)
  ·
   rw [if_neg z2, if_neg z2, ny _ _ _ _ hk, nX_int (h1 z2)]
   simp only [Option.bind_some]
   have hY := nX_lt (s := sy) (h1 z2) hy
   rw [if_pos ⟨by omega, by omega⟩, low _ hY]
theorem most_sm (hN : Snd (2 * vars.length) N) {v u sx sy : Int} (hx : v < vars.length) (hy : u < vars.length) (h0 : sx ≠ 0 → 0 ≤ v) (h1 : sy ≠ 0 → 0 ≤ u) : Arith.Sm (mostF N v sx u sy) := by
 unfold mostF
 split
 ·
  exact .inr (by omega)
 ·
  rename_i z
  have hX := nX_lt (s := sx) (h0 z) hx
  have hn := nb_lt hX
  split
  ·
   have := hN.bd _ _ hn hX
   unfold Fin' at this; unfold Arith.Sm half; split <;> omega
  ·
   rename_i z2
   have hY := nX_lt (s := sy) (h1 z2) hy
   have := hN.bd _ _ hn hY
   unfold Fin' at this; unfold Arith.Sm; omega
theorem most_mono {N' : Mx} (hN : Snd (2 * vars.length) N) (hN' : Snd (2 * vars.length) N') (hl : Le (2 * vars.length) N N') {v u sx sy : Int} (hx : v < vars.length) (hy : u < vars.length) (h0 : sx ≠ 0 → 0 ≤ v) (h1 : sy ≠ 0 → 0 ≤ u) : mostF N v sx u sy ≤ mostF N' v sx u sy := by
 unfold mostF
 split
 ·
  exact Int.le_refl _
 ·
  rename_i z
  have hX := nX_lt (s := sx) (h0 z) hx
  have hn := nb_lt hX
  split
  ·
   have b1 := hN.bd _ _ hn hX; have b2 := hN'.bd _ _ hn hX
   have := hl _ _ hn hX
   unfold Fin' at b1 b2; unfold half; split <;> split <;> omega
  ·
   rename_i z2
   exact hl _ _ hn (nX_lt (s := sy) (h1 z2) hy)
def loF (c f : Int) : Int := if f = 4611686018427387904 then -4611686018427387904 else c - f
def hiF (c g : Int) : Int := if g = 4611686018427387904 then 4611686018427387904 else c + g
theorem lo_mono {c f f' : Int} (h : f ≤ f') (hf : Arith.Sm f) (hf' : Arith.Sm f') (hc : -4611686018427 ≤ c ∧ c ≤ 4611686018427) : loF c f' ≤ loF c f := by
 unfold Arith.Sm at *; unfold loF; split <;> split <;> omega
theorem hi_mono {c f f' : Int} (h : f ≤ f') (hf : Arith.Sm f) (hf' : Arith.Sm f') (hc : -4611686018427 ≤ c ∧ c ≤ 4611686018427) : hiF c f ≤ hiF c f' := by
 unfold Arith.Sm at *; unfold hiF; split <;> split <;> omega
end
def bndF (v m : List Int) (e : Bool) (x sx y sy c : Int) : Int × Int :=
 if (closeF v m e).2.2 = true then (1, 0) else if (sx ≠ 0 ∧ placeF v x < 0) ∨ (sy ≠ 0 ∧ placeF v y < 0) then (-4611686018427387904, 4611686018427387904)
 else (loF c (mostF (closeM (2 * v.length) (lowM v.length m)) (placeF v x) (-sx) (placeF v y) (-sy)), hiF c (mostF (closeM (2 * v.length) (lowM v.length m)) (placeF v x) sx (placeF v y) sy))
theorem node_at (l : List Int) (hl : l.length ≤ 1000) (x : Int) : ∀ (m : List Int) (e : Bool) (s : Int) (k : Nat), l.length < k → oct_node.f k l m e x s = some (if 0 ≤ placeF l x ∧ s < 0 then 2 * placeF l x + 1 else 2 * placeF l x) := by
 intro m e s k hk
 obtain ⟨v, h1, h2, h3, h4, _⟩ := Places.node l m e (by omega) x
 obtain ⟨K, hK⟩ := rplace_f l m e x hl
 have e1 := h3 (l.length + 1 + K) (by omega)
 have e3 := hK (l.length + 1 + K) (by omega)
 have e2 : v = placeF l x := Option.some.inj (e1.symm.trans e3)
 rw [← e2]
 exact h4 s k hk
theorem omost_ev {v m : List Int} {e : Bool} {C : Mx} (h : OFit v m e) (hcl : closeF v m e = (v, lst (2 * v.length) C, false)) (hC : Snd (2 * v.length) C) (x sx y sy c : Int) (hx : sx ≠ 0 → 0 ≤ placeF v x) (hy : sy ≠ 0 → 0 ≤ placeF v y) (k : Nat) (hk : v.length < k) :
 oct_most.f k v (lst (2 * v.length) C) false x sx y sy c = some (mostF C (placeF v x) sx (placeF v y) sy) ∧ gimbalref11_greatest.f k v (lst (2 * v.length) C) false x sx y sy c = some (mostF C (placeF v x) sx (placeF v y) sy) := by
 have hl : v.length ≤ 1000 := by have := h.1.1; omega
 have e1 := fun k => most_f h.1 hC (placeF_lt v x).2 (placeF_lt v y).2 (node_at v hl x) (node_at v hl y) sx sy c hx hy false k
 have pl : ∀ a u : Int, (∀ k, v.length < k → gimbalref11_Place.f k v (lst (2 * v.length) C) false a = some u) → u = placeF v a := fun a u hu => by
  obtain ⟨K, hK⟩ := rplace_f v (lst (2 * v.length) C) false a hl
  exact Option.some.inj ((hu (v.length + 1 + K) (by omega)).symm.trans (hK (v.length + 1 + K) (by omega)))
 obtain ⟨g, _, hg⟩ := Most.most v (lst (2 * v.length) C) false (fit_mat (fit_of_snd h.1 hC) h.1.1) x sx y sy c (fun hs u hu => by rw [pl x u hu]; exact hx hs) (fun _ hs u hu => by rw [pl y u hu]; exact hy hs)
 have e2 : g = mostF C (placeF v x) sx (placeF v y) sy := Option.some.inj ((hg k hk).1.symm.trans (e1 k hk))
 exact ⟨e1 k hk, by rw [(hg k hk).2, e2]⟩
end BndF
end Go.Proofs.Ytphfchbggechhaa.Pure
end
end
section
noncomputable section
namespace Go.Proofs.Ytphfchbggechhaa.QO
open Go.RowKit Go.Shelf YtphfchbggechhaaW.PrintWords YtphfchbggechhaaW.PrintLast YtphfchbggechhaaW.PrintMore
theorem eq_arr2 {P : Program} {w : World} {t e : TypeId} {d : Nat} {a b a' b' : Int} (i : TypeInfo) (ht : P.underlying t = some (.array 2 e)) (he : P.underlying e = some (.int .i64)) (hi : P.info? e = some i) (hs : P.cellsOf e = 1) :
 (Op.equalIn (d + 2) t (.agg #[.int .i64 a, .int .i64 b]) (.agg #[.int .i64 a', .int .i64 b'])).run P w = .ok (a == a' && b == b') w := by
 have pk : P.plainKey e = true := by unfold Program.plainKey; simp [he]
 rw [run_equalIn_array w (d + 1) _ _ ht hi, hs]
 have p0 := fun (v u : Int) => run_part_plain (P := P) w pk (xs := #[.int .i64 v, .int .i64 u]) (off := 0) (v := .int .i64 v) rfl
 have p1 := fun (v u : Int) => run_part_plain (P := P) w pk (xs := #[.int .i64 v, .int .i64 u]) (off := 1) (v := .int .i64 u) rfl
 have q := fun (v u : Int) => run_equalIn_int (P := P) w d e .i64 .i64 v u he
 rw [show List.range 2 = [0, 1] from rfl]
 simp only [Op.eqItems, Sem.run_bind, Nat.zero_mul, Nat.one_mul, p0, q, Result.andThen_ok]
 cases (a == a')
 ·
  simp
 ·
  rw [if_neg (by simp)]
  simp only [Sem.run_bind]
  rw [p1]
  simp only [Result.andThen_ok]
  rw [p1]
  simp only [Result.andThen_ok]
  rw [q]
  cases (b == b') <;> simp
end Go.Proofs.Ytphfchbggechhaa.QO
end
end
section
noncomputable section
namespace Go.Proofs.Ytphfchbggechhaa.QO
open Go.RowKit Go.Shelf YtphfchbggechhaaW.PrintWords YtphfchbggechhaaW.PrintLast YtphfchbggechhaaW.PrintMore
open Ytphfchbggechhaa.Pure
attribute [local go_sem] Oper.semAt_some
attribute [local go_sem ↓] Go.wp_at_zero Go.wp_at_succ
set_option linter.unusedVariables false
set_option linter.unusedSimpArgs false
def upG (a b c d : Nat) (hi : Int) (i j : Nat) (e : Int) : Int := if (i = a ∧ j = b) ∨ (i = c ∧ j = d) then mn e hi else e
theorem two_no {i j a b : Nat} (h : ¬ (i = a ∧ j = b)) : ((i : Int) == (a : Int) && (j : Int) == (b : Int)) = false := by
 rw [Bool.eq_false_iff]
 intro e
 have e' := e
 simp only [Bool.and_eq_true, beq_iff_eq] at e'
 exact h ⟨by omega, by omega⟩
theorem two_yes {i j a b : Nat} (h : i = a ∧ j = b) : ((i : Int) == (a : Int) && (j : Int) == (b : Int)) = true := by
 obtain ⟨rfl, rfl⟩ := h
 simp
theorem upper_will (gp gh a b c d n : Nat) (hi : Int) {w : World} (hp : w.heap[gp]? = some (.cells #[.int .i64 (a : Int), .int .i64 (b : Int), .int .i64 (c : Int), .int .i64 (d : Int)] 99 (0, 0))) (hh : w.heap[gh]? = some (.cells #[.int .i64 hi] 2 (0, 0))) : Will3 103 #[.pointer (some ⟨gp, 0, none⟩), .pointer (some ⟨gh, 0, none⟩)] n (upG a b c d hi) w := by
 intro W i j e hb _ _
 have p_ := (hb.block gp (blk_lt hp)).trans hp
 have h_ := (hb.block gh (blk_lt hh)).trans hh
 have hu98 := Try.underlying98
 have hu99 := Try.underlying99
 have P_ := Aside0.mk p_
 have H_ := Aside0.mk h_
 unfold upG
 by_cases h1 : i = a ∧ j = b
 ·
  have H1 := Aside0.mk (two_yes h1)
  rw [if_pos (.inl h1)]
  clear h1
  clear hb hp hh p_ h_
  go_enter Try.func103, Try.ntmps103
  go_upto_region 2 with fail
  have n0 := blk_new W (.cells #[.int .i64 (i : Int), .int .i64 (j : Int)] 98 (0, 0))
  have p1 := blk_alloc P_.out (.cells #[.int .i64 (i : Int), .int .i64 (j : Int)] 98 (0, 0))
  have h1 := blk_alloc H_.out (.cells #[.int .i64 (i : Int), .int .i64 (j : Int)] 98 (0, 0))
  have HB : Aside0 (Below W.heap.size W (W.alloc (.cells #[.int .i64 (i : Int), .int .i64 (j : Int)] 98 (0, 0)))) := ⟨below_alloc (Below.refl _ _) _⟩
  generalize hW1 : W.alloc _ = W1 at n0 p1 h1 HB ⊢
  clear hW1 P_ H_
  have k0 : W1.cell? ⟨gp, 0, none⟩ = some (.int .i64 (a : Int)) := blk_cell p1 0
  have k1 : W1.cell? ⟨gp, 1, none⟩ = some (.int .i64 (b : Int)) := blk_cell p1 1
  have k2 : W1.cell? ⟨gp, 2, none⟩ = some (.int .i64 (c : Int)) := blk_cell p1 2
  have k3 : W1.cell? ⟨gp, 3, none⟩ = some (.int .i64 (d : Int)) := blk_cell p1 3
  have k4 : W1.cell? ⟨gh, 0, none⟩ = some (.int .i64 hi) := blk_cell h1 0
  have k5 : W1.cell? ⟨W.heap.size, 0, none⟩ = some (.int .i64 (i : Int)) := blk_cell n0 0
  have k6 : W1.cell? ⟨W.heap.size, 1, none⟩ = some (.int .i64 (j : Int)) := blk_cell n0 1
  clear n0 p1 h1
  obtain ⟨i3, hi3⟩ : ∃ i, Try.prog.info? 3 = some i := Option.isSome_iff_exists.1 (by kernel_rfl)
  have e1 := eq_arr2 (w := W1) (d := 9998) (a := (i : Int)) (b := (j : Int)) (a' := (a : Int)) (b' := (b : Int)) i3 hu98 Try.underlying3 hi3 (by kernel_rfl)
  rw [H1.out] at e1
  clear hi3
  go_wp2
  all_goals go_ret
  all_goals refine ⟨?_, HB.out⟩
  all_goals unfold mn
  all_goals (repeat' split) <;> first | rfl | (congr 2; omega)
 ·
  have H1 := Aside0.mk (two_no h1)
  by_cases h2 : i = c ∧ j = d
  ·
   have H2 := Aside0.mk (two_yes h2)
   rw [if_pos (.inr h2)]
   clear h1 h2
   clear hb hp hh p_ h_
   go_enter Try.func103, Try.ntmps103
   go_upto_region 2 with fail
   have n0 := blk_new W (.cells #[.int .i64 (i : Int), .int .i64 (j : Int)] 98 (0, 0))
   have p1 := blk_alloc P_.out (.cells #[.int .i64 (i : Int), .int .i64 (j : Int)] 98 (0, 0))
   have h1 := blk_alloc H_.out (.cells #[.int .i64 (i : Int), .int .i64 (j : Int)] 98 (0, 0))
   have HB : Aside0 (Below W.heap.size W (W.alloc (.cells #[.int .i64 (i : Int), .int .i64 (j : Int)] 98 (0, 0)))) := ⟨below_alloc (Below.refl _ _) _⟩
   generalize hW1 : W.alloc _ = W1 at n0 p1 h1 HB ⊢
   clear hW1 P_ H_
   have k0 : W1.cell? ⟨gp, 0, none⟩ = some (.int .i64 (a : Int)) := blk_cell p1 0
   have k1 : W1.cell? ⟨gp, 1, none⟩ = some (.int .i64 (b : Int)) := blk_cell p1 1
   have k2 : W1.cell? ⟨gp, 2, none⟩ = some (.int .i64 (c : Int)) := blk_cell p1 2
   have k3 : W1.cell? ⟨gp, 3, none⟩ = some (.int .i64 (d : Int)) := blk_cell p1 3
   have k4 : W1.cell? ⟨gh, 0, none⟩ = some (.int .i64 hi) := blk_cell h1 0
   have k5 : W1.cell? ⟨W.heap.size, 0, none⟩ = some (.int .i64 (i : Int)) := blk_cell n0 0
   have k6 : W1.cell? ⟨W.heap.size, 1, none⟩ = some (.int .i64 (j : Int)) := blk_cell n0 1
   clear n0 p1 h1
   obtain ⟨i3, hi3⟩ : ∃ i, Try.prog.info? 3 = some i := Option.isSome_iff_exists.1 (by kernel_rfl)
   have e1 := eq_arr2 (w := W1) (d := 9998) (a := (i : Int)) (b := (j : Int)) (a' := (a : Int)) (b' := (b : Int)) i3 hu98 Try.underlying3 hi3 (by kernel_rfl)
   rw [H1.out] at e1
   have e2 := eq_arr2 (w := W1) (d := 9998) (a := (i : Int)) (b := (j : Int)) (a' := (c : Int)) (b' := (d : Int)) i3 hu98 Try.underlying3 hi3 (by kernel_rfl)
   rw [H2.out] at e2
   clear hi3
   go_wp2
   all_goals go_ret
   all_goals refine ⟨?_, HB.out⟩
   all_goals unfold mn
   all_goals (repeat' split) <;> first | rfl | (congr 2; omega)
  ·
   have H2 := Aside0.mk (two_no h2)
   rw [if_neg (fun h => h.elim h1 h2)]
   clear h1 h2
   clear hb hp hh p_ h_
   go_enter Try.func103, Try.ntmps103
   go_upto_region 2 with fail
   have n0 := blk_new W (.cells #[.int .i64 (i : Int), .int .i64 (j : Int)] 98 (0, 0))
   have p1 := blk_alloc P_.out (.cells #[.int .i64 (i : Int), .int .i64 (j : Int)] 98 (0, 0))
   have h1 := blk_alloc H_.out (.cells #[.int .i64 (i : Int), .int .i64 (j : Int)] 98 (0, 0))
   have HB : Aside0 (Below W.heap.size W (W.alloc (.cells #[.int .i64 (i : Int), .int .i64 (j : Int)] 98 (0, 0)))) := ⟨below_alloc (Below.refl _ _) _⟩
   generalize hW1 : W.alloc _ = W1 at n0 p1 h1 HB ⊢
   clear hW1 P_ H_
   have k0 : W1.cell? ⟨gp, 0, none⟩ = some (.int .i64 (a : Int)) := blk_cell p1 0
   have k1 : W1.cell? ⟨gp, 1, none⟩ = some (.int .i64 (b : Int)) := blk_cell p1 1
   have k2 : W1.cell? ⟨gp, 2, none⟩ = some (.int .i64 (c : Int)) := blk_cell p1 2
   have k3 : W1.cell? ⟨gp, 3, none⟩ = some (.int .i64 (d : Int)) := blk_cell p1 3
   have k4 : W1.cell? ⟨gh, 0, none⟩ = some (.int .i64 hi) := blk_cell h1 0
   have k5 : W1.cell? ⟨W.heap.size, 0, none⟩ = some (.int .i64 (i : Int)) := blk_cell n0 0
   have k6 : W1.cell? ⟨W.heap.size, 1, none⟩ = some (.int .i64 (j : Int)) := blk_cell n0 1
   clear n0 p1 h1
   obtain ⟨i3, hi3⟩ : ∃ i, Try.prog.info? 3 = some i := Option.isSome_iff_exists.1 (by kernel_rfl)
   have e1 := eq_arr2 (w := W1) (d := 9998) (a := (i : Int)) (b := (j : Int)) (a' := (a : Int)) (b' := (b : Int)) i3 hu98 Try.underlying3 hi3 (by kernel_rfl)
   rw [H1.out] at e1
   have e2 := eq_arr2 (w := W1) (d := 9998) (a := (i : Int)) (b := (j : Int)) (a' := (c : Int)) (b' := (d : Int)) i3 hu98 Try.underlying3 hi3 (by kernel_rfl)
   rw [H2.out] at e2
   clear hi3
   go_wp2
   all_goals go_ret
   all_goals exact ⟨rfl, HB.out⟩
end Go.Proofs.Ytphfchbggechhaa.QO
end
end
section
noncomputable section
namespace Go.Proofs.Ytphfchbggechhaa.QO
open Go.RowKit Go.Shelf YtphfchbggechhaaW.PrintWords YtphfchbggechhaaW.PrintLast YtphfchbggechhaaW.PrintMore
open Ytphfchbggechhaa.Pure
set_option linter.unusedVariables false
def nd (p : Nat) (s : Int) : Nat := if s < 0 then 2 * p + 1 else 2 * p
theorem nd_lt {p n : Nat} {s : Int} (h : p < n) : nd p s < 2 * n := by unfold nd; split <;> omega
theorem node_f (p : Nat) (s : Int) (hp : p < 100) : octop_node.f (p : Int) s = some ((nd p s : Nat) : Int) := by
 have h1 : wrap64 (2 * (p : Int)) = 2 * (p : Int) := by unfold wrap64; omega
 have h2 : wrap64 (2 * (p : Int) + 1) = 2 * (p : Int) + 1 := by unfold wrap64; omega
 unfold octop_node.f nd
 rw [h1, h2]
 by_cases h : s < 0
 ·
  rw [if_pos h, if_pos h]; push_cast; rfl
 ·
  rw [if_neg h, if_neg h]; push_cast; rfl
theorem taken_f (x : Int) : octop_taken.f x = some (clipV x) := by
 unfold octop_taken.f clipV mx
 by_cases h : x > 1099511627776
 ·
  rw [if_pos h, if_pos h]
 ·
  rw [if_neg h, if_neg h]
def bupF (a b : Int) : Int := if bfit a = 4611686018427387904 ∨ bfit b = 4611686018427387904 then 4611686018427387904 else mn (mx (bfit a + bfit b) (-4611686018427387903)) 4611686018427387904
theorem bfit_bd (a : Int) : -4611686018427387904 ≤ bfit a ∧ bfit a ≤ 4611686018427387904 := by
 unfold bfit
 repeat' split
 all_goals omega
theorem bup_f (a b : Int) : bound_Up.f a b = some (bupF a b) := by
 unfold bound_Up.f bound_Fit.f bupF
 simp only [Option.bind_some]
 have h1 := bfit_bd a
 have h2 := bfit_bd b
 generalize bfit a = x at *
 generalize bfit b = y at *
 by_cases e : x = 4611686018427387904
 ·
  rw [if_pos e, if_pos (.inl e)]
 ·
  rw [if_neg e]
  by_cases e' : y = 4611686018427387904
  ·
   rw [if_pos e', if_pos (.inr e')]
  ·
   rw [if_neg e', if_neg (fun h => h.elim e e')]
   have h3 : wrap64 (x + y) = x + y := by unfold wrap64; omega
   rw [h3]
def bnegF (a : Int) : Int := - bfit a
theorem bneg_f (a : Int) : bound_Neg.f a = some (bnegF a) := by
 unfold bound_Neg.f bound_Fit.f bnegF
 simp only [Option.bind_some]
 have h1 := bfit_bd a
 have h3 : wrap64 (-bfit a) = -bfit a := by unfold wrap64; omega
 rw [h3]
section
variable {W : World}
theorem says_of {f : Nat} {args : Array Value} {v : Value} (h : Calls Try.prog f args W fun e w' => e = .returned v ∧ Drawn0 W w') : Says f args W v := h.mono (fun _ _ q => ⟨q.1, q.2.below⟩)
theorem node_as {p N : Nat} (s : Int) (hp : p < 100) (hN : nd p s = N) : Says 101 #[.int .i64 (p : Int), .int .i64 s] W (.int .i64 (N : Int)) := by
 subst hN
 exact says_of (octop_node.calls (p : Int) s _ W (node_f p s hp))
theorem taken_as {x r : Int} (h : clipV x = r) : Says 102 #[.int .i64 x] W (.int .i64 r) := by
 subst h
 exact octop_taken.calls x _ W (taken_f x)
theorem bup_as {a b r : Int} (h : bupF a b = r) : Says 60 #[.int .i64 a, .int .i64 b] W (.int .i64 r) := by
 subst h
 exact bound_Up.calls a b _ W (bup_f a b)
theorem bneg_as {a r : Int} (h : bnegF a = r) : Says 61 #[.int .i64 a] W (.int .i64 r) := by
 subst h
 exact says_of (bound_Neg.calls a _ W (bneg_f a))
end
theorem xor_nb {N : Nat} (h : N < 16) : Go.bits .xor .i64 (N : Int) 1 = ((nb N : Nat) : Int) := by
 rw [xor_one _ (by omega) (by omega), nbar_nb]
def upM (C : Mx) (a b : Nat) (h : Int) : Mx := fun i j => if i = j then C i j else upG a b (nb b) (nb a) h i j (C i j)
def upC (C : Mx) (p : Nat) (sx : Int) (q : Nat) (sy hi : Int) : Mx :=
 if hi = 4611686018427387904 then C else if sy = 0 then upM C (nb (nd p sx)) (nd p sx) (clipV (bupF hi hi)) else upM C (nb (nd p sx)) (nd q sy) (clipV hi)
end Go.Proofs.Ytphfchbggechhaa.QO
end
end
section
noncomputable section
namespace Go.Proofs.Ytphfchbggechhaa.QO
open Go.RowKit Go.Shelf YtphfchbggechhaaW.PrintWords YtphfchbggechhaaW.PrintLast YtphfchbggechhaaW.PrintMore
open Ytphfchbggechhaa.Pure
attribute [local go_sem] Oper.semAt_some
attribute [local go_sem ↓] Go.wp_at_zero Go.wp_at_succ
set_option linter.unusedVariables false
set_option linter.unusedSimpArgs false
theorem each_eq {n : Nat} {C : Mx} {a b c d : Nat} {h : Int} (hb : nb b = c) (ha : nb a = d) : lst n (fun i j => if i = j then C i j else upG a b c d h i j (C i j)) = lst n (upM C a b h) := by
 subst hb ha; rfl
theorem upper_ms (X : OV) (sx x sy y hi : Int) {v : List Int} {C : Mx} {p q : Nat} {w0 w : World} (hX : Oc w0 w X) (h0 : Below w0.heap.size w0 w) (ho : X.o = (v, lst (2 * v.length) C, false)) (l8 : v.length ≤ 8) (hp : placeF v x = (p : Int)) (hq : sy ≠ 0 → placeF v y = (q : Int)) :
 Calls Try.prog 59 #[X.val, .int .i64 sx, .int .i64 x, .int .i64 sy, .int .i64 y, .int .i64 hi] w fun e W' => ∃ z : OV, e = .returned z.val ∧ z.o = (v, lst (2 * v.length) (upC C p sx q sy hi), false) ∧ (∀ w0 os fs, MS w0 (X :: os) fs w → MS w0 (z :: os) fs W') ∧ Below w.heap.size w W' := by
 have hu25 := Try.underlying25
 have HX : Aside0 (Oc w w X) := ⟨⟨⟨hX.r0.le, .inl (hX.r0.reads h0)⟩, ⟨hX.r1.le, .inl (hX.r1.reads h0)⟩⟩⟩
 have L8 := Aside0.mk l8
 have LK : Aside0 (v.length ≤ 1000) := ⟨by omega⟩
 have hpl := placeF_lt v x
 have hN := nd_lt (n := v.length) (s := sx) (show p < v.length by omega)
 have PL : Aside0 (p < 100) := ⟨by omega⟩
 have HP := Aside0.mk hp
 unfold upC
 by_cases hI : hi = 4611686018427387904
 ·
  subst hI
  rw [if_pos rfl]
  have HO := Aside0.mk ho
  clear hX h0 ho l8 hp hq hpl hN
  go_enter Try.func59, Try.ntmps59
  go_upto_region 1 with fail
  have HM := MS.n3 w X.cells (.cells #[.int .i64 4611686018427387904] 2 (0, 0)) zeroO
  generalize World.alloc _ _ = wk at HM ⊢
  generalize w.heap.size + 2 = gr at HM ⊢
  generalize w.heap.size + 1 = gh at HM ⊢
  generalize w.heap.size = gc at HM ⊢
  have kgr := MS.c3 HM m0_; have kgh := MS.c1 HM m1_; have kgc := MS.c3 HM m2_
  go_wp2
  replace HM := MS.po0 X HM
  generalize World.setCell _ _ _ = wk at HM ⊢
  replace kgr := MS.c3 HM m0_; replace kgh := MS.c1 HM m1_; replace kgc := MS.c3 HM m2_
  refine MS.rt HM m0_ ?_
  exact ⟨X, rfl, HO.out, fun _ _ _ h => h.next HM.out.S.below, HM.out.S.below⟩
 ·
  rw [if_neg hI]
  have HI : Aside0 ((hi == 4611686018427387904) = false) := ⟨by simpa using hI⟩
  obtain ⟨N, eN⟩ : ∃ N, nd p sx = N := ⟨_, rfl⟩
  obtain ⟨M, eM⟩ : ∃ M, nb N = M := ⟨_, rfl⟩
  have eN' : nb M = N := by rw [← eM, nb_nb]
  rw [eN] at hN
  have hM : M < 2 * v.length := by rw [← eM]; exact nb_lt hN
  have HN := Aside0.mk eN
  have XN : Aside0 (Go.bits .xor .i64 (N : Int) 1 = (M : Int)) := ⟨by rw [xor_nb (by omega), eM]⟩
  have XM : Aside0 (Go.bits .xor .i64 (M : Int) 1 = (N : Int)) := ⟨by rw [xor_nb (by omega), eN']⟩
  rw [eN, eM]
  by_cases hs : sy = 0
  ·
   subst hs
   rw [if_pos rfl]
   obtain ⟨u, hu⟩ : ∃ u, bupF hi hi = u := ⟨_, rfl⟩
   obtain ⟨t, ht⟩ : ∃ t, clipV u = t := ⟨_, rfl⟩
   rw [hu, ht]
   have HU := Aside0.mk hu
   have HT := Aside0.mk ht
   have HO := Aside0.mk ho
   have HA : Aside0 ((v, lst (2 * v.length) (fun i j => if i = j then C i j else upG M N M N t i j (C i j)), false) = (v, lst (2 * v.length) (upM C M N t), false)) := ⟨by rw [each_eq eM eN']⟩
   clear hX h0 ho l8 hp hq hpl hN hM eN eM eN' hI hu ht
   go_enter Try.func59, Try.ntmps59
   go_upto_region 1 with fail
   have HM := MS.n3 w X.cells (.cells #[.int .i64 hi] 2 (0, 0)) zeroO
   generalize World.alloc _ _ = wk at HM ⊢
   generalize w.heap.size + 2 = gr at HM ⊢
   generalize w.heap.size + 1 = gh at HM ⊢
   generalize w.heap.size = gc at HM ⊢
   have kgr := MS.c3 HM m0_; have kgh := MS.c1 HM m1_; have kgc := MS.c3 HM m2_
   have tst := HI.out
   go_upto_region 3 with fail
   clear tst
   go_upto_region 4 with (first | (go_at_call 52; (with_reducible refine (place_as (Oc.now HX (MS.bel HM)) (Below.refl _ _) HO.out LK.out x HP.out).mono ?_); rintro e wk ⟨rfl, hb⟩; replace HM := MS.nx HM hb; clear hb; replace kgr := MS.c3 HM m0_; replace kgh := MS.c1 HM m1_; replace kgc := MS.c3 HM m2_) | (go_at_call 101; (with_reducible refine (node_as sx PL.out HN.out).mono ?_); rintro e wk ⟨rfl, hb⟩; replace HM := MS.nx HM hb; clear hb; replace kgr := MS.c3 HM m0_; replace kgh := MS.c1 HM m1_; replace kgc := MS.c3 HM m2_))
   have x1 := XN.out; have x2 := XM.out
   go_upto_region 5 with fail
   go_upto_region 7 with (first | (go_at_call 60; (with_reducible refine (bup_as HU.out).mono ?_); rintro e wk ⟨rfl, hb⟩; replace HM := MS.nx HM hb; clear hb; replace kgr := MS.c3 HM m0_; replace kgh := MS.c1 HM m1_; replace kgc := MS.c3 HM m2_))
   replace HM := MS.pv1 (.int .i64 u) HM
   generalize World.setCell _ _ _ = wk at HM ⊢
   replace kgr := MS.c3 HM m0_; replace kgh := MS.c1 HM m1_; replace kgc := MS.c3 HM m2_
   go_upto_region 8 with (first | (go_at_call 102; (with_reducible refine (taken_as HT.out).mono ?_); rintro e wk ⟨rfl, hb⟩; replace HM := MS.nx HM hb; clear hb; replace kgr := MS.c3 HM m0_; replace kgh := MS.c1 HM m1_; replace kgc := MS.c3 HM m2_))
   replace HM := MS.pv1 (.int .i64 t) HM
   generalize World.setCell _ _ _ = wk at HM ⊢
   replace kgr := MS.c3 HM m0_; replace kgh := MS.c1 HM m1_; replace kgc := MS.c3 HM m2_
   go_upto_region 9 with (first | ((with_reducible refine gate_dst (N := 15) rfl ?_); refine bx_ 15 #[.int .i64 0, .int .i64 0, .int .i64 0, .int .i64 0] 99 ?_; intro gp hg wk hbox hb; replace HM := MS.md HM hg hbox hb; clear hg hbox hb; have kgp := MS.c4 HM m0_; replace kgr := MS.c3 HM m1_; replace kgh := MS.c1 HM m2_; replace kgc := MS.c3 HM m3_))
   have n_ : Aside0 (MS w [] [(gp, .cells #[.int .i64 (M : Int), .int .i64 (N : Int), .int .i64 (M : Int), .int .i64 (N : Int)] 99 (0, 0)), (gr, zeroO), (gh, .cells #[.int .i64 t] 2 (0, 0)), (gc, X.cells)] _) := ⟨MS.put4 [] HM.out (a' := .int .i64 (M : Int)) (b' := .int .i64 (N : Int)) (c' := .int .i64 (M : Int)) (d' := .int .i64 (N : Int))⟩; clear HM; have HM := n_; clear n_
   generalize World.setCell _ _ _ = wk at HM ⊢
   replace kgp := MS.c4 HM m0_; replace kgr := MS.c3 HM m1_; replace kgh := MS.c1 HM m2_; replace kgc := MS.c3 HM m3_
   clear x1 x2
   have HW : Aside0 (Will3 103 #[.pointer (some ⟨gp, 0, none⟩), .pointer (some ⟨gh, 0, none⟩)] (2 * v.length) (upG M N M N t) wk) := ⟨upper_will gp gh M N M N _ t (HM.out.F.all _ m0_).1 (HM.out.F.all _ m2_).1⟩
   go_wp2_with (first | (go_at_call 53; (with_reducible refine (each_as _ _ (fun _ _ => rfl) (Oc.now HX (MS.bel HM)) (Below.refl _ _) HO.out L8.out HW.out HA.out).mono ?_); rintro e wk ⟨zv, rfl, hzv, ho, hb⟩; replace HM := MS.cl HM hb ho; clear ho hb; replace kgp := MS.c4 HM m0_; replace kgr := MS.c3 HM m1_; replace kgh := MS.c1 HM m2_; replace kgc := MS.c3 HM m3_))
   replace HM := MS.po1 zv HM
   generalize World.setCell _ _ _ = wk at HM ⊢
   replace kgp := MS.c4 HM m0_; replace kgr := MS.c3 HM m1_; replace kgh := MS.c1 HM m2_; replace kgc := MS.c3 HM m3_
   refine MS.rt HM m1_ ?_
   exact ⟨zv, rfl, hzv, fun _ _ _ h => (h.call HM.out.S.below (HM.out.S.own _ m0_)).sub (by exact List.Sublist.cons_cons _ (List.sublist_cons_self _ _)) (List.Sublist.refl _), HM.out.S.below⟩
  ·
   rw [if_neg hs]
   have hq' := hq hs
   have hql := placeF_lt v y
   have hQ := nd_lt (n := v.length) (s := sy) (show q < v.length by omega)
   obtain ⟨Q, eQ⟩ : ∃ N, nd q sy = N := ⟨_, rfl⟩
   obtain ⟨R, eR⟩ : ∃ M, nb Q = M := ⟨_, rfl⟩
   rw [eQ] at hQ
   have QL : Aside0 (q < 100) := ⟨by omega⟩
   have HQ := Aside0.mk hq'
   have HNQ := Aside0.mk eQ
   have XQ : Aside0 (Go.bits .xor .i64 (Q : Int) 1 = (R : Int)) := ⟨by rw [xor_nb (by omega), eR]⟩
   have HSY : Aside0 ((sy == 0) = false) := ⟨by simpa using hs⟩
   obtain ⟨t, ht⟩ : ∃ t, clipV hi = t := ⟨_, rfl⟩
   rw [eQ, ht]
   have HT := Aside0.mk ht
   have HO := Aside0.mk ho
   have HA : Aside0 ((v, lst (2 * v.length) (fun i j => if i = j then C i j else upG M Q R N t i j (C i j)), false) = (v, lst (2 * v.length) (upM C M Q t), false)) := ⟨by rw [each_eq eR eN']⟩
   clear hX h0 ho l8 hp hq hpl hN hM eN eM eN' hI hq' hql hQ eQ eR hs ht
   go_enter Try.func59, Try.ntmps59
   go_upto_region 1 with fail
   have HM := MS.n3 w X.cells (.cells #[.int .i64 hi] 2 (0, 0)) zeroO
   generalize World.alloc _ _ = wk at HM ⊢
   generalize w.heap.size + 2 = gr at HM ⊢
   generalize w.heap.size + 1 = gh at HM ⊢
   generalize w.heap.size = gc at HM ⊢
   have kgr := MS.c3 HM m0_; have kgh := MS.c1 HM m1_; have kgc := MS.c3 HM m2_
   have tst := HI.out
   go_upto_region 3 with fail
   clear tst
   go_upto_region 4 with (first | (go_at_call 52; (with_reducible refine (place_as (Oc.now HX (MS.bel HM)) (Below.refl _ _) HO.out LK.out x HP.out).mono ?_); rintro e wk ⟨rfl, hb⟩; replace HM := MS.nx HM hb; clear hb; replace kgr := MS.c3 HM m0_; replace kgh := MS.c1 HM m1_; replace kgc := MS.c3 HM m2_) | (go_at_call 101; (with_reducible refine (node_as sx PL.out HN.out).mono ?_); rintro e wk ⟨rfl, hb⟩; replace HM := MS.nx HM hb; clear hb; replace kgr := MS.c3 HM m0_; replace kgh := MS.c1 HM m1_; replace kgc := MS.c3 HM m2_))
   have x1 := XN.out; have x2 := XM.out
   have tsy := HSY.out
   go_upto_region 6 with fail
   clear tsy
   go_upto_region 7 with (first | (go_at_call 52; (with_reducible refine (place_as (Oc.now HX (MS.bel HM)) (Below.refl _ _) HO.out LK.out y HQ.out).mono ?_); rintro e wk ⟨rfl, hb⟩; replace HM := MS.nx HM hb; clear hb; replace kgr := MS.c3 HM m0_; replace kgh := MS.c1 HM m1_; replace kgc := MS.c3 HM m2_) | (go_at_call 101; (with_reducible refine (node_as sy QL.out HNQ.out).mono ?_); rintro e wk ⟨rfl, hb⟩; replace HM := MS.nx HM hb; clear hb; replace kgr := MS.c3 HM m0_; replace kgh := MS.c1 HM m1_; replace kgc := MS.c3 HM m2_))
   have x3 := XQ.out
   go_upto_region 8 with (first | (go_at_call 102; (with_reducible refine (taken_as HT.out).mono ?_); rintro e wk ⟨rfl, hb⟩; replace HM := MS.nx HM hb; clear hb; replace kgr := MS.c3 HM m0_; replace kgh := MS.c1 HM m1_; replace kgc := MS.c3 HM m2_))
   replace HM := MS.pv1 (.int .i64 t) HM
   generalize World.setCell _ _ _ = wk at HM ⊢
   replace kgr := MS.c3 HM m0_; replace kgh := MS.c1 HM m1_; replace kgc := MS.c3 HM m2_
   go_upto_region 9 with (first | ((with_reducible refine gate_dst (N := 15) rfl ?_); refine bx_ 15 #[.int .i64 0, .int .i64 0, .int .i64 0, .int .i64 0] 99 ?_; intro gp hg wk hbox hb; replace HM := MS.md HM hg hbox hb; clear hg hbox hb; have kgp := MS.c4 HM m0_; replace kgr := MS.c3 HM m1_; replace kgh := MS.c1 HM m2_; replace kgc := MS.c3 HM m3_))
   have n_ : Aside0 (MS w [] [(gp, .cells #[.int .i64 (M : Int), .int .i64 (Q : Int), .int .i64 (R : Int), .int .i64 (N : Int)] 99 (0, 0)), (gr, zeroO), (gh, .cells #[.int .i64 t] 2 (0, 0)), (gc, X.cells)] _) := ⟨MS.put4 [] HM.out (a' := .int .i64 (M : Int)) (b' := .int .i64 (Q : Int)) (c' := .int .i64 (R : Int)) (d' := .int .i64 (N : Int))⟩; clear HM; have HM := n_; clear n_
   generalize World.setCell _ _ _ = wk at HM ⊢
   replace kgp := MS.c4 HM m0_; replace kgr := MS.c3 HM m1_; replace kgh := MS.c1 HM m2_; replace kgc := MS.c3 HM m3_
   clear x1 x2 x3
   have HW : Aside0 (Will3 103 #[.pointer (some ⟨gp, 0, none⟩), .pointer (some ⟨gh, 0, none⟩)] (2 * v.length) (upG M Q R N t) wk) := ⟨upper_will gp gh M Q R N _ t (HM.out.F.all _ m0_).1 (HM.out.F.all _ m2_).1⟩
   go_wp2_with (first | (go_at_call 53; (with_reducible refine (each_as _ _ (fun _ _ => rfl) (Oc.now HX (MS.bel HM)) (Below.refl _ _) HO.out L8.out HW.out HA.out).mono ?_); rintro e wk ⟨zv, rfl, hzv, ho, hb⟩; replace HM := MS.cl HM hb ho; clear ho hb; replace kgp := MS.c4 HM m0_; replace kgr := MS.c3 HM m1_; replace kgh := MS.c1 HM m2_; replace kgc := MS.c3 HM m3_))
   replace HM := MS.po1 zv HM
   generalize World.setCell _ _ _ = wk at HM ⊢
   replace kgp := MS.c4 HM m0_; replace kgr := MS.c3 HM m1_; replace kgh := MS.c1 HM m2_; replace kgc := MS.c3 HM m3_
   refine MS.rt HM m1_ ?_
   exact ⟨zv, rfl, hzv, fun _ _ _ h => (h.call HM.out.S.below (HM.out.S.own _ m0_)).sub (by exact List.Sublist.cons_cons _ (List.sublist_cons_self _ _)) (List.Sublist.refl _), HM.out.S.below⟩
def lfitP (x sx y sy c : Int) : Prop := -1099511627776 ≤ c ∧ c ≤ 1099511627776 ∧ 0 ≤ x ∧ ((sx = 0 ∧ sy = 0 ∧ x = 0 ∧ y = 0) ∨ ((sx = 1 ∨ sx = -1) ∧ sy = 0 ∧ y = 0) ∨ ((sx = 1 ∨ sx = -1) ∧ (sy = 1 ∨ sy = -1) ∧ x < y))
instance (x sx y sy c : Int) : Decidable (lfitP x sx y sy c) := by unfold lfitP; infer_instance
def lfitB (x sx y sy c : Int) : Bool := decide (lfitP x sx y sy c)
theorem fit1_o (s : Int) (w : World) : Calls Try.prog 124 #[.int .i64 s] w fun e w' => e = .returned (.bool (decide (s = 1 ∨ s = -1))) ∧ w = w' := by
 go_enter Try.func124, Try.ntmps124
 go_wp2
 all_goals go_ret
 all_goals refine ⟨congrArg (fun b => Ending.returned (.bool b)) ?_, rfl⟩
 ·
  simp; exact .inl (by assumption)
 ·
  rw [Bool.eq_iff_iff]; simp
theorem fit_o (x sx y sy c : Int) (w : World) : Says 98 #[lV x sx y sy c] w (.bool (lfitB x sx y sy c)) := by
 have hu34 := Try.underlying34
 have hu98 := Try.underlying98
 obtain ⟨i3, hi3_⟩ : ∃ i, Try.prog.info? 3 = some i := Option.isSome_iff_exists.1 (by kernel_rfl)
 have hi3 := Aside0.mk hi3_
 clear hi3_
 go_enter Try.func98, Try.ntmps98
 go_upto_region 1 with fail
 have HM := MS.n1 w (lC x sx y sy c)
 generalize World.alloc _ _ = wk at HM ⊢
 generalize w.heap.size = gl at HM ⊢
 have kgl := MS.c5 HM m0_
 go_upto_region 2 with (first | ((with_reducible refine gate_dst (N := 3) rfl ?_); refine bx_ 3 #[.int .i64 0, .int .i64 0] 98 ?_; intro gs hg wk hbox hb; replace HM := MS.md HM hg hbox hb; clear hg hbox hb; have kgs := MS.c2 HM m0_; replace kgl := MS.c5 HM m1_))
 have n_ : Aside0 (MS w [] [(gs, .cells #[.int .i64 sx, .int .i64 sy] 98 (0, 0)), (gl, lC x sx y sy c)] _) := ⟨MS.put2 [] HM.out (a' := .int .i64 sx) (b' := .int .i64 sy)⟩; clear HM; have HM := n_; clear n_
 generalize World.setCell _ _ _ = wk at HM ⊢
 replace kgs := MS.c2 HM m0_; replace kgl := MS.c5 HM m1_
 have e1 := eq_arr2 (w := wk) (d := 9998) (a := sx) (b := sy) (a' := 0) (b' := 0) i3 hu98 Try.underlying3 hi3.out (by kernel_rfl)
 have e2 := eq_arr2 (w := wk) (d := 9998) (a := sx) (b := sy) (a' := sx) (b' := 0) i3 hu98 Try.underlying3 hi3.out (by kernel_rfl)
 go_wp2_with (first | (go_at_call 124; (with_reducible refine (fit1_o _ _).mono ?_); rintro e wk' ⟨rfl, rfl⟩))
 all_goals go_ret
 all_goals refine ⟨congrArg (fun b => Ending.returned (.bool b)) ?_, HM.out.S.below⟩
 all_goals clear e1 e2 hi3 HM hu34 hu98 kgl kgs
 all_goals try simp only [beq_eq_false_iff_ne, beq_iff_eq, ne_eq, Bool.or_eq_true, decide_eq_true_eq] at *
 all_goals (unfold lfitB; rw [Bool.eq_iff_iff]; simp only [decide_eq_true_eq, Bool.and_eq_true, Bool.or_eq_true, beq_iff_eq, Bool.false_eq_true]; unfold lfitP; first | omega | (simp only [false_iff, true_iff]; omega))
def ofB (v : List Int) (x sx y sy c : Int) : Bool := decide (lfitP x sx y sy c ∧ (sx = 0 ∨ 0 ≤ placeF v x) ∧ (sy = 0 ∨ 0 ≤ placeF v y))
theorem of_o (X : OV) (x sx y sy c : Int) {w0 w : World} (hX : Oc w0 w X) (h0 : Below w0.heap.size w0 w) (l : X.v.length ≤ 1000) : Says 55 #[X.val, lV x sx y sy c] w (.bool (ofB X.v x sx y sy c)) := by
 have hu34 := Try.underlying34
 have hu25 := Try.underlying25
 have HX : Aside0 (Oc w w X) := ⟨⟨⟨hX.r0.le, .inl (hX.r0.reads h0)⟩, ⟨hX.r1.le, .inl (hX.r1.reads h0)⟩⟩⟩
 have LK := Aside0.mk l
 clear hX h0 l
 go_enter Try.func55, Try.ntmps55
 go_upto_region 1 with fail
 have HM := MS.n2 w X.cells (lC x sx y sy c)
 generalize World.alloc _ _ = wk at HM ⊢
 generalize w.heap.size + 1 = gl at HM ⊢
 generalize w.heap.size = gc at HM ⊢
 have kgl := MS.c5 HM m0_; have kgc := MS.c3 HM m1_
 go_wp2_with (first | (go_at_call 98; (with_reducible refine (fit_o x sx y sy c _).mono ?_); rintro e wk ⟨rfl, hb⟩; replace HM := MS.nx HM hb; clear hb; replace kgl := MS.c5 HM m0_; replace kgc := MS.c3 HM m1_) | (go_at_call 52; (with_reducible refine (place_o (Oc.now HX (MS.bel HM)) (Below.refl _ _) LK.out _).mono ?_); rintro e wk ⟨rfl, hb⟩; replace HM := MS.nx HM hb; clear hb; replace kgl := MS.c5 HM m0_; replace kgc := MS.c3 HM m1_))
 all_goals go_ret
 all_goals refine ⟨congrArg (fun b => Ending.returned (.bool b)) ?_, HM.out.S.below⟩
 all_goals clear HM hu34 hu25 kgc kgl
 all_goals try simp only [beq_eq_false_iff_ne, beq_iff_eq, ne_eq, Bool.or_eq_true, decide_eq_true_eq] at *
 all_goals rw [Bool.eq_iff_iff]
 all_goals (try simp only [ofB, lfitB, decide_eq_true_eq, decide_eq_false_iff_not, Bool.and_eq_true, Bool.or_eq_true, beq_iff_eq, Bool.false_eq_true] at *)
 all_goals (try simp only [lfitP] at *)
 all_goals first | omega | (simp only [false_iff, true_iff]; omega)
end Go.Proofs.Ytphfchbggechhaa.QO
end
end
section
noncomputable section
namespace Go.Proofs.Ytphfchbggechhaa.QO
open Go.RowKit Go.Shelf YtphfchbggechhaaW.PrintWords YtphfchbggechhaaW.PrintLast YtphfchbggechhaaW.PrintMore
attribute [local go_sem] Oper.semAt_some
attribute [local go_sem ↓] Go.wp_at_zero Go.wp_at_succ
set_option linter.unusedVariables false
set_option linter.unusedSimpArgs false
def itvOf (a b : Int) : Int × Int := if a > b then (1, 0) else (mx (if a ≥ 4611686018427387904 then 4611686018427387903 else a) (-4611686018427387904), mn (if b ≤ -4611686018427387904 then -4611686018427387903 else b) 4611686018427387904)
theorem put2_box {W : World} {g : Nat} {x y a b : Value} {t : TypeId} (h : W.heap[g]? = some (.cells #[x, y] t (0, 0))) : ((W.setCell ⟨g, 0, none⟩ a).setCell ⟨g, 1, none⟩ b).heap[g]? = some (.cells #[a, b] t (0, 0)) := blk_put (blk_put h 0 a rfl) 1 b rfl
theorem empty_o (w : World) : Calls Try.prog 99 #[] w fun e w' => e = .returned (iV 1 0) ∧ Below w.heap.size w w' := by
 go_enter Try.func99, Try.ntmps99
 go_upto_region 1 with fail
 have hu36 := Try.underlying36
 have HM := MS.n1 w (iC 0 0)
 generalize World.alloc _ _ = wk at HM ⊢
 generalize w.heap.size = gr at HM ⊢
 have kgr := MS.c2 HM m0_
 go_wp2
 replace HM := MS.pi0 1 0 HM
 generalize World.setCell _ _ _ = wk at HM ⊢
 replace kgr := MS.c2 HM m0_
 refine MS.rt HM m0_ ?_
 exact ⟨rfl, HM.out.S.below⟩
theorem itvOf_any (a b : Int) (w : World) : Calls Try.prog 56 #[.int .i64 a, .int .i64 b] w fun e w' => e = .returned (.agg #[.int .i64 (itvOf a b).1, .int .i64 (itvOf a b).2]) ∧ Below w.heap.size w w' := by
 have hu36 := Try.underlying36
 go_enter Try.func56, Try.ntmps56
 go_upto_region 1 with fail
 have HM := MS.n1 w (iC 0 0)
 generalize World.alloc _ _ = wk at HM ⊢
 generalize w.heap.size = gr at HM ⊢
 have kgr := MS.c2 HM m0_
 go_wp2_with (first | (go_at_call 99; (with_reducible refine (empty_o _).mono ?_); rintro e wk ⟨rfl, hb⟩; replace HM := MS.nx HM hb; clear hb; replace kgr := MS.c2 HM m0_))
 all_goals refine bodyPost_ret (results_cell_row rfl _ _ gr 36 #[_, _] (0, 0) _ rfl (put2_box (HM.out.F.all _ m0_).1) Try.underlying36 rfl (by kernel_rfl)) rfl ?_
 all_goals refine ⟨?_, (MS.put2 [] HM.out).S.below⟩
 all_goals clear HM hu36 kgr
 all_goals unfold itvOf mx mn
 all_goals (repeat' split) <;> first | rfl | (exfalso; omega) | (congr 3 <;> first | rfl | omega)
end Go.Proofs.Ytphfchbggechhaa.QO
end
end
section
noncomputable section
namespace Go.Proofs.Ytphfchbggechhaa.QO
open Go.RowKit YtphfchbggechhaaW.PrintWords YtphfchbggechhaaW.PrintLast
set_option linter.unusedVariables false
set_option linter.unusedSimpArgs false
def itv_Of.f (a0 : Int) (a1 : Int) : Option (Int × Int) := some (itvOf a0 a1)
theorem itv_Of.calls (a0 : Int) (a1 : Int) (r1 : Int) (r2 : Int) (w : World) (h : itv_Of.f a0 a1 = some (r1, r2)) :
 Calls Try.prog 56 #[.int .i64 a0, .int .i64 a1] w fun e w' => e = .returned (.agg #[.int .i64 r1, .int .i64 r2]) ∧ Below w.heap.size w w' := by
 unfold itv_Of.f at h
 have e := Option.some.inj h
 have hc := itvOf_any a0 a1 w
 rw [e] at hc
 exact hc
def itv_sound.f (a0_0 : Int) (a0_1 : Int) : Option (Int × Int) := (itv_Of.f a0_0 a0_1).bind fun bt105 => (some (bt105.1, bt105.2))
theorem itv_sound.calls (a0_0 : Int) (a0_1 : Int) (r1 : Int) (r2 : Int) (w : World) (h : itv_sound.f a0_0 a0_1 = some (r1, r2)) :
 Calls Try.prog 74 #[.agg #[.int .i64 a0_0, .int .i64 a0_1]] w fun e w' => e = .returned (.agg #[.int .i64 r1, .int .i64 r2]) ∧ Below w.heap.size w w' := by
 have hu36 := Try.underlying36
 have HB := Aside0.mk (Below.refl w.heap.size w)
 have H := h
 unfold itv_sound.f at H
 clear h
 replace H := Option.bind_eq_some_iff.mp H
 obtain ⟨⟨t105, t106⟩, A20, H⟩ := H
 try dsimp only at H
 have A2 := Aside0.mk A20
 clear A20
 simp only [Option.some.injEq, Prod.mk.injEq] at H
 obtain ⟨rfl, rfl⟩ := H
 go_enter Try.func74, Try.ntmps74
 go_wp2_with (first | ((with_reducible refine gate_dst (N := 1) rfl ?_); refine bx_ 1 #[.int .i64 a0_0, .int .i64 a0_1] 36 ?_; intro gb103 hg w3 hbox hb; have BK103 := Aside0.mk (hbox); have GW103 := vS hg HB; have GE103 := vS hg HB; replace HB := vWs HB hb; clear hb hbox hg) | ((with_reducible refine gate_dst (N := 2) rfl ?_); refine bx_ 2 #[.int .i64 0, .int .i64 0] 36 ?_; intro gb104 hg w4 hbox hb; have BK104 := Aside0.mk (hbox); have GW104 := vS hg HB; have GE104 := vS hg HB; replace HB := vWs HB hb; have NB103_104 := vNl hg BK103; have NB104_103 := vNg hg BK103; replace BK103 := vBb BK103 hb; clear hb hbox hg; have hnb5 := NB103_104.out; have hnc5 := NB104_103.out; obtain ⟨hcz6_0, hcz6_1, hfz6_0, hfz6_1⟩ := vF2 BK103.out) | ((with_reducible refine gate_callee (f := 56) rfl ?_); refine gl_ (some 7) Try.func56 #[.int .i64 a0_0, .int .i64 a0_1] ?_; (with_reducible refine (itv_Of.calls a0_0 a0_1 t105 t106 _ A2.out).mono ?_); rintro e w7 ⟨rfl, hb⟩; refine ⟨_, rfl, ?_⟩; replace BK103 := vBb BK103 hb; replace BK104 := vBb BK104 hb; replace HB := vWs HB hb; (try clear hb); (try clear hb2); (try clear hk); (try clear hi); obtain ⟨hcz8_0, hcz8_1, hfz8_0, hfz8_1⟩ := vF2 BK104.out))
 refine bodyPost_ret (results_cell_row rfl _ _ gb104 36 #[.int .i64 t105, .int .i64 t106] (0, 0) _ rfl (vP2 BK104.out) Try.underlying36 rfl (by kernel_rfl)) rfl ?_
 exact ⟨vE, vW HB.out⟩
def itv_Has.f (a0_0 : Int) (a0_1 : Int) (a1 : Int) : Option (Bool) := (itv_sound.f a0_0 a0_1).bind fun bt108 => ((itv_None.f bt108.1 bt108.2).bind fun t110 => (if t110 = true then (some false) else (if bt108.1 = (-4611686018427387904) then (if bt108.2 = 4611686018427387904 then (some true) else (some (decide (a1 ≤ bt108.2)))) else (if bt108.1 ≤ a1 then (if bt108.2 = 4611686018427387904 then (some true) else (some (decide (a1 ≤ bt108.2)))) else (some false)))))
theorem itv_Has.calls (a0_0 : Int) (a0_1 : Int) (a1 : Int) (r : Bool) (w : World) (h : itv_Has.f a0_0 a0_1 a1 = some r) :
 Calls Try.prog 34 #[.agg #[.int .i64 a0_0, .int .i64 a0_1], .int .i64 a1] w fun e w' => e = .returned (.bool r) ∧ Below w.heap.size w w' := by
 have hu36 := Try.underlying36
 have HB := Aside0.mk (Below.refl w.heap.size w)
 have H := h
 unfold itv_Has.f at H
 clear h
 replace H := Option.bind_eq_some_iff.mp H
 obtain ⟨⟨t108, t109⟩, A30, H⟩ := H
 try dsimp only at H
 have A3 := Aside0.mk A30
 clear A30
 replace H := Option.bind_eq_some_iff.mp H
 obtain ⟨t110, A40, H⟩ := H
 try dsimp only at H
 have A4 := Aside0.mk A40
 clear A40
 by_cases c5 : t110 = true
 ·
  subst c5
  rw [if_pos rfl] at H
  try dsimp only at H
  obtain rfl := Option.some.inj H
  go_enter Try.func34, Try.ntmps34
  go_wp2_with (first | ((with_reducible refine gate_dst (N := 2) rfl ?_); refine bx_ 2 #[.int .i64 a0_0, .int .i64 a0_1] 36 ?_; intro gb107 hg w6 hbox hb; have BK107 := Aside0.mk (hbox); have GW107 := vS hg HB; have GE107 := vS hg HB; replace HB := vWs HB hb; clear hb hbox hg; obtain ⟨hcz7_0, hcz7_1, hfz7_0, hfz7_1⟩ := vF2 BK107.out) | ((with_reducible refine gate_callee (f := 74) rfl ?_); refine gl_ (some 6) Try.func74 #[.agg #[.int .i64 a0_0, .int .i64 a0_1]] ?_; (with_reducible refine (itv_sound.calls a0_0 a0_1 t108 t109 _ A3.out).mono ?_); rintro e w8 ⟨rfl, hb⟩; refine ⟨_, rfl, ?_⟩; replace BK107 := vBb BK107 hb; replace HB := vWs HB hb; (try clear hb); (try clear hb2); (try clear hk); (try clear hi); obtain ⟨hcz9_0, hcz9_1, hfz9_0, hfz9_1⟩ := vF2 BK107.out) | ((with_reducible refine gate_callee (f := 57) rfl ?_); refine gl_ (some 8) Try.func57 #[.agg #[.int .i64 t108, .int .i64 t109]] ?_; (with_reducible refine (itv_None.calls t108 t109 true _ A4.out).mono ?_); rintro e w10 ⟨rfl, hb⟩; refine ⟨_, rfl, ?_⟩; replace BK107 := Aside0.mk (blk_below (g := gb107) (o := .cells #[.int .i64 t108, .int .i64 t109] 36 (0, 0)) (vP2 BK107.out) hb); replace HB := vWs HB hb; (try clear hb); (try clear hb2); (try clear hk); (try clear hi)))
  go_ret
  exact ⟨vE, vW HB.out⟩
 ·
  replace c5 := Bool.eq_false_iff.mpr c5
  subst c5
  rw [if_neg (show ¬ (false = true) by decide)] at H
  try dsimp only at H
  by_cases c11 : t108 = (-4611686018427387904)
  ·
   rw [if_pos c11] at H
   have c11b0 : (t108 == (-4611686018427387904)) = true := beq_iff_eq.mpr c11
   have c11b1 : (t108 != (-4611686018427387904)) = false := bne_eq_false_iff_eq.mpr c11
   clear c11
   by_cases c12 : t109 = 4611686018427387904
   ·
    rw [if_pos c12] at H
    have c12b0 : (t109 == 4611686018427387904) = true := beq_iff_eq.mpr c12
    have c12b1 : (t109 != 4611686018427387904) = false := bne_eq_false_iff_eq.mpr c12
    clear c12
    obtain rfl := Option.some.inj H
    go_enter Try.func34, Try.ntmps34
    go_wp2_with (first | ((with_reducible refine gate_dst (N := 2) rfl ?_); refine bx_ 2 #[.int .i64 a0_0, .int .i64 a0_1] 36 ?_; intro gb107 hg w13 hbox hb; have BK107 := Aside0.mk (hbox); have GW107 := vS hg HB; have GE107 := vS hg HB; replace HB := vWs HB hb; clear hb hbox hg; obtain ⟨hcz14_0, hcz14_1, hfz14_0, hfz14_1⟩ := vF2 BK107.out) | ((with_reducible refine gate_callee (f := 74) rfl ?_); refine gl_ (some 6) Try.func74 #[.agg #[.int .i64 a0_0, .int .i64 a0_1]] ?_; (with_reducible refine (itv_sound.calls a0_0 a0_1 t108 t109 _ A3.out).mono ?_); rintro e w15 ⟨rfl, hb⟩; refine ⟨_, rfl, ?_⟩; replace BK107 := vBb BK107 hb; replace HB := vWs HB hb; (try clear hb); (try clear hb2); (try clear hk); (try clear hi); obtain ⟨hcz16_0, hcz16_1, hfz16_0, hfz16_1⟩ := vF2 BK107.out) | ((with_reducible refine gate_callee (f := 57) rfl ?_); refine gl_ (some 8) Try.func57 #[.agg #[.int .i64 t108, .int .i64 t109]] ?_; (with_reducible refine (itv_None.calls t108 t109 false _ A4.out).mono ?_); rintro e w17 ⟨rfl, hb⟩; refine ⟨_, rfl, ?_⟩; replace BK107 := Aside0.mk (blk_below (g := gb107) (o := .cells #[.int .i64 t108, .int .i64 t109] 36 (0, 0)) (vP2 BK107.out) hb); replace HB := vWs HB hb; (try clear hb); (try clear hb2); (try clear hk); (try clear hi); obtain ⟨hcz18_0, hcz18_1, hfz18_0, hfz18_1⟩ := vF2 BK107.out))
    go_ret
    exact ⟨vE, vW HB.out⟩
   ·
    rw [if_neg c12] at H
    have c12b0 : (t109 == 4611686018427387904) = false := beq_eq_false_iff_ne.mpr c12
    have c12b1 : (t109 != 4611686018427387904) = true := bne_iff_ne.mpr c12
    obtain rfl := Option.some.inj H
    go_enter Try.func34, Try.ntmps34
    go_wp2_with (first | ((with_reducible refine gate_dst (N := 2) rfl ?_); refine bx_ 2 #[.int .i64 a0_0, .int .i64 a0_1] 36 ?_; intro gb107 hg w19 hbox hb; have BK107 := Aside0.mk (hbox); have GW107 := vS hg HB; have GE107 := vS hg HB; replace HB := vWs HB hb; clear hb hbox hg; obtain ⟨hcz20_0, hcz20_1, hfz20_0, hfz20_1⟩ := vF2 BK107.out) | ((with_reducible refine gate_callee (f := 74) rfl ?_); refine gl_ (some 6) Try.func74 #[.agg #[.int .i64 a0_0, .int .i64 a0_1]] ?_; (with_reducible refine (itv_sound.calls a0_0 a0_1 t108 t109 _ A3.out).mono ?_); rintro e w21 ⟨rfl, hb⟩; refine ⟨_, rfl, ?_⟩; replace BK107 := vBb BK107 hb; replace HB := vWs HB hb; (try clear hb); (try clear hb2); (try clear hk); (try clear hi); obtain ⟨hcz22_0, hcz22_1, hfz22_0, hfz22_1⟩ := vF2 BK107.out) | ((with_reducible refine gate_callee (f := 57) rfl ?_); refine gl_ (some 8) Try.func57 #[.agg #[.int .i64 t108, .int .i64 t109]] ?_; (with_reducible refine (itv_None.calls t108 t109 false _ A4.out).mono ?_); rintro e w23 ⟨rfl, hb⟩; refine ⟨_, rfl, ?_⟩; replace BK107 := Aside0.mk (blk_below (g := gb107) (o := .cells #[.int .i64 t108, .int .i64 t109] 36 (0, 0)) (vP2 BK107.out) hb); replace HB := vWs HB hb; (try clear hb); (try clear hb2); (try clear hk); (try clear hi); obtain ⟨hcz24_0, hcz24_1, hfz24_0, hfz24_1⟩ := vF2 BK107.out))
    go_ret
    exact ⟨vE, vW HB.out⟩
  ·
   rw [if_neg c11] at H
   have c11b0 : (t108 == (-4611686018427387904)) = false := beq_eq_false_iff_ne.mpr c11
   have c11b1 : (t108 != (-4611686018427387904)) = true := bne_iff_ne.mpr c11
   by_cases c25 : t108 ≤ a1
   ·
    rw [if_pos c25] at H
    have c25b0 : decide (t108 ≤ a1) = true := decide_eq_true c25
    clear c25
    by_cases c26 : t109 = 4611686018427387904
    ·
     rw [if_pos c26] at H
     have c26b0 : (t109 == 4611686018427387904) = true := beq_iff_eq.mpr c26
     have c26b1 : (t109 != 4611686018427387904) = false := bne_eq_false_iff_eq.mpr c26
     clear c26
     obtain rfl := Option.some.inj H
     go_enter Try.func34, Try.ntmps34
     go_wp2_with (first | ((with_reducible refine gate_dst (N := 2) rfl ?_); refine bx_ 2 #[.int .i64 a0_0, .int .i64 a0_1] 36 ?_; intro gb107 hg w27 hbox hb; have BK107 := Aside0.mk (hbox); have GW107 := vS hg HB; have GE107 := vS hg HB; replace HB := vWs HB hb; clear hb hbox hg; obtain ⟨hcz28_0, hcz28_1, hfz28_0, hfz28_1⟩ := vF2 BK107.out) | ((with_reducible refine gate_callee (f := 74) rfl ?_); refine gl_ (some 6) Try.func74 #[.agg #[.int .i64 a0_0, .int .i64 a0_1]] ?_; (with_reducible refine (itv_sound.calls a0_0 a0_1 t108 t109 _ A3.out).mono ?_); rintro e w29 ⟨rfl, hb⟩; refine ⟨_, rfl, ?_⟩; replace BK107 := vBb BK107 hb; replace HB := vWs HB hb; (try clear hb); (try clear hb2); (try clear hk); (try clear hi); obtain ⟨hcz30_0, hcz30_1, hfz30_0, hfz30_1⟩ := vF2 BK107.out) | ((with_reducible refine gate_callee (f := 57) rfl ?_); refine gl_ (some 8) Try.func57 #[.agg #[.int .i64 t108, .int .i64 t109]] ?_; (with_reducible refine (itv_None.calls t108 t109 false _ A4.out).mono ?_); rintro e w31 ⟨rfl, hb⟩; refine ⟨_, rfl, ?_⟩; replace BK107 := Aside0.mk (blk_below (g := gb107) (o := .cells #[.int .i64 t108, .int .i64 t109] 36 (0, 0)) (vP2 BK107.out) hb); replace HB := vWs HB hb; (try clear hb); (try clear hb2); (try clear hk); (try clear hi); obtain ⟨hcz32_0, hcz32_1, hfz32_0, hfz32_1⟩ := vF2 BK107.out))
     go_ret
     exact ⟨vE, vW HB.out⟩
    ·
     rw [if_neg c26] at H
     have c26b0 : (t109 == 4611686018427387904) = false := beq_eq_false_iff_ne.mpr c26
     have c26b1 : (t109 != 4611686018427387904) = true := bne_iff_ne.mpr c26
     obtain rfl := Option.some.inj H
     go_enter Try.func34, Try.ntmps34
     go_wp2_with (first | ((with_reducible refine gate_dst (N := 2) rfl ?_); refine bx_ 2 #[.int .i64 a0_0, .int .i64 a0_1] 36 ?_; intro gb107 hg w33 hbox hb; have BK107 := Aside0.mk (hbox); have GW107 := vS hg HB; have GE107 := vS hg HB; replace HB := vWs HB hb; clear hb hbox hg; obtain ⟨hcz34_0, hcz34_1, hfz34_0, hfz34_1⟩ := vF2 BK107.out) | ((with_reducible refine gate_callee (f := 74) rfl ?_); refine gl_ (some 6) Try.func74 #[.agg #[.int .i64 a0_0, .int .i64 a0_1]] ?_; (with_reducible refine (itv_sound.calls a0_0 a0_1 t108 t109 _ A3.out).mono ?_); rintro e w35 ⟨rfl, hb⟩; refine ⟨_, rfl, ?_⟩; replace BK107 := vBb BK107 hb; replace HB := vWs HB hb; (try clear hb); (try clear hb2); (try clear hk); (try clear hi); obtain ⟨hcz36_0, hcz36_1, hfz36_0, hfz36_1⟩ := vF2 BK107.out) | ((with_reducible refine gate_callee (f := 57) rfl ?_); refine gl_ (some 8) Try.func57 #[.agg #[.int .i64 t108, .int .i64 t109]] ?_; (with_reducible refine (itv_None.calls t108 t109 false _ A4.out).mono ?_); rintro e w37 ⟨rfl, hb⟩; refine ⟨_, rfl, ?_⟩; replace BK107 := Aside0.mk (blk_below (g := gb107) (o := .cells #[.int .i64 t108, .int .i64 t109] 36 (0, 0)) (vP2 BK107.out) hb); replace HB := vWs HB hb; (try clear hb); (try clear hb2); (try clear hk); (try clear hi); obtain ⟨hcz38_0, hcz38_1, hfz38_0, hfz38_1⟩ := vF2 BK107.out))
     go_ret
     exact ⟨vE, vW HB.out⟩
   ·
    rw [if_neg c25] at H
    have c25b0 : decide (t108 ≤ a1) = false := decide_eq_false c25
    clear c25
    obtain rfl := Option.some.inj H
    go_enter Try.func34, Try.ntmps34
    go_wp2_with (first | ((with_reducible refine gate_dst (N := 2) rfl ?_); refine bx_ 2 #[.int .i64 a0_0, .int .i64 a0_1] 36 ?_; intro gb107 hg w39 hbox hb; have BK107 := Aside0.mk (hbox); have GW107 := vS hg HB; have GE107 := vS hg HB; replace HB := vWs HB hb; clear hb hbox hg; obtain ⟨hcz40_0, hcz40_1, hfz40_0, hfz40_1⟩ := vF2 BK107.out) | ((with_reducible refine gate_callee (f := 74) rfl ?_); refine gl_ (some 6) Try.func74 #[.agg #[.int .i64 a0_0, .int .i64 a0_1]] ?_; (with_reducible refine (itv_sound.calls a0_0 a0_1 t108 t109 _ A3.out).mono ?_); rintro e w41 ⟨rfl, hb⟩; refine ⟨_, rfl, ?_⟩; replace BK107 := vBb BK107 hb; replace HB := vWs HB hb; (try clear hb); (try clear hb2); (try clear hk); (try clear hi); obtain ⟨hcz42_0, hcz42_1, hfz42_0, hfz42_1⟩ := vF2 BK107.out) | ((with_reducible refine gate_callee (f := 57) rfl ?_); refine gl_ (some 8) Try.func57 #[.agg #[.int .i64 t108, .int .i64 t109]] ?_; (with_reducible refine (itv_None.calls t108 t109 false _ A4.out).mono ?_); rintro e w43 ⟨rfl, hb⟩; refine ⟨_, rfl, ?_⟩; replace BK107 := Aside0.mk (blk_below (g := gb107) (o := .cells #[.int .i64 t108, .int .i64 t109] 36 (0, 0)) (vP2 BK107.out) hb); replace HB := vWs HB hb; (try clear hb); (try clear hb2); (try clear hk); (try clear hi); obtain ⟨hcz44_0, hcz44_1, hfz44_0, hfz44_1⟩ := vF2 BK107.out))
    go_ret
    exact ⟨vE, vW HB.out⟩
end Go.Proofs.Ytphfchbggechhaa.QO
end
end
section
noncomputable section
namespace Go.Proofs.Ytphfchbggechhaa.QO
open Go.RowKit Go.Shelf YtphfchbggechhaaW.PrintWords YtphfchbggechhaaW.PrintLast YtphfchbggechhaaW.PrintMore
open Ytphfchbggechhaa.Pure
set_option linter.unusedVariables false
theorem itvOf_f (a b : Int) : itv_Of.f a b = some (itvOf a b) := rfl
def itvHas (a b x : Int) : Bool := decide ((itvOf a b).1 ≤ (itvOf a b).2 ∧ ((itvOf a b).1 = -4611686018427387904 ∨ (itvOf a b).1 ≤ x) ∧ ((itvOf a b).2 = 4611686018427387904 ∨ x ≤ (itvOf a b).2))
theorem itvHas_f (a b x : Int) : itv_Has.f a b x = some (itvHas a b x) := by
 unfold itv_Has.f itv_sound.f itvHas itv_None.f
 rw [itvOf_f]
 simp only [Option.bind_some]
 generalize (itvOf a b).1 = l
 generalize (itvOf a b).2 = h
 by_cases h1 : l > h
 ·
  rw [if_pos (decide_eq_true h1)]
  congr 1; rw [decide_eq_false (by omega)]
 ·
  rw [if_neg (by simpa using h1)]
  by_cases h2 : l = -4611686018427387904
  ·
   rw [if_pos h2]
   by_cases h3 : h = 4611686018427387904
   ·
    rw [if_pos h3]; congr 1; rw [decide_eq_true (by omega)]
   ·
    rw [if_neg h3]; congr 1
    rw [Bool.eq_iff_iff]; simp only [decide_eq_true_eq]; omega
  ·
   rw [if_neg h2]
   by_cases h4 : l ≤ x
   ·
    rw [if_pos h4]
    by_cases h3 : h = 4611686018427387904
    ·
     rw [if_pos h3]; congr 1; rw [decide_eq_true (by omega)]
    ·
     rw [if_neg h3]; congr 1
     rw [Bool.eq_iff_iff]; simp only [decide_eq_true_eq]; omega
   ·
    rw [if_neg h4]; congr 1; rw [decide_eq_false (by omega)]
section
variable {w W : World} {x : OV}
theorem itvOf_as {a b l h : Int} (e : itvOf a b = (l, h)) : Says 56 #[.int .i64 a, .int .i64 b] W (.agg #[.int .i64 l, .int .i64 h]) :=
 itv_Of.calls a b l h W (by rw [itvOf_f, e])
theorem itvNone_as {a b : Int} {t : Bool} (e : decide (a > b) = t) : Says 57 #[.agg #[.int .i64 a, .int .i64 b]] W (.bool t) :=
 itv_None.calls a b t W (by unfold itv_None.f; rw [e])
theorem itvHas_as {a b c : Int} {t : Bool} (e : itvHas a b c = t) : Says 34 #[.agg #[.int .i64 a, .int .i64 b], .int .i64 c] W (.bool t) :=
 itv_Has.calls a b c t W (by rw [itvHas_f, e])
theorem botm_f {v : List Int} (h : VarsOk v) : oct_Bottom.f v = some (v, [], true) := by
 have h8 := h.1
 have hc : slices_Clone_int_int.f v = some v := by unfold slices_Clone_int_int.f; rw [if_pos (by omega)]
 unfold oct_Bottom.f oct_may.f
 rw [varsB_true.2 h]
 simp [hc]
theorem bottom_own {A : Option Addr} {c : Nat} {v : List Int} (hr : Row w W 3 A c v) (hb : Below w.heap.size w W) (hv : VarsOk v) :
 Calls Try.prog 58 #[.slice A v.length c] W fun e W' => ∃ z : OV, e = .returned z.val ∧ z.o = (v, [], true) ∧ Own W W' z ∧ Below W.heap.size W W' :=
 of_calls2 (a := (v, [], true)) (oct_Bottom.calls A c v _ _ _ W (hr.reads hb) hr.le (botm_f hv))
end
def guardF (v m : List Int) (e : Bool) (x sx y sy c lo hi : Int) : List Int × List Int × Bool :=
 if (closeF v m e).2.2 = true ∨ ofB v x sx y sy c = false then closeF v m e
 else if (itvOf lo hi).1 > (itvOf lo hi).2 ∨ (sx = 0 ∧ itvHas (itvOf lo hi).1 (itvOf lo hi).2 c = false) then (v, [], true)
 else if sx = 0 then closeF v m e
 else closeF v (lst (2 * v.length) (upC (upC (closeM (2 * v.length) (lowM v.length m)) (placeF v x).toNat sx (placeF v y).toNat sy (bupF (itvOf lo hi).2 (-c))) (placeF v x).toNat (-sx) (placeF v y).toNat (-sy) (bupF (bnegF (itvOf lo hi).1) c))) false
end Go.Proofs.Ytphfchbggechhaa.QO
end
end
section
noncomputable section
namespace Go.Proofs.Ytphfchbggechhaa.QO
open Go.RowKit Go.Shelf YtphfchbggechhaaW.PrintWords YtphfchbggechhaaW.PrintLast YtphfchbggechhaaW.PrintMore
open Ytphfchbggechhaa.Pure
attribute [local go_sem] Oper.semAt_some
attribute [local go_sem ↓] Go.wp_at_zero Go.wp_at_succ
set_option linter.unusedVariables false
set_option linter.unusedSimpArgs false
def guard_T9 : Bool × List (List Nat × List Nat) := (true, [([], []), ([], []), ([1], [1]), ([], []), ([3], [3]), ([], []), ([5], [5]), ([], []), ([7], [7]), ([], []), ([9], [9]), ([], []), ([11], [11]), ([12], [12]), ([10, 13], [10, 13]), ([0, 2, 4, 6, 8, 14, 14], [0, 2, 4, 6, 8, 14]), ([15, 15, 0, 1, 2, 3, 4, 5, 6, 7, 8, 9, 10, 11, 12, 13, 14, 15], [15])])
def guard_B9 : List Nat := [0, 0, 2, 0, 8, 0, 32, 0, 128, 0, 512, 0, 2048, 6144, 15872, 32767, 65535]
theorem guard_tab9 : rtab .any (opsOf Try.f19 9) = guard_T9 := by kernel_rfl
theorem guard_bits9 : waitsOk guard_T9.2 guard_B9 = true := by kernel_rfl
def guard_T10 : Bool × List (List Nat × List Nat) := (true, [([], []), ([], []), ([1], [1]), ([2], [2]), ([], []), ([4], [4]), ([], []), ([6], [6]), ([7], [7]), ([], []), ([9], [9]), ([], []), ([11], [11]), ([12], [12]), ([], []), ([14], [14]), ([13, 15, 13], [13, 15]), ([0, 3, 5, 8, 10, 16, 16], [0, 3, 5, 8, 10, 16]), ([17, 17, 0, 1, 2, 3, 4, 5, 6, 7, 8, 9, 10, 11, 12, 13, 14, 15, 16, 17], [17])])
def guard_B10 : List Nat := [0, 0, 2, 6, 0, 16, 0, 64, 192, 0, 512, 0, 2048, 6144, 0, 16384, 63488, 131071, 262143]
theorem guard_tab10 : rtab .any (opsOf Try.f19 10) = guard_T10 := by kernel_rfl
theorem guard_bits10 : waitsOk guard_T10.2 guard_B10 = true := by kernel_rfl
theorem of_as {X : OV} {x sx y sy c : Int} {t : Bool} {w W : World} (hX : Oc w W X) (h0 : Below w.heap.size w W) (l : X.v.length ≤ 1000) (h : ofB X.v x sx y sy c = t) : Says 55 #[X.val, lV x sx y sy c] W (.bool t) := by
 rw [← h]; exact of_o X x sx y sy c hX h0 l
theorem guard_own (X : OV) (x sx y sy c lo hi : Int) {w0 w : World} (hX : Oc w0 w X) (h0 : Below w0.heap.size w0 w) (fx : OFit X.v X.m X.e)
 (hup : ∀ (C : Mx) (p q : Nat) (u v : Int), Cld (2 * X.v.length) C → ofB X.v x sx y sy c = true → sx ≠ 0 → placeF X.v x = (p : Int) → (sy ≠ 0 → placeF X.v y = (q : Int)) → OFit X.v (lst (2 * X.v.length) (upC (upC C p sx q sy u) p (-sx) q (-sy) v)) false) :
 Calls Try.prog 19 #[X.val, lV x sx y sy c, iV lo hi] w fun e W' => ∃ z : OV, e = .returned z.val ∧ z.o = guardF X.v X.m X.e x sx y sy c lo hi ∧ Own w W' z ∧ Below w.heap.size w W' := by
 have hu25 := Try.underlying25
 have hu34 := Try.underlying34
 have hu36 := Try.underlying36
 have HX : Aside0 (Oc w w X) := ⟨⟨⟨hX.r0.le, .inl (hX.r0.reads h0)⟩, ⟨hX.r1.le, .inl (hX.r1.reads h0)⟩⟩⟩
 have FX_ := Aside0.mk fx
 have L8 : Aside0 (X.v.length ≤ 8) := ⟨fx.1.1⟩
 have LK : Aside0 (X.v.length ≤ 1000) := ⟨by have := fx.1.1; omega⟩
 have HV : Aside0 (VarsOk X.v) := ⟨fx.1⟩
 have cases := close_cases fx
 by_cases hof : ofB X.v x sx y sy c = false
 ·
  have hg : guardF X.v X.m X.e x sx y sy c lo hi = closeF X.v X.m X.e := by unfold guardF; rw [if_pos (.inr hof)]
  rw [hg]
  obtain ⟨a, ha⟩ : ∃ a, closeF X.v X.m X.e = a := ⟨_, rfl⟩
  rw [ha]
  have HC := Aside0.mk ha
  have HOF := Aside0.mk hof
  clear hX h0 fx cases hg ha hof hup
  go_enter Try.func19, Try.ntmps19
  go_upto_region 1 with fail
  have HM := MS.n4 w X.cells (lC x sx y sy c) (iC lo hi) zeroO
  generalize World.alloc _ _ = wk at HM ⊢
  generalize w.heap.size + 3 = gr at HM ⊢
  generalize w.heap.size + 2 = gi at HM ⊢
  generalize w.heap.size + 1 = gl at HM ⊢
  generalize w.heap.size = go at HM ⊢
  have kgo := MS.c3 HM m3_
  go_upto_region 2 with (first | (go_at_call 51; (with_reducible refine (close_as (Oc.now HX (MS.bel HM)) (Below.refl _ _) rfl FX_.out HC.out).mono ?_); rintro e wk ⟨cv, rfl, hcv, ho, hb⟩; replace HM := MS.cl HM hb ho; clear ho hb; replace kgo := MS.c3 HM m3_) | ((with_reducible refine gate_dst (N := 7) rfl ?_); refine bx_ 7 #[.slice none 0 0, .slice none 0 0, .bool false] 25 ?_; intro gc hg wk hbox hb; replace HM := MS.md HM hg hbox hb; clear hg hbox hb; have kgc := MS.c3 HM m0_; replace kgo := MS.c3 HM m4_))
  replace HM := MS.po0 cv HM
  generalize World.setCell _ _ _ = wk at HM ⊢
  have HCV := Aside0.mk hcv; clear hcv
  replace kgc := MS.c3 HM m0_; have kgl := MS.c5 HM m3_; replace kgo := MS.c3 HM m4_
  go_upto_region 3 with (first | (go_at_call 55; (with_reducible refine (of_as (Oc.now HX (MS.bel HM)) (Below.refl _ _) LK.out HOF.out).mono ?_); rintro e wk ⟨rfl, hb⟩; replace HM := MS.nx HM hb; clear hb; replace kgc := MS.c3 HM m0_; replace kgl := MS.c5 HM m3_; replace kgo := MS.c3 HM m4_))
  have kgr := MS.c3 HM m1_; have kgi := MS.c2 HM m2_
  go_wp2
  replace HM := MS.po1 cv HM
  generalize World.setCell _ _ _ = wk at HM ⊢
  refine MS.rt HM m1_ ?_
  exact ⟨cv, rfl, HCV.out, HM.out.S.own _ m0_, HM.out.S.below⟩
 ·
  have hof' : ofB X.v x sx y sy c = true := by simpa using hof
  have HOF := Aside0.mk hof'
  rcases cases with ⟨hcl, _⟩ | ⟨he, hc, hcl⟩
  ·
   have hg : guardF X.v X.m X.e x sx y sy c lo hi = closeF X.v X.m X.e := by unfold guardF; rw [if_pos (.inl (by rw [hcl]))]
   rw [hg, hcl]
   have HC := Aside0.mk hcl
   clear hX h0 fx hg hcl hof hof' hup
   go_enter Try.func19, Try.ntmps19
   go_upto_region 1 with fail
   have HM := MS.n4 w X.cells (lC x sx y sy c) (iC lo hi) zeroO
   generalize World.alloc _ _ = wk at HM ⊢
   generalize w.heap.size + 3 = gr at HM ⊢
   generalize w.heap.size + 2 = gi at HM ⊢
   generalize w.heap.size + 1 = gl at HM ⊢
   generalize w.heap.size = go at HM ⊢
   have kgo := MS.c3 HM m3_
   go_upto_region 2 with (first | (go_at_call 51; (with_reducible refine (close_as (Oc.now HX (MS.bel HM)) (Below.refl _ _) rfl FX_.out HC.out).mono ?_); rintro e wk ⟨cv, rfl, hcv, ho, hb⟩; replace HM := MS.cl HM hb ho; clear ho hb; replace kgo := MS.c3 HM m3_) | ((with_reducible refine gate_dst (N := 7) rfl ?_); refine bx_ 7 #[.slice none 0 0, .slice none 0 0, .bool false] 25 ?_; intro gc hg wk hbox hb; replace HM := MS.md HM hg hbox hb; clear hg hbox hb; have kgc := MS.c3 HM m0_; replace kgo := MS.c3 HM m4_))
   replace HM := MS.po0 cv HM
   generalize World.setCell _ _ _ = wk at HM ⊢
   have HCV := Aside0.mk hcv; clear hcv
   have hem : cv.e = true := congrArg (·.2.2) HCV.out
   replace kgc := MS.c3 HM m0_; have kgl := MS.c5 HM m3_; replace kgo := MS.c3 HM m4_
   go_upto_region 3 with (first | (go_at_call 55; (with_reducible refine (of_as (Oc.now HX (MS.bel HM)) (Below.refl _ _) LK.out HOF.out).mono ?_); rintro e wk ⟨rfl, hb⟩; replace HM := MS.nx HM hb; clear hb; replace kgc := MS.c3 HM m0_; replace kgl := MS.c5 HM m3_; replace kgo := MS.c3 HM m4_))
   clear hem
   have kgr := MS.c3 HM m1_; have kgi := MS.c2 HM m2_
   go_wp2
   replace HM := MS.po1 cv HM
   generalize World.setCell _ _ _ = wk at HM ⊢
   refine MS.rt HM m1_ ?_
   exact ⟨cv, rfl, HCV.out, HM.out.S.own _ m0_, HM.out.S.below⟩
  ·
   obtain ⟨a, b, hab⟩ : ∃ a b, itvOf lo hi = (a, b) := ⟨_, _, rfl⟩
   have HC := Aside0.mk hcl
   have HIT := Aside0.mk hab
   have hge : guardF X.v X.m X.e x sx y sy c lo hi = if a > b ∨ (sx = 0 ∧ itvHas a b c = false) then (X.v, [], true) else if sx = 0 then closeF X.v X.m X.e else closeF X.v (lst (2 * X.v.length) (upC (upC (closeM (2 * X.v.length) (lowM X.v.length X.m)) (placeF X.v x).toNat sx (placeF X.v y).toNat sy (bupF b (-c))) (placeF X.v x).toNat (-sx) (placeF X.v y).toNat (-sy) (bupF (bnegF a) c))) false := by
    unfold guardF; rw [if_neg (by rw [hcl, hof']; simp), hab]
   rw [hge]
   by_cases hn : a > b
   ·
    rw [if_pos (.inl hn)]
    have HN : Aside0 (decide (a > b) = true) := ⟨decide_eq_true hn⟩
    have HH : Aside0 (itvHas a b c = itvHas a b c) := ⟨rfl⟩
    clear hX h0 fx hcl hof hof' he hc hab hge hn hup
    go_enter Try.func19, Try.ntmps19
    go_upto_region 1 with fail
    have HM := MS.n4 w X.cells (lC x sx y sy c) (iC lo hi) zeroO
    generalize World.alloc _ _ = wk at HM ⊢
    generalize w.heap.size + 3 = gr at HM ⊢
    generalize w.heap.size + 2 = gi at HM ⊢
    generalize w.heap.size + 1 = gl at HM ⊢
    generalize w.heap.size = go at HM ⊢
    have kgo := MS.c3 HM m3_
    go_upto_region 2 with (first | (go_at_call 51; (with_reducible refine (close_as (Oc.now HX (MS.bel HM)) (Below.refl _ _) rfl FX_.out HC.out).mono ?_); rintro e wk ⟨cv, rfl, hcv, ho, hb⟩; replace HM := MS.cl HM hb ho; clear ho hb; replace kgo := MS.c3 HM m3_) | ((with_reducible refine gate_dst (N := 7) rfl ?_); refine bx_ 7 #[.slice none 0 0, .slice none 0 0, .bool false] 25 ?_; intro gc hg wk hbox hb; replace HM := MS.md HM hg hbox hb; clear hg hbox hb; have kgc := MS.c3 HM m0_; replace kgo := MS.c3 HM m4_))
    replace HM := MS.po0 cv HM
    generalize World.setCell _ _ _ = wk at HM ⊢
    have HCV := Aside0.mk hcv; clear hcv
    have hem : cv.e = false := congrArg (·.2.2) HCV.out
    replace kgc := MS.c3 HM m0_; have kgr := MS.c3 HM m1_; have kgl := MS.c5 HM m3_; replace kgo := MS.c3 HM m4_
    go_upto_region 4 with (first | (go_at_call 55; (with_reducible refine (of_as (Oc.now HX (MS.bel HM)) (Below.refl _ _) LK.out HOF.out).mono ?_); rintro e wk ⟨rfl, hb⟩; replace HM := MS.nx HM hb; clear hb; replace kgc := MS.c3 HM m0_; replace kgr := MS.c3 HM m1_; replace kgl := MS.c5 HM m3_; replace kgo := MS.c3 HM m4_))
    clear hem
    have kgi := MS.c2 HM m2_
    go_upto_region 5 with (first | (go_at_call 56; (with_reducible refine (itvOf_as HIT.out).mono ?_); rintro e wk ⟨rfl, hb⟩; replace HM := MS.nx HM hb; clear hb; replace kgi := MS.c2 HM m2_))
    replace HM := MS.pi2 a b HM
    generalize World.setCell _ _ _ = wk at HM ⊢
    replace kgi := MS.c2 HM m2_; replace kgl := MS.c5 HM m3_
    go_upto_region 6 with (first | (go_at_call 57; (with_reducible refine (itvNone_as HN.out).mono ?_); rintro e wk ⟨rfl, hb⟩; replace HM := MS.nx HM hb; clear hb; replace kgi := MS.c2 HM m2_; replace kgl := MS.c5 HM m3_) | (go_at_call 34; (with_reducible refine (itvHas_as HH.out).mono ?_); rintro e wk ⟨rfl, hb⟩; replace HM := MS.nx HM hb; clear hb; replace kgi := MS.c2 HM m2_; replace kgl := MS.c5 HM m3_))
    replace kgc := MS.c3 HM m0_; replace kgr := MS.c3 HM m1_; replace kgo := MS.c3 HM m4_
    go_wp2_with (first | (go_at_call 58; (with_reducible refine (bottom_own (Oc.now HX (MS.bel HM)).r0 (Below.refl _ _) HV.out).mono ?_); rintro e wk ⟨zv, rfl, hzv, ho, hb⟩; replace HM := MS.cl HM hb ho; clear ho hb; replace kgc := MS.c3 HM m0_; replace kgr := MS.c3 HM m1_; replace kgi := MS.c2 HM m2_; replace kgl := MS.c5 HM m3_; replace kgo := MS.c3 HM m4_))
    replace HM := MS.po1 zv HM
    generalize World.setCell _ _ _ = wk at HM ⊢
    refine MS.rt HM m1_ ?_
    exact ⟨zv, rfl, hzv, HM.out.S.own _ m0_, HM.out.S.below⟩
   ·
    have HN : Aside0 (decide (a > b) = false) := ⟨decide_eq_false hn⟩
    by_cases hs : sx = 0
    ·
     have HSX : Aside0 ((sx == 0) = true) := ⟨by simpa using hs⟩
     obtain ⟨t, ht⟩ : ∃ t, itvHas a b c = t := ⟨_, rfl⟩
     have HH := Aside0.mk ht
     cases t with
     | false =>
      rw [if_pos (.inr ⟨hs, ht⟩)]
      clear hX h0 fx hcl hof hof' he hc hab hge hn hs ht hup
      go_enter Try.func19, Try.ntmps19
      go_upto_region 1 with fail
      have HM := MS.n4 w X.cells (lC x sx y sy c) (iC lo hi) zeroO
      generalize World.alloc _ _ = wk at HM ⊢
      generalize w.heap.size + 3 = gr at HM ⊢
      generalize w.heap.size + 2 = gi at HM ⊢
      generalize w.heap.size + 1 = gl at HM ⊢
      generalize w.heap.size = go at HM ⊢
      have kgo := MS.c3 HM m3_
      go_upto_region 2 with (first | (go_at_call 51; (with_reducible refine (close_as (Oc.now HX (MS.bel HM)) (Below.refl _ _) rfl FX_.out HC.out).mono ?_); rintro e wk ⟨cv, rfl, hcv, ho, hb⟩; replace HM := MS.cl HM hb ho; clear ho hb; replace kgo := MS.c3 HM m3_) | ((with_reducible refine gate_dst (N := 7) rfl ?_); refine bx_ 7 #[.slice none 0 0, .slice none 0 0, .bool false] 25 ?_; intro gc hg wk hbox hb; replace HM := MS.md HM hg hbox hb; clear hg hbox hb; have kgc := MS.c3 HM m0_; replace kgo := MS.c3 HM m4_))
      replace HM := MS.po0 cv HM
      generalize World.setCell _ _ _ = wk at HM ⊢
      have HCV := Aside0.mk hcv; clear hcv
      have hem : cv.e = false := congrArg (·.2.2) HCV.out
      replace kgc := MS.c3 HM m0_; have kgr := MS.c3 HM m1_; have kgl := MS.c5 HM m3_; replace kgo := MS.c3 HM m4_
      go_upto_region 4 with (first | (go_at_call 55; (with_reducible refine (of_as (Oc.now HX (MS.bel HM)) (Below.refl _ _) LK.out HOF.out).mono ?_); rintro e wk ⟨rfl, hb⟩; replace HM := MS.nx HM hb; clear hb; replace kgc := MS.c3 HM m0_; replace kgr := MS.c3 HM m1_; replace kgl := MS.c5 HM m3_; replace kgo := MS.c3 HM m4_))
      clear hem
      have kgi := MS.c2 HM m2_
      go_upto_region 5 with (first | (go_at_call 56; (with_reducible refine (itvOf_as HIT.out).mono ?_); rintro e wk ⟨rfl, hb⟩; replace HM := MS.nx HM hb; clear hb; replace kgi := MS.c2 HM m2_))
      replace HM := MS.pi2 a b HM
      generalize World.setCell _ _ _ = wk at HM ⊢
      have sx0 := HSX.out
      replace kgi := MS.c2 HM m2_; replace kgl := MS.c5 HM m3_
      go_upto_region 6 with (first | (go_at_call 57; (with_reducible refine (itvNone_as HN.out).mono ?_); rintro e wk ⟨rfl, hb⟩; replace HM := MS.nx HM hb; clear hb; replace kgi := MS.c2 HM m2_; replace kgl := MS.c5 HM m3_) | (go_at_call 34; (with_reducible refine (itvHas_as HH.out).mono ?_); rintro e wk ⟨rfl, hb⟩; replace HM := MS.nx HM hb; clear hb; replace kgi := MS.c2 HM m2_; replace kgl := MS.c5 HM m3_))
      clear sx0
      replace kgc := MS.c3 HM m0_; replace kgr := MS.c3 HM m1_; replace kgo := MS.c3 HM m4_
      go_wp2_with (first | (go_at_call 58; (with_reducible refine (bottom_own (Oc.now HX (MS.bel HM)).r0 (Below.refl _ _) HV.out).mono ?_); rintro e wk ⟨zv, rfl, hzv, ho, hb⟩; replace HM := MS.cl HM hb ho; clear ho hb; replace kgc := MS.c3 HM m0_; replace kgr := MS.c3 HM m1_; replace kgi := MS.c2 HM m2_; replace kgl := MS.c5 HM m3_; replace kgo := MS.c3 HM m4_))
      replace HM := MS.po1 zv HM
      generalize World.setCell _ _ _ = wk at HM ⊢
      refine MS.rt HM m1_ ?_
      exact ⟨zv, rfl, hzv, HM.out.S.own _ m0_, HM.out.S.below⟩
     | true =>
      rw [if_neg (fun h => h.elim hn (fun h => by rw [ht] at h; exact absurd h.2 (by decide))), if_pos hs, hcl]
      clear hX h0 fx hcl hof hof' he hc hab hge hn hs ht hup
      go_enter Try.func19, Try.ntmps19
      go_upto_region 1 with fail
      have HM := MS.n4 w X.cells (lC x sx y sy c) (iC lo hi) zeroO
      generalize World.alloc _ _ = wk at HM ⊢
      generalize w.heap.size + 3 = gr at HM ⊢
      generalize w.heap.size + 2 = gi at HM ⊢
      generalize w.heap.size + 1 = gl at HM ⊢
      generalize w.heap.size = go at HM ⊢
      have kgo := MS.c3 HM m3_
      go_upto_region 2 with (first | (go_at_call 51; (with_reducible refine (close_as (Oc.now HX (MS.bel HM)) (Below.refl _ _) rfl FX_.out HC.out).mono ?_); rintro e wk ⟨cv, rfl, hcv, ho, hb⟩; replace HM := MS.cl HM hb ho; clear ho hb; replace kgo := MS.c3 HM m3_) | ((with_reducible refine gate_dst (N := 7) rfl ?_); refine bx_ 7 #[.slice none 0 0, .slice none 0 0, .bool false] 25 ?_; intro gc hg wk hbox hb; replace HM := MS.md HM hg hbox hb; clear hg hbox hb; have kgc := MS.c3 HM m0_; replace kgo := MS.c3 HM m4_))
      replace HM := MS.po0 cv HM
      generalize World.setCell _ _ _ = wk at HM ⊢
      have HCV := Aside0.mk hcv; clear hcv
      have hem : cv.e = false := congrArg (·.2.2) HCV.out
      replace kgc := MS.c3 HM m0_; have kgr := MS.c3 HM m1_; have kgl := MS.c5 HM m3_; replace kgo := MS.c3 HM m4_
      go_upto_region 4 with (first | (go_at_call 55; (with_reducible refine (of_as (Oc.now HX (MS.bel HM)) (Below.refl _ _) LK.out HOF.out).mono ?_); rintro e wk ⟨rfl, hb⟩; replace HM := MS.nx HM hb; clear hb; replace kgc := MS.c3 HM m0_; replace kgr := MS.c3 HM m1_; replace kgl := MS.c5 HM m3_; replace kgo := MS.c3 HM m4_))
      clear hem
      have kgi := MS.c2 HM m2_
      go_upto_region 5 with (first | (go_at_call 56; (with_reducible refine (itvOf_as HIT.out).mono ?_); rintro e wk ⟨rfl, hb⟩; replace HM := MS.nx HM hb; clear hb; replace kgi := MS.c2 HM m2_))
      replace HM := MS.pi2 a b HM
      generalize World.setCell _ _ _ = wk at HM ⊢
      have sx0 := HSX.out
      replace kgr := MS.c3 HM m1_; replace kgi := MS.c2 HM m2_; replace kgl := MS.c5 HM m3_; replace kgo := MS.c3 HM m4_
      go_upto_region 7 with (first | (go_at_call 57; (with_reducible refine (itvNone_as HN.out).mono ?_); rintro e wk ⟨rfl, hb⟩; replace HM := MS.nx HM hb; clear hb; replace kgr := MS.c3 HM m1_; replace kgi := MS.c2 HM m2_; replace kgl := MS.c5 HM m3_; replace kgo := MS.c3 HM m4_) | (go_at_call 34; (with_reducible refine (itvHas_as HH.out).mono ?_); rintro e wk ⟨rfl, hb⟩; replace HM := MS.nx HM hb; clear hb; replace kgr := MS.c3 HM m1_; replace kgi := MS.c2 HM m2_; replace kgl := MS.c5 HM m3_; replace kgo := MS.c3 HM m4_))
      go_upto_region 8 with fail
      clear sx0
      replace kgc := MS.c3 HM m0_
      go_wp2
      replace HM := MS.po1 cv HM
      generalize World.setCell _ _ _ = wk at HM ⊢
      refine MS.rt HM m1_ ?_
      exact ⟨cv, rfl, HCV.out, HM.out.S.own _ m0_, HM.out.S.below⟩
    ·
     have HSX : Aside0 ((sx == 0) = false) := ⟨by simpa using hs⟩
     have HH : Aside0 (itvHas a b c = itvHas a b c) := ⟨rfl⟩
     rw [if_neg (fun h => h.elim hn (fun h => hs h.1)), if_neg hs]
     have hP := of_decide_eq_true hof'
     have hp : placeF X.v x = ((placeF X.v x).toNat : Int) := by have := hP.2.1; omega
     have hq : sy ≠ 0 → placeF X.v y = ((placeF X.v y).toNat : Int) := fun h => by have := hP.2.2; omega
     have hb : -1099511627776 ≤ c ∧ c ≤ 1099511627776 := ⟨hP.1.1, hP.1.2.1⟩
     have hsx : sx = 1 ∨ sx = -1 := by have := hP.1.2.2.2; omega
     have hsy : sy = 0 ∨ sy = 1 ∨ sy = -1 := by have := hP.1.2.2.2; omega
     have hft := hup (closeM (2 * X.v.length) (lowM X.v.length X.m)) _ _ (bupF b (-c)) (bupF (bnegF a) c) (Cld.of (snd_of_fit (by rw [he] at fx; exact fx)) hc) hof' hs hp hq
     generalize (placeF X.v x).toNat = p at hp hft ⊢
     generalize (placeF X.v y).toNat = q at hq hft ⊢
     obtain ⟨c', hc'⟩ : ∃ u, -c = u := ⟨_, rfl⟩
     obtain ⟨sx', hsx'⟩ : ∃ u, -sx = u := ⟨_, rfl⟩
     obtain ⟨sy', hsy'⟩ : ∃ u, -sy = u := ⟨_, rfl⟩
     rw [hc', hsx', hsy'] at hft ⊢
     have WC : Aside0 (IntKind.i64.wrap (-c) = c') := ⟨by rw [← hc']; unfold IntKind.wrap; simp [IntKind.bits, IntKind.signed]; omega⟩
     have WS : Aside0 (IntKind.i64.wrap (-sx) = sx') := ⟨by rw [← hsx']; unfold IntKind.wrap; simp [IntKind.bits, IntKind.signed]; omega⟩
     have WT : Aside0 (IntKind.i64.wrap (-sy) = sy') := ⟨by rw [← hsy']; unfold IntKind.wrap; simp [IntKind.bits, IntKind.signed]; omega⟩
     have HP := Aside0.mk hp
     have HQ := Aside0.mk hq
     have HQ' : Aside0 (sy' ≠ 0 → placeF X.v y = (q : Int)) := ⟨fun h => hq (by omega)⟩
     obtain ⟨u1, hu1⟩ : ∃ u, bupF b c' = u := ⟨_, rfl⟩
     obtain ⟨u2, hu2⟩ : ∃ u, bnegF a = u := ⟨_, rfl⟩
     obtain ⟨u3, hu3⟩ : ∃ u, bupF u2 c = u := ⟨_, rfl⟩
     rw [hu1, hu2, hu3] at hft ⊢
     have HU1 := Aside0.mk hu1
     have HU2 := Aside0.mk hu2
     have HU3 := Aside0.mk hu3
     have HFT := Aside0.mk hft
     clear hX h0 fx hcl hof hof' he hc hab hge hn hs hup hP hp hq hb hsx hsy hc' hsx' hsy' hu1 hu2 hu3 hft
     go_enter Try.func19, Try.ntmps19
     go_upto_region 1 with fail
     have HM := MS.n4 w X.cells (lC x sx y sy c) (iC lo hi) zeroO
     generalize World.alloc _ _ = wk at HM ⊢
     generalize w.heap.size + 3 = gr at HM ⊢
     generalize w.heap.size + 2 = gi at HM ⊢
     generalize w.heap.size + 1 = gl at HM ⊢
     generalize w.heap.size = go at HM ⊢
     have kgo := MS.c3 HM m3_
     go_upto_region 2 with (first | (go_at_call 51; (with_reducible refine (close_as (Oc.now HX (MS.bel HM)) (Below.refl _ _) rfl FX_.out HC.out).mono ?_); rintro e wk ⟨cv, rfl, hcv, ho, hb⟩; replace HM := MS.cl HM hb ho; clear ho hb; replace kgo := MS.c3 HM m3_) | ((with_reducible refine gate_dst (N := 7) rfl ?_); refine bx_ 7 #[.slice none 0 0, .slice none 0 0, .bool false] 25 ?_; intro gc hg wk hbox hb; replace HM := MS.md HM hg hbox hb; clear hg hbox hb; have kgc := MS.c3 HM m0_; replace kgo := MS.c3 HM m4_))
     replace HM := MS.po0 cv HM
     generalize World.setCell _ _ _ = wk at HM ⊢
     have HCV := Aside0.mk hcv; clear hcv
     have hem : cv.e = false := congrArg (·.2.2) HCV.out
     replace kgc := MS.c3 HM m0_; have kgr := MS.c3 HM m1_; have kgl := MS.c5 HM m3_; replace kgo := MS.c3 HM m4_
     go_upto_region 4 with (first | (go_at_call 55; (with_reducible refine (of_as (Oc.now HX (MS.bel HM)) (Below.refl _ _) LK.out HOF.out).mono ?_); rintro e wk ⟨rfl, hb⟩; replace HM := MS.nx HM hb; clear hb; replace kgc := MS.c3 HM m0_; replace kgr := MS.c3 HM m1_; replace kgl := MS.c5 HM m3_; replace kgo := MS.c3 HM m4_))
     clear hem
     have kgi := MS.c2 HM m2_
     go_upto_region 5 with (first | (go_at_call 56; (with_reducible refine (itvOf_as HIT.out).mono ?_); rintro e wk ⟨rfl, hb⟩; replace HM := MS.nx HM hb; clear hb; replace kgi := MS.c2 HM m2_))
     replace HM := MS.pi2 a b HM
     generalize World.setCell _ _ _ = wk at HM ⊢
     have sx0 := HSX.out
     replace kgr := MS.c3 HM m1_; replace kgi := MS.c2 HM m2_; replace kgl := MS.c5 HM m3_; replace kgo := MS.c3 HM m4_
     go_upto_region 7 with (first | (go_at_call 57; (with_reducible refine (itvNone_as HN.out).mono ?_); rintro e wk ⟨rfl, hb⟩; replace HM := MS.nx HM hb; clear hb; replace kgr := MS.c3 HM m1_; replace kgi := MS.c2 HM m2_; replace kgl := MS.c5 HM m3_; replace kgo := MS.c3 HM m4_) | (go_at_call 34; (with_reducible refine (itvHas_as HH.out).mono ?_); rintro e wk ⟨rfl, hb⟩; replace HM := MS.nx HM hb; clear hb; replace kgr := MS.c3 HM m1_; replace kgi := MS.c2 HM m2_; replace kgl := MS.c5 HM m3_; replace kgo := MS.c3 HM m4_))
     replace kgc := MS.c3 HM m0_
     go_upto_region 9 with fail
     clear sx0
     have wc := WC.out
     replace HM := MS.dr HM
     clear kgc kgi kgl kgo kgr
     refine st_ 17 (fun w' => oR gc cv w' ∧ w'.cell? ⟨gl, 1, none⟩ = some (.int .i64 sx) ∧ w'.cell? ⟨gl, 0, none⟩ = some (.int .i64 x) ∧ w'.cell? ⟨gl, 3, none⟩ = some (.int .i64 sy) ∧ w'.cell? ⟨gl, 2, none⟩ = some (.int .i64 y) ∧ w'.cell? ⟨gi, 1, none⟩ = some (.int .i64 b) ∧ w'.cell? ⟨gl, 4, none⟩ = some (.int .i64 c)) [16] ⟨kO HM m0_, MS.k HM m3_ 1 rfl, MS.k HM m3_ 0 rfl, MS.k HM m3_ 3 rfl, MS.k HM m3_ 2 rfl, MS.k HM m2_ 1 rfl, MS.k HM m3_ 4 rfl⟩ (fun hHeld => ?_)
     refine with_tabW guard_tab9 guard_bits9 (fun HT_ HW_ => ?_)
     generalize World.drew _ = wk at HM hHeld ⊢
     refine tV_ 0 45 (mB 17 1) HT_ HW_ hHeld ?_
     refine pV_ 1 46 (mB 17 3) HT_ ?_
     refine tV_ 2 47 (mB 17 7) HT_ HW_ hHeld ?_
     refine pV_ 3 48 (mB 17 15) HT_ ?_
     refine tV_ 4 49 (mB 17 31) HT_ HW_ hHeld ?_
     refine pV_ 5 50 (mB 17 63) HT_ ?_
     refine tV_ 6 51 (mB 17 127) HT_ HW_ hHeld ?_
     refine pV_ 7 52 (mB 17 255) HT_ ?_
     refine tV_ 8 53 (mB 17 511) HT_ HW_ hHeld ?_
     refine pV_ 9 54 (mB 17 1023) HT_ ?_
     refine tV_ 10 55 (mB 17 2047) HT_ HW_ hHeld ?_
     refine pV_ 11 56 (mB 17 4095) HT_ ?_
     refine tV_ 12 57 (mB 17 8191) HT_ HW_ hHeld ?_
     refine pV_ 13 58 (mB 17 16383) HT_ ?_
     refine on_ 14 (some 59) (mB 17 32767) HT_ (fun K hK => ?_)
     refine gs_ Try.func60 #[.int .i64 b, .int .i64 c'] ?_
     with_reducible refine sk_ (bup_as HU1.out) fun wk hb => ?_
     replace HM := MS.nx HM hb; clear hb
     refine hK.out _ _ ⟨kO HM m0_, MS.k HM m3_ 1 rfl, MS.k HM m3_ 0 rfl, MS.k HM m3_ 3 rfl, MS.k HM m3_ 2 rfl, MS.k HM m2_ 1 rfl, MS.k HM m3_ 4 rfl⟩ (fun hHeld => ?_)
     clear hK K
     refine nO_ 59 ?_
     refine on_ 15 (some 60) (mB 17 65535) HT_ (fun K hK => ?_)
     refine gs_ Try.func59 #[cv.val, .int .i64 sx, .int .i64 x, .int .i64 sy, .int .i64 y, .int .i64 u1] ?_
     with_reducible refine (upper_ms cv sx x sy y u1 (MS.oc HM m0_) (MS.bel HM) HCV.out L8.out HP.out HQ.out).mono ?_
     rintro e wk ⟨c1, rfl, hc1, ho, hb⟩; refine ⟨_, rfl, ?_⟩
     replace HM := Aside0.mk (ho _ _ _ HM.out); clear hb ho
     refine hK.out _ _ ⟨kO HM m0_, MS.k HM m3_ 1 rfl, MS.k HM m3_ 0 rfl, MS.k HM m3_ 3 rfl, MS.k HM m3_ 2 rfl, MS.k HM m2_ 1 rfl, MS.k HM m3_ 4 rfl⟩ (fun hHeld => ?_)
     clear hK K
     refine nO_ 60 ?_
     have kgc := MS.c3 HM m0_
     refine la_ 16 (mB 17 131071) HT_ (fun K hK => ?_)
     refine skip_ (w1 := ?_) (by rfl) rfl ?_ ?_
     rotate_left
     ·
      go_simp
      rfl
     refine hK.out _ _ ?_
     clear hK K
     refine dn_ HT_ ?_
     clear HT_ HW_ hHeld
     replace HM := MS.po0 c1 HM
     generalize World.setCell _ _ _ = wk at HM ⊢
     clear wc; have HC1 := Aside0.mk hc1; clear hc1
     have ws := WS.out; have wt := WT.out
     replace kgc := MS.c3 HM m0_; have kgr := MS.c3 HM m1_; have kgi := MS.c2 HM m2_; have kgl := MS.c5 HM m3_; have kgo := MS.c3 HM m4_
     go_upto_region 10 with fail
     replace HM := MS.dr HM
     clear kgc kgi kgl kgo kgr
     refine st_ 19 (fun w' => oR gc c1 w' ∧ w'.cell? ⟨gl, 1, none⟩ = some (.int .i64 sx) ∧ w'.cell? ⟨gl, 0, none⟩ = some (.int .i64 x) ∧ w'.cell? ⟨gl, 3, none⟩ = some (.int .i64 sy) ∧ w'.cell? ⟨gl, 2, none⟩ = some (.int .i64 y) ∧ w'.cell? ⟨gi, 0, none⟩ = some (.int .i64 a) ∧ w'.cell? ⟨gl, 4, none⟩ = some (.int .i64 c)) [18] ⟨kO HM m0_, MS.k HM m3_ 1 rfl, MS.k HM m3_ 0 rfl, MS.k HM m3_ 3 rfl, MS.k HM m3_ 2 rfl, MS.k HM m2_ 0 rfl, MS.k HM m3_ 4 rfl⟩ (fun hHeld => ?_)
     refine with_tabW guard_tab10 guard_bits10 (fun HT_ HW_ => ?_)
     generalize World.drew _ = wk at HM hHeld ⊢
     refine tV_ 0 61 (mB 19 1) HT_ HW_ hHeld ?_
     refine pV_ 1 62 (mB 19 3) HT_ ?_
     refine tV_ 2 63 (mB 19 7) HT_ HW_ hHeld ?_
     refine pV_ 3 64 (mB 19 15) HT_ ?_
     refine pV_ 4 65 (mB 19 31) HT_ ?_
     refine tV_ 5 66 (mB 19 63) HT_ HW_ hHeld ?_
     refine pV_ 6 67 (mB 19 127) HT_ ?_
     refine tV_ 7 68 (mB 19 255) HT_ HW_ hHeld ?_
     refine pV_ 8 69 (mB 19 511) HT_ ?_
     refine pV_ 9 70 (mB 19 1023) HT_ ?_
     refine tV_ 10 71 (mB 19 2047) HT_ HW_ hHeld ?_
     refine pV_ 11 72 (mB 19 4095) HT_ ?_
     refine tV_ 12 73 (mB 19 8191) HT_ HW_ hHeld ?_
     refine pV_ 14 75 (mB 19 24575) HT_ ?_
     refine tV_ 15 76 (mB 19 57343) HT_ HW_ hHeld ?_
     refine on_ 13 (some 74) (mB 19 65535) HT_ (fun K hK => ?_)
     refine gs_ Try.func61 #[.int .i64 a] ?_
     with_reducible refine sk_ (bneg_as HU2.out) fun wk hb => ?_
     replace HM := MS.nx HM hb; clear hb
     refine hK.out _ _ ⟨kO HM m0_, MS.k HM m3_ 1 rfl, MS.k HM m3_ 0 rfl, MS.k HM m3_ 3 rfl, MS.k HM m3_ 2 rfl, MS.k HM m2_ 0 rfl, MS.k HM m3_ 4 rfl⟩ (fun hHeld => ?_)
     clear hK K
     refine nO_ 74 ?_
     refine on_ 16 (some 77) (mB 19 131071) HT_ (fun K hK => ?_)
     refine gs_ Try.func60 #[.int .i64 u2, .int .i64 c] ?_
     with_reducible refine sk_ (bup_as HU3.out) fun wk hb => ?_
     replace HM := MS.nx HM hb; clear hb
     refine hK.out _ _ ⟨kO HM m0_, MS.k HM m3_ 1 rfl, MS.k HM m3_ 0 rfl, MS.k HM m3_ 3 rfl, MS.k HM m3_ 2 rfl, MS.k HM m2_ 0 rfl, MS.k HM m3_ 4 rfl⟩ (fun hHeld => ?_)
     clear hK K
     refine nO_ 77 ?_
     refine on_ 17 (some 78) (mB 19 262143) HT_ (fun K hK => ?_)
     refine gs_ Try.func59 #[c1.val, .int .i64 sx', .int .i64 x, .int .i64 sy', .int .i64 y, .int .i64 u3] ?_
     with_reducible refine (upper_ms c1 sx' x sy' y u3 (MS.oc HM m0_) (MS.bel HM) HC1.out L8.out HP.out HQ'.out).mono ?_
     rintro e wk ⟨c2, rfl, hc2, ho, hb⟩; refine ⟨_, rfl, ?_⟩
     replace HM := Aside0.mk (ho _ _ _ HM.out); clear hb ho
     refine hK.out _ _ ⟨kO HM m0_, MS.k HM m3_ 1 rfl, MS.k HM m3_ 0 rfl, MS.k HM m3_ 3 rfl, MS.k HM m3_ 2 rfl, MS.k HM m2_ 0 rfl, MS.k HM m3_ 4 rfl⟩ (fun hHeld => ?_)
     clear hK K
     refine nO_ 78 ?_
     have kgc := MS.c3 HM m0_
     refine la_ 18 (mB 19 524287) HT_ (fun K hK => ?_)
     refine skip_ (w1 := ?_) (by rfl) rfl ?_ ?_
     rotate_left
     ·
      go_simp
      rfl
     refine hK.out _ _ ?_
     clear hK K
     refine dn_ HT_ ?_
     clear HT_ HW_ hHeld
     replace HM := MS.po0 c2 HM
     generalize World.setCell _ _ _ = wk at HM ⊢
     clear ws wt; have HC2 := Aside0.mk hc2; clear hc2
     replace kgc := MS.c3 HM m0_; have kgr := MS.c3 HM m1_
     go_wp2_with (first | (go_at_call 51; (with_reducible refine (close_as (MS.oc HM m0_) (MS.bel HM) HC2.out HFT.out rfl).mono ?_); rintro e wk ⟨zv, rfl, hzv, ho, hb⟩; replace HM := MS.cl HM hb ho; clear ho hb; replace kgc := MS.c3 HM m0_; replace kgr := MS.c3 HM m1_))
     replace HM := MS.po1 zv HM
     generalize World.setCell _ _ _ = wk at HM ⊢
     refine MS.rt HM m1_ ?_
     exact ⟨zv, rfl, hzv, HM.out.S.own _ m0_, HM.out.S.below⟩
end Go.Proofs.Ytphfchbggechhaa.QO
end
end
section
noncomputable section
namespace Go.Proofs.Ytphfchbggechhaa.QO
open Go.RowKit Go.Shelf YtphfchbggechhaaW.PrintWords YtphfchbggechhaaW.PrintLast YtphfchbggechhaaW.PrintMore
attribute [local go_sem] Oper.semAt_some
attribute [local go_sem ↓] Go.wp_at_zero Go.wp_at_succ
set_option linter.unusedVariables false
set_option linter.unusedSimpArgs false
def fromF (s : Int) (k i : Nat) : Nat := if s < 0 ∧ i / 2 = k then nb i else i
def gainF (k : Nat) (d : Int) (i : Nat) : Int := if i = 2 * k then d else if i = 2 * k + 1 then -d else 0
theorem fromF_lt {s : Int} {k i n : Nat} (h : i < 2 * n) : fromF s k i < 2 * n := by unfold fromF; split <;> first | exact nb_lt h | exact h
theorem from_o (gs gk k i : Nat) (s : Int) {w : World} (hs : w.cell? ⟨gs, 0, none⟩ = some (.int .i64 s)) (hk : w.cell? ⟨gk, 0, none⟩ = some (.int .i64 (k : Int))) (hi : i < 16) : Calls Try.prog 109 #[.int .i64 (i : Int), .pointer (some ⟨gs, 0, none⟩), .pointer (some ⟨gk, 0, none⟩)] w fun e w' => e = .returned (.int .i64 ((fromF s k i : Nat) : Int)) ∧ w = w' := by
 have X_ := Aside0.mk (xor_nb hi)
 have w1 : IntKind.i64.wrap ((i : Int).tdiv 2) = ((i / 2 : Nat) : Int) := by
  rw [show (i : Int).tdiv 2 = ((i / 2 : Nat) : Int) from rfl]
  unfold IntKind.wrap; simp [IntKind.bits, IntKind.signed]; omega
 have w2 : wrap64 ((i : Int) / 2) = ((i / 2 : Nat) : Int) := by unfold wrap64; omega
 obtain ⟨a, ha⟩ : ∃ a : Int, ((i / 2 : Nat) : Int) = a := ⟨_, rfl⟩
 rw [ha] at w1 w2
 have HA := Aside0.mk ha
 have HI := Aside0.mk hi
 clear ha hi
 go_enter Try.func109, Try.ntmps109
 go_wp2
 all_goals go_ret
 all_goals refine ⟨congrArg (fun b => Ending.returned (.int .i64 b)) ?_, rfl⟩
 all_goals clear w1 w2
 all_goals try simp only [beq_iff_eq, beq_eq_false_iff_ne, ne_eq] at *
 all_goals have ha := HA.out
 all_goals have hi := HI.out
 all_goals have hx := X_.out
 all_goals clear HA HI X_
 all_goals unfold fromF
 all_goals first | (rw [if_pos (by omega)]; exact hx) | (rw [if_neg (by omega)])
theorem gain_o (gk gd k i : Nat) (d : Int) {w : World} (hk : w.cell? ⟨gk, 0, none⟩ = some (.int .i64 (k : Int))) (hd : w.cell? ⟨gd, 0, none⟩ = some (.int .i64 d)) (k8 : k ≤ 8) (db : -1099511627776 ≤ d ∧ d ≤ 1099511627776) : Calls Try.prog 110 #[.int .i64 (i : Int), .pointer (some ⟨gk, 0, none⟩), .pointer (some ⟨gd, 0, none⟩)] w fun e w' => e = .returned (.int .i64 (gainF k d i)) ∧ w = w' := by
 have K8 := Aside0.mk k8
 have d1 := db.1
 have d2 := db.2
 obtain ⟨kk, hkk⟩ : ∃ a : Int, (k : Int) = a := ⟨_, rfl⟩
 rw [hkk] at hk
 have k0 : 0 ≤ kk := by omega
 have k9 : kk ≤ 8 := by omega
 have HK := Aside0.mk hkk
 clear hkk k8 db
 go_enter Try.func110, Try.ntmps110
 go_wp2
 all_goals go_ret
 all_goals refine ⟨congrArg (fun b => Ending.returned (.int .i64 b)) ?_, rfl⟩
 all_goals have hkk := HK.out
 all_goals clear HK K8
 all_goals unfold gainF
 all_goals try simp only [beq_iff_eq, beq_eq_false_iff_ne, ne_eq] at *
 all_goals (repeat' split) <;> first | rfl | omega
end Go.Proofs.Ytphfchbggechhaa.QO
end
end
section
noncomputable section
namespace Go.Proofs.Ytphfchbggechhaa.QO
open Go.RowKit Go.Shelf YtphfchbggechhaaW.PrintWords YtphfchbggechhaaW.PrintLast YtphfchbggechhaaW.PrintMore
def CQ (L : List (Addr × Value)) (W : World) : Prop := ∀ p, p ∈ L → W.cell? p.1 = some p.2
theorem CQ.next {L : List (Addr × Value)} {W W' : World} (h : CQ L W) (hb : Below W.heap.size W W') : CQ L W' := fun p hp => (hb.cell (World.block_lt_of_cell? W _ (h p hp))).trans (h p hp)
theorem CQ.drew {L : List (Addr × Value)} {W : World} (h : CQ L W) : CQ L W.drew := fun p hp => h p hp
theorem CQ.at_ {L : List (Addr × Value)} {W : World} {a : Addr} {v : Value} (h : Aside0 (CQ L W)) (hp : (a, v) ∈ L) : W.cell? a = some v := h.out _ hp
theorem CQ.nil (W : World) : CQ [] W := fun _ h => absurd h List.not_mem_nil
theorem CQ.cons {L : List (Addr × Value)} {W : World} {a : Addr} {v : Value} (hc : W.cell? a = some v) (h : CQ L W) : CQ ((a, v) :: L) W := fun p hp => by
 cases hp with
 | head => exact hc
 | tail _ hp => exact h p hp
end Go.Proofs.Ytphfchbggechhaa.QO
end
end
section
noncomputable section
namespace Go.Proofs.Ytphfchbggechhaa.QO
open Go.RowKit Go.Shelf YtphfchbggechhaaW.PrintWords YtphfchbggechhaaW.PrintLast YtphfchbggechhaaW.PrintMore
open Ytphfchbggechhaa.Pure
attribute [local go_sem] Oper.semAt_some
attribute [local go_sem ↓] Go.wp_at_zero Go.wp_at_succ
set_option linter.unusedVariables false
set_option linter.unusedSimpArgs false
def mov3_T1 : Bool × List (List Nat × List Nat) := (true, [([], []), ([0], [0]), ([], []), ([], []), ([2, 3], [2, 3]), ([], []), ([4, 5], [4, 5]), ([], []), ([], []), ([7, 8, 4], [7, 8]), ([6, 9], [6, 9]), ([1, 10], [1, 10]), ([11], [11]), ([12, 9, 0, 1, 2, 3, 4, 5, 6, 7, 8, 9, 10, 11, 12], [12])])
def mov3_B1 : List Nat := [0, 1, 0, 0, 12, 0, 60, 0, 0, 412, 1020, 2047, 4095, 8191]
theorem mov3_tab1 : rtab .any (opsOf Try.f111 1) = mov3_T1 := by kernel_rfl
theorem mov3_bits1 : waitsOk mov3_T1.2 mov3_B1 = true := by kernel_rfl
def mov3_T4 : Bool × List (List Nat × List Nat) := (true, [([], []), ([], []), ([], []), ([1, 2], [1, 2]), ([0, 3], [0, 3]), ([], []), ([], []), ([5, 6, 3], [5, 6]), ([4, 7], [4, 7]), ([8, 7], [8]), ([9, 9, 0, 1, 2, 3, 4, 5, 6, 7, 8, 9], [9])])
def mov3_B4 : List Nat := [0, 0, 0, 6, 15, 0, 0, 110, 255, 511, 1023]
theorem mov3_tab4 : rtab .any (opsOf Try.f111 4) = mov3_T4 := by kernel_rfl
theorem mov3_bits4 : waitsOk mov3_T4.2 mov3_B4 = true := by kernel_rfl
theorem from_as (gs gk k i : Nat) (s : Int) {a : Nat} {w : World} (hs : w.cell? ⟨gs, 0, none⟩ = some (.int .i64 s)) (hk : w.cell? ⟨gk, 0, none⟩ = some (.int .i64 (k : Int))) (hi : i < 16) (ha : fromF s k i = a) : Calls Try.prog 109 (#[.int .i64 (i : Int)] ++ #[.pointer (some ⟨gs, 0, none⟩), .pointer (some ⟨gk, 0, none⟩)]) w fun e w' => e = .returned (.int .i64 (a : Int)) ∧ w = w' := by
 subst ha; exact from_o gs gk k i s hs hk hi
theorem gain_as (gk gd k i : Nat) (d : Int) {a : Int} {w : World} (hk : w.cell? ⟨gk, 0, none⟩ = some (.int .i64 (k : Int))) (hd : w.cell? ⟨gd, 0, none⟩ = some (.int .i64 d)) (k8 : k ≤ 8) (db : -1099511627776 ≤ d ∧ d ≤ 1099511627776) (ha : gainF k d i = a) : Calls Try.prog 110 (#[.int .i64 (i : Int)] ++ #[.pointer (some ⟨gk, 0, none⟩), .pointer (some ⟨gd, 0, none⟩)]) w fun e w' => e = .returned (.int .i64 a) ∧ w = w' := by
 subst ha; exact gain_o gk gd k i d hk hd k8 db
def movedG (s : Int) (k : Nat) (d : Int) (C : Mx) (i j : Nat) (e : Int) : Int := if C (fromF s k i) (fromF s k j) = 4611686018427387904 then 4611686018427387904 else clipV (C (fromF s k i) (fromF s k j) + gainF k d j - gainF k d i)
theorem gainF_bd {k : Nat} {d : Int} {i : Nat} (db : -1099511627776 ≤ d ∧ d ≤ 1099511627776) : -1099511627776 ≤ gainF k d i ∧ gainF k d i ≤ 1099511627776 := by unfold gainF; (repeat' split) <;> omega
theorem moved_will (gc gf gn gg gs gk gd k n : Nat) (s d : Int) (C : Mx) (X : OV) {w : World} (hc : w.cell? ⟨gc, 1, none⟩ = some (.slice X.Q X.m.length X.q)) (hr : Kd.C (Kd.int .i64) w X.Q X.m.length X.m) (hm : X.m = lst (2 * n) C)
 (hf : w.cell? ⟨gf, 0, none⟩ = some (.func (.func 109) #[] #[.pointer (some ⟨gs, 0, none⟩), .pointer (some ⟨gk, 0, none⟩)])) (hn : w.cell? ⟨gn, 0, none⟩ = some (.int .i64 ((2 * n : Nat) : Int))) (hg : w.cell? ⟨gg, 0, none⟩ = some (.func (.func 110) #[] #[.pointer (some ⟨gk, 0, none⟩), .pointer (some ⟨gd, 0, none⟩)]))
 (hs : w.cell? ⟨gs, 0, none⟩ = some (.int .i64 s)) (hk : w.cell? ⟨gk, 0, none⟩ = some (.int .i64 (k : Int))) (hd : w.cell? ⟨gd, 0, none⟩ = some (.int .i64 d)) (n8 : n ≤ 8) (k8 : k ≤ 8) (db : -1099511627776 ≤ d ∧ d ≤ 1099511627776) (hC : ∀ i j, i < 2 * n → j < 2 * n → OctMath.Fin' 1099511627776 (C i j)) :
 Will3 111 #[.pointer (some ⟨gc, 0, none⟩), .pointer (some ⟨gf, 0, none⟩), .pointer (some ⟨gn, 0, none⟩), .pointer (some ⟨gg, 0, none⟩)] (2 * n) (movedG s k d C) w := by
 intro W i j e0 hb hi hj
 have hu25 := Try.underlying25
 unfold movedG
 obtain ⟨A, eA⟩ : ∃ a, fromF s k i = a := ⟨_, rfl⟩
 obtain ⟨B, eB⟩ : ∃ a, fromF s k j = a := ⟨_, rfl⟩
 obtain ⟨N, eN⟩ : ∃ a, 2 * n = a := ⟨_, rfl⟩
 have lA : A < N := by rw [← eA, ← eN]; exact fromF_lt hi
 have lB : B < N := by rw [← eB, ← eN]; exact fromF_lt hj
 have N16 : N ≤ 16 := by omega
 obtain ⟨I, eI⟩ : ∃ I : Int, ((A * N + B : Nat) : Int) = I := ⟨_, rfl⟩
 have hlt : A * N + B < N * N := by
  have : A * N + N ≤ N * N := by rw [← Nat.succ_mul]; exact Nat.mul_le_mul_right _ lA
  omega
 have hNN : N * N ≤ 256 := Nat.le_trans (Nat.mul_le_mul N16 N16) (by decide)
 have hlm : X.m.length = N * N := by rw [hm, lst_length, eN]
 have p2 : 0 ≤ I := by omega
 have q2 : I < (X.m.length : Int) := by rw [hlm, ← eI]; exact_mod_cast hlt
 obtain ⟨ad, e0', hx⟩ := Kd.at_int hr I p2 q2
 have hval : rd X.m I = C A B := by rw [hm, eN, ← eI]; exact rd_lst lA lB
 rw [hval] at hx
 have hfin := hC A B (by rw [eN]; exact lA) (by rw [eN]; exact lB)
 rw [eA, eB]
 obtain ⟨e, he⟩ : ∃ e, C A B = e := ⟨_, rfl⟩
 rw [he] at hx hfin ⊢
 rw [e0'] at hc
 rw [eN] at hn
 obtain ⟨lm, elm⟩ : ∃ l, X.m.length = l := ⟨_, rfl⟩
 obtain ⟨cm, ecm⟩ : ∃ l, X.q = l := ⟨_, rfl⟩
 rw [elm, ecm] at hc
 rw [elm] at q2
 have HQ : Aside0 (CQ [(⟨gc, 1, none⟩, .slice (some ad) lm cm), (⟨gf, 0, none⟩, (.func (.func 109) #[] #[.pointer (some ⟨gs, 0, none⟩), .pointer (some ⟨gk, 0, none⟩)])), (⟨gn, 0, none⟩, .int .i64 (N : Int)), (⟨gg, 0, none⟩, (.func (.func 110) #[] #[.pointer (some ⟨gk, 0, none⟩), .pointer (some ⟨gd, 0, none⟩)])), (⟨gs, 0, none⟩, .int .i64 s), (⟨gk, 0, none⟩, .int .i64 (k : Int)), (⟨gd, 0, none⟩, .int .i64 d), (ad.add I.toNat, .int .i64 e)] W) := ⟨(CQ.cons hc (CQ.cons hf (CQ.cons hn (CQ.cons hg (CQ.cons hs (CQ.cons hk (CQ.cons hd (CQ.cons hx (CQ.nil w))))))))).next hb⟩
 have f1 : IntKind.i64.wrap ((A : Int) * (N : Int)) = ((A * N : Nat) : Int) := by rw [IntKind.wrap_i64]; push_cast; omega
 have f2 : IntKind.i64.wrap (((A * N : Nat) : Int) + (B : Int)) = I := by rw [IntKind.wrap_i64, ← eI]; push_cast; omega
 obtain ⟨P, eP⟩ : ∃ P : Int, ((A * N : Nat) : Int) = P := ⟨_, rfl⟩
 rw [eP] at f1 f2
 replace p2 := eq_true p2
 replace q2 := eq_true q2
 have HA := Aside0.mk eA
 have HB_ := Aside0.mk eB
 have HI : Aside0 (i < 16) := ⟨by omega⟩
 have HJ : Aside0 (j < 16) := ⟨by omega⟩
 have HB := Aside0.mk (Below.refl W.heap.size W)
 by_cases hE : e = 4611686018427387904
 ·
  rw [if_pos hE]
  have HE : Aside0 ((e == 4611686018427387904) = true) := ⟨by simpa using hE⟩
  have HEQ := Aside0.mk hE
  clear hc hr hm hf hn hg hs hk hd n8 k8 db hC hb hi hj eN lA lB N16 hlt hNN hlm hx hval hfin he e0' elm ecm eP eI eA eB hE
  go_enter Try.func111, Try.ntmps111
  go_upto_region 1 with fail
  have n_ := Aside0.mk (HQ.out.drew); clear HQ; have HQ := n_; clear n_
  have n_ := Aside0.mk (below_drew HB.out); clear HB; have HB := n_; clear n_
  refine st_ 14 (fun w' => w'.cell? ⟨gc, 1, none⟩ = some (.slice (some ad) lm cm) ∧ w'.cell? ⟨gf, 0, none⟩ = some (.func (.func 109) #[] #[.pointer (some ⟨gs, 0, none⟩), .pointer (some ⟨gk, 0, none⟩)]) ∧ w'.cell? ⟨gn, 0, none⟩ = some (.int .i64 (N : Int)) ∧ w'.cell? (ad.add I.toNat) = some (.int .i64 e)) [] ⟨CQ.at_ HQ m0_, CQ.at_ HQ m1_, CQ.at_ HQ m2_, CQ.at_ HQ m7_⟩ (fun hHeld => ?_)
  refine with_tabW mov3_tab1 mov3_bits1 (fun HT_ HW_ => ?_)
  generalize World.drew _ = wk at HQ HB hHeld ⊢
  refine pV_ 0 12 (mB 14 1) HT_ ?_
  refine tV_ 1 13 (mB 14 3) HT_ HW_ hHeld ?_
  refine tV_ 2 14 (mB 14 7) HT_ HW_ hHeld ?_
  refine pV_ 3 15 (mB 14 15) HT_ ?_
  refine tV_ 5 17 (mB 14 47) HT_ HW_ hHeld ?_
  refine tV_ 7 19 (mB 14 175) HT_ HW_ hHeld ?_
  refine pV_ 8 20 (mB 14 431) HT_ ?_
  refine on_ 4 (some 16) (mB 14 447) HT_ (fun K hK => ?_)
  refine goesF_ (t := 14) (lb := #[.pointer (some ⟨gs, 0, none⟩), .pointer (some ⟨gk, 0, none⟩)]) #[.int .i64 (i : Int)] (rfl) (by rfl) rfl rfl rfl vL ?_
  with_reducible refine (from_as gs gk k i s (CQ.at_ HQ m4_) (CQ.at_ HQ m5_) HI.out HA.out).mono ?_
  rintro e w_ ⟨rfl, rfl⟩; refine ⟨_, rfl, ?_⟩
  refine hK.out _ _ ⟨CQ.at_ HQ m0_, CQ.at_ HQ m1_, CQ.at_ HQ m2_, CQ.at_ HQ m7_⟩ (fun hHeld => ?_)
  clear hK K
  refine nO_ 16 ?_
  refine pV_ 6 18 (mB 14 511) HT_ ?_
  refine on_ 9 (some 21) (mB 14 1023) HT_ (fun K hK => ?_)
  refine goesF_ (t := 19) (lb := #[.pointer (some ⟨gs, 0, none⟩), .pointer (some ⟨gk, 0, none⟩)]) #[.int .i64 (j : Int)] (rfl) (by rfl) rfl rfl rfl vL ?_
  with_reducible refine (from_as gs gk k j s (CQ.at_ HQ m4_) (CQ.at_ HQ m5_) HJ.out HB_.out).mono ?_
  rintro e w_ ⟨rfl, rfl⟩; refine ⟨_, rfl, ?_⟩
  refine hK.out _ _ ⟨CQ.at_ HQ m0_, CQ.at_ HQ m1_, CQ.at_ HQ m2_, CQ.at_ HQ m7_⟩ (fun hHeld => ?_)
  clear hK K
  refine nO_ 21 ?_
  refine pV_ 10 22 (mB 14 2047) HT_ ?_
  refine pV_ 11 23 (mB 14 4095) HT_ ?_
  refine tV_ 12 24 (mB 14 8191) HT_ HW_ hHeld ?_
  refine pV_ 13 11 (mB 14 16383) HT_ ?_
  refine dn_ HT_ ?_
  clear HT_ HW_ hHeld
  clear f1 f2 p2 q2
  have ei := HE.out
  go_wp2
  go_ret
  exact ⟨congrArg (fun b => Ending.returned (.int .i64 b)) HEQ.out, HB.out⟩
 ·
  rw [if_neg hE]
  have HE : Aside0 ((e == 4611686018427387904) = false) := ⟨by simpa using hE⟩
  obtain ⟨gj, egj⟩ : ∃ u, gainF k d j = u := ⟨_, rfl⟩
  obtain ⟨gi, egi⟩ : ∃ u, gainF k d i = u := ⟨_, rfl⟩
  have b1 := gainF_bd (k := k) (i := j) db
  have b2 := gainF_bd (k := k) (i := i) db
  rw [egj] at b1
  rw [egi] at b2
  rw [egj, egi]
  have GJ := Aside0.mk egj
  have GI := Aside0.mk egi
  have K8 := Aside0.mk k8
  have DB := Aside0.mk db
  have hfe : -1099511627776 ≤ e ∧ e ≤ 1099511627776 := by rcases hfin with h | h; exact absurd h hE; exact h
  obtain ⟨u1, eu1⟩ : ∃ u, e + gj = u := ⟨_, rfl⟩
  obtain ⟨u2, eu2⟩ : ∃ u, u1 - gi = u := ⟨_, rfl⟩
  have G1 : Aside0 (IntKind.i64.wrap (e + gj) = u1 ∧ wrap64 (e + gj) = u1) := ⟨by rw [IntKind.wrap_i64]; omega, by unfold wrap64; omega⟩
  have G2 : Aside0 (IntKind.i64.wrap (u1 - gi) = u2 ∧ wrap64 (u1 - gi) = u2) := ⟨by rw [IntKind.wrap_i64]; omega, by unfold wrap64; omega⟩
  rw [eu1, eu2]
  obtain ⟨t, ht⟩ : ∃ t, clipV u2 = t := ⟨_, rfl⟩
  rw [ht]
  have HT := Aside0.mk ht
  clear hc hr hm hf hn hg hs hk hd n8 k8 db hC hb hi hj eN lA lB N16 hlt hNN hlm hx hval hfin he e0' elm ecm eP eI eA eB hE egj egi b1 b2 hfe eu1 eu2 ht
  go_enter Try.func111, Try.ntmps111
  go_upto_region 1 with fail
  have n_ := Aside0.mk (HQ.out.drew); clear HQ; have HQ := n_; clear n_
  have n_ := Aside0.mk (below_drew HB.out); clear HB; have HB := n_; clear n_
  refine st_ 14 (fun w' => w'.cell? ⟨gc, 1, none⟩ = some (.slice (some ad) lm cm) ∧ w'.cell? ⟨gf, 0, none⟩ = some (.func (.func 109) #[] #[.pointer (some ⟨gs, 0, none⟩), .pointer (some ⟨gk, 0, none⟩)]) ∧ w'.cell? ⟨gn, 0, none⟩ = some (.int .i64 (N : Int)) ∧ w'.cell? (ad.add I.toNat) = some (.int .i64 e)) [] ⟨CQ.at_ HQ m0_, CQ.at_ HQ m1_, CQ.at_ HQ m2_, CQ.at_ HQ m7_⟩ (fun hHeld => ?_)
  refine with_tabW mov3_tab1 mov3_bits1 (fun HT_ HW_ => ?_)
  generalize World.drew _ = wk at HQ HB hHeld ⊢
  refine pV_ 0 12 (mB 14 1) HT_ ?_
  refine tV_ 1 13 (mB 14 3) HT_ HW_ hHeld ?_
  refine tV_ 2 14 (mB 14 7) HT_ HW_ hHeld ?_
  refine pV_ 3 15 (mB 14 15) HT_ ?_
  refine tV_ 5 17 (mB 14 47) HT_ HW_ hHeld ?_
  refine tV_ 7 19 (mB 14 175) HT_ HW_ hHeld ?_
  refine pV_ 8 20 (mB 14 431) HT_ ?_
  refine on_ 4 (some 16) (mB 14 447) HT_ (fun K hK => ?_)
  refine goesF_ (t := 14) (lb := #[.pointer (some ⟨gs, 0, none⟩), .pointer (some ⟨gk, 0, none⟩)]) #[.int .i64 (i : Int)] (rfl) (by rfl) rfl rfl rfl vL ?_
  with_reducible refine (from_as gs gk k i s (CQ.at_ HQ m4_) (CQ.at_ HQ m5_) HI.out HA.out).mono ?_
  rintro e w_ ⟨rfl, rfl⟩; refine ⟨_, rfl, ?_⟩
  refine hK.out _ _ ⟨CQ.at_ HQ m0_, CQ.at_ HQ m1_, CQ.at_ HQ m2_, CQ.at_ HQ m7_⟩ (fun hHeld => ?_)
  clear hK K
  refine nO_ 16 ?_
  refine pV_ 6 18 (mB 14 511) HT_ ?_
  refine on_ 9 (some 21) (mB 14 1023) HT_ (fun K hK => ?_)
  refine goesF_ (t := 19) (lb := #[.pointer (some ⟨gs, 0, none⟩), .pointer (some ⟨gk, 0, none⟩)]) #[.int .i64 (j : Int)] (rfl) (by rfl) rfl rfl rfl vL ?_
  with_reducible refine (from_as gs gk k j s (CQ.at_ HQ m4_) (CQ.at_ HQ m5_) HJ.out HB_.out).mono ?_
  rintro e w_ ⟨rfl, rfl⟩; refine ⟨_, rfl, ?_⟩
  refine hK.out _ _ ⟨CQ.at_ HQ m0_, CQ.at_ HQ m1_, CQ.at_ HQ m2_, CQ.at_ HQ m7_⟩ (fun hHeld => ?_)
  clear hK K
  refine nO_ 21 ?_
  refine pV_ 10 22 (mB 14 2047) HT_ ?_
  refine pV_ 11 23 (mB 14 4095) HT_ ?_
  refine tV_ 12 24 (mB 14 8191) HT_ HW_ hHeld ?_
  refine pV_ 13 11 (mB 14 16383) HT_ ?_
  refine dn_ HT_ ?_
  clear HT_ HW_ hHeld
  clear f1 f2 p2 q2
  have ei := HE.out
  go_upto_region 4 with fail
  clear ei; obtain ⟨g1, g1'⟩ := G1.out; obtain ⟨g2, g2'⟩ := G2.out
  have n_ := Aside0.mk (HQ.out.drew); clear HQ; have HQ := n_; clear n_
  have n_ := Aside0.mk (below_drew HB.out); clear HB; have HB := n_; clear n_
  refine st_ 11 (fun w' => w'.cell? ⟨gg, 0, none⟩ = some (.func (.func 110) #[] #[.pointer (some ⟨gk, 0, none⟩), .pointer (some ⟨gd, 0, none⟩)])) [] (CQ.at_ HQ m3_) (fun hHeld => ?_)
  refine with_tabW mov3_tab4 mov3_bits4 (fun HT_ HW_ => ?_)
  generalize World.drew _ = wk at HQ HB hHeld ⊢
  refine pV_ 0 28 (mB 11 1) HT_ ?_
  refine tV_ 1 29 (mB 11 3) HT_ HW_ hHeld ?_
  refine pV_ 2 30 (mB 11 7) HT_ ?_
  refine tV_ 5 33 (mB 11 39) HT_ HW_ hHeld ?_
  refine pV_ 6 34 (mB 11 103) HT_ ?_
  refine on_ 3 (some 31) (mB 11 111) HT_ (fun K hK => ?_)
  refine goesF_ (t := 29) (lb := #[.pointer (some ⟨gk, 0, none⟩), .pointer (some ⟨gd, 0, none⟩)]) #[.int .i64 (j : Int)] (rfl) (by rfl) rfl rfl rfl vL ?_
  with_reducible refine (gain_as gk gd k j d (CQ.at_ HQ m5_) (CQ.at_ HQ m6_) K8.out DB.out GJ.out).mono ?_
  rintro e w_ ⟨rfl, rfl⟩; refine ⟨_, rfl, ?_⟩
  refine hK.out _ _ (CQ.at_ HQ m3_) (fun hHeld => ?_)
  clear hK K
  refine nO_ 31 ?_
  refine pV_ 4 32 (mB 11 127) HT_ ?_
  refine on_ 7 (some 35) (mB 11 255) HT_ (fun K hK => ?_)
  refine goesF_ (t := 33) (lb := #[.pointer (some ⟨gk, 0, none⟩), .pointer (some ⟨gd, 0, none⟩)]) #[.int .i64 (i : Int)] (rfl) (by rfl) rfl rfl rfl vL ?_
  with_reducible refine (gain_as gk gd k i d (CQ.at_ HQ m5_) (CQ.at_ HQ m6_) K8.out DB.out GI.out).mono ?_
  rintro e w_ ⟨rfl, rfl⟩; refine ⟨_, rfl, ?_⟩
  refine hK.out _ _ (CQ.at_ HQ m3_) (fun hHeld => ?_)
  clear hK K
  refine nO_ 35 ?_
  refine pV_ 8 36 (mB 11 511) HT_ ?_
  refine on_ 9 (some 37) (mB 11 1023) HT_ (fun K hK => ?_)
  refine gs_ Try.func102 #[.int .i64 u2] ?_
  with_reducible refine (taken_as HT.out).mono ?_
  rintro e wk ⟨rfl, hb⟩; refine ⟨_, rfl, ?_⟩
  have n_ := Aside0.mk (HQ.out.next hb); clear HQ; have HQ := n_; clear n_
  have n_ := Aside0.mk (HB.out.trans (Below.mono hb HB.out.size)); clear HB; have HB := n_; clear n_
  clear hb
  refine hK.out _ _ (CQ.at_ HQ m3_) (fun hHeld => ?_)
  clear hK K
  refine nO_ 37 ?_
  refine pV_ 10 10 (mB 11 2047) HT_ ?_
  refine dn_ HT_ ?_
  clear HT_ HW_ hHeld
  go_wp2
  go_ret
  exact ⟨rfl, HB.out⟩
def movM (C : Mx) (s : Int) (k : Nat) (d : Int) : Mx := fun i j => if i = j then C i j else movedG s k d C i j (C i j)
theorem moved_own (X : OV) (k : Nat) (s d : Int) {v : List Int} {C : Mx} {w0 w : World} (hX : Oc w0 w X) (h0 : Below w0.heap.size w0 w) (ho : X.o = (v, lst (2 * v.length) C, false)) (l8 : v.length ≤ 8) (k8 : k ≤ 8) (db : -1099511627776 ≤ d ∧ d ≤ 1099511627776) (hC : ∀ i j, i < 2 * v.length → j < 2 * v.length → OctMath.Fin' 1099511627776 (C i j)) :
 Calls Try.prog 69 #[X.val, .int .i64 (k : Int), .int .i64 s, .int .i64 d] w fun e W' => ∃ z : OV, e = .returned z.val ∧ z.o = (v, lst (2 * v.length) (movM C s k d), false) ∧ Own w W' z ∧ Below w.heap.size w W' := by
 have hu25 := Try.underlying25
 have HX : Aside0 (Oc w w X) := ⟨⟨⟨hX.r0.le, .inl (hX.r0.reads h0)⟩, ⟨hX.r1.le, .inl (hX.r1.reads h0)⟩⟩⟩
 have L8 := Aside0.mk l8
 have K8 := Aside0.mk k8
 have DB := Aside0.mk db
 have HC := Aside0.mk hC
 have HO := Aside0.mk ho
 have e1 : X.v = v := congrArg Prod.fst ho
 have HXM : Aside0 (X.m = lst (2 * v.length) C) := ⟨congrArg (·.2.1) ho⟩
 obtain ⟨N, eN⟩ : ∃ N, 2 * v.length = N := ⟨_, rfl⟩
 have HNN := Aside0.mk eN
 have HN : Aside0 (IntKind.i64.wrap (2 * (X.v.length : Int)) = (N : Int) ∧ wrap64 (2 * (X.v.length : Int)) = (N : Int)) := ⟨by rw [e1, IntKind.wrap_i64]; omega, by rw [e1]; unfold wrap64; omega⟩
 clear hX h0 ho l8 k8 db hC e1 eN
 go_enter Try.func69, Try.ntmps69
 go_upto_region 1 with fail
 have HM : Aside0 (MS w [] [(w.heap.size + 4, zeroO), (w.heap.size + 3, .cells #[.int .i64 d] 2 (0, 0)), (w.heap.size + 2, .cells #[.int .i64 s] 3 (0, 0)), (w.heap.size + 1, .cells #[.int .i64 (k : Int)] 3 (0, 0)), (w.heap.size, X.cells)] (((((w.alloc (X.cells)).alloc (.cells #[.int .i64 (k : Int)] 3 (0, 0))).alloc (.cells #[.int .i64 s] 3 (0, 0))).alloc (.cells #[.int .i64 d] 2 (0, 0))).alloc (zeroO))) := ⟨(MS.new (MS.new (MS.new (MS.new (MS.new (MS.nil w) _ rfl) _ (by simp)) _ (by simp)) _ (by simp)) _ (by simp))⟩
 generalize (((((w.alloc (X.cells)).alloc (.cells #[.int .i64 (k : Int)] 3 (0, 0))).alloc (.cells #[.int .i64 s] 3 (0, 0))).alloc (.cells #[.int .i64 d] 2 (0, 0))).alloc (zeroO)) = wk at HM ⊢
 generalize w.heap.size + 4 = gr at HM ⊢
 generalize w.heap.size + 3 = gd at HM ⊢
 generalize w.heap.size + 2 = gs at HM ⊢
 generalize w.heap.size + 1 = gk at HM ⊢
 generalize w.heap.size = gc at HM ⊢
 have kgr := MS.c3 HM m0_; have kgd := MS.c1 HM m1_; have kgs := MS.c1 HM m2_; have kgk := MS.c1 HM m3_; have kgc := MS.c3 HM m4_
 obtain ⟨n1, n2⟩ := HN.out
 go_upto_region 2 with (first | ((with_reducible refine gate_dst (N := 9) rfl ?_); refine bx_ 9 #[.int .i64 0] 3 ?_; intro gn hg wk hbox hb; replace HM := MS.md HM hg hbox hb; clear hg hbox hb; have kgn := MS.c1 HM m0_; replace kgr := MS.c3 HM m1_; replace kgd := MS.c1 HM m2_; replace kgs := MS.c1 HM m3_; replace kgk := MS.c1 HM m4_; replace kgc := MS.c3 HM m5_))
 clear n1 n2
 replace HM := MS.pv0 (.int .i64 (N : Int)) HM
 generalize World.setCell _ _ _ = wk at HM ⊢
 replace kgn := MS.c1 HM m0_; replace kgr := MS.c3 HM m1_; replace kgd := MS.c1 HM m2_; replace kgs := MS.c1 HM m3_; replace kgk := MS.c1 HM m4_; replace kgc := MS.c3 HM m5_
 go_upto_region 3 with (first | ((with_reducible refine gate_dst (N := 10) rfl ?_); refine bx_ 10 #[.nilFunc] 63 ?_; intro gf hg wk hbox hb; replace HM := MS.md HM hg hbox hb; clear hg hbox hb; have kgf := MS.c1 HM m0_; replace kgn := MS.c1 HM m1_; replace kgr := MS.c3 HM m2_; replace kgd := MS.c1 HM m3_; replace kgs := MS.c1 HM m4_; replace kgk := MS.c1 HM m5_; replace kgc := MS.c3 HM m6_))
 replace HM := MS.pv0 ((.func (.func 109) #[] #[.pointer (some ⟨gs, 0, none⟩), .pointer (some ⟨gk, 0, none⟩)])) HM
 generalize World.setCell _ _ _ = wk at HM ⊢
 replace kgf := MS.c1 HM m0_; replace kgn := MS.c1 HM m1_; replace kgr := MS.c3 HM m2_; replace kgd := MS.c1 HM m3_; replace kgs := MS.c1 HM m4_; replace kgk := MS.c1 HM m5_; replace kgc := MS.c3 HM m6_
 go_upto_region 4 with (first | ((with_reducible refine gate_dst (N := 11) rfl ?_); refine bx_ 11 #[.nilFunc] 81 ?_; intro gg hg wk hbox hb; replace HM := MS.md HM hg hbox hb; clear hg hbox hb; have kgg := MS.c1 HM m0_; replace kgf := MS.c1 HM m1_; replace kgn := MS.c1 HM m2_; replace kgr := MS.c3 HM m3_; replace kgd := MS.c1 HM m4_; replace kgs := MS.c1 HM m5_; replace kgk := MS.c1 HM m6_; replace kgc := MS.c3 HM m7_))
 replace HM := MS.pv0 ((.func (.func 110) #[] #[.pointer (some ⟨gk, 0, none⟩), .pointer (some ⟨gd, 0, none⟩)])) HM
 generalize World.setCell _ _ _ = wk at HM ⊢
 replace kgg := MS.c1 HM m0_; replace kgf := MS.c1 HM m1_; replace kgn := MS.c1 HM m2_; replace kgr := MS.c3 HM m3_; replace kgd := MS.c1 HM m4_; replace kgs := MS.c1 HM m5_; replace kgk := MS.c1 HM m6_; replace kgc := MS.c3 HM m7_
 have HW : Aside0 (Will3 111 #[.pointer (some ⟨gc, 0, none⟩), .pointer (some ⟨gf, 0, none⟩), .pointer (some ⟨gn, 0, none⟩), .pointer (some ⟨gg, 0, none⟩)] (2 * v.length) (movedG s k d C) wk) := ⟨moved_will gc gf gn gg gs gk gd k _ s d C X (MS.k HM m7_ 1 rfl) ((HX.out.next HM.out.S.below).r1.reads HM.out.S.below) HXM.out (MS.k HM m1_ 0 rfl) (by rw [HNN.out]; exact (MS.k HM m2_ 0 rfl)) (MS.k HM m0_ 0 rfl) (MS.k HM m5_ 0 rfl) (MS.k HM m6_ 0 rfl) (MS.k HM m4_ 0 rfl) L8.out K8.out DB.out HC.out⟩
 go_wp2_with (first | (go_at_call 53; (with_reducible refine (each_as _ _ (fun _ _ => rfl) (Oc.now HX (MS.bel HM)) (Below.refl _ _) HO.out L8.out HW.out rfl).mono ?_); rintro e wk ⟨zv, rfl, hzv, ho, hb⟩; replace HM := MS.cl HM hb ho; clear ho hb; replace kgg := MS.c1 HM m0_; replace kgf := MS.c1 HM m1_; replace kgn := MS.c1 HM m2_; replace kgr := MS.c3 HM m3_; replace kgd := MS.c1 HM m4_; replace kgs := MS.c1 HM m5_; replace kgk := MS.c1 HM m6_; replace kgc := MS.c3 HM m7_))
 replace HM := MS.po3 zv HM
 generalize World.setCell _ _ _ = wk at HM ⊢
 replace kgg := MS.c1 HM m0_; replace kgf := MS.c1 HM m1_; replace kgn := MS.c1 HM m2_; replace kgr := MS.c3 HM m3_; replace kgd := MS.c1 HM m4_; replace kgs := MS.c1 HM m5_; replace kgk := MS.c1 HM m6_; replace kgc := MS.c3 HM m7_
 refine MS.rt HM m3_ ?_
 exact ⟨zv, rfl, hzv, HM.out.S.own _ m0_, HM.out.S.below⟩
theorem forget_own (X : OV) (x : Int) {w0 w : World} (hX : Oc w0 w X) (h0 : Below w0.heap.size w0 w) (fx : OFit X.v X.m X.e) : Calls Try.prog 15 #[X.val, .int .i64 x] w fun e W' => ∃ z : OV, e = .returned z.val ∧ z.o = forgetF X.v X.m X.e x ∧ Own w W' z ∧ Below w.heap.size w W' := by
 have hu25 := Try.underlying25
 have HX : Aside0 (Oc w w X) := ⟨⟨⟨hX.r0.le, .inl (hX.r0.reads h0)⟩, ⟨hX.r1.le, .inl (hX.r1.reads h0)⟩⟩⟩
 have FX_ := Aside0.mk fx
 have L8 : Aside0 (X.v.length ≤ 8) := ⟨fx.1.1⟩
 have LK : Aside0 (X.v.length ≤ 1000) := ⟨by have := fx.1.1; omega⟩
 rcases close_cases fx with ⟨hcl, _⟩ | ⟨he, hc, hcl⟩
 ·
  obtain ⟨p, hp⟩ : ∃ p, placeF X.v x = p := ⟨_, rfl⟩
  have hfe := forgetF_bot (x := x) hcl
  have HC := Aside0.mk hcl
  have HP := Aside0.mk hp
  rw [hfe]
  have HFE := Aside0.mk hfe
  clear hX h0 fx hcl hp hfe
  go_enter Try.func15, Try.ntmps15
  go_upto_region 1 with fail
  have HM := MS.n2 w X.cells zeroO
  generalize World.alloc _ _ = wk at HM ⊢
  generalize w.heap.size + 1 = gr at HM ⊢
  generalize w.heap.size = go at HM ⊢
  have kgr := MS.c3 HM m0_; have kgo := MS.c3 HM m1_
  go_upto_region 2 with (first | (go_at_call 51; (with_reducible refine (close_as (Oc.now HX (MS.bel HM)) (Below.refl _ _) rfl FX_.out HC.out).mono ?_); rintro e wk ⟨cv, rfl, hcv, ho, hb⟩; replace HM := MS.cl HM hb ho; clear ho hb; replace kgr := MS.c3 HM m0_; replace kgo := MS.c3 HM m1_) | ((with_reducible refine gate_dst (N := 5) rfl ?_); refine bx_ 5 #[.slice none 0 0, .slice none 0 0, .bool false] 25 ?_; intro g5 hg wk hbox hb; replace HM := MS.md HM hg hbox hb; clear hg hbox hb; have kg5 := MS.c3 HM m0_; replace kgr := MS.c3 HM m1_; replace kgo := MS.c3 HM m2_))
  replace HM := MS.po0 cv HM
  generalize World.setCell _ _ _ = wk at HM ⊢
  replace kg5 := MS.c3 HM m0_; replace kgr := MS.c3 HM m1_; replace kgo := MS.c3 HM m2_
  have HCV := Aside0.mk hcv; clear hcv
  go_upto_region 3 with (first | (go_at_call 52; (with_reducible refine (place_as (MS.oc HM m0_) (MS.bel HM) HCV.out LK.out x HP.out).mono ?_); rintro e wk ⟨rfl, hb⟩; replace HM := MS.nx HM hb; clear hb; replace kg5 := MS.c3 HM m0_; replace kgr := MS.c3 HM m1_; replace kgo := MS.c3 HM m2_) | ((with_reducible refine gate_dst (N := 6) rfl ?_); refine bx_ 6 #[.int .i64 0] 3 ?_; intro g6 hg wk hbox hb; replace HM := MS.md HM hg hbox hb; clear hg hbox hb; have kg6 := MS.c1 HM m0_; replace kg5 := MS.c3 HM m1_; replace kgr := MS.c3 HM m2_; replace kgo := MS.c3 HM m3_))
  replace HM := MS.pv0 (.int .i64 p) HM
  generalize World.setCell _ _ _ = wk at HM ⊢
  replace kg6 := MS.c1 HM m0_; replace kg5 := MS.c3 HM m1_; replace kgr := MS.c3 HM m2_; replace kgo := MS.c3 HM m3_
  have hem : cv.e = true := congrArg (·.2.2) HCV.out
  go_upto_region 4 with fail
  clear hem
  go_wp2
  replace HM := MS.po2 cv HM
  generalize World.setCell _ _ _ = wk at HM ⊢
  replace kg6 := MS.c1 HM m0_; replace kg5 := MS.c3 HM m1_; replace kgr := MS.c3 HM m2_; replace kgo := MS.c3 HM m3_
  refine MS.rt HM m2_ ?_
  exact ⟨cv, rfl, HCV.out.trans rfl, HM.out.S.own _ m0_, HM.out.S.below⟩
 ·
  rcases placeF_cases X.v x with ⟨p, hp1, hp2, _, _⟩ | ⟨hp2, _⟩
  ·
   have hfe := forgetF_at (m := X.m) (e := X.e) (x := x) (by rw [hcl]) hp2
   have HC := Aside0.mk hcl
   have HP := Aside0.mk hp2
   rw [hfe]
   clear hX h0 fx hcl hp1 hp2 hfe hc he
   go_enter Try.func15, Try.ntmps15
   go_upto_region 1 with fail
   have HM := MS.n2 w X.cells zeroO
   generalize World.alloc _ _ = wk at HM ⊢
   generalize w.heap.size + 1 = gr at HM ⊢
   generalize w.heap.size = go at HM ⊢
   have kgr := MS.c3 HM m0_; have kgo := MS.c3 HM m1_
   go_upto_region 2 with (first | (go_at_call 51; (with_reducible refine (close_as (Oc.now HX (MS.bel HM)) (Below.refl _ _) rfl FX_.out HC.out).mono ?_); rintro e wk ⟨cv, rfl, hcv, ho, hb⟩; replace HM := MS.cl HM hb ho; clear ho hb; replace kgr := MS.c3 HM m0_; replace kgo := MS.c3 HM m1_) | ((with_reducible refine gate_dst (N := 5) rfl ?_); refine bx_ 5 #[.slice none 0 0, .slice none 0 0, .bool false] 25 ?_; intro g5 hg wk hbox hb; replace HM := MS.md HM hg hbox hb; clear hg hbox hb; have kg5 := MS.c3 HM m0_; replace kgr := MS.c3 HM m1_; replace kgo := MS.c3 HM m2_))
   replace HM := MS.po0 cv HM
   generalize World.setCell _ _ _ = wk at HM ⊢
   replace kg5 := MS.c3 HM m0_; replace kgr := MS.c3 HM m1_; replace kgo := MS.c3 HM m2_
   have HCV := Aside0.mk hcv; clear hcv
   go_upto_region 3 with (first | (go_at_call 52; (with_reducible refine (place_as (MS.oc HM m0_) (MS.bel HM) HCV.out LK.out x HP.out).mono ?_); rintro e wk ⟨rfl, hb⟩; replace HM := MS.nx HM hb; clear hb; replace kg5 := MS.c3 HM m0_; replace kgr := MS.c3 HM m1_; replace kgo := MS.c3 HM m2_) | ((with_reducible refine gate_dst (N := 6) rfl ?_); refine bx_ 6 #[.int .i64 0] 3 ?_; intro g6 hg wk hbox hb; replace HM := MS.md HM hg hbox hb; clear hg hbox hb; have kg6 := MS.c1 HM m0_; replace kg5 := MS.c3 HM m1_; replace kgr := MS.c3 HM m2_; replace kgo := MS.c3 HM m3_))
   replace HM := MS.pv0 (.int .i64 (p : Int)) HM
   generalize World.setCell _ _ _ = wk at HM ⊢
   replace kg6 := MS.c1 HM m0_; replace kg5 := MS.c3 HM m1_; replace kgr := MS.c3 HM m2_; replace kgo := MS.c3 HM m3_
   have hem : cv.e = false := congrArg (·.2.2) HCV.out
   have q0 : (0 : Int) ≤ (p : Int) := Int.natCast_nonneg _
   go_upto_region 5 with fail
   clear hem
   have HW : Aside0 (Will3 54 #[.pointer (some ⟨g6, 0, none⟩)] (2 * X.v.length) (forgetG p) wk) := ⟨forget_will g6 p _ (HM.out.lt m0_) (MS.k HM m0_ 0 rfl) (by have := L8.out; omega)⟩
   go_wp2_with (first | (go_at_call 53; (with_reducible refine (each_as _ _ (fun _ _ => rfl) (MS.oc HM m0_) (MS.bel HM) HCV.out L8.out HW.out rfl).mono ?_); rintro e wk ⟨zv, rfl, hzv, ho, hb⟩; replace HM := MS.cl HM hb ho; clear ho hb; replace kg6 := MS.c1 HM m0_; replace kg5 := MS.c3 HM m1_; replace kgr := MS.c3 HM m2_; replace kgo := MS.c3 HM m3_))
   replace HM := MS.po2 zv HM
   generalize World.setCell _ _ _ = wk at HM ⊢
   replace kg6 := MS.c1 HM m0_; replace kg5 := MS.c3 HM m1_; replace kgr := MS.c3 HM m2_; replace kgo := MS.c3 HM m3_
   refine MS.rt HM m2_ ?_
   exact ⟨zv, rfl, hzv.trans rfl, HM.out.S.own _ m0_, HM.out.S.below⟩
  ·
   have hfe := forgetF_no (v := X.v) (m := X.m) (e := X.e) (x := x) (by omega)
   rw [hfe, hcl]
   have HC := Aside0.mk hcl
   have HP := Aside0.mk hp2
   clear hX h0 fx hcl hp2 hfe hc he
   go_enter Try.func15, Try.ntmps15
   go_upto_region 1 with fail
   have HM := MS.n2 w X.cells zeroO
   generalize World.alloc _ _ = wk at HM ⊢
   generalize w.heap.size + 1 = gr at HM ⊢
   generalize w.heap.size = go at HM ⊢
   have kgr := MS.c3 HM m0_; have kgo := MS.c3 HM m1_
   go_upto_region 2 with (first | (go_at_call 51; (with_reducible refine (close_as (Oc.now HX (MS.bel HM)) (Below.refl _ _) rfl FX_.out HC.out).mono ?_); rintro e wk ⟨cv, rfl, hcv, ho, hb⟩; replace HM := MS.cl HM hb ho; clear ho hb; replace kgr := MS.c3 HM m0_; replace kgo := MS.c3 HM m1_) | ((with_reducible refine gate_dst (N := 5) rfl ?_); refine bx_ 5 #[.slice none 0 0, .slice none 0 0, .bool false] 25 ?_; intro g5 hg wk hbox hb; replace HM := MS.md HM hg hbox hb; clear hg hbox hb; have kg5 := MS.c3 HM m0_; replace kgr := MS.c3 HM m1_; replace kgo := MS.c3 HM m2_))
   replace HM := MS.po0 cv HM
   generalize World.setCell _ _ _ = wk at HM ⊢
   replace kg5 := MS.c3 HM m0_; replace kgr := MS.c3 HM m1_; replace kgo := MS.c3 HM m2_
   have HCV := Aside0.mk hcv; clear hcv
   go_upto_region 3 with (first | (go_at_call 52; (with_reducible refine (place_as (MS.oc HM m0_) (MS.bel HM) HCV.out LK.out x HP.out).mono ?_); rintro e wk ⟨rfl, hb⟩; replace HM := MS.nx HM hb; clear hb; replace kg5 := MS.c3 HM m0_; replace kgr := MS.c3 HM m1_; replace kgo := MS.c3 HM m2_) | ((with_reducible refine gate_dst (N := 6) rfl ?_); refine bx_ 6 #[.int .i64 0] 3 ?_; intro g6 hg wk hbox hb; replace HM := MS.md HM hg hbox hb; clear hg hbox hb; have kg6 := MS.c1 HM m0_; replace kg5 := MS.c3 HM m1_; replace kgr := MS.c3 HM m2_; replace kgo := MS.c3 HM m3_))
   replace HM := MS.pv0 (.int .i64 (-1)) HM
   generalize World.setCell _ _ _ = wk at HM ⊢
   replace kg6 := MS.c1 HM m0_; replace kg5 := MS.c3 HM m1_; replace kgr := MS.c3 HM m2_; replace kgo := MS.c3 HM m3_
   have hem : cv.e = false := congrArg (·.2.2) HCV.out
   go_upto_region 4 with fail
   clear hem
   go_wp2
   replace HM := MS.po2 cv HM
   generalize World.setCell _ _ _ = wk at HM ⊢
   replace kg6 := MS.c1 HM m0_; replace kg5 := MS.c3 HM m1_; replace kgr := MS.c3 HM m2_; replace kgo := MS.c3 HM m3_
   refine MS.rt HM m2_ ?_
   exact ⟨cv, rfl, HCV.out.trans rfl, HM.out.S.own _ m0_, HM.out.S.below⟩
end Go.Proofs.Ytphfchbggechhaa.QO
end
end
section
noncomputable section
namespace Go.Proofs.Ytphfchbggechhaa.QO
open Go.RowKit Go.Shelf YtphfchbggechhaaW.PrintWords YtphfchbggechhaaW.PrintLast YtphfchbggechhaaW.PrintMore
open Ytphfchbggechhaa.Pure
open OctMath (Bd Fin')
set_option linter.unusedVariables false
theorem nb_half (i : Nat) : nb i / 2 = i / 2 := by unfold nb; split <;> omega
theorem nb_eq {i j : Nat} : nb i = nb j ↔ i = j := ⟨fun h => by rw [← nb_nb i, h, nb_nb], fun h => by rw [h]⟩
theorem nb_flip {i j : Nat} : nb i = j ↔ i = nb j := ⟨fun h => by rw [← h, nb_nb], fun h => by rw [h, nb_nb]⟩
theorem fin_inf {B : Int} : Fin' B 4611686018427387904 := .inl rfl
theorem fin_mn {B a b : Int} (h : Fin' B a) (h' : Fin' B b) : Fin' B (mn a b) := by unfold mn; split <;> assumption
theorem upM_snd {n : Nat} {C : Mx} {a b : Nat} {h : Int} (hC : Snd n C) (hh : Fin' 1099511627776 h) : Snd n (upM C a b h) := by
 refine ⟨hC.ev, fun i j hi hj => ?_, fun i j hi hj => ?_, fun i hi => ?_⟩
 ·
  have := hC.bd i j hi hj
  unfold upM upG
  split
  ·
   exact this
  ·
   split
   ·
    exact fin_mn this hh
   ·
    exact this
 ·
  have e := hC.coh i j hi hj
  unfold upM upG
  by_cases d : i = j
  ·
   rw [if_pos d, if_pos (nb_eq.2 d.symm), e]
  ·
   rw [if_neg d, if_neg (fun q => d (nb_eq.1 q).symm), ← e]
   by_cases c : (i = a ∧ j = b) ∨ (i = nb b ∧ j = nb a)
   ·
    rw [if_pos c, if_pos]
    rcases c with ⟨rfl, rfl⟩ | ⟨rfl, rfl⟩
    ·
     exact .inr ⟨rfl, rfl⟩
    ·
     exact .inl ⟨nb_nb _, nb_nb _⟩
   ·
    rw [if_neg c, if_neg]
    rintro (⟨h1, h2⟩ | ⟨h1, h2⟩)
    ·
     exact c (.inr ⟨nb_flip.1 h2, nb_flip.1 h1⟩)
    ·
     exact c (.inl ⟨nb_eq.1 h2, nb_eq.1 h1⟩)
 ·
  unfold upM; rw [if_pos rfl]; exact hC.dg i hi
theorem upC_snd {n : Nat} {C : Mx} {p q : Nat} {sx sy hi : Int} (hC : Snd n C) : Snd n (upC C p sx q sy hi) := by
 unfold upC
 split
 ·
  exact hC
 ·
  split
  ·
   exact upM_snd hC (clip_bd _)
  ·
   exact upM_snd hC (clip_bd _)
theorem forgetM_snd {n p : Nat} {C : Mx} (hC : Snd n C) : Snd n (forgetM p C) := by
 refine ⟨hC.ev, fun i j hi hj => ?_, fun i j hi hj => ?_, fun i hi => ?_⟩
 ·
  have := hC.bd i j hi hj
  unfold forgetM forgetG
  split
  ·
   exact this
  ·
   split
   ·
    exact fin_inf
   ·
    exact this
 ·
  have e := hC.coh i j hi hj
  unfold forgetM forgetG
  rw [nb_half, nb_half, ← e]
  by_cases d : i = j
  ·
   rw [if_pos d, if_pos (nb_eq.2 d.symm)]
  ·
   rw [if_neg d, if_neg (fun q => d (nb_eq.1 q).symm)]
   by_cases c : i / 2 = p ∨ j / 2 = p
   ·
    rw [if_pos c, if_pos c.symm]
   ·
    rw [if_neg c, if_neg (fun h => c h.symm)]
 ·
  unfold forgetM; rw [if_pos rfl]; exact hC.dg i hi
theorem fromF_nb (s : Int) (k i : Nat) : fromF s k (nb i) = nb (fromF s k i) := by
 unfold fromF; rw [nb_half]; split <;> rfl
theorem gainF_nb (k : Nat) (d : Int) (i : Nat) : gainF k d (nb i) = - gainF k d i := by
 unfold gainF nb
 by_cases h : i % 2 = 0
 ·
  rw [if_pos h]
  by_cases h1 : i = 2 * k
  ·
   rw [if_neg (by omega), if_pos (by omega), if_pos h1]
  ·
   rw [if_neg (by omega), if_neg (by omega), if_neg h1, if_neg (by omega)]; rfl
 ·
  rw [if_neg h]
  by_cases h1 : i = 2 * k + 1
  ·
   rw [if_pos (by omega), if_neg (by omega), if_pos h1]; omega
  ·
   rw [if_neg (by omega), if_neg (by omega), if_neg (by omega), if_neg h1]; rfl
theorem movM_snd {n k : Nat} {C : Mx} {s d : Int} (hC : Snd (2 * n) C) : Snd (2 * n) (movM C s k d) := by
 refine ⟨hC.ev, fun i j hi hj => ?_, fun i j hi hj => ?_, fun i hi => ?_⟩
 ·
  have := hC.bd i j hi hj
  unfold movM movedG
  split
  ·
   exact this
  ·
   split
   ·
    exact fin_inf
   ·
    exact clip_bd _
 ·
  have e := hC.coh i j hi hj
  unfold movM movedG
  by_cases dd : i = j
  ·
   rw [if_pos dd, if_pos (nb_eq.2 dd.symm), e]
  ·
   rw [if_neg dd, if_neg (fun q => dd (nb_eq.1 q).symm), fromF_nb, fromF_nb, gainF_nb, gainF_nb, ← hC.coh _ _ (fromF_lt hi) (fromF_lt hj)]
   split
   ·
    rfl
   ·
    congr 1; omega
 ·
  unfold movM; rw [if_pos rfl]; exact hC.dg i hi
section
variable {v m : List Int} {e : Bool}
theorem cl_ex (h : OFit v m e) : ∃ cm ce, closeF v m e = (v, cm, ce) ∧ OFit v cm ce := by
 refine ⟨(closeF v m e).2.1, (closeF v m e).2.2, ?_, fit_close h⟩
 exact Prod.ext (closeF_fst v m e) rfl
theorem fgt_ex (h : OFit v m e) (x : Int) : ∃ fm fe, forgetF v m e x = (v, fm, fe) ∧ OFit v fm fe := by
 unfold forgetF
 split
 ·
  exact cl_ex h
 ·
  rename_i hn
  rcases close_cases h with ⟨h1, _⟩ | ⟨he, hc, h1⟩
  ·
   exact absurd (.inl (by rw [h1])) hn
  ·
   subst he
   exact ⟨_, _, rfl, fit_of_snd h.1 (forgetM_snd (snd_close (snd_of_fit h) hc))⟩
theorem grd_ex (h : OFit v m e) (x sx y sy c lo hi : Int) : ∃ fm fe, guardF v m e x sx y sy c lo hi = (v, fm, fe) ∧ OFit v fm fe := by
 unfold guardF
 split
 ·
  exact cl_ex h
 ·
  rename_i hn
  split
  ·
   exact ⟨_, _, rfl, fit_bot h.1⟩
  ·
   split
   ·
    exact cl_ex h
   ·
    rcases close_cases h with ⟨h1, _⟩ | ⟨he, hc, h1⟩
    ·
     exact absurd (.inl (by rw [h1])) hn
    ·
     subst he
     exact cl_ex (fit_of_snd h.1 (upC_snd (upC_snd (snd_close (snd_of_fit h) hc))))
end
abbrev Tri := List Int × List Int × Bool
def grd (t : Tri) (x sx y sy c : Int) (i : Int × Int) : Tri := guardF t.1 t.2.1 t.2.2 x sx y sy c i.1 i.2
def lessG (t : Tri) (x s y : Int) (i : Int × Int) : Tri := if x < y then grd t x 1 y (-s) 0 i else grd t y (-s) x 1 0 i
def asgF (v cm : List Int) (ce : Bool) (x lx sx y sy c : Int) : Tri :=
 if sx = 0 then grd (forgetF v cm ce x) x 1 0 0 0 (itvOf c c)
 else if sy = 0 ∧ lx = x then closeF v (lst (2 * v.length) (movM (closeM (2 * v.length) (lowM v.length cm)) sx (placeF v x).toNat c)) false
 else if sy = 0 then lessG (forgetF v cm ce x) x sx lx (itvOf c c)
 else
  let o0 := grd (forgetF v cm ce x) x 1 0 0 0 (BndF.bndF v cm ce lx sx y sy c)
  let o1 := if lx = x then o0 else lessG o0 x sx lx (BndF.bndF v cm ce y sy 0 0 c)
  if y = x then o1 else lessG o1 x sy y (BndF.bndF v cm ce lx sx 0 0 c)
def assignF (v m : List Int) (e : Bool) (x lx sx y sy c : Int) : Tri :=
 if (closeF v m e).2.2 = true ∨ placeF v x < 0 then closeF v m e
 else if ofB v lx sx y sy c = false then forgetF v (closeF v m e).2.1 (closeF v m e).2.2 x
 else asgF v (closeF v m e).2.1 (closeF v m e).2.2 x lx sx y sy c
section
variable {w W : World} {x : OV} {v m : List Int} {e : Bool} {a : Tri}
theorem forget_as (hx : Oc w W x) (hb : Below w.heap.size w W) (ho : x.o = (v, m, e)) (fx : OFit v m e) (s : Int) (ha : forgetF v m e s = a) :
 Calls Try.prog 15 #[x.val, .int .i64 s] W fun e W' => ∃ z : OV, e = .returned z.val ∧ z.o = a ∧ Own W W' z ∧ Below W.heap.size W W' := by
 obtain ⟨P, p, Q, q, v', m', e'⟩ := x
 cases ho
 rw [← ha]; exact forget_own _ s hx hb fx
theorem guard_as (hx : Oc w W x) (hb : Below w.heap.size w W) (ho : x.o = (v, m, e)) (fx : OFit v m e) (lx sx y sy c lo hi : Int) (ha : guardF v m e lx sx y sy c lo hi = a) :
 Calls Try.prog 19 #[x.val, .agg #[.int .i64 lx, .int .i64 sx, .int .i64 y, .int .i64 sy, .int .i64 c], .agg #[.int .i64 lo, .int .i64 hi]] W fun e W' => ∃ z : OV, e = .returned z.val ∧ z.o = a ∧ Own W W' z ∧ Below W.heap.size W W' := by
 obtain ⟨P, p, Q, q, v', m', e'⟩ := x
 cases ho
 rw [← ha]; exact guard_own _ lx sx y sy c lo hi hx hb fx (fun C p q u v hC _ _ _ _ => fit_of_snd fx.1 (upC_snd (upC_snd hC.s)))
theorem less_as {x s y r1 r2 r3 r4 : Int} (hs : -1 ≤ s ∧ s ≤ 1) (h : (if x < y then (x, 1, y, -s) else (y, -s, x, 1)) = (r1, r2, r3, r4)) :
 Says 70 #[.int .i64 x, .int .i64 s, .int .i64 y] W (.agg #[.int .i64 r1, .int .i64 r2, .int .i64 r3, .int .i64 r4, .int .i64 0]) := by
 refine octop_less.calls x s y r1 r2 r3 r4 0 W ?_
 have hw : wrap64 (-s) = -s := by unfold wrap64; omega
 unfold octop_less.f
 rw [hw]
 by_cases c : x < y
 ·
  rw [if_pos c] at h ⊢; cases h; rfl
 ·
  rw [if_neg c] at h ⊢; cases h; rfl
theorem moved_as {C : Mx} {k : Nat} {s d : Int} (hx : Oc w W x) (hb : Below w.heap.size w W) (ho : x.o = (v, lst (2 * v.length) C, false)) (l8 : v.length ≤ 8) (k8 : k ≤ 8) (db : -1099511627776 ≤ d ∧ d ≤ 1099511627776) (hC : Snd (2 * v.length) C) (ha : (v, lst (2 * v.length) (movM C s k d), false) = a) :
 Calls Try.prog 69 #[x.val, .int .i64 (k : Int), .int .i64 s, .int .i64 d] W fun e W' => ∃ z : OV, e = .returned z.val ∧ z.o = a ∧ Own W W' z ∧ Below W.heap.size W W' := by
 rw [← ha]; exact moved_own x k s d hx hb ho l8 k8 db (fun i j hi hj => hC.bd i j hi hj)
end
theorem lessG_at {t : Tri} {x s y r1 r2 r3 r4 : Int} {i : Int × Int} (h : (if x < y then (x, 1, y, -s) else (y, -s, x, 1)) = (r1, r2, r3, r4)) : lessG t x s y i = grd t r1 r2 r3 r4 0 i := by
 unfold lessG
 by_cases c : x < y
 ·
  rw [if_pos c] at h ⊢; cases h; rfl
 ·
  rw [if_neg c] at h ⊢; cases h; rfl
end Go.Proofs.Ytphfchbggechhaa.QO
end
end
section
noncomputable section
namespace Go.Proofs.Ytphfchbggechhaa.QO
open Go.RowKit Go.Shelf YtphfchbggechhaaW.PrintWords YtphfchbggechhaaW.PrintLast YtphfchbggechhaaW.PrintMore
open Ytphfchbggechhaa.Pure
set_option linter.unusedVariables false
section
variable {v m cm fm : List Int} {e fe : Bool} {s lx sx y sy c : Int} {p : Nat}
theorem asgn_bot (h : closeF v m e = (v, cm, true)) : assignF v m e s lx sx y sy c = (v, cm, true) := by unfold assignF; rw [h, if_pos (.inl rfl)]
theorem asgn_no (h : closeF v m e = (v, cm, false)) (hp : placeF v s < 0) : assignF v m e s lx sx y sy c = (v, cm, false) := by unfold assignF; rw [h, if_pos (.inr hp)]
theorem asgn_not (h : closeF v m e = (v, cm, false)) (hp : ¬ placeF v s < 0) (ho : ofB v lx sx y sy c = false) : assignF v m e s lx sx y sy c = forgetF v cm false s := by unfold assignF; rw [h, if_neg (by simp; omega), if_pos ho]
theorem asgn_of (h : closeF v m e = (v, cm, false)) (hp : ¬ placeF v s < 0) (ho : ofB v lx sx y sy c = true) : assignF v m e s lx sx y sy c = asgF v cm false s lx sx y sy c := by unfold assignF; rw [h, if_neg (by simp; omega), if_neg (by rw [ho]; decide)]
structure AsgW (v cm fm : List Int) (fe : Bool) (s lx sx y sy c : Int) (p : Nat) (C : Mx) (gm0 gm1 : List Int) (ge0 ge1 : Bool) (a b a0 b0 a1 b1 a2 b2 r01 r02 r03 r04 r11 r12 r13 r14 : Int) : Prop where
 cb : -1099511627776 ≤ c ∧ c ≤ 1099511627776
 sxb : -1 ≤ sx ∧ sx ≤ 1
 syb : -1 ≤ sy ∧ sy ≤ 1
 ne : sy ≠ 0 → lx ≠ y
 px : sx ≠ 0 → 0 ≤ placeF v lx
 py : sy ≠ 0 → 0 ≤ placeF v y
 hcm : cm = lst (2 * v.length) C
 sc : Snd (2 * v.length) C
 it : itvOf c c = (a, b)
 e0 : BndF.bndF v cm false lx sx y sy c = (a0, b0)
 e1 : BndF.bndF v cm false y sy 0 0 c = (a1, b1)
 e2 : BndF.bndF v cm false lx sx 0 0 c = (a2, b2)
 l0 : (if s < lx then (s, 1, lx, -sx) else (lx, -sx, s, 1)) = (r01, r02, r03, r04)
 l1 : (if s < y then (s, 1, y, -sy) else (y, -sy, s, 1)) = (r11, r12, r13, r14)
 g0 : guardF v fm fe s 1 0 0 0 a0 b0 = (v, gm0, ge0)
 f0 : OFit v gm0 ge0
 g1 : guardF v gm0 ge0 r01 r02 r03 r04 0 a1 b1 = (v, gm1, ge1)
 f1 : OFit v gm1 ge1
 r0 : sx = 0 → guardF v fm fe s 1 0 0 0 a b = asgF v cm false s lx sx y sy c
 r1 : sx ≠ 0 → sy = 0 → lx = s → closeF v (lst (2 * v.length) (movM C sx p c)) false = asgF v cm false s lx sx y sy c
 r2 : sx ≠ 0 → sy = 0 → lx ≠ s → guardF v fm fe r01 r02 r03 r04 0 a b = asgF v cm false s lx sx y sy c
 r3 : sx ≠ 0 → sy ≠ 0 → lx ≠ s → y ≠ s → guardF v gm1 ge1 r11 r12 r13 r14 0 a2 b2 = asgF v cm false s lx sx y sy c
 r4 : sx ≠ 0 → sy ≠ 0 → lx ≠ s → y = s → (v, gm1, ge1) = asgF v cm false s lx sx y sy c
 r5 : sx ≠ 0 → sy ≠ 0 → lx = s → guardF v gm0 ge0 r11 r12 r13 r14 0 a2 b2 = asgF v cm false s lx sx y sy c
theorem asgF_ways (fx : OFit v m e) (hcl : closeF v m e = (v, cm, false)) (cf : OFit v cm false) (hp2 : placeF v s = (p : Int)) (hfg : forgetF v cm false s = (v, fm, fe)) (ff : OFit v fm fe) (hof : ofB v lx sx y sy c = true) :
 ∃ (C : Mx) (gm0 gm1 : List Int) (ge0 ge1 : Bool) (a b a0 b0 a1 b1 a2 b2 r01 r02 r03 r04 r11 r12 r13 r14 : Int), AsgW v cm fm fe s lx sx y sy c p C gm0 gm1 ge0 ge1 a b a0 b0 a1 b1 a2 b2 r01 r02 r03 r04 r11 r12 r13 r14 := by
 have hP := (of_decide_eq_true hof).1
 have h3 := hP.2.2.2
 obtain ⟨C, hC, hcm, hsc⟩ : ∃ C, closeM (2 * v.length) (lowM v.length cm) = C ∧ cm = lst (2 * v.length) C ∧ Snd (2 * v.length) C := by
  rcases close_cases cf with ⟨h1, _⟩ | ⟨_, hok, h1⟩
  ·
   exfalso
   have tw := closeF_twice fx
   rw [hcl] at tw
   dsimp only at tw
   rw [h1] at tw
   cases tw
  ·
   have tw := closeF_twice fx
   rw [hcl] at tw
   dsimp only at tw
   rw [h1] at tw
   exact ⟨_, rfl, (congrArg (·.2.1) tw).symm, snd_close (snd_of_fit cf) hok⟩
 obtain ⟨a, b, hab⟩ : ∃ a b, itvOf c c = (a, b) := ⟨_, _, rfl⟩
 obtain ⟨a0, b0, hb0⟩ : ∃ a b, BndF.bndF v cm false lx sx y sy c = (a, b) := ⟨_, _, rfl⟩
 obtain ⟨a1, b1, hb1⟩ : ∃ a b, BndF.bndF v cm false y sy 0 0 c = (a, b) := ⟨_, _, rfl⟩
 obtain ⟨a2, b2, hb2⟩ : ∃ a b, BndF.bndF v cm false lx sx 0 0 c = (a, b) := ⟨_, _, rfl⟩
 obtain ⟨r01, r02, r03, r04, hl0⟩ : ∃ r1 r2 r3 r4, (if s < lx then (s, 1, lx, -sx) else (lx, -sx, s, 1)) = (r1, r2, r3, r4) := ⟨_, _, _, _, rfl⟩
 obtain ⟨r11, r12, r13, r14, hl1⟩ : ∃ r1 r2 r3 r4, (if s < y then (s, 1, y, -sy) else (y, -sy, s, 1)) = (r1, r2, r3, r4) := ⟨_, _, _, _, rfl⟩
 obtain ⟨gm0, ge0, hg0, gf0⟩ := grd_ex ff s 1 0 0 0 a0 b0
 obtain ⟨gm1, ge1, hg1, gf1⟩ := grd_ex gf0 r01 r02 r03 r04 0 a1 b1
 have e0 : grd (forgetF v cm false s) s 1 0 0 0 (BndF.bndF v cm false lx sx y sy c) = (v, gm0, ge0) := by rw [hfg, hb0]; exact hg0
 have e1 : lessG (v, gm0, ge0) s sx lx (BndF.bndF v cm false y sy 0 0 c) = (v, gm1, ge1) := by rw [lessG_at hl0, hb1]; exact hg1
 refine ⟨C, gm0, gm1, ge0, ge1, a, b, a0, b0, a1, b1, a2, b2, r01, r02, r03, r04, r11, r12, r13, r14, ⟨⟨hP.1, hP.2.1⟩, by omega, by omega, fun h => by omega, fun h => by have := (of_decide_eq_true hof).2; omega, fun h => by have := (of_decide_eq_true hof).2; omega, hcm, hsc, hab, hb0, hb1, hb2, hl0, hl1, hg0, gf0, hg1, gf1, fun h => ?_, fun h1 h2 h3 => ?_, fun h1 h2 h3 => ?_, fun h1 h2 h3 h4 => ?_, fun h1 h2 h3 h4 => ?_, fun h1 h2 h3 => ?_⟩⟩
 ·
  unfold asgF; rw [if_pos h, hfg, hab]; rfl
 ·
  unfold asgF; rw [if_neg h1, if_pos ⟨h2, h3⟩, hp2, Int.toNat_natCast, hC]
 ·
  unfold asgF; rw [if_neg h1, if_neg (fun h => h3 h.2), if_pos h2, hfg, lessG_at hl0, hab]; rfl
 ·
  unfold asgF; rw [if_neg h1, if_neg (fun h => h2 h.1), if_neg h2]; simp only [e0, if_neg h3, e1, if_neg h4]; rw [lessG_at hl1, hb2]; rfl
 ·
  unfold asgF; rw [if_neg h1, if_neg (fun h => h2 h.1), if_neg h2]; simp only [e0, if_neg h3, e1, if_pos h4]
 ·
  unfold asgF; rw [if_neg h1, if_neg (fun h => h2 h.1), if_neg h2]; simp only [e0, if_pos h3, if_neg (show ¬ y = s from fun h => by omega)]; rw [lessG_at hl1, hb2]; rfl
theorem asg_ex (fx : OFit v m e) (x lx sx y sy c : Int) : ∃ am ae, assignF v m e x lx sx y sy c = (v, am, ae) ∧ OFit v am ae := by
 obtain ⟨cm, ce, hcl, cf⟩ := cl_ex fx
 cases ce with
 | true => exact ⟨cm, true, asgn_bot hcl, cf⟩
 | false =>
  by_cases hp : placeF v x < 0
  ·
   exact ⟨cm, false, asgn_no hcl hp, cf⟩
  ·
   obtain ⟨fm, fe, hfg, ff⟩ := fgt_ex cf x
   by_cases hof : ofB v lx sx y sy c = false
   ·
    rw [asgn_not hcl hp hof]; exact ⟨fm, fe, hfg, ff⟩
   ·
    have hof' : ofB v lx sx y sy c = true := by simpa using hof
    rw [asgn_of hcl hp hof']
    obtain ⟨p, hp2⟩ : ∃ p : Nat, placeF v x = p := ⟨(placeF v x).toNat, by omega⟩
    obtain ⟨C, gm0, gm1, ge0, ge1, a, b, a0, b0, a1, b1, a2, b2, r01, r02, r03, r04, r11, r12, r13, r14, g⟩ := asgF_ways (s := x) (lx := lx) (sx := sx) (y := y) (sy := sy) (c := c) fx hcl cf hp2 hfg ff hof'
    by_cases h1 : sx = 0
    ·
     rw [← g.r0 h1]; exact grd_ex ff _ _ _ _ _ _ _
    ·
     by_cases h2 : sy = 0
     ·
      by_cases h3 : lx = x
      ·
       rw [← g.r1 h1 h2 h3]; exact cl_ex (fit_of_snd fx.1 (movM_snd g.sc))
      ·
       rw [← g.r2 h1 h2 h3]; exact grd_ex ff _ _ _ _ _ _ _
     ·
      by_cases h3 : lx = x
      ·
       rw [← g.r5 h1 h2 h3]; exact grd_ex g.f0 _ _ _ _ _ _ _
      ·
       by_cases h4 : y = x
       ·
        rw [← g.r4 h1 h2 h3 h4]; exact ⟨gm1, ge1, rfl, g.f1⟩
       ·
        rw [← g.r3 h1 h2 h3 h4]; exact grd_ex g.f1 _ _ _ _ _ _ _
end
end Go.Proofs.Ytphfchbggechhaa.QO
end
end
section
noncomputable section
namespace Go.Proofs.Ytphfchbggechhaa.QO
open Go.RowKit Go.Shelf YtphfchbggechhaaW.PrintWords YtphfchbggechhaaW.PrintLast YtphfchbggechhaaW.PrintMore
open Ytphfchbggechhaa.Pure
open OctMath (Le Fin')
open BndF (bndF mostF loF hiF most_sm most_mono lo_mono hi_mono)
set_option linter.unusedVariables false
theorem lst_inj {n : Nat} {A B : Mx} (h : lst n A = lst n B) (i j : Nat) (hi : i < n) (hj : j < n) : A i j = B i j := by
 have h1 := rd_lst (C := A) hi hj
 have h2 := rd_lst (C := B) hi hj
 rw [← h1, ← h2, h]
theorem Le.refl {n : Nat} {A : Mx} : Le n A A := fun _ _ _ _ => Int.le_refl _
theorem Le.trans {n : Nat} {A B C : Mx} (h : Le n A B) (k : Le n B C) : Le n A C := fun i j hi hj => Int.le_trans (h i j hi hj) (k i j hi hj)
theorem mn_le_l (a b : Int) : mn a b ≤ a := by unfold mn; split <;> omega
theorem mn_mono {a b c d : Int} (h : a ≤ c) (k : b ≤ d) : mn a b ≤ mn c d := by unfold mn; split <;> split <;> omega
theorem upM_le {n a b : Nat} {h : Int} {C : Mx} : Le n (upM C a b h) C := fun i j _ _ => by
 unfold upM upG
 split
 ·
  exact Int.le_refl _
 ·
  split
  ·
   exact mn_le_l _ _
  ·
   exact Int.le_refl _
theorem upM_mono {n a b : Nat} {h k : Int} {C D : Mx} (l : Le n C D) (hk : h ≤ k) : Le n (upM C a b h) (upM D a b k) := fun i j hi hj => by
 have := l i j hi hj
 unfold upM upG
 split
 ·
  exact this
 ·
  split
  ·
   exact mn_mono this hk
  ·
   exact this
theorem upC_le {n p q : Nat} {sx sy h : Int} {C : Mx} : Le n (upC C p sx q sy h) C := by
 unfold upC
 split
 ·
  exact Le.refl
 ·
  split <;> exact upM_le
theorem bup_top (a b : Int) : bupF a b ≤ 4611686018427387904 := by unfold bupF mn; split <;> (try split) <;> omega
theorem bfit_mono {a b : Int} (h : a ≤ b) : bfit a ≤ bfit b := by unfold bfit; (repeat' split) <;> omega
theorem mn_top (a b : Int) : mn a b ≤ b := by unfold mn; split <;> omega
theorem bup_mono {a b c d : Int} (h : a ≤ c) (k : b ≤ d) : bupF a b ≤ bupF c d := by
 have h1 := bfit_mono h
 have h2 := bfit_mono k
 have t1 := bfit_bd c
 have t2 := bfit_bd d
 unfold bupF
 generalize bfit a = a' at *
 generalize bfit b = b' at *
 generalize bfit c = c' at *
 generalize bfit d = d' at *
 by_cases e : c' = 4611686018427387904 ∨ d' = 4611686018427387904
 ·
  rw [if_pos e]
  split
  ·
   exact Int.le_refl _
  ·
   exact mn_top _ _
 ·
  rw [if_neg e, if_neg (by omega)]
  unfold mn mx
  (repeat' split) <;> omega
theorem upC_mono {n p q : Nat} {sx sy h k : Int} {C D : Mx} (l : Le n C D) (hk : h ≤ k) (kt : k ≤ 4611686018427387904) : Le n (upC C p sx q sy h) (upC D p sx q sy k) := by
 by_cases e : k = 4611686018427387904
 ·
  have : upC D p sx q sy k = D := by unfold upC; rw [if_pos e]
  rw [this]; exact Le.trans upC_le l
 ·
  unfold upC
  rw [if_neg (by omega), if_neg e]
  split
  ·
   exact upM_mono l (clip_mono (bup_mono hk hk) (bup_top _ _))
  ·
   exact upM_mono l (clip_mono hk kt)
theorem upC_ext {n p q : Nat} {A B : Mx} {sx sy h : Int} (e : ∀ i j, i < n → j < n → A i j = B i j) : ∀ i j, i < n → j < n → upC A p sx q sy h i j = upC B p sx q sy h i j := by
 have um : ∀ a b h, ∀ i j, i < n → j < n → upM A a b h i j = upM B a b h i j := fun a b h i j hi hj => by unfold upM; rw [e i j hi hj]
 unfold upC
 split
 ·
  exact e
 ·
  split <;> exact um _ _ _
theorem forgetM_ge {n p : Nat} {C : Mx} (hC : Snd n C) : Le n C (forgetM p C) := fun i j hi hj => by
 have := hC.bd i j hi hj
 unfold forgetM forgetG
 split
 ·
  exact Int.le_refl _
 ·
  split
  ·
   unfold Fin' at this; omega
  ·
   exact Int.le_refl _
theorem forgetM_mono {n p : Nat} {C D : Mx} (l : Le n C D) : Le n (forgetM p C) (forgetM p D) := fun i j hi hj => by
 have := l i j hi hj
 unfold forgetM forgetG
 split
 ·
  exact this
 ·
  split
  ·
   exact Int.le_refl _
  ·
   exact this
theorem movM_mono {n k : Nat} {s d : Int} {C D : Mx} (hC : Snd (2 * n) C) (hD : Snd (2 * n) D) (l : Le (2 * n) C D) : Le (2 * n) (movM C s k d) (movM D s k d) := fun i j hi hj => by
 have h1 := l i j hi hj
 have h2 := l _ _ (fromF_lt (s := s) (k := k) hi) (fromF_lt (s := s) (k := k) hj)
 have b1 := hC.bd _ _ (fromF_lt (s := s) (k := k) hi) (fromF_lt (s := s) (k := k) hj)
 have b2 := hD.bd _ _ (fromF_lt (s := s) (k := k) hi) (fromF_lt (s := s) (k := k) hj)
 unfold movM movedG
 split
 ·
  exact h1
 ·
  generalize C (fromF s k i) (fromF s k j) = c at *
  generalize D (fromF s k i) (fromF s k j) = e at *
  generalize gainF k d j = g1
  generalize gainF k d i = g2
  unfold Fin' at b1 b2
  unfold clipV
  (repeat' split) <;> omega
def TLe (v : List Int) (a b : Tri) : Prop := a = (v, [], true) ∨ ∃ A B, Cld (2 * v.length) A ∧ Cld (2 * v.length) B ∧ a = (v, lst (2 * v.length) A, false) ∧ b = (v, lst (2 * v.length) B, false) ∧ Le (2 * v.length) A B
def On (v : List Int) (t : Tri) : Prop := t.1 = v ∧ OFit v t.2.1 t.2.2
def clT (v : List Int) (t : Tri) : Tri := closeF v t.2.1 t.2.2
def QLe (v : List Int) (a b : Tri) : Prop := TLe v (clT v a) (clT v b)
section
variable {v : List Int} {a b t t' : Tri}
theorem On.vok (o : On v t) : VarsOk v := o.2.1
theorem On.cases (o : On v t) : clT v t = (v, [], true) ∨ ∃ C, Cld (2 * v.length) C ∧ clT v t = (v, lst (2 * v.length) C, false) := cl_cases o.2
theorem On.cl (o : On v t) : On v (clT v t) := ⟨closeF_fst _ _ _, fit_close o.2⟩
theorem On.twice (o : On v t) : clT v (clT v t) = clT v t := closeF_twice o.2
theorem qle_bot : QLe v (v, [], true) t := .inl (closeF_bot _ _)
theorem qle_cl (o : On v a) (o' : On v b) (h : TLe v (clT v a) (clT v b)) : QLe v (clT v a) (clT v b) := by
 unfold QLe; rw [o.twice, o'.twice]; exact h
theorem cl_mono {A B : Mx} (hv : VarsOk v) (ha : Snd (2 * v.length) A) (hb : Snd (2 * v.length) B) (h : Le (2 * v.length) A B) : QLe v (v, lst (2 * v.length) A, false) (v, lst (2 * v.length) B, false) := by
 unfold QLe clT
 by_cases hc : CloseOk (2 * v.length) A
 ·
  have t := close_mono ha hb hc (fun i j hi hj => Int.le_trans (tgt_le ha hc i j hi hj) (h i j hi hj))
  rw [clF_ok hv ha hc, clF_ok hv hb t.1]
  exact .inr ⟨_, _, Cld.of ha hc, Cld.of hb t.1, rfl, rfl, t.2.2⟩
 ·
  rw [clF_no hv ha hc]; exact .inl rfl
theorem On.mat {A : Mx} (hv : VarsOk v) (ha : Snd (2 * v.length) A) : On v (v, lst (2 * v.length) A, false) := ⟨rfl, fit_of_snd hv ha⟩
theorem closeM_at (o : On v t) {A : Mx} (h : clT v t = (v, lst (2 * v.length) A, false)) : ∀ i j, i < 2 * v.length → j < 2 * v.length → closeM (2 * v.length) (lowM v.length t.2.1) i j = A i j := by
 rcases close_cases o.2 with ⟨h1, _⟩ | ⟨_, _, h3⟩
 ·
  exact absurd (congrArg (fun q : Tri => q.2.2) (h.symm.trans h1)) (by simp)
 ·
  exact fun i j hi hj => (lst_inj (congrArg (·.2.1) (h.symm.trans h3)) i j hi hj).symm
def fgtT (v : List Int) (t : Tri) (x : Int) : Tri := forgetF v t.2.1 t.2.2 x
theorem fgt_on (o : On v t) (x : Int) : On v (fgtT v t x) := by
 obtain ⟨m, e, h, f⟩ := fgt_ex o.2 x
 unfold fgtT; rw [h]; exact ⟨rfl, f⟩
theorem fgt_bot (h : clT v t = (v, [], true)) (x : Int) : fgtT v t x = (v, [], true) := by
 have h' : closeF v t.2.1 t.2.2 = (v, [], true) := h
 unfold fgtT forgetF; rw [if_pos (.inl (by rw [h'])), h']
theorem fgt_at (o : On v t) {A : Mx} (h : clT v t = (v, lst (2 * v.length) A, false)) (x : Int) : fgtT v t x = if placeF v x < 0 then (v, lst (2 * v.length) A, false) else (v, lst (2 * v.length) (forgetM (placeF v x).toNat A), false) := by
 have h' : closeF v t.2.1 t.2.2 = (v, lst (2 * v.length) A, false) := h
 unfold fgtT forgetF
 by_cases c : placeF v x < 0
 ·
  rw [if_pos (.inr c), if_pos c, h']
 ·
  rw [if_neg (by rw [h']; simp; omega), if_neg c]
  congr 2
  exact lst_ext fun i j hi hj => by unfold forgetM; rw [closeM_at o h i j hi hj]
theorem fgt_mono (o : On v t) (o' : On v t') (q : QLe v t t') (x : Int) : QLe v (fgtT v t x) (fgtT v t' x) := by
 rcases q with q | ⟨A, B, hA, hB, qa, qb, l⟩
 ·
  rw [fgt_bot q]; exact qle_bot
 ·
  rw [fgt_at o qa, fgt_at o' qb]
  split
  ·
   exact cl_mono o.vok hA.s hB.s l
  ·
   exact cl_mono o.vok (forgetM_snd hA.s) (forgetM_snd hB.s) (forgetM_mono l)
theorem fgt_ge (o : On v t) (x : Int) : QLe v t (fgtT v t x) := by
 rcases o.cases with h | ⟨A, hA, h⟩
 ·
  exact .inl h
 ·
  rw [fgt_at o h]
  have e : QLe v t = QLe v (v, lst (2 * v.length) A, false) := by
   funext b; unfold QLe; rw [h]; unfold clT; rw [hA.clF o.vok]
  rw [e]
  split
  ·
   exact cl_mono o.vok hA.s hA.s Le.refl
  ·
   exact cl_mono o.vok hA.s (forgetM_snd hA.s) (forgetM_ge hA.s)
def ISub (i j : Int × Int) : Prop := (itvOf i.1 i.2).1 > (itvOf i.1 i.2).2 ∨ ((itvOf j.1 j.2).1 ≤ (itvOf i.1 i.2).1 ∧ (itvOf i.1 i.2).2 ≤ (itvOf j.1 j.2).2)
theorem isub_refl (i : Int × Int) : ISub i i := .inr ⟨Int.le_refl _, Int.le_refl _⟩
theorem isub_of {i j : Int × Int} (h : j.1 ≤ i.1) (k : i.2 ≤ j.2) : ISub i j := by
 unfold ISub itvOf mx mn
 by_cases c : i.1 > i.2
 ·
  left; rw [if_pos c]; decide
 ·
  right
  rw [if_neg c, if_neg (by omega)]
  dsimp only
  constructor <;> ((repeat' split) <;> omega)
theorem itvOf_idem (a b : Int) : itvOf (itvOf a b).1 (itvOf a b).2 = itvOf a b := by
 unfold itvOf mx mn
 by_cases c : a > b
 ·
  rw [if_pos c]; decide
 ·
  rw [if_neg c]
  dsimp only
  (repeat' split) <;> (first | (refine Prod.ext ?_ ?_ <;> dsimp only <;> omega) | omega)
theorem has_mono {i j : Int × Int} (s : ISub i j) (hn : ¬ (itvOf i.1 i.2).1 > (itvOf i.1 i.2).2) {c : Int} (h : itvHas (itvOf i.1 i.2).1 (itvOf i.1 i.2).2 c = true) (hb : -4611686018427387904 < c ∧ c < 4611686018427387904) : itvHas (itvOf j.1 j.2).1 (itvOf j.1 j.2).2 c = true := by
 rcases s with s | ⟨s1, s2⟩
 ·
  exact absurd s hn
 ·
  unfold itvHas at *
  rw [itvOf_idem] at *
  rw [decide_eq_true_eq] at *
  generalize itvOf i.1 i.2 = a at *
  generalize itvOf j.1 j.2 = b at *
  omega
theorem grd_on (o : On v t) (x sx y sy c : Int) (i : Int × Int) : On v (grd t x sx y sy c i) := by
 obtain ⟨e, f⟩ := o
 obtain ⟨m, b, h, f'⟩ := grd_ex f x sx y sy c i.1 i.2
 unfold grd; rw [e, h]; exact ⟨rfl, f'⟩
theorem grd_bot (o : On v t) (h : clT v t = (v, [], true)) (x sx y sy c : Int) (i : Int × Int) : grd t x sx y sy c i = (v, [], true) := by
 have h' : closeF v t.2.1 t.2.2 = (v, [], true) := h
 unfold grd; rw [o.1]; unfold guardF; rw [if_pos (.inl (by rw [h'])), h']
def grdM (v : List Int) (A : Mx) (x sx y sy c : Int) (i : Int × Int) : Mx := upC (upC A (placeF v x).toNat sx (placeF v y).toNat sy (bupF (itvOf i.1 i.2).2 (-c))) (placeF v x).toNat (-sx) (placeF v y).toNat (-sy) (bupF (bnegF (itvOf i.1 i.2).1) c)
theorem grd_at (o : On v t) {A : Mx} (h : clT v t = (v, lst (2 * v.length) A, false)) (x sx y sy c : Int) (i : Int × Int) : grd t x sx y sy c i =
 if ofB v x sx y sy c = false then (v, lst (2 * v.length) A, false)
 else if (itvOf i.1 i.2).1 > (itvOf i.1 i.2).2 ∨ (sx = 0 ∧ itvHas (itvOf i.1 i.2).1 (itvOf i.1 i.2).2 c = false) then (v, [], true)
 else if sx = 0 then (v, lst (2 * v.length) A, false) else clT v (v, lst (2 * v.length) (grdM v A x sx y sy c i), false) := by
 have h' : closeF v t.2.1 t.2.2 = (v, lst (2 * v.length) A, false) := h
 unfold grd; rw [o.1]; unfold guardF
 by_cases c1 : ofB v x sx y sy c = false
 ·
  rw [if_pos (.inr c1), if_pos c1, h']
 ·
  rw [if_neg (by rw [h']; simpa using c1), if_neg c1]
  split
  ·
   rfl
  ·
   split
   ·
    exact h'
   ·
    unfold clT grdM
    rw [lst_ext (upC_ext (upC_ext (closeM_at o h)))]
theorem grdM_snd {A : Mx} (hA : Snd (2 * v.length) A) (x sx y sy c : Int) (i : Int × Int) : Snd (2 * v.length) (grdM v A x sx y sy c i) := upC_snd (upC_snd hA)
theorem bneg_anti {a b : Int} (h : a ≤ b) : bnegF b ≤ bnegF a := by unfold bnegF bfit; (repeat' split) <;> omega
theorem of_c {x sx y sy c : Int} (h : ¬ ofB v x sx y sy c = false) : -4611686018427387904 < c ∧ c < 4611686018427387904 := by
 have hP := (of_decide_eq_true (show ofB v x sx y sy c = true by simpa using h)).1
 have h1 := hP.1
 have h2 := hP.2.1
 omega
theorem grd_mono (o : On v t) (o' : On v t') (q : QLe v t t') (x sx y sy c : Int) {i j : Int × Int} (s : ISub i j) : QLe v (grd t x sx y sy c i) (grd t' x sx y sy c j) := by
 rcases q with q | ⟨A, B, hA, hB, qa, qb, l⟩
 ·
  rw [grd_bot o q]; exact qle_bot
 ·
  rw [grd_at o qa, grd_at o' qb]
  by_cases c1 : ofB v x sx y sy c = false
  ·
   rw [if_pos c1, if_pos c1]; exact cl_mono o.vok hA.s hB.s l
  ·
   rw [if_neg c1, if_neg c1]
   by_cases c2 : (itvOf i.1 i.2).1 > (itvOf i.1 i.2).2 ∨ (sx = 0 ∧ itvHas (itvOf i.1 i.2).1 (itvOf i.1 i.2).2 c = false)
   ·
    rw [if_pos c2]; exact qle_bot
   ·
    rw [if_neg c2]
    have n1 : ¬ (itvOf i.1 i.2).1 > (itvOf i.1 i.2).2 := fun h => c2 (.inl h)
    have s' := s
    rcases s' with s' | ⟨s1, s2⟩
    ·
     exact absurd s' n1
    ·
     have c3 : ¬ ((itvOf j.1 j.2).1 > (itvOf j.1 j.2).2 ∨ (sx = 0 ∧ itvHas (itvOf j.1 j.2).1 (itvOf j.1 j.2).2 c = false)) := by
      rintro (h | ⟨h1, h2⟩)
      ·
       omega
      ·
       have := has_mono s n1 (show itvHas (itvOf i.1 i.2).1 (itvOf i.1 i.2).2 c = true by
        by_cases z : itvHas (itvOf i.1 i.2).1 (itvOf i.1 i.2).2 c = false
        ·
         exact absurd (.inr ⟨h1, z⟩) c2
        ·
         simpa using z) (of_c c1)
       rw [this] at h2; cases h2
     rw [if_neg c3]
     split
     ·
      exact cl_mono o.vok hA.s hB.s l
     ·
      refine qle_cl (On.mat o.vok (grdM_snd hA.s x sx y sy c i)) (On.mat o.vok (grdM_snd hB.s x sx y sy c j)) (cl_mono o.vok (grdM_snd hA.s x sx y sy c i) (grdM_snd hB.s x sx y sy c j) ?_)
      unfold grdM
      exact upC_mono (upC_mono l (bup_mono s2 (Int.le_refl _)) (bup_top _ _)) (bup_mono (bneg_anti s1) (Int.le_refl _)) (bup_top _ _)
theorem qle_left {A : Mx} (o : On v t) (hA : Cld (2 * v.length) A) (h : clT v t = (v, lst (2 * v.length) A, false)) : QLe v t = QLe v (v, lst (2 * v.length) A, false) := by
 funext b; unfold QLe; rw [h]; unfold clT; rw [hA.clF o.vok]
theorem qle_right {A : Mx} (o : On v t) (hA : Cld (2 * v.length) A) (h : clT v t = (v, lst (2 * v.length) A, false)) (a : Tri) : QLe v a t = QLe v a (v, lst (2 * v.length) A, false) := by
 unfold QLe; rw [h]; unfold clT; rw [hA.clF o.vok]
theorem grd_le (o : On v t) (x sx y sy c : Int) (i : Int × Int) : QLe v (grd t x sx y sy c i) t := by
 rcases o.cases with h | ⟨A, hA, h⟩
 ·
  rw [grd_bot o h]; exact qle_bot
 ·
  rw [grd_at o h, qle_right o hA h]
  split
  ·
   exact cl_mono o.vok hA.s hA.s Le.refl
  ·
   split
   ·
    exact qle_bot
   ·
    split
    ·
     exact cl_mono o.vok hA.s hA.s Le.refl
    ·
     have e : clT v (v, lst (2 * v.length) A, false) = (v, lst (2 * v.length) A, false) := hA.clF o.vok
     have g := qle_cl (On.mat o.vok (grdM_snd hA.s x sx y sy c i)) (On.mat o.vok hA.s) (cl_mono o.vok (grdM_snd hA.s x sx y sy c i) hA.s (Le.trans upC_le upC_le))
     rw [e] at g; exact g
theorem less_mono (o : On v t) (o' : On v t') (q : QLe v t t') (x s y : Int) {i j : Int × Int} (k : ISub i j) : QLe v (lessG t x s y i) (lessG t' x s y j) := by
 unfold lessG; split <;> exact grd_mono o o' q _ _ _ _ _ k
theorem less_on (o : On v t) (x s y : Int) (i : Int × Int) : On v (lessG t x s y i) := by unfold lessG; split <;> exact grd_on o _ _ _ _ _ _
theorem bnd_sub {m m' : List Int} {e e' : Bool} (o : OFit v m e) (o' : OFit v m' e') {A B : Mx} (hA : Snd (2 * v.length) A) (hB : Snd (2 * v.length) B) (ha : closeF v m e = (v, lst (2 * v.length) A, false)) (hb : closeF v m' e' = (v, lst (2 * v.length) B, false)) (l : Le (2 * v.length) A B)
 (x sx y sy c : Int) (hc : -1099511627776 ≤ c ∧ c ≤ 1099511627776) (h1 : -1 ≤ sx ∧ sx ≤ 1) (h2 : -1 ≤ sy ∧ sy ≤ 1) (hx : sx ≠ 0 → 0 ≤ placeF v x) (hy : sy ≠ 0 → 0 ≤ placeF v y) : ISub (bndF v m e x sx y sy c) (bndF v m' e' x sx y sy c) := by
 have at_ : ∀ {m : List Int} {e : Bool} {A : Mx}, OFit v m e → Snd (2 * v.length) A → closeF v m e = (v, lst (2 * v.length) A, false) → bndF v m e x sx y sy c = (loF c (mostF A (placeF v x) (-sx) (placeF v y) (-sy)), hiF c (mostF A (placeF v x) sx (placeF v y) sy)) := fun {m e A} o hA ha => by
  have hn : ∀ s u, (s ≠ 0 → 0 ≤ placeF v x) → (u ≠ 0 → 0 ≤ placeF v y) → mostF (closeM (2 * v.length) (lowM v.length m)) (placeF v x) s (placeF v y) u = mostF A (placeF v x) s (placeF v y) u := fun s u k1 k2 => by
   have cm := closeM_at (t := (v, m, e)) ⟨rfl, o⟩ ha
   have px := (placeF_lt v x).2
   have py := (placeF_lt v y).2
   unfold mostF
   split
   ·
    rfl
   ·
    rename_i z
    have lx := BndF.nX_lt (s := s) (k1 z) px
    have ln := nb_lt lx
    split
    ·
     rw [cm _ _ ln lx]
    ·
     rename_i z2
     rw [cm _ _ ln (BndF.nX_lt (k2 z2) py)]
  unfold bndF
  rw [if_neg (by rw [ha]; simp), if_neg (by
   rintro (⟨h, k⟩ | ⟨h, k⟩)
   ·
    have := hx h; omega
   ·
    have := hy h; omega), hn _ _ (fun h => hx (by omega)) (fun h => hy (by omega)), hn _ _ hx hy]
 rw [at_ o hA ha, at_ o' hB hb]
 have px := (placeF_lt v x).2
 have py := (placeF_lt v y).2
 have hc' : -4611686018427 ≤ c ∧ c ≤ 4611686018427 := by omega
 exact isub_of (lo_mono (most_mono hA hB l px py (fun h => hx (by omega)) (fun h => hy (by omega))) (most_sm hA px py (fun h => hx (by omega)) (fun h => hy (by omega))) (most_sm hB px py (fun h => hx (by omega)) (fun h => hy (by omega))) hc')
  (hi_mono (most_mono hA hB l px py hx hy) (most_sm hA px py hx hy) (most_sm hB px py hx hy) hc')
def asgT (v : List Int) (t : Tri) (x lx sx y sy c : Int) : Tri := assignF v t.2.1 t.2.2 x lx sx y sy c
theorem asg_on (o : On v t) (x lx sx y sy c : Int) : On v (asgT v t x lx sx y sy c) := by
 obtain ⟨m, e, h, f⟩ := asg_ex o.2 x lx sx y sy c
 unfold asgT; rw [h]; exact ⟨rfl, f⟩
theorem asg_mono (o : On v t) (o' : On v t') (q : QLe v t t') (x lx sx y sy c : Int) : QLe v (asgT v t x lx sx y sy c) (asgT v t' x lx sx y sy c) := by
 rcases q with q | ⟨A, B, hA, hB, qa, qb, l⟩
 ·
  have : asgT v t x lx sx y sy c = (v, [], true) := asgn_bot q
  rw [this]; exact qle_bot
 ·
  have ha : closeF v t.2.1 t.2.2 = (v, lst (2 * v.length) A, false) := qa
  have hb : closeF v t'.2.1 t'.2.2 = (v, lst (2 * v.length) B, false) := qb
  have ca := hA.clF o.vok
  have cb := hB.clF o.vok
  have oa := On.mat o.vok hA.s
  have ob := On.mat o.vok hB.s
  have qab : QLe v (v, lst (2 * v.length) A, false) (v, lst (2 * v.length) B, false) := cl_mono o.vok hA.s hB.s l
  unfold asgT
  by_cases hp : placeF v x < 0
  ·
   rw [asgn_no ha hp, asgn_no hb hp]; exact qab
  ·
   by_cases hof : ofB v lx sx y sy c = false
   ·
    rw [asgn_not ha hp hof, asgn_not hb hp hof]
    exact fgt_mono oa ob qab x
   ·
    have hof' : ofB v lx sx y sy c = true := by simpa using hof
    rw [asgn_of ha hp hof', asgn_of hb hp hof']
    have hP := of_decide_eq_true hof'
    have h3 := hP.1.2.2.2
    have cb_ : -1099511627776 ≤ c ∧ c ≤ 1099511627776 := ⟨hP.1.1, hP.1.2.1⟩
    have sxb : -1 ≤ sx ∧ sx ≤ 1 := by omega
    have syb : -1 ≤ sy ∧ sy ≤ 1 := by omega
    have px : sx ≠ 0 → 0 ≤ placeF v lx := fun h => by have := hP.2.1; omega
    have py : sy ≠ 0 → 0 ≤ placeF v y := fun h => by have := hP.2.2; omega
    have fo := fgt_on oa x
    have fo' := fgt_on ob x
    have fq := fgt_mono oa ob qab x
    unfold asgF
    split
    ·
     exact grd_mono fo fo' fq _ _ _ _ _ (isub_refl _)
    ·
     split
     ·
      have e : ∀ {C : Mx}, Cld (2 * v.length) C → lst (2 * v.length) (movM (closeM (2 * v.length) (lowM v.length (lst (2 * v.length) C))) sx (placeF v x).toNat c) = lst (2 * v.length) (movM C sx (placeF v x).toNat c) := fun {C} hC => by
       have r := closeM_at (On.mat o.vok hC.s) (hC.clF o.vok)
       refine lst_ext fun i j hi hj => ?_
       unfold movM movedG
       rw [r i j hi hj, r _ _ (fromF_lt hi) (fromF_lt hj)]
      rw [e hA, e hB]
      exact qle_cl (On.mat o.vok (movM_snd hA.s)) (On.mat o.vok (movM_snd hB.s)) (cl_mono o.vok (movM_snd hA.s) (movM_snd hB.s) (movM_mono hA.s hB.s l))
     ·
      split
      ·
       exact less_mono fo fo' fq _ _ _ (isub_refl _)
      ·
       dsimp only
       have b0 := bnd_sub oa.2 ob.2 hA.s hB.s ca cb l lx sx y sy c cb_ sxb syb px py
       have b1 := bnd_sub oa.2 ob.2 hA.s hB.s ca cb l y sy 0 0 c cb_ syb (by decide) py (fun h => absurd rfl h)
       have b2 := bnd_sub oa.2 ob.2 hA.s hB.s ca cb l lx sx 0 0 c cb_ sxb (by decide) px (fun h => absurd rfl h)
       have q0 := grd_mono fo fo' fq x 1 0 0 0 b0
       have o0 := grd_on fo x 1 0 0 0 (bndF v (lst (2 * v.length) A) false lx sx y sy c)
       have o0' := grd_on fo' x 1 0 0 0 (bndF v (lst (2 * v.length) B) false lx sx y sy c)
       unfold fgtT at q0 o0 o0'
       dsimp only at q0 o0 o0'
       by_cases d1 : lx = x
       ·
        simp only [if_pos d1]
        split
        ·
         exact q0
        ·
         exact less_mono o0 o0' q0 _ _ _ b2
       ·
        simp only [if_neg d1]
        have q1 := less_mono o0 o0' q0 x sx lx b1
        split
        ·
         exact q1
        ·
         exact less_mono (less_on o0 _ _ _ _) (less_on o0' _ _ _ _) q1 _ _ _ b2
end
end Go.Proofs.Ytphfchbggechhaa.QO
end
end
section
noncomputable section
namespace Go.Proofs.Ytphfchbggechhaa.QO
open Go.RowKit Go.Shelf YtphfchbggechhaaW.PrintWords YtphfchbggechhaaW.PrintLast YtphfchbggechhaaW.PrintMore
open Ytphfchbggechhaa.Pure
set_option linter.unusedVariables false
section
variable {w W : World} {x : OV} {v m : List Int} {e : Bool}
theorem rclose_as {a : List Int × List Int × Bool} (hx : Oc w W x) (hb : Below w.heap.size w W) (ho : x.o = (v, m, e)) (fx : OFit v m e) (ha : closeF v m e = a) :
 Calls Try.prog 38 #[x.val] W fun e W' => ∃ z : OV, e = .returned z.val ∧ z.o = a ∧ Own W W' z ∧ Below W.heap.size W W' := by
 obtain ⟨P, p, Q, q, v', m', e'⟩ := x
 cases ho
 obtain ⟨K, hK⟩ := close_ev fx
 rw [← ha]
 exact of_calls2 (gimbalref11_Close.calls K P p _ Q q _ _ _ _ _ W (hx.r0.reads hb) hx.r0.le (hx.r1.reads hb) hx.r1.le (hK K (Nat.le_refl _)))
theorem rplace_as {p : Int} (hx : Oc w W x) (hb : Below w.heap.size w W) (ho : x.o = (v, m, e)) (l : v.length ≤ 1000) (a : Int) (hp : placeF v a = p) : Says 28 #[x.val, .int .i64 a] W (.int .i64 p) := by
 obtain ⟨P, p, Q, q, v', m', e'⟩ := x
 cases ho
 rw [← hp]
 obtain ⟨K, hK⟩ := rplace_f v' m' e' a l
 exact gimbalref11_Place.calls K P p _ Q q _ _ a _ W (hx.r0.reads hb) hx.r0.le (hx.r1.reads hb) hx.r1.le (hK K (Nat.le_refl _))
theorem rgreatest_as {lx sx y sy c g : Int} {K : Nat} (hx : Oc w W x) (hb : Below w.heap.size w W) (ho : x.o = (v, m, e)) (hg : gimbalref11_greatest.f K v m e lx sx y sy c = some g) :
 Says 91 #[x.val, lV lx sx y sy c] W (.int .i64 g) := by
 obtain ⟨P, p, Q, q, v', m', e'⟩ := x
 cases ho
 exact gimbalref11_greatest.calls K P p _ Q q _ _ lx sx y sy c _ W (hx.r0.reads hb) hx.r0.le (hx.r1.reads hb) hx.r1.le hg
end
end Go.Proofs.Ytphfchbggechhaa.QO
end
end
section
noncomputable section
namespace Go.Proofs.Ytphfchbggechhaa.QO
open Go.RowKit Go.Shelf YtphfchbggechhaaW.PrintWords YtphfchbggechhaaW.PrintLast YtphfchbggechhaaW.PrintMore
open Ytphfchbggechhaa.Pure
attribute [local go_sem] Oper.semAt_some
attribute [local go_sem ↓] Go.wp_at_zero Go.wp_at_succ
set_option linter.unusedVariables false
set_option linter.unusedSimpArgs false
def rlq_T1 : Bool × List (List Nat × List Nat) := (true, [([], []), ([0], [0]), ([], []), ([2, 1], [2]), ([], []), ([], []), ([4, 1, 3, 0, 1, 4, 5], [1, 4]), ([5, 3, 6, 0, 1, 2, 3, 4, 5, 6], [3, 5])])
def rlq_B1 : List Nat := [0, 1, 0, 7, 0, 0, 63, 127]
theorem rlq_tab1 : rtab .any (opsOf Try.f75 1) = rlq_T1 := by kernel_rfl
theorem rlq_bits1 : waitsOk rlq_T1.2 rlq_B1 = true := by kernel_rfl
def rlq_T7 : Bool × List (List Nat × List Nat) := (true, [([], []), ([0], [0]), ([], []), ([1, 2], [1, 2]), ([3], [3]), ([], []), ([5], [5]), ([], []), ([6, 7], [6, 7]), ([8], [8]), ([4, 9], [4, 9])])
def rlq_B7 : List Nat := [0, 1, 0, 7, 15, 0, 32, 0, 224, 480, 1023]
theorem rlq_tab7 : rtab .any (opsOf Try.f75 7) = rlq_T7 := by kernel_rfl
theorem rlq_bits7 : waitsOk rlq_T7.2 rlq_B7 = true := by kernel_rfl
theorem rleq_bot (X Y : OV) {v : List Int} {w : World} (HX : Aside0 (Oc w w X)) (HY : Aside0 (Oc w w Y)) (FX_ : Aside0 (OFit X.v X.m X.e)) (FY_ : Aside0 (OFit Y.v Y.m Y.e)) {t : Tri} (HCX : Aside0 (closeF X.v X.m X.e = (v, [], true))) (HCY : Aside0 (closeF Y.v Y.m Y.e = t)) : Says 75 #[X.val, Y.val] w (.bool true) := by
 have hu25 := Try.underlying25
 go_enter Try.func75, Try.ntmps75
 go_upto_region 1 with fail
 have HM := MS.n2 w X.cells Y.cells
 generalize World.alloc _ _ = wk at HM ⊢
 generalize w.heap.size + 1 = gb at HM ⊢
 generalize w.heap.size = ga at HM ⊢
 replace HM := MS.dr HM
 refine startN_ (n := 8) (S := fun w' => oR ga X w' ∧ oR gb Y w') (ds := [6, 7]) (mB 8 0) (by kernel_rfl) rfl (by kernel_rfl) ⟨kO HM m1_, kO HM m0_⟩ (fun hHeld => ?_)
 refine with_tabW rlq_tab1 rlq_bits1 (fun HT_ HW_ => ?_)
 generalize World.drew _ = wk at HM hHeld ⊢
 refine tV_ 0 8 (mB 8 1) HT_ HW_ hHeld ?_
 refine tV_ 2 10 (mB 8 5) HT_ HW_ hHeld ?_
 refine join_ (σ := OV × OV × Nat × Nat) 2 (mB 8 63) (fun s_ => [(9, .agg #[.slice s_.1.P s_.1.v.length s_.1.p, .slice s_.1.Q s_.1.m.length s_.1.q, .bool s_.1.e]), (11, .agg #[.slice s_.2.1.P s_.2.1.v.length s_.2.1.p, .slice s_.2.1.Q s_.2.1.m.length s_.2.1.q, .bool s_.2.1.e]), (5, .pointer (some ⟨s_.2.2.1, 0, none⟩)), (6, .pointer (some ⟨s_.2.2.2, 0, none⟩))]) (fun s_ w' => (s_.1.o = (v, [], true)) ∧ (s_.2.1.o = t) ∧ MS w [s_.2.1, s_.1] [(s_.2.2.2, zeroO), (s_.2.2.1, zeroO), (gb, Y.cells), (ga, X.cells)] w') ?_ ?_
 rotate_left
 ·
  intro hJ
  refine th_ 1 4 5 (some 9) (some 5) (some 6) (mB 8 7) (mB 8 21) (mB 8 37) HT_ (fun K hK => ?_) (fun K hK => ?_) (fun K hK => ?_)
  ·
   refine gs_ Try.func38 #[X.val] ?_
   with_reducible refine ok_ (rclose_as (Oc.now HX HM.out.S.below) (Below.refl _ _) rfl FX_.out HCX.out) fun xv wk hx ho hb => ?_
   replace HM := MS.cl HM hb ho; clear hb ho
   refine hK.out _ _ ⟨kO HM m1_, kO HM m0_⟩ (fun hHeld => ?_)
   clear hK K
   refine nO_ 9 ?_
   refine th_ 3 4 5 (some 11) (some 5) (some 6) (mB 8 15) (mB 8 23) (mB 8 39) HT_ (fun K hK => ?_) (fun K hK => ?_) (fun K hK => ?_)
   ·
    refine gs_ Try.func38 #[Y.val] ?_
    with_reducible refine ok_ (rclose_as (Oc.now HY HM.out.S.below) (Below.refl _ _) rfl FY_.out HCY.out) fun yv wk hy ho hb => ?_
    replace HM := MS.cl HM hb ho; clear hb ho
    refine hK.out _ _ ⟨kO HM m1_, kO HM m0_⟩ (fun hHeld => ?_)
    clear hK K
    refine nO_ 11 ?_
    refine tw_ 4 5 (some 5) (some 6) (mB 8 31) (mB 8 47) HT_ (fun K hK => ?_) (fun K hK => ?_)
    ·
     refine bs_ 5 #[.slice none 0 0, .slice none 0 0, .bool false] 25 ?_
     intro gx hg wk hbox hb
     replace HM := MS.md HM hg hbox hb; clear hg hbox hb
     refine hK.out _ _ ⟨kO HM m2_, kO HM m1_⟩ (fun hHeld => ?_)
     clear hK K
     refine nO_ 5 ?_
     refine on_ 5 (some 6) (mB 8 63) HT_ (fun K hK => ?_)
     refine bs_ 6 #[.slice none 0 0, .slice none 0 0, .bool false] 25 ?_
     intro gy hg wk hbox hb
     replace HM := MS.md HM hg hbox hb; clear hg hbox hb
     refine hK.out _ _ ⟨kO HM m3_, kO HM m2_⟩ (fun hHeld => ?_)
     clear hK K
     refine nO_ 6 ?_
     exact nP_ (hJ (xv, yv, gx, gy) _ ⟨hx, hy, HM.out⟩)
    ·
     refine bs_ 6 #[.slice none 0 0, .slice none 0 0, .bool false] 25 ?_
     intro gy hg wk hbox hb
     replace HM := MS.md HM hg hbox hb; clear hg hbox hb
     refine hK.out _ _ ⟨kO HM m2_, kO HM m1_⟩ (fun hHeld => ?_)
     clear hK K
     refine nO_ 6 ?_
     refine on_ 4 (some 5) (mB 8 63) HT_ (fun K hK => ?_)
     refine bs_ 5 #[.slice none 0 0, .slice none 0 0, .bool false] 25 ?_
     intro gx hg wk hbox hb
     replace HM := MS.md HM hg hbox hb; clear hg hbox hb
     refine hK.out _ _ ⟨kO HM m3_, kO HM m2_⟩ (fun hHeld => ?_)
     clear hK K
     refine nO_ 5 ?_
     replace HM := MS.fswap HM
     exact nP_ (hJ (xv, yv, gx, gy) _ ⟨hx, hy, HM.out⟩)
   ·
    refine bs_ 5 #[.slice none 0 0, .slice none 0 0, .bool false] 25 ?_
    intro gx hg wk hbox hb
    replace HM := MS.md HM hg hbox hb; clear hg hbox hb
    refine hK.out _ _ ⟨kO HM m2_, kO HM m1_⟩ (fun hHeld => ?_)
    clear hK K
    refine nO_ 5 ?_
    refine tw_ 3 5 (some 11) (some 6) (mB 8 31) (mB 8 55) HT_ (fun K hK => ?_) (fun K hK => ?_)
    ·
     refine gs_ Try.func38 #[Y.val] ?_
     with_reducible refine ok_ (rclose_as (Oc.now HY HM.out.S.below) (Below.refl _ _) rfl FY_.out HCY.out) fun yv wk hy ho hb => ?_
     replace HM := MS.cl HM hb ho; clear hb ho
     refine hK.out _ _ ⟨kO HM m2_, kO HM m1_⟩ (fun hHeld => ?_)
     clear hK K
     refine nO_ 11 ?_
     refine on_ 5 (some 6) (mB 8 63) HT_ (fun K hK => ?_)
     refine bs_ 6 #[.slice none 0 0, .slice none 0 0, .bool false] 25 ?_
     intro gy hg wk hbox hb
     replace HM := MS.md HM hg hbox hb; clear hg hbox hb
     refine hK.out _ _ ⟨kO HM m3_, kO HM m2_⟩ (fun hHeld => ?_)
     clear hK K
     refine nO_ 6 ?_
     exact nP_ (hJ (xv, yv, gx, gy) _ ⟨hx, hy, HM.out⟩)
    ·
     refine bs_ 6 #[.slice none 0 0, .slice none 0 0, .bool false] 25 ?_
     intro gy hg wk hbox hb
     replace HM := MS.md HM hg hbox hb; clear hg hbox hb
     refine hK.out _ _ ⟨kO HM m3_, kO HM m2_⟩ (fun hHeld => ?_)
     clear hK K
     refine nO_ 6 ?_
     refine on_ 3 (some 11) (mB 8 63) HT_ (fun K hK => ?_)
     refine gs_ Try.func38 #[Y.val] ?_
     with_reducible refine ok_ (rclose_as (Oc.now HY HM.out.S.below) (Below.refl _ _) rfl FY_.out HCY.out) fun yv wk hy ho hb => ?_
     replace HM := MS.cl HM hb ho; clear hb ho
     refine hK.out _ _ ⟨kO HM m3_, kO HM m2_⟩ (fun hHeld => ?_)
     clear hK K
     refine nO_ 11 ?_
     exact nP_ (hJ (xv, yv, gx, gy) _ ⟨hx, hy, HM.out⟩)
   ·
    refine bs_ 6 #[.slice none 0 0, .slice none 0 0, .bool false] 25 ?_
    intro gy hg wk hbox hb
    replace HM := MS.md HM hg hbox hb; clear hg hbox hb
    refine hK.out _ _ ⟨kO HM m2_, kO HM m1_⟩ (fun hHeld => ?_)
    clear hK K
    refine nO_ 6 ?_
    refine tw_ 3 4 (some 11) (some 5) (mB 8 47) (mB 8 55) HT_ (fun K hK => ?_) (fun K hK => ?_)
    ·
     refine gs_ Try.func38 #[Y.val] ?_
     with_reducible refine ok_ (rclose_as (Oc.now HY HM.out.S.below) (Below.refl _ _) rfl FY_.out HCY.out) fun yv wk hy ho hb => ?_
     replace HM := MS.cl HM hb ho; clear hb ho
     refine hK.out _ _ ⟨kO HM m2_, kO HM m1_⟩ (fun hHeld => ?_)
     clear hK K
     refine nO_ 11 ?_
     refine on_ 4 (some 5) (mB 8 63) HT_ (fun K hK => ?_)
     refine bs_ 5 #[.slice none 0 0, .slice none 0 0, .bool false] 25 ?_
     intro gx hg wk hbox hb
     replace HM := MS.md HM hg hbox hb; clear hg hbox hb
     refine hK.out _ _ ⟨kO HM m3_, kO HM m2_⟩ (fun hHeld => ?_)
     clear hK K
     refine nO_ 5 ?_
     replace HM := MS.fswap HM
     exact nP_ (hJ (xv, yv, gx, gy) _ ⟨hx, hy, HM.out⟩)
    ·
     refine bs_ 5 #[.slice none 0 0, .slice none 0 0, .bool false] 25 ?_
     intro gx hg wk hbox hb
     replace HM := MS.md HM hg hbox hb; clear hg hbox hb
     refine hK.out _ _ ⟨kO HM m3_, kO HM m2_⟩ (fun hHeld => ?_)
     clear hK K
     refine nO_ 5 ?_
     refine on_ 3 (some 11) (mB 8 63) HT_ (fun K hK => ?_)
     refine gs_ Try.func38 #[Y.val] ?_
     with_reducible refine ok_ (rclose_as (Oc.now HY HM.out.S.below) (Below.refl _ _) rfl FY_.out HCY.out) fun yv wk hy ho hb => ?_
     replace HM := MS.cl HM hb ho; clear hb ho
     refine hK.out _ _ ⟨kO HM m3_, kO HM m2_⟩ (fun hHeld => ?_)
     clear hK K
     refine nO_ 11 ?_
     replace HM := MS.fswap HM
     exact nP_ (hJ (xv, yv, gx, gy) _ ⟨hx, hy, HM.out⟩)
  ·
   refine bs_ 5 #[.slice none 0 0, .slice none 0 0, .bool false] 25 ?_
   intro gx hg wk hbox hb
   replace HM := MS.md HM hg hbox hb; clear hg hbox hb
   refine hK.out _ _ ⟨kO HM m2_, kO HM m1_⟩ (fun hHeld => ?_)
   clear hK K
   refine nO_ 5 ?_
   refine tw_ 1 5 (some 9) (some 6) (mB 8 23) (mB 8 53) HT_ (fun K hK => ?_) (fun K hK => ?_)
   ·
    refine gs_ Try.func38 #[X.val] ?_
    with_reducible refine ok_ (rclose_as (Oc.now HX HM.out.S.below) (Below.refl _ _) rfl FX_.out HCX.out) fun xv wk hx ho hb => ?_
    replace HM := MS.cl HM hb ho; clear hb ho
    refine hK.out _ _ ⟨kO HM m2_, kO HM m1_⟩ (fun hHeld => ?_)
    clear hK K
    refine nO_ 9 ?_
    refine tw_ 3 5 (some 11) (some 6) (mB 8 31) (mB 8 55) HT_ (fun K hK => ?_) (fun K hK => ?_)
    ·
     refine gs_ Try.func38 #[Y.val] ?_
     with_reducible refine ok_ (rclose_as (Oc.now HY HM.out.S.below) (Below.refl _ _) rfl FY_.out HCY.out) fun yv wk hy ho hb => ?_
     replace HM := MS.cl HM hb ho; clear hb ho
     refine hK.out _ _ ⟨kO HM m2_, kO HM m1_⟩ (fun hHeld => ?_)
     clear hK K
     refine nO_ 11 ?_
     refine on_ 5 (some 6) (mB 8 63) HT_ (fun K hK => ?_)
     refine bs_ 6 #[.slice none 0 0, .slice none 0 0, .bool false] 25 ?_
     intro gy hg wk hbox hb
     replace HM := MS.md HM hg hbox hb; clear hg hbox hb
     refine hK.out _ _ ⟨kO HM m3_, kO HM m2_⟩ (fun hHeld => ?_)
     clear hK K
     refine nO_ 6 ?_
     exact nP_ (hJ (xv, yv, gx, gy) _ ⟨hx, hy, HM.out⟩)
    ·
     refine bs_ 6 #[.slice none 0 0, .slice none 0 0, .bool false] 25 ?_
     intro gy hg wk hbox hb
     replace HM := MS.md HM hg hbox hb; clear hg hbox hb
     refine hK.out _ _ ⟨kO HM m3_, kO HM m2_⟩ (fun hHeld => ?_)
     clear hK K
     refine nO_ 6 ?_
     refine on_ 3 (some 11) (mB 8 63) HT_ (fun K hK => ?_)
     refine gs_ Try.func38 #[Y.val] ?_
     with_reducible refine ok_ (rclose_as (Oc.now HY HM.out.S.below) (Below.refl _ _) rfl FY_.out HCY.out) fun yv wk hy ho hb => ?_
     replace HM := MS.cl HM hb ho; clear hb ho
     refine hK.out _ _ ⟨kO HM m3_, kO HM m2_⟩ (fun hHeld => ?_)
     clear hK K
     refine nO_ 11 ?_
     exact nP_ (hJ (xv, yv, gx, gy) _ ⟨hx, hy, HM.out⟩)
   ·
    refine bs_ 6 #[.slice none 0 0, .slice none 0 0, .bool false] 25 ?_
    intro gy hg wk hbox hb
    replace HM := MS.md HM hg hbox hb; clear hg hbox hb
    refine hK.out _ _ ⟨kO HM m3_, kO HM m2_⟩ (fun hHeld => ?_)
    clear hK K
    refine nO_ 6 ?_
    refine on_ 1 (some 9) (mB 8 55) HT_ (fun K hK => ?_)
    refine gs_ Try.func38 #[X.val] ?_
    with_reducible refine ok_ (rclose_as (Oc.now HX HM.out.S.below) (Below.refl _ _) rfl FX_.out HCX.out) fun xv wk hx ho hb => ?_
    replace HM := MS.cl HM hb ho; clear hb ho
    refine hK.out _ _ ⟨kO HM m3_, kO HM m2_⟩ (fun hHeld => ?_)
    clear hK K
    refine nO_ 9 ?_
    refine on_ 3 (some 11) (mB 8 63) HT_ (fun K hK => ?_)
    refine gs_ Try.func38 #[Y.val] ?_
    with_reducible refine ok_ (rclose_as (Oc.now HY HM.out.S.below) (Below.refl _ _) rfl FY_.out HCY.out) fun yv wk hy ho hb => ?_
    replace HM := MS.cl HM hb ho; clear hb ho
    refine hK.out _ _ ⟨kO HM m3_, kO HM m2_⟩ (fun hHeld => ?_)
    clear hK K
    refine nO_ 11 ?_
    exact nP_ (hJ (xv, yv, gx, gy) _ ⟨hx, hy, HM.out⟩)
  ·
   refine bs_ 6 #[.slice none 0 0, .slice none 0 0, .bool false] 25 ?_
   intro gy hg wk hbox hb
   replace HM := MS.md HM hg hbox hb; clear hg hbox hb
   refine hK.out _ _ ⟨kO HM m2_, kO HM m1_⟩ (fun hHeld => ?_)
   clear hK K
   refine nO_ 6 ?_
   refine tw_ 1 4 (some 9) (some 5) (mB 8 39) (mB 8 53) HT_ (fun K hK => ?_) (fun K hK => ?_)
   ·
    refine gs_ Try.func38 #[X.val] ?_
    with_reducible refine ok_ (rclose_as (Oc.now HX HM.out.S.below) (Below.refl _ _) rfl FX_.out HCX.out) fun xv wk hx ho hb => ?_
    replace HM := MS.cl HM hb ho; clear hb ho
    refine hK.out _ _ ⟨kO HM m2_, kO HM m1_⟩ (fun hHeld => ?_)
    clear hK K
    refine nO_ 9 ?_
    refine tw_ 3 4 (some 11) (some 5) (mB 8 47) (mB 8 55) HT_ (fun K hK => ?_) (fun K hK => ?_)
    ·
     refine gs_ Try.func38 #[Y.val] ?_
     with_reducible refine ok_ (rclose_as (Oc.now HY HM.out.S.below) (Below.refl _ _) rfl FY_.out HCY.out) fun yv wk hy ho hb => ?_
     replace HM := MS.cl HM hb ho; clear hb ho
     refine hK.out _ _ ⟨kO HM m2_, kO HM m1_⟩ (fun hHeld => ?_)
     clear hK K
     refine nO_ 11 ?_
     refine on_ 4 (some 5) (mB 8 63) HT_ (fun K hK => ?_)
     refine bs_ 5 #[.slice none 0 0, .slice none 0 0, .bool false] 25 ?_
     intro gx hg wk hbox hb
     replace HM := MS.md HM hg hbox hb; clear hg hbox hb
     refine hK.out _ _ ⟨kO HM m3_, kO HM m2_⟩ (fun hHeld => ?_)
     clear hK K
     refine nO_ 5 ?_
     replace HM := MS.fswap HM
     exact nP_ (hJ (xv, yv, gx, gy) _ ⟨hx, hy, HM.out⟩)
    ·
     refine bs_ 5 #[.slice none 0 0, .slice none 0 0, .bool false] 25 ?_
     intro gx hg wk hbox hb
     replace HM := MS.md HM hg hbox hb; clear hg hbox hb
     refine hK.out _ _ ⟨kO HM m3_, kO HM m2_⟩ (fun hHeld => ?_)
     clear hK K
     refine nO_ 5 ?_
     refine on_ 3 (some 11) (mB 8 63) HT_ (fun K hK => ?_)
     refine gs_ Try.func38 #[Y.val] ?_
     with_reducible refine ok_ (rclose_as (Oc.now HY HM.out.S.below) (Below.refl _ _) rfl FY_.out HCY.out) fun yv wk hy ho hb => ?_
     replace HM := MS.cl HM hb ho; clear hb ho
     refine hK.out _ _ ⟨kO HM m3_, kO HM m2_⟩ (fun hHeld => ?_)
     clear hK K
     refine nO_ 11 ?_
     replace HM := MS.fswap HM
     exact nP_ (hJ (xv, yv, gx, gy) _ ⟨hx, hy, HM.out⟩)
   ·
    refine bs_ 5 #[.slice none 0 0, .slice none 0 0, .bool false] 25 ?_
    intro gx hg wk hbox hb
    replace HM := MS.md HM hg hbox hb; clear hg hbox hb
    refine hK.out _ _ ⟨kO HM m3_, kO HM m2_⟩ (fun hHeld => ?_)
    clear hK K
    refine nO_ 5 ?_
    refine on_ 1 (some 9) (mB 8 55) HT_ (fun K hK => ?_)
    refine gs_ Try.func38 #[X.val] ?_
    with_reducible refine ok_ (rclose_as (Oc.now HX HM.out.S.below) (Below.refl _ _) rfl FX_.out HCX.out) fun xv wk hx ho hb => ?_
    replace HM := MS.cl HM hb ho; clear hb ho
    refine hK.out _ _ ⟨kO HM m3_, kO HM m2_⟩ (fun hHeld => ?_)
    clear hK K
    refine nO_ 9 ?_
    refine on_ 3 (some 11) (mB 8 63) HT_ (fun K hK => ?_)
    refine gs_ Try.func38 #[Y.val] ?_
    with_reducible refine ok_ (rclose_as (Oc.now HY HM.out.S.below) (Below.refl _ _) rfl FY_.out HCY.out) fun yv wk hy ho hb => ?_
    replace HM := MS.cl HM hb ho; clear hb ho
    refine hK.out _ _ ⟨kO HM m3_, kO HM m2_⟩ (fun hHeld => ?_)
    clear hK K
    refine nO_ 11 ?_
    replace HM := MS.fswap HM
    exact nP_ (hJ (xv, yv, gx, gy) _ ⟨hx, hy, HM.out⟩)
 rintro ⟨xv, yv, gx, gy⟩ wk ⟨hx, hy, HM4⟩
 clear HM hHeld; have HM := Aside0.mk HM4; clear HM4; dsimp only at HM hx hy
 refine nS_ ?_
 have kgx := MS.c3 HM m1_
 refine la_ 6 (mB 8 127) HT_ (fun K hK => ?_)
 refine skip_ (w1 := ?_) (by rfl) rfl ?_ ?_
 rotate_left
 ·
  go_simp
  rfl
 refine hK.out _ _ ?_
 clear hK K
 replace HM := MS.po1 xv HM
 generalize World.setCell _ _ _ = wk at HM ⊢
 have kgy := MS.c3 HM m0_
 refine la_ 7 (mB 8 255) HT_ (fun K hK => ?_)
 refine skip_ (w1 := ?_) (by rfl) rfl ?_ ?_
 rotate_left
 ·
  go_simp
  rfl
 refine hK.out _ _ ?_
 clear hK K
 refine dn_ HT_ ?_
 clear HT_ HW_
 unfold OnlyN
 replace HM := MS.po0 yv HM
 generalize World.setCell _ _ _ = wk at HM ⊢
 replace HM := MS.sb HM (.refl _) (.cons_cons _ (.cons_cons _ (.cons _ (.cons _ .slnil))))
 have HXV := Aside0.mk hx; have HYV := Aside0.mk hy; clear hx hy
 have e1 : xv.e = true := congrArg (·.2.2) HXV.out
 replace kgy := MS.c3 HM m0_; replace kgx := MS.c3 HM m1_
 go_wp2
 go_ret
 exact ⟨rfl, HM.out.S.below⟩
theorem rleq_in (X Y : OV) {v : List Int} {w : World} (HX : Aside0 (Oc w w X)) (HY : Aside0 (Oc w w Y)) (FX_ : Aside0 (OFit X.v X.m X.e)) (FY_ : Aside0 (OFit Y.v Y.m Y.e)) {l1 l2 : List Int} (HCX : Aside0 (closeF X.v X.m X.e = (v, l1, false))) (HCY : Aside0 (closeF Y.v Y.m Y.e = (v, l2, false))) (HL : Aside0 (l1.length = l2.length ∧ l1.length ≤ 256 ∧ ∀ k : Nat, k < l1.length → rd l1 (k : Int) ≤ rd l2 (k : Int))) : Says 75 #[X.val, Y.val] w (.bool true) := by
 have hu25 := Try.underlying25
 go_enter Try.func75, Try.ntmps75
 go_upto_region 1 with fail
 have HM := MS.n2 w X.cells Y.cells
 generalize World.alloc _ _ = wk at HM ⊢
 generalize w.heap.size + 1 = gb at HM ⊢
 generalize w.heap.size = ga at HM ⊢
 replace HM := MS.dr HM
 refine startN_ (n := 8) (S := fun w' => oR ga X w' ∧ oR gb Y w') (ds := [6, 7]) (mB 8 0) (by kernel_rfl) rfl (by kernel_rfl) ⟨kO HM m1_, kO HM m0_⟩ (fun hHeld => ?_)
 refine with_tabW rlq_tab1 rlq_bits1 (fun HT_ HW_ => ?_)
 generalize World.drew _ = wk at HM hHeld ⊢
 refine tV_ 0 8 (mB 8 1) HT_ HW_ hHeld ?_
 refine tV_ 2 10 (mB 8 5) HT_ HW_ hHeld ?_
 refine join_ (σ := OV × OV × Nat × Nat) 2 (mB 8 63) (fun s_ => [(9, .agg #[.slice s_.1.P s_.1.v.length s_.1.p, .slice s_.1.Q s_.1.m.length s_.1.q, .bool s_.1.e]), (11, .agg #[.slice s_.2.1.P s_.2.1.v.length s_.2.1.p, .slice s_.2.1.Q s_.2.1.m.length s_.2.1.q, .bool s_.2.1.e]), (5, .pointer (some ⟨s_.2.2.1, 0, none⟩)), (6, .pointer (some ⟨s_.2.2.2, 0, none⟩))]) (fun s_ w' => (s_.1.o = (v, l1, false)) ∧ (s_.2.1.o = (v, l2, false)) ∧ MS w [s_.2.1, s_.1] [(s_.2.2.2, zeroO), (s_.2.2.1, zeroO), (gb, Y.cells), (ga, X.cells)] w') ?_ ?_
 rotate_left
 ·
  intro hJ
  refine th_ 1 4 5 (some 9) (some 5) (some 6) (mB 8 7) (mB 8 21) (mB 8 37) HT_ (fun K hK => ?_) (fun K hK => ?_) (fun K hK => ?_)
  ·
   refine gs_ Try.func38 #[X.val] ?_
   with_reducible refine ok_ (rclose_as (Oc.now HX HM.out.S.below) (Below.refl _ _) rfl FX_.out HCX.out) fun xv wk hx ho hb => ?_
   replace HM := MS.cl HM hb ho; clear hb ho
   refine hK.out _ _ ⟨kO HM m1_, kO HM m0_⟩ (fun hHeld => ?_)
   clear hK K
   refine nO_ 9 ?_
   refine th_ 3 4 5 (some 11) (some 5) (some 6) (mB 8 15) (mB 8 23) (mB 8 39) HT_ (fun K hK => ?_) (fun K hK => ?_) (fun K hK => ?_)
   ·
    refine gs_ Try.func38 #[Y.val] ?_
    with_reducible refine ok_ (rclose_as (Oc.now HY HM.out.S.below) (Below.refl _ _) rfl FY_.out HCY.out) fun yv wk hy ho hb => ?_
    replace HM := MS.cl HM hb ho; clear hb ho
    refine hK.out _ _ ⟨kO HM m1_, kO HM m0_⟩ (fun hHeld => ?_)
    clear hK K
    refine nO_ 11 ?_
    refine tw_ 4 5 (some 5) (some 6) (mB 8 31) (mB 8 47) HT_ (fun K hK => ?_) (fun K hK => ?_)
    ·
     refine bs_ 5 #[.slice none 0 0, .slice none 0 0, .bool false] 25 ?_
     intro gx hg wk hbox hb
     replace HM := MS.md HM hg hbox hb; clear hg hbox hb
     refine hK.out _ _ ⟨kO HM m2_, kO HM m1_⟩ (fun hHeld => ?_)
     clear hK K
     refine nO_ 5 ?_
     refine on_ 5 (some 6) (mB 8 63) HT_ (fun K hK => ?_)
     refine bs_ 6 #[.slice none 0 0, .slice none 0 0, .bool false] 25 ?_
     intro gy hg wk hbox hb
     replace HM := MS.md HM hg hbox hb; clear hg hbox hb
     refine hK.out _ _ ⟨kO HM m3_, kO HM m2_⟩ (fun hHeld => ?_)
     clear hK K
     refine nO_ 6 ?_
     exact nP_ (hJ (xv, yv, gx, gy) _ ⟨hx, hy, HM.out⟩)
    ·
     refine bs_ 6 #[.slice none 0 0, .slice none 0 0, .bool false] 25 ?_
     intro gy hg wk hbox hb
     replace HM := MS.md HM hg hbox hb; clear hg hbox hb
     refine hK.out _ _ ⟨kO HM m2_, kO HM m1_⟩ (fun hHeld => ?_)
     clear hK K
     refine nO_ 6 ?_
     refine on_ 4 (some 5) (mB 8 63) HT_ (fun K hK => ?_)
     refine bs_ 5 #[.slice none 0 0, .slice none 0 0, .bool false] 25 ?_
     intro gx hg wk hbox hb
     replace HM := MS.md HM hg hbox hb; clear hg hbox hb
     refine hK.out _ _ ⟨kO HM m3_, kO HM m2_⟩ (fun hHeld => ?_)
     clear hK K
     refine nO_ 5 ?_
     replace HM := MS.fswap HM
     exact nP_ (hJ (xv, yv, gx, gy) _ ⟨hx, hy, HM.out⟩)
   ·
    refine bs_ 5 #[.slice none 0 0, .slice none 0 0, .bool false] 25 ?_
    intro gx hg wk hbox hb
    replace HM := MS.md HM hg hbox hb; clear hg hbox hb
    refine hK.out _ _ ⟨kO HM m2_, kO HM m1_⟩ (fun hHeld => ?_)
    clear hK K
    refine nO_ 5 ?_
    refine tw_ 3 5 (some 11) (some 6) (mB 8 31) (mB 8 55) HT_ (fun K hK => ?_) (fun K hK => ?_)
    ·
     refine gs_ Try.func38 #[Y.val] ?_
     with_reducible refine ok_ (rclose_as (Oc.now HY HM.out.S.below) (Below.refl _ _) rfl FY_.out HCY.out) fun yv wk hy ho hb => ?_
     replace HM := MS.cl HM hb ho; clear hb ho
     refine hK.out _ _ ⟨kO HM m2_, kO HM m1_⟩ (fun hHeld => ?_)
     clear hK K
     refine nO_ 11 ?_
     refine on_ 5 (some 6) (mB 8 63) HT_ (fun K hK => ?_)
     refine bs_ 6 #[.slice none 0 0, .slice none 0 0, .bool false] 25 ?_
     intro gy hg wk hbox hb
     replace HM := MS.md HM hg hbox hb; clear hg hbox hb
     refine hK.out _ _ ⟨kO HM m3_, kO HM m2_⟩ (fun hHeld => ?_)
     clear hK K
     refine nO_ 6 ?_
     exact nP_ (hJ (xv, yv, gx, gy) _ ⟨hx, hy, HM.out⟩)
    ·
     refine bs_ 6 #[.slice none 0 0, .slice none 0 0, .bool false] 25 ?_
     intro gy hg wk hbox hb
     replace HM := MS.md HM hg hbox hb; clear hg hbox hb
     refine hK.out _ _ ⟨kO HM m3_, kO HM m2_⟩ (fun hHeld => ?_)
     clear hK K
     refine nO_ 6 ?_
     refine on_ 3 (some 11) (mB 8 63) HT_ (fun K hK => ?_)
     refine gs_ Try.func38 #[Y.val] ?_
     with_reducible refine ok_ (rclose_as (Oc.now HY HM.out.S.below) (Below.refl _ _) rfl FY_.out HCY.out) fun yv wk hy ho hb => ?_
     replace HM := MS.cl HM hb ho; clear hb ho
     refine hK.out _ _ ⟨kO HM m3_, kO HM m2_⟩ (fun hHeld => ?_)
     clear hK K
     refine nO_ 11 ?_
     exact nP_ (hJ (xv, yv, gx, gy) _ ⟨hx, hy, HM.out⟩)
   ·
    refine bs_ 6 #[.slice none 0 0, .slice none 0 0, .bool false] 25 ?_
    intro gy hg wk hbox hb
    replace HM := MS.md HM hg hbox hb; clear hg hbox hb
    refine hK.out _ _ ⟨kO HM m2_, kO HM m1_⟩ (fun hHeld => ?_)
    clear hK K
    refine nO_ 6 ?_
    refine tw_ 3 4 (some 11) (some 5) (mB 8 47) (mB 8 55) HT_ (fun K hK => ?_) (fun K hK => ?_)
    ·
     refine gs_ Try.func38 #[Y.val] ?_
     with_reducible refine ok_ (rclose_as (Oc.now HY HM.out.S.below) (Below.refl _ _) rfl FY_.out HCY.out) fun yv wk hy ho hb => ?_
     replace HM := MS.cl HM hb ho; clear hb ho
     refine hK.out _ _ ⟨kO HM m2_, kO HM m1_⟩ (fun hHeld => ?_)
     clear hK K
     refine nO_ 11 ?_
     refine on_ 4 (some 5) (mB 8 63) HT_ (fun K hK => ?_)
     refine bs_ 5 #[.slice none 0 0, .slice none 0 0, .bool false] 25 ?_
     intro gx hg wk hbox hb
     replace HM := MS.md HM hg hbox hb; clear hg hbox hb
     refine hK.out _ _ ⟨kO HM m3_, kO HM m2_⟩ (fun hHeld => ?_)
     clear hK K
     refine nO_ 5 ?_
     replace HM := MS.fswap HM
     exact nP_ (hJ (xv, yv, gx, gy) _ ⟨hx, hy, HM.out⟩)
    ·
     refine bs_ 5 #[.slice none 0 0, .slice none 0 0, .bool false] 25 ?_
     intro gx hg wk hbox hb
     replace HM := MS.md HM hg hbox hb; clear hg hbox hb
     refine hK.out _ _ ⟨kO HM m3_, kO HM m2_⟩ (fun hHeld => ?_)
     clear hK K
     refine nO_ 5 ?_
     refine on_ 3 (some 11) (mB 8 63) HT_ (fun K hK => ?_)
     refine gs_ Try.func38 #[Y.val] ?_
     with_reducible refine ok_ (rclose_as (Oc.now HY HM.out.S.below) (Below.refl _ _) rfl FY_.out HCY.out) fun yv wk hy ho hb => ?_
     replace HM := MS.cl HM hb ho; clear hb ho
     refine hK.out _ _ ⟨kO HM m3_, kO HM m2_⟩ (fun hHeld => ?_)
     clear hK K
     refine nO_ 11 ?_
     replace HM := MS.fswap HM
     exact nP_ (hJ (xv, yv, gx, gy) _ ⟨hx, hy, HM.out⟩)
  ·
   refine bs_ 5 #[.slice none 0 0, .slice none 0 0, .bool false] 25 ?_
   intro gx hg wk hbox hb
   replace HM := MS.md HM hg hbox hb; clear hg hbox hb
   refine hK.out _ _ ⟨kO HM m2_, kO HM m1_⟩ (fun hHeld => ?_)
   clear hK K
   refine nO_ 5 ?_
   refine tw_ 1 5 (some 9) (some 6) (mB 8 23) (mB 8 53) HT_ (fun K hK => ?_) (fun K hK => ?_)
   ·
    refine gs_ Try.func38 #[X.val] ?_
    with_reducible refine ok_ (rclose_as (Oc.now HX HM.out.S.below) (Below.refl _ _) rfl FX_.out HCX.out) fun xv wk hx ho hb => ?_
    replace HM := MS.cl HM hb ho; clear hb ho
    refine hK.out _ _ ⟨kO HM m2_, kO HM m1_⟩ (fun hHeld => ?_)
    clear hK K
    refine nO_ 9 ?_
    refine tw_ 3 5 (some 11) (some 6) (mB 8 31) (mB 8 55) HT_ (fun K hK => ?_) (fun K hK => ?_)
    ·
     refine gs_ Try.func38 #[Y.val] ?_
     with_reducible refine ok_ (rclose_as (Oc.now HY HM.out.S.below) (Below.refl _ _) rfl FY_.out HCY.out) fun yv wk hy ho hb => ?_
     replace HM := MS.cl HM hb ho; clear hb ho
     refine hK.out _ _ ⟨kO HM m2_, kO HM m1_⟩ (fun hHeld => ?_)
     clear hK K
     refine nO_ 11 ?_
     refine on_ 5 (some 6) (mB 8 63) HT_ (fun K hK => ?_)
     refine bs_ 6 #[.slice none 0 0, .slice none 0 0, .bool false] 25 ?_
     intro gy hg wk hbox hb
     replace HM := MS.md HM hg hbox hb; clear hg hbox hb
     refine hK.out _ _ ⟨kO HM m3_, kO HM m2_⟩ (fun hHeld => ?_)
     clear hK K
     refine nO_ 6 ?_
     exact nP_ (hJ (xv, yv, gx, gy) _ ⟨hx, hy, HM.out⟩)
    ·
     refine bs_ 6 #[.slice none 0 0, .slice none 0 0, .bool false] 25 ?_
     intro gy hg wk hbox hb
     replace HM := MS.md HM hg hbox hb; clear hg hbox hb
     refine hK.out _ _ ⟨kO HM m3_, kO HM m2_⟩ (fun hHeld => ?_)
     clear hK K
     refine nO_ 6 ?_
     refine on_ 3 (some 11) (mB 8 63) HT_ (fun K hK => ?_)
     refine gs_ Try.func38 #[Y.val] ?_
     with_reducible refine ok_ (rclose_as (Oc.now HY HM.out.S.below) (Below.refl _ _) rfl FY_.out HCY.out) fun yv wk hy ho hb => ?_
     replace HM := MS.cl HM hb ho; clear hb ho
     refine hK.out _ _ ⟨kO HM m3_, kO HM m2_⟩ (fun hHeld => ?_)
     clear hK K
     refine nO_ 11 ?_
     exact nP_ (hJ (xv, yv, gx, gy) _ ⟨hx, hy, HM.out⟩)
   ·
    refine bs_ 6 #[.slice none 0 0, .slice none 0 0, .bool false] 25 ?_
    intro gy hg wk hbox hb
    replace HM := MS.md HM hg hbox hb; clear hg hbox hb
    refine hK.out _ _ ⟨kO HM m3_, kO HM m2_⟩ (fun hHeld => ?_)
    clear hK K
    refine nO_ 6 ?_
    refine on_ 1 (some 9) (mB 8 55) HT_ (fun K hK => ?_)
    refine gs_ Try.func38 #[X.val] ?_
    with_reducible refine ok_ (rclose_as (Oc.now HX HM.out.S.below) (Below.refl _ _) rfl FX_.out HCX.out) fun xv wk hx ho hb => ?_
    replace HM := MS.cl HM hb ho; clear hb ho
    refine hK.out _ _ ⟨kO HM m3_, kO HM m2_⟩ (fun hHeld => ?_)
    clear hK K
    refine nO_ 9 ?_
    refine on_ 3 (some 11) (mB 8 63) HT_ (fun K hK => ?_)
    refine gs_ Try.func38 #[Y.val] ?_
    with_reducible refine ok_ (rclose_as (Oc.now HY HM.out.S.below) (Below.refl _ _) rfl FY_.out HCY.out) fun yv wk hy ho hb => ?_
    replace HM := MS.cl HM hb ho; clear hb ho
    refine hK.out _ _ ⟨kO HM m3_, kO HM m2_⟩ (fun hHeld => ?_)
    clear hK K
    refine nO_ 11 ?_
    exact nP_ (hJ (xv, yv, gx, gy) _ ⟨hx, hy, HM.out⟩)
  ·
   refine bs_ 6 #[.slice none 0 0, .slice none 0 0, .bool false] 25 ?_
   intro gy hg wk hbox hb
   replace HM := MS.md HM hg hbox hb; clear hg hbox hb
   refine hK.out _ _ ⟨kO HM m2_, kO HM m1_⟩ (fun hHeld => ?_)
   clear hK K
   refine nO_ 6 ?_
   refine tw_ 1 4 (some 9) (some 5) (mB 8 39) (mB 8 53) HT_ (fun K hK => ?_) (fun K hK => ?_)
   ·
    refine gs_ Try.func38 #[X.val] ?_
    with_reducible refine ok_ (rclose_as (Oc.now HX HM.out.S.below) (Below.refl _ _) rfl FX_.out HCX.out) fun xv wk hx ho hb => ?_
    replace HM := MS.cl HM hb ho; clear hb ho
    refine hK.out _ _ ⟨kO HM m2_, kO HM m1_⟩ (fun hHeld => ?_)
    clear hK K
    refine nO_ 9 ?_
    refine tw_ 3 4 (some 11) (some 5) (mB 8 47) (mB 8 55) HT_ (fun K hK => ?_) (fun K hK => ?_)
    ·
     refine gs_ Try.func38 #[Y.val] ?_
     with_reducible refine ok_ (rclose_as (Oc.now HY HM.out.S.below) (Below.refl _ _) rfl FY_.out HCY.out) fun yv wk hy ho hb => ?_
     replace HM := MS.cl HM hb ho; clear hb ho
     refine hK.out _ _ ⟨kO HM m2_, kO HM m1_⟩ (fun hHeld => ?_)
     clear hK K
     refine nO_ 11 ?_
     refine on_ 4 (some 5) (mB 8 63) HT_ (fun K hK => ?_)
     refine bs_ 5 #[.slice none 0 0, .slice none 0 0, .bool false] 25 ?_
     intro gx hg wk hbox hb
     replace HM := MS.md HM hg hbox hb; clear hg hbox hb
     refine hK.out _ _ ⟨kO HM m3_, kO HM m2_⟩ (fun hHeld => ?_)
     clear hK K
     refine nO_ 5 ?_
     replace HM := MS.fswap HM
     exact nP_ (hJ (xv, yv, gx, gy) _ ⟨hx, hy, HM.out⟩)
    ·
     refine bs_ 5 #[.slice none 0 0, .slice none 0 0, .bool false] 25 ?_
     intro gx hg wk hbox hb
     replace HM := MS.md HM hg hbox hb; clear hg hbox hb
     refine hK.out _ _ ⟨kO HM m3_, kO HM m2_⟩ (fun hHeld => ?_)
     clear hK K
     refine nO_ 5 ?_
     refine on_ 3 (some 11) (mB 8 63) HT_ (fun K hK => ?_)
     refine gs_ Try.func38 #[Y.val] ?_
     with_reducible refine ok_ (rclose_as (Oc.now HY HM.out.S.below) (Below.refl _ _) rfl FY_.out HCY.out) fun yv wk hy ho hb => ?_
     replace HM := MS.cl HM hb ho; clear hb ho
     refine hK.out _ _ ⟨kO HM m3_, kO HM m2_⟩ (fun hHeld => ?_)
     clear hK K
     refine nO_ 11 ?_
     replace HM := MS.fswap HM
     exact nP_ (hJ (xv, yv, gx, gy) _ ⟨hx, hy, HM.out⟩)
   ·
    refine bs_ 5 #[.slice none 0 0, .slice none 0 0, .bool false] 25 ?_
    intro gx hg wk hbox hb
    replace HM := MS.md HM hg hbox hb; clear hg hbox hb
    refine hK.out _ _ ⟨kO HM m3_, kO HM m2_⟩ (fun hHeld => ?_)
    clear hK K
    refine nO_ 5 ?_
    refine on_ 1 (some 9) (mB 8 55) HT_ (fun K hK => ?_)
    refine gs_ Try.func38 #[X.val] ?_
    with_reducible refine ok_ (rclose_as (Oc.now HX HM.out.S.below) (Below.refl _ _) rfl FX_.out HCX.out) fun xv wk hx ho hb => ?_
    replace HM := MS.cl HM hb ho; clear hb ho
    refine hK.out _ _ ⟨kO HM m3_, kO HM m2_⟩ (fun hHeld => ?_)
    clear hK K
    refine nO_ 9 ?_
    refine on_ 3 (some 11) (mB 8 63) HT_ (fun K hK => ?_)
    refine gs_ Try.func38 #[Y.val] ?_
    with_reducible refine ok_ (rclose_as (Oc.now HY HM.out.S.below) (Below.refl _ _) rfl FY_.out HCY.out) fun yv wk hy ho hb => ?_
    replace HM := MS.cl HM hb ho; clear hb ho
    refine hK.out _ _ ⟨kO HM m3_, kO HM m2_⟩ (fun hHeld => ?_)
    clear hK K
    refine nO_ 11 ?_
    replace HM := MS.fswap HM
    exact nP_ (hJ (xv, yv, gx, gy) _ ⟨hx, hy, HM.out⟩)
 rintro ⟨xv, yv, gx, gy⟩ wk ⟨hx, hy, HM4⟩
 clear HM hHeld; have HM := Aside0.mk HM4; clear HM4; dsimp only at HM hx hy
 refine nS_ ?_
 have kgx := MS.c3 HM m1_
 refine la_ 6 (mB 8 127) HT_ (fun K hK => ?_)
 refine skip_ (w1 := ?_) (by rfl) rfl ?_ ?_
 rotate_left
 ·
  go_simp
  rfl
 refine hK.out _ _ ?_
 clear hK K
 replace HM := MS.po1 xv HM
 generalize World.setCell _ _ _ = wk at HM ⊢
 have kgy := MS.c3 HM m0_
 refine la_ 7 (mB 8 255) HT_ (fun K hK => ?_)
 refine skip_ (w1 := ?_) (by rfl) rfl ?_ ?_
 rotate_left
 ·
  go_simp
  rfl
 refine hK.out _ _ ?_
 clear hK K
 refine dn_ HT_ ?_
 clear HT_ HW_
 unfold OnlyN
 replace HM := MS.po0 yv HM
 generalize World.setCell _ _ _ = wk at HM ⊢
 replace HM := MS.sb HM (.refl _) (.cons_cons _ (.cons_cons _ (.cons _ (.cons _ .slnil))))
 have HXV := Aside0.mk hx; have HYV := Aside0.mk hy; clear hx hy
 have e1 : xv.e = false := congrArg (·.2.2) HXV.out; have e2 : yv.e = false := congrArg (·.2.2) HYV.out
 replace kgy := MS.c3 HM m0_; replace kgx := MS.c3 HM m1_
 go_upto_region 4 with fail
 clear e1 e2
 obtain ⟨xP, xp, xQ, xq, xV, xM, xE⟩ := xv; obtain ⟨yP, yp, yQ, yq, yV, yM, yE⟩ := yv
 have ex := HXV.out; have ey := HYV.out; clear HXV HYV; cases ex; cases ey
 replace HM : Aside0 (MS w [⟨yP, yp, yQ, yq, xV, yM, false⟩, ⟨xP, xp, xQ, xq, xV, xM, false⟩] [(gy, .cells #[.slice yP xV.length yp, .slice yQ yM.length yq, .bool false] 25 (0, 0)), (gx, .cells #[.slice xP xV.length xp, .slice xQ xM.length xq, .bool false] 25 (0, 0))] _) := HM
 go_wp2
 go_loopg [23] xM.length (fun kq v23 w' => ∃ (i : Int), v23 = .int .i64 i ∧ Aside0 (0 ≤ i ∧ i + (kq : Int) = (xM.length : Int)) ∧ Aside0 (MS w [⟨yP, yp, yQ, yq, xV, yM, false⟩, ⟨xP, xp, xQ, xq, xV, xM, false⟩] [(gy, .cells #[.slice yP xV.length yp, .slice yQ yM.length yq, .bool false] 25 (0, 0)), (gx, .cells #[.slice xP xV.length xp, .slice xQ xM.length xq, .bool false] 25 (0, 0))] w'))
 case atStart => exact ⟨0, by rfl, ⟨by omega⟩, ⟨MS.to HM⟩⟩
 case round =>
  clear HM; clear kgx kgy
  obtain ⟨i, rfl, HI, HM⟩ := hrel
  cases gk with
  | zero =>
   have q1 : (decide (i < (xM.length : Int))) = false := decide_eq_false (by have := HI.out; omega)
   have kgy := MS.c3 HM m0_; have kgx := MS.c3 HM m1_
   go_wp2
   go_ret
   exact ⟨rfl, MS.bel HM⟩
  | succ k =>
   have q1 : (decide (i < (xM.length : Int))) = true := decide_eq_true (by have := HI.out; omega)
   have p2 : 0 ≤ i := HI.out.1
   have q2 : i < (xM.length : Int) := by have := HI.out; omega
   have q3 : i < (yM.length : Int) := by have := HL.out.1; omega
   have d1' : decide (rd xM i > rd yM i) = false := decide_eq_false (by have := HL.out.2.2 i.toNat (by omega); rw [Int.toNat_of_nonneg p2] at this; omega)
   obtain ⟨ad, ea, hx0⟩ := Kd.at_int ((HM.out.S.own _ m1_).oc.r1.reads HM.out.S.below) i p2 q2
   obtain ⟨bd, eb, hy0⟩ := Kd.at_int ((HM.out.S.own _ m0_).oc.r1.reads HM.out.S.below) i p2 q3
   cases ea; cases eb
   replace p2 := eq_true p2; replace q2 := eq_true q2; replace q3 := eq_true q3
   clear hx0 hy0
   have kgy := MS.c3 HM m0_; have kgx := MS.c3 HM m1_
   go_upto_region 7 with fail
   replace HM := MS.dr HM
   clear kgx kgy
   refine st_ 11 (fun w' => w'.cell? ⟨gx, 1, none⟩ = some (.slice (some ad) xM.length xq) ∧ w'.cell? ⟨gy, 1, none⟩ = some (.slice (some bd) yM.length yq) ∧ w'.cell? (ad.add i.toNat) = some (.int .i64 (rd xM i)) ∧ w'.cell? (bd.add i.toNat) = some (.int .i64 (rd yM i))) [] ⟨MS.k HM m1_ 1 rfl, MS.k HM m0_ 1 rfl, (by obtain ⟨_, e_, h_⟩ := Kd.at_int ((HM.out.S.own _ m1_).oc.r1.reads HM.out.S.below) i (of_eq_true p2) (of_eq_true q2); cases e_; exact h_), (by obtain ⟨_, e_, h_⟩ := Kd.at_int ((HM.out.S.own _ m0_).oc.r1.reads HM.out.S.below) i (of_eq_true p2) (of_eq_true q3); cases e_; exact h_)⟩ (fun hHeld => ?_)
   refine with_tabW rlq_tab7 rlq_bits7 (fun HT_ HW_ => ?_)
   generalize World.drew _ = wk at HM hHeld ⊢
   refine pV_ 0 26 (mB 11 1) HT_ ?_
   refine tV_ 1 27 (mB 11 3) HT_ HW_ hHeld ?_
   refine pV_ 2 28 (mB 11 7) HT_ ?_
   refine pV_ 3 29 (mB 11 15) HT_ ?_
   refine tV_ 4 30 (mB 11 31) HT_ HW_ hHeld ?_
   refine pV_ 5 31 (mB 11 63) HT_ ?_
   refine tV_ 6 32 (mB 11 127) HT_ HW_ hHeld ?_
   refine pV_ 7 33 (mB 11 255) HT_ ?_
   refine pV_ 8 34 (mB 11 511) HT_ ?_
   refine tV_ 9 35 (mB 11 1023) HT_ HW_ hHeld ?_
   refine pV_ 10 36 (mB 11 2047) HT_ ?_
   refine dn_ HT_ ?_
   clear HT_ HW_ hHeld
   try go_wp2
   go_roundg k
   case measure => exact Nat.lt_succ_self k
   case rel =>
    have hw : wrap64 (i + 1) = i + 1 := by have := HI.out; have := HL.out.2.1; unfold wrap64; omega
    exact ⟨wrap64 (i + 1), rfl, ⟨by rw [hw]; have := HI.out; omega⟩, ⟨MS.to HM⟩⟩
end Go.Proofs.Ytphfchbggechhaa.QO
end
end
