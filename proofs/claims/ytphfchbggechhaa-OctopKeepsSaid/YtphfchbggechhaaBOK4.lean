/- Own texts of this claim, joined. -/
import Derived.Test.YtphfchbggechhaaBOK0
import Derived.Test.YtphfchbggechhaaBOK1
import Derived.Test.YtphfchbggechhaaBOK2
import Derived.Test.YtphfchbggechhaaBOK3
import Derived.ChangeKeysEq
import Derived.Laws.EntriesVeiled
set_option maxRecDepth 100000
set_option maxHeartbeats 16000000
section
noncomputable section
namespace Go.Proofs.Ytphfchbggechhaa.QO
open Go.RowKit Go.Shelf YtphfchbggechhaaW.PrintWords YtphfchbggechhaaW.PrintLast YtphfchbggechhaaW.PrintMore
open Ytphfchbggechhaa.Pure
set_option linter.unusedVariables false
def placeF (v : List Int) (x : Int) : Int := if v.findIdx (fun y => decide (y = x)) < v.length then ((v.findIdx (fun y => decide (y = x)) : Nat) : Int) else -1
theorem placeF_cases (v : List Int) (x : Int) : (∃ p : Nat, p < v.length ∧ placeF v x = (p : Int) ∧ rd v (p : Int) = x ∧ ∀ j : Nat, j < p → rd v (j : Int) ≠ x) ∨ (placeF v x = -1 ∧ ∀ j : Nat, j < v.length → rd v (j : Int) ≠ x) := by
 unfold placeF
 by_cases h : v.findIdx (fun y => decide (y = x)) < v.length
 ·
  left
  refine ⟨_, h, by rw [if_pos h], ?_, fun j hj => ?_⟩
  ·
   have := List.findIdx_getElem (w := h)
   have h2 : v[v.findIdx (fun y => decide (y = x))] = x := by simpa using this
   unfold rd; simpa [List.getD_eq_getElem?_getD, h] using h2
  ·
   have h3 := List.not_of_lt_findIdx hj
   have hj' : j < v.length := by omega
   have h4 : v[j] ≠ x := by simpa using h3
   unfold rd; simpa [List.getD_eq_getElem?_getD, hj'] using h4
 ·
  right
  refine ⟨by rw [if_neg h], fun j hj => ?_⟩
  have h3 := List.not_of_lt_findIdx (p := fun y => decide (y = x)) (xs := v) (i := j) (by omega)
  have h4 : v[j] ≠ x := by simpa using h3
  unfold rd; simpa [List.getD_eq_getElem?_getD, hj] using h4
theorem placeF_at {v : List Int} {x : Int} {i : Nat} (hi : i < v.length) (he : rd v (i : Int) = x) (hf : ∀ j : Nat, j < i → rd v (j : Int) ≠ x) : placeF v x = (i : Int) := by
 rcases placeF_cases v x with ⟨p, h1, h2, h3, h4⟩ | ⟨h1, h2⟩
 ·
  rw [h2]
  have : ¬ p < i := fun h => hf p h h3
  have : ¬ i < p := fun h => h4 i h he
  omega
 ·
  exact absurd he (h2 i hi)
theorem placeF_none {v : List Int} {x : Int} (h : ∀ j : Nat, j < v.length → rd v (j : Int) ≠ x) : placeF v x = -1 := by
 rcases placeF_cases v x with ⟨p, h1, h2, h3, h4⟩ | ⟨h1, h2⟩
 ·
  exact absurd h3 (h p h1)
 ·
  exact h1
theorem placeF_lt (v : List Int) (x : Int) : -1 ≤ placeF v x ∧ placeF v x < v.length := by
 rcases placeF_cases v x with ⟨p, h1, h2, h3, h4⟩ | ⟨h1, h2⟩ <;> omega
theorem place_ev (vars : List Int) (x : Int) (hl : vars.length ≤ 1000) : ∀ d i : Nat, i + d = vars.length → (∀ j : Nat, j < i → rd vars (j : Int) ≠ x) →
 Pure.Ev (fun k => octop_place.l0 k x vars (vars.length : Int) (i : Int)) (placeF vars x) ∧ Pure.Ev (fun k => gimbalref11_Place.l0 k x vars (vars.length : Int) (i : Int)) (placeF vars x) := by
 intro d
 induction d with
 | zero =>
  intro i hi h
  rw [placeF_none (v := vars) (x := x) (fun j hj => h j (by omega))]
  refine ⟨Pure.Ev.step (h := fun _ => some (-1)) (fun k => ?_) (Pure.Ev.of _), Pure.Ev.step (h := fun _ => some (-1)) (fun k => ?_) (Pure.Ev.of _)⟩
  ·
   rw [octop_place.l0, if_neg (by omega)]
  ·
   rw [gimbalref11_Place.l0, if_neg (by omega)]
 | succ d ih =>
  intro i hi h
  have hw : wrap64 ((i : Int) + 1) = ((i + 1 : Nat) : Int) := by unfold wrap64; omega
  by_cases e : rd vars (i : Int) = x
  ·
   rw [placeF_at (v := vars) (by omega) e h]
   refine ⟨Pure.Ev.step (h := fun _ => some (i : Int)) (fun k => ?_) (Pure.Ev.of _), Pure.Ev.step (h := fun _ => some (i : Int)) (fun k => ?_) (Pure.Ev.of _)⟩
   ·
    rw [octop_place.l0, if_pos (by omega), if_pos (by omega), if_pos (by omega), if_pos e]
   ·
    rw [gimbalref11_Place.l0, if_pos (by omega), if_pos (by omega), if_pos (by omega), if_pos e]
  ·
   obtain ⟨h1, h2⟩ := ih (i + 1) (by omega) (fun j hj => by
    by_cases c : j = i
    ·
     rw [c]; exact e
    ·
     exact h j (by omega))
   refine ⟨Pure.Ev.step (fun k => ?_) h1, Pure.Ev.step (fun k => ?_) h2⟩
   ·
    rw [octop_place.l0, if_pos (by omega), if_pos (by omega), if_pos (by omega), if_neg e, hw]
   ·
    rw [gimbalref11_Place.l0, if_pos (by omega), if_pos (by omega), if_pos (by omega), if_neg e, hw]
theorem place_f (vars m : List Int) (e : Bool) (x : Int) (hl : vars.length ≤ 1000) : Pure.Ev (fun k => octop_place.f k vars m e x) (placeF vars x) := (place_ev vars x hl vars.length 0 (by omega) (fun j hj => by omega)).1
theorem rplace_f (vars m : List Int) (e : Bool) (x : Int) (hl : vars.length ≤ 1000) : Pure.Ev (fun k => gimbalref11_Place.f k vars m e x) (placeF vars x) := (place_ev vars x hl vars.length 0 (by omega) (fun j hj => by omega)).2
section
variable {w W : World} {x : OV}
theorem place_o (hx : Oc w W x) (hb : Below w.heap.size w W) (l : x.v.length ≤ 1000) (a : Int) : Says 52 #[x.val, .int .i64 a] W (.int .i64 (placeF x.v a)) := by
 obtain ⟨K, hK⟩ := place_f x.v x.m x.e a l
 exact octop_place.calls K x.P x.p x.v x.Q x.q x.m x.e a _ W (hx.r0.reads hb) hx.r0.le (hx.r1.reads hb) hx.r1.le (hK K (Nat.le_refl _))
theorem place_as {v : List Int} {m : List Int} {e : Bool} {p : Int} (hx : Oc w W x) (hb : Below w.heap.size w W) (ho : x.o = (v, m, e)) (l : v.length ≤ 1000) (a : Int) (hp : placeF v a = p) : Says 52 #[x.val, .int .i64 a] W (.int .i64 p) := by
 have e : x.v = v := congrArg Prod.fst ho
 rw [← hp, ← e]; exact place_o hx hb (by rw [e]; exact l) a
theorem close_own (hx : Oc w W x) (hb : Below w.heap.size w W) (fx : OFit x.v x.m x.e) :
 Calls Try.prog 51 #[x.val] W fun e W' => ∃ z : OV, e = .returned z.val ∧ z.o = closeF x.v x.m x.e ∧ Own W W' z ∧ Below W.heap.size W W' :=
 of_calls2 (oct_Close_any x.P x.p x.v x.Q x.q x.m x.e W (hx.r0.reads hb) hx.r0.le (hx.r1.reads hb) hx.r1.le fx)
theorem close_as {v m : List Int} {e : Bool} {a : List Int × List Int × Bool} (hx : Oc w W x) (hb : Below w.heap.size w W) (ho : x.o = (v, m, e)) (fx : OFit v m e) (ha : closeF v m e = a) :
 Calls Try.prog 51 #[x.val] W fun e W' => ∃ z : OV, e = .returned z.val ∧ z.o = a ∧ Own W W' z ∧ Below W.heap.size W W' := by
 obtain ⟨P, p, Q, q, v', m', e'⟩ := x
 cases ho
 rw [← ha]; exact close_own hx hb fx
theorem each_as {v : List Int} {C : Mx} {eb : Bool} {f : Nat → Nat → Int → Int} {a : List Int × List Int × Bool} (g : Nat) (lb : Array Value) (eg : ∀ args w, (callFunc g args).run Try.prog w = .ok (.enter g args) w) (hx : Oc w W x) (hb : Below w.heap.size w W) (ho : x.o = (v, lst (2 * v.length) C, eb)) (l8 : v.length ≤ 8)
 (hf : Will3 g lb (2 * v.length) f W) (ha : (v, lst (2 * v.length) (fun i j => if i = j then C i j else f i j (C i j)), eb) = a) :
 Calls Try.prog 53 #[x.val, .func (.func g) #[] lb] W fun e W' => ∃ z : OV, e = .returned z.val ∧ z.o = a ∧ Own W W' z ∧ Below W.heap.size W W' := by
 have e1 : x.v = v := congrArg Prod.fst ho
 have e2 : x.m = lst (2 * v.length) C := congrArg (·.2.1) ho
 have e3 : x.e = eb := congrArg (·.2.2) ho
 subst e1 e3
 rw [← ha]; exact each_own g lb eg _ f C hx hb l8 e2 hf
end
def forgetM (p : Nat) (C : Mx) : Mx := fun i j => if i = j then C i j else forgetG p i j (C i j)
def forgetF (v m : List Int) (e : Bool) (x : Int) : List Int × List Int × Bool :=
 if (closeF v m e).2.2 = true ∨ placeF v x < 0 then closeF v m e else (v, lst (2 * v.length) (forgetM (placeF v x).toNat (closeM (2 * v.length) (lowM v.length m))), false)
theorem forgetF_bot {v m : List Int} {e : Bool} {x : Int} (h : closeF v m e = (v, [], true)) : forgetF v m e x = (v, [], true) := by unfold forgetF; rw [if_pos (.inl (by rw [h])), h]
theorem forgetF_no {v m : List Int} {e : Bool} {x : Int} (h : placeF v x < 0) : forgetF v m e x = closeF v m e := by unfold forgetF; rw [if_pos (.inr h)]
theorem forgetF_at {v m : List Int} {e : Bool} {x : Int} {p : Nat} (h : (closeF v m e).2.2 = false) (hp : placeF v x = (p : Int)) : forgetF v m e x = (v, lst (2 * v.length) (forgetM p (closeM (2 * v.length) (lowM v.length m))), false) := by
 unfold forgetF; rw [if_neg (by rw [h, hp]; simp), hp]; rfl
end Go.Proofs.Ytphfchbggechhaa.QO
end
end
section
namespace Go.Proofs.Ytphfchbggechhaa.Places
open Go.RowKit Ytphfchbggechhaa.QO YtphfchbggechhaaW.PrintWords YtphfchbggechhaaW.PrintLast YtphfchbggechhaaW.PrintMore
theorem search (l : List Int) (hl : l.length ≤ 4096) (x : Int) (d : Nat) : ∀ i : Nat, l.length - i = d → i ≤ l.length → ∃ v : Int, -1 ≤ v ∧ v < l.length ∧ (0 ≤ v → rd l v = x) ∧
 ∀ k, d < k → slices_Index_int_int.l0 k l x (l.length : Int) (i : Int) = some v ∧ gimbalref11_Place.l0 k x l (l.length : Int) (i : Int) = some v := by
 induction d with
 | zero =>
  intro i hi hle
  refine ⟨-1, by omega, by omega, fun h => absurd h (by decide), fun k hk => ?_⟩
  obtain ⟨k, rfl⟩ : ∃ m, k = m + 1 := ⟨k - 1, by omega⟩
  unfold slices_Index_int_int.l0 gimbalref11_Place.l0
  rw [if_neg (by omega), if_neg (by omega)]
  exact ⟨rfl, rfl⟩
 | succ d ih =>
  intro i hi hle
  have hlt : i < l.length := by omega
  have hw : wrap64 ((i : Int) + 1) = ((i + 1 : Nat) : Int) := by unfold wrap64; omega
  by_cases hx : rd l (i : Int) = x
  ·
   refine ⟨i, by omega, by omega, fun _ => hx, fun k hk => ?_⟩
   obtain ⟨k, rfl⟩ : ∃ m, k = m + 1 := ⟨k - 1, by omega⟩
   unfold slices_Index_int_int.l0 gimbalref11_Place.l0
   rw [if_pos (by omega), if_pos (by omega), if_pos (by omega), if_pos hx.symm, if_pos (by omega), if_pos (by omega), if_pos (by omega), if_pos hx]
   exact ⟨rfl, rfl⟩
  ·
   obtain ⟨v, h1, h2, h3, h4⟩ := ih (i + 1) (by omega) (by omega)
   refine ⟨v, h1, h2, h3, fun k hk => ?_⟩
   obtain ⟨k, rfl⟩ : ∃ m, k = m + 1 := ⟨k - 1, by omega⟩
   have h5 := h4 k (by omega)
   unfold slices_Index_int_int.l0 gimbalref11_Place.l0
   rw [if_pos (by omega), if_pos (by omega), if_pos (by omega), if_neg (fun e => hx e.symm), if_pos (by omega), if_pos (by omega), if_pos (by omega), if_neg hx, hw]
   exact h5
theorem place (l m : List Int) (e : Bool) (hl : l.length ≤ 4096) (x : Int) : ∃ v : Int, -1 ≤ v ∧ v < l.length ∧ (0 ≤ v → rd l v = x) ∧
 ∀ k, l.length < k → slices_Index_int_int.f k l x = some v ∧ gimbalref11_Place.f k l m e x = some v := by
 obtain ⟨v, h1, h2, h3, h4⟩ := search l hl x l.length 0 (by omega) (by omega)
 exact ⟨v, h1, h2, h3, fun k hk => h4 k hk⟩
theorem node (l m : List Int) (e : Bool) (hl : l.length ≤ 4096) (x : Int) : ∃ v : Int, -1 ≤ v ∧ v < l.length ∧
 (∀ k, l.length < k → gimbalref11_Place.f k l m e x = some v) ∧
 (∀ s : Int, ∀ k, l.length < k → oct_node.f k l m e x s = some (if 0 ≤ v ∧ s < 0 then 2 * v + 1 else 2 * v)) ∧
 (∀ s : Int, s ≠ 0 → 0 ≤ v → gimbalref11_Node.f v s = some (if 0 ≤ v ∧ s < 0 then 2 * v + 1 else 2 * v)) := by
 obtain ⟨v, h1, h2, h3, h4⟩ := place l m e hl x
 have hw : wrap64 (2 * v) = 2 * v := by unfold wrap64; omega
 have hw2 : wrap64 (2 * v + 1) = 2 * v + 1 := by unfold wrap64; omega
 refine ⟨v, h1, h2, fun k hk => (h4 k hk).2, fun s k hk => ?_, fun s hs h0 => ?_⟩
 ·
  unfold oct_node.f
  rw [(h4 k hk).1]
  simp only [Option.bind_some]
  rw [hw, hw2]
  by_cases h0 : v ≥ 0
  ·
   rw [if_pos h0]
   by_cases hs : s < 0
   ·
    rw [if_pos hs, if_pos ⟨h0, hs⟩]
   ·
    rw [if_neg hs, if_neg (fun h => hs h.2)]
  ·
   rw [if_neg h0, if_neg (fun h => h0 h.1)]
 ·
  unfold gimbalref11_Node.f
  rw [hw, hw2]
  by_cases hs' : s < 0
  ·
   rw [if_neg (by omega), if_pos ⟨h0, hs'⟩]
  ·
   rw [if_pos (by omega), if_neg (fun h => hs' h.2)]
end Go.Proofs.Ytphfchbggechhaa.Places
end
section
namespace Go.Proofs.Ytphfchbggechhaa.Arith
open Go.RowKit Ytphfchbggechhaa.QO YtphfchbggechhaaW.PrintWords YtphfchbggechhaaW.PrintLast YtphfchbggechhaaW.PrintMore
def Sm (g : Int) : Prop := g = 4611686018427387904 ∨ (-4611686018427 ≤ g ∧ g ≤ 4611686018427)
theorem fit_sm {g : Int} (h : Sm g) : bfit g = g := by unfold Sm at h; unfold bfit; (repeat' split) <;> omega
theorem fit_neg {g : Int} (h : Sm g) : bfit (-g) = -g := by unfold Sm at h; unfold bfit; (repeat' split) <;> omega
theorem up_sm {c g : Int} (hc : -4611686018427 ≤ c ∧ c ≤ 4611686018427) (hg : Sm g) : bound_Up.f c g = some (if g = 4611686018427387904 then 4611686018427387904 else c + g) := by
 unfold bound_Up.f bound_Fit.f
 rw [fit_sm (.inr hc), fit_sm hg]
 simp only [Option.bind_some]
 rw [if_neg (by omega)]
 by_cases e : g = 4611686018427387904
 ·
  rw [if_pos e, if_pos e]
 ·
  rw [if_neg e, if_neg e]
  have h1 : wrap64 (c + g) = c + g := by unfold Sm at hg; unfold wrap64; omega
  rw [h1]
  unfold Sm at hg; unfold mn mx
  congr 1
  split <;> split <;> omega
theorem neg_sm {g : Int} (hg : Sm g) : bound_Neg.f g = some (-g) := by
 unfold bound_Neg.f bound_Fit.f
 rw [fit_sm hg]
 simp only [Option.bind_some]
 congr 1
 unfold Sm at hg; unfold wrap64; omega
theorem down_sm {c g : Int} (hc : -4611686018427 ≤ c ∧ c ≤ 4611686018427) (hg : Sm g) : bound_Down.f c (-g) = some (if g = 4611686018427387904 then -4611686018427387904 else c - g) := by
 unfold bound_Down.f bound_Fit.f
 rw [fit_sm (.inr hc), fit_neg hg]
 simp only [Option.bind_some]
 have h1 : wrap64 (-c) = -c := by unfold wrap64; omega
 have h2 : wrap64 (- -g) = g := by unfold Sm at hg; unfold wrap64; omega
 rw [h1, h2, up_sm (by omega) hg]
 simp only [Option.bind_some]
 by_cases e : g = 4611686018427387904
 ·
  rw [if_pos e, if_pos e]; congr 1; unfold wrap64; omega
 ·
  rw [if_neg e, if_neg e]
  congr 1
  unfold Sm at hg; unfold wrap64; omega
end Go.Proofs.Ytphfchbggechhaa.Arith
end
section
noncomputable section
namespace Go.Proofs.Ytphfchbggechhaa.Pure
open Go.RowKit Ytphfchbggechhaa.QO YtphfchbggechhaaW.PrintWords YtphfchbggechhaaW.PrintLast YtphfchbggechhaaW.PrintMore
open Ytphfchbggechhaa.OctMath (over overs plus Bd Fin' Top62 dbl dbls least IsClosure)
theorem idx {n i j : Nat} (hn : n ≤ 16) (hi : i ≤ 16) (hj : j ≤ 16) : wrap64 (wrap64 ((i : Int) * (n : Int)) + (j : Int)) = ((i * n + j : Nat) : Int) := by
 have m : i * n ≤ 16 * 16 := Nat.mul_le_mul hi hn
 have e : (i : Int) * (n : Int) = ((i * n : Nat) : Int) := by push_cast; rfl
 rw [e]
 have h1 : wrap64 ((i * n : Nat) : Int) = ((i * n : Nat) : Int) := by unfold wrap64; omega
 rw [h1]; unfold wrap64; omega
theorem suc {i : Nat} (hi : i ≤ 100) : wrap64 ((i : Int) + 1) = ((i + 1 : Nat) : Int) := by unfold wrap64; omega
theorem plus_f {B a b : Int} (hB : B ≤ 1152921504606846976) (ha : Fin' B a) (hb : Fin' B b) : gimbalref11_plus.f a b = some (plus a b) := by
 unfold gimbalref11_plus.f plus
 by_cases h1 : a = 4611686018427387904
 ·
  rw [if_pos h1, if_pos (.inl h1)]
 ·
  rw [if_neg h1]
  by_cases h2 : b = 4611686018427387904
  ·
   rw [if_pos h2, if_pos (.inr h2)]
  ·
   rw [if_neg h2, if_neg (by rintro (h | h) <;> contradiction)]
   unfold Fin' at ha hb
   congr 1; unfold wrap64; omega
theorem half_f {x : Int} (h : Fin' 1152921504606846976 x) (hx : x ≠ 4611686018427387904) : gimbalref11_halved.f x = some (half x) := by
 unfold gimbalref11_halved.f half
 unfold Fin' at h
 rw [if_neg hx]
 by_cases h0 : x ≥ 0
 ·
  rw [if_pos h0, Int.tdiv_eq_ediv_of_nonneg h0]; congr 1; unfold wrap64; omega
 ·
  rw [if_neg h0]
  have e : wrap64 (1 - x) = 1 - x := by unfold wrap64; omega
  rw [e, Int.tdiv_eq_ediv_of_nonneg (by omega)]; congr 1; unfold wrap64; omega
theorem bar_f {i n : Nat} (hn : n ≤ 16) (hi : i < n) : gimbalref11_bar.f (i : Int) = some ((nb i : Nat) : Int) := by
 unfold gimbalref11_bar.f; rw [if_pos (by omega), nbar_nb]
theorem plus_fin {a b : Int} (ha : Fin' 288230376151711744 a) (hb : Fin' 288230376151711744 b) : Fin' 1152921504606846976 (plus a b) := by
 unfold plus Fin' at *; split <;> omega
theorem strg_inf {T : Nat → Nat → Int} {i j : Nat} (hx : Fin' 288230376151711744 (T i j)) (hs : plus (T i (nb i)) (T (nb j) j) = 4611686018427387904) : strg T i j = T i j := by
 unfold strg half mn; rw [if_pos hs, hs]
 unfold Fin' at hx; rw [if_neg (by omega)]
theorem even_w {D : Nat → Nat → Int} {i : Nat} (hb : Fin' 72057594037927936 (D i (nb i))) (hs : D i (nb i) ≠ 4611686018427387904) : wrap64 (2 * half (D i (nb i))) = tig D i (nb i) := by
 have e : tig D i (nb i) = 2 * (D i (nb i) / 2) := by unfold tig; rw [if_pos rfl, if_neg hs]
 have e1 : half (D i (nb i)) = D i (nb i) / 2 := by unfold half; rw [if_neg hs]
 rw [e, e1]
 unfold Fin' at hb
 generalize D i (nb i) = x at *
 unfold wrap64; omega
def tightR (n : Nat) (M : Nat → Nat → Int) : List Int × Bool := if closeB n M = true then (lst n (strg (tig (overs M n))), true) else ([], false)
theorem clip_f (x : Int) : gimbalref11_clip.f x = some (clipV x) := by
 unfold gimbalref11_clip.f clipV
 split
 ·
  rfl
 ·
  split <;> rfl
end Go.Proofs.Ytphfchbggechhaa.Pure
end
end
section
namespace Go.Proofs.Ytphfchbggechhaa.Most
open Go.RowKit Ytphfchbggechhaa.QO YtphfchbggechhaaW.PrintWords YtphfchbggechhaaW.PrintLast YtphfchbggechhaaW.PrintMore
open OctMath (Fin')
open Ytphfchbggechhaa.Pure (bsome half_f)
structure Mat (n : Nat) (m : List Int) : Prop where
 n8 : n ≤ 8
 len : (m.length : Int) = (2 * (n : Int)) * (2 * (n : Int))
 sm : ∀ i j : Int, 0 ≤ i → i < 2 * (n : Int) → 0 ≤ j → j < 2 * (n : Int) → Arith.Sm (rd m (i * (2 * (n : Int)) + j))
 low : ∀ i j : Int, 0 ≤ i → i < 2 * (n : Int) → 0 ≤ j → j < 2 * (n : Int) → lowAt (2 * (n : Int)) m i j = rd m (i * (2 * (n : Int)) + j)
theorem half_sm {g : Int} (h : Arith.Sm g) : Arith.Sm (half g) := by
 unfold Arith.Sm at *; unfold half; split <;> omega
theorem idx {n i j : Int} (hn : n ≤ 16) (hi : 0 ≤ i) (hi' : i < n) (hj : 0 ≤ j) (hj' : j < n) : wrap64 (wrap64 (i * n) + j) = i * n + j ∧ 0 ≤ i * n + j ∧ i * n + j < n * n := by
 have h1 : 0 ≤ i * n := Int.mul_nonneg hi (by omega)
 have h2 : (i + 1) * n ≤ n * n := Int.mul_le_mul_of_nonneg_right (by omega) (by omega)
 have h3 : n * n ≤ 16 * 16 := Int.mul_le_mul hn hn (by omega) (by decide)
 rw [Int.add_mul, Int.one_mul] at h2
 have h4 : wrap64 (i * n) = i * n := by unfold wrap64; omega
 rw [h4]
 refine ⟨by unfold wrap64; omega, by omega, by omega⟩
theorem most (l m : List Int) (e : Bool) (h : Mat l.length m) (x sx y sy c : Int)
 (hx : sx ≠ 0 → ∀ v, (∀ k, l.length < k → gimbalref11_Place.f k l m e x = some v) → 0 ≤ v)
 (hy : sx ≠ 0 → sy ≠ 0 → ∀ v, (∀ k, l.length < k → gimbalref11_Place.f k l m e y = some v) → 0 ≤ v) :
 ∃ g, Arith.Sm g ∧ ∀ k, l.length < k → oct_most.f k l m e x sx y sy c = some g ∧ gimbalref11_greatest.f k l m e x sx y sy c = some g := by
 have n8 := h.n8
 have hw : wrap64 (2 * (l.length : Int)) = 2 * (l.length : Int) := by unfold wrap64; omega
 by_cases h0 : sx = 0
 ·
  refine ⟨0, .inr (by omega), fun k hk => ?_⟩
  unfold oct_most.f gimbalref11_greatest.f
  rw [if_pos h0, if_pos h0]; exact ⟨rfl, rfl⟩
 ·
  obtain ⟨v, v1, v2, v3, v4, v5⟩ := Places.node l m e (by omega) x
  have v0 := hx h0 v v3
  obtain ⟨X, hX⟩ : ∃ X, (if 0 ≤ v ∧ sx < 0 then 2 * v + 1 else 2 * v) = X := ⟨_, rfl⟩
  have X0 : 0 ≤ X ∧ X < 2 * (l.length : Int) := by rw [← hX]; split <;> omega
  have nX := nbar_in (i := X) (n := l.length) X0.1 X0.2
  have hb : gimbalref11_bar.f X = some (nbar X) := by unfold gimbalref11_bar.f; rw [if_pos ⟨X0.1, by omega⟩]
  by_cases hs : sy = 0
  ·
   obtain ⟨i1, i2, i3⟩ := idx (n := 2 * (l.length : Int)) (by omega) nX.1 nX.2 X0.1 X0.2
   have hsm := h.sm (nbar X) X nX.1 nX.2 X0.1 X0.2
   obtain ⟨g, hg⟩ : ∃ g, rd m (nbar X * (2 * (l.length : Int)) + X) = g := ⟨_, rfl⟩
   rw [hg] at hsm
   have hf : Fin' 1152921504606846976 g := by unfold Arith.Sm at hsm; unfold OctMath.Fin'; omega
   refine ⟨half g, half_sm hsm, fun k hk => ?_⟩
   unfold oct_most.f gimbalref11_greatest.f
   rw [if_neg h0, if_neg h0, v4 sx k hk, v3 k hk, hX, bsome, if_pos ⟨n8, h.len, X0.1, X0.2⟩, if_pos hs, h.low _ _ nX.1 nX.2 X0.1 X0.2, hg, half_half hf, bsome, v5 sx h0 v0, hX, bsome, if_pos hs, hb, bsome, hw, i1, if_pos i2, if_pos (by rw [h.len]; exact i3), hg]
   refine ⟨rfl, ?_⟩
   by_cases he : g = 4611686018427387904
   ·
    rw [if_pos he]; unfold half; rw [if_pos he, he]
   ·
    rw [if_neg he, half_f hf he, bsome]
  ·
   obtain ⟨u, u1, u2, u3, u4, u5⟩ := Places.node l m e (by omega) y
   have u0 := hy h0 hs u u3
   obtain ⟨Y, hY⟩ : ∃ Y, (if 0 ≤ u ∧ sy < 0 then 2 * u + 1 else 2 * u) = Y := ⟨_, rfl⟩
   have Y0 : 0 ≤ Y ∧ Y < 2 * (l.length : Int) := by rw [← hY]; split <;> omega
   obtain ⟨i1, i2, i3⟩ := idx (n := 2 * (l.length : Int)) (by omega) nX.1 nX.2 Y0.1 Y0.2
   refine ⟨rd m (nbar X * (2 * (l.length : Int)) + Y), h.sm _ _ nX.1 nX.2 Y0.1 Y0.2, fun k hk => ?_⟩
   unfold oct_most.f gimbalref11_greatest.f
   rw [if_neg h0, if_neg h0, v4 sx k hk, v3 k hk, hX, bsome, if_pos ⟨n8, h.len, X0.1, X0.2⟩, if_neg hs, u4 sy k hk, hY, bsome, if_pos ⟨Y0.1, Y0.2⟩, h.low _ _ nX.1 nX.2 Y0.1 Y0.2, bsome, v5 sx h0 v0, hX, bsome, if_neg hs, u3 k hk, bsome, u5 sy hs u0, hY, bsome, hb, bsome, hw, i1, if_pos i2, if_pos (by rw [h.len]; exact i3)]
   exact ⟨rfl, rfl⟩
end Go.Proofs.Ytphfchbggechhaa.Most
end
section
namespace Go.Proofs.Ytphfchbggechhaa.QO
open Go.RowKit YtphfchbggechhaaW.PrintWords YtphfchbggechhaaW.PrintLast YtphfchbggechhaaW.PrintMore
theorem fit_mat {vars m : List Int} (h : OFit vars m false) (h8 : vars.length ≤ 8) : Most.Mat vars.length m := by
 refine ⟨h8, (h.2.2 rfl).1, fun i j h0 h1 h2 h3 => ?_, fun i j h0 h1 h2 h3 => lowAt_same h h0 h1 h2 h3⟩
 have e := ((h.2.2 rfl).2 i j h0 h1 h2 h3).1
 unfold Arith.Sm
 rcases e with e | e
 ·
  exact .inl e
 ·
  right; omega
end Go.Proofs.Ytphfchbggechhaa.QO
end
section
noncomputable section
namespace Go.Proofs.Ytphfchbggechhaa.Pure
open Go.RowKit Ytphfchbggechhaa.QO YtphfchbggechhaaW.PrintWords YtphfchbggechhaaW.PrintLast YtphfchbggechhaaW.PrintMore
open OctMath (Le Fin')
set_option linter.unusedVariables false
namespace BndF
def nX (v s : Int) : Nat := (if 0 ≤ v ∧ s < 0 then 2 * v + 1 else 2 * v).toNat
def mostF (N : Mx) (v sx u sy : Int) : Int := if sx = 0 then 0 else if sy = 0 then half (N (nb (nX v sx)) (nX v sx)) else N (nb (nX v sx)) (nX u sy)
theorem nX_lt {v s : Int} {n : Nat} (h0 : 0 ≤ v) (h1 : v < n) : nX v s < 2 * n := by unfold nX; split <;> omega
theorem nX_int {v s : Int} (h0 : 0 ≤ v) : (if 0 ≤ v ∧ s < 0 then 2 * v + 1 else 2 * v) = (nX v s : Int) := by unfold nX; split <;> omega
section
variable {vars : List Int} {N : Mx}
theorem most_f (hv : VarsOk vars) (hN : Snd (2 * vars.length) N) {x y v u : Int} (hx : v < vars.length) (hy : u < vars.length)
 (nx : ∀ (m : List Int) (e : Bool) (s : Int) (k : Nat), vars.length < k → oct_node.f k vars m e x s = some (if 0 ≤ v ∧ s < 0 then 2 * v + 1 else 2 * v))
 (ny : ∀ (m : List Int) (e : Bool) (s : Int) (k : Nat), vars.length < k → oct_node.f k vars m e y s = some (if 0 ≤ u ∧ s < 0 then 2 * u + 1 else 2 * u))
 (sx sy c : Int) (h0 : sx ≠ 0 → 0 ≤ v) (h1 : sy ≠ 0 → 0 ≤ u) (e : Bool) (k : Nat) (hk : vars.length < k) : oct_most.f k vars (lst (2 * vars.length) N) e x sx y sy c = some (mostF N v sx u sy) := by
 have h8 := hv.1
 have hlen : ((lst (2 * vars.length) N).length : Int) = (2 * (vars.length : Int)) * (2 * (vars.length : Int)) := by rw [lst_length]; push_cast; rfl
 unfold oct_most.f mostF
 by_cases z : sx = 0
 ·
  rw [if_pos z, if_pos z]
 ·
  rw [if_neg z, if_neg z, nx _ _ _ _ hk, nX_int (h0 z)]
  simp only [Option.bind_some]
  have hX := nX_lt (s := sx) (h0 z) hx
  rw [if_pos ⟨h8, hlen, by omega, by omega⟩]
  have hn := nb_lt hX
  have low : ∀ j, j < 2 * vars.length → lowAt (2 * (vars.length : Int)) (lst (2 * vars.length) N) (nbar (nX v sx : Int)) (j : Int) = N (nb (nX v sx)) j := fun j hj => by
   rw [nbar_nb]; exact lowM_lst hv hN _ _ hn hj
  by_cases z2 : sy = 0
  ·
   rw [if_pos z2, if_pos z2, low _ hX]
   have := hN.bd _ _ hn hX
   exact half_half (by unfold Fin' at *; omega)
  ·
   rw [if_neg z2, if_neg z2, ny _ _ _ _ hk, nX_int (h1 z2)]
   simp only [Option.bind_some]
   have hY := nX_lt (s := sy) (h1 z2) hy
   rw [if_pos ⟨by omega, by omega⟩, low _ hY]
theorem most_sm (hN : Snd (2 * vars.length) N) {v u sx sy : Int} (hx : v < vars.length) (hy : u < vars.length) (h0 : sx ≠ 0 → 0 ≤ v) (h1 : sy ≠ 0 → 0 ≤ u) : Arith.Sm (mostF N v sx u sy) := by
 unfold mostF
 split
 ·
  exact .inr (by omega)
 ·
  rename_i z
  have hX := nX_lt (s := sx) (h0 z) hx
  have hn := nb_lt hX
  split
  ·
   have := hN.bd _ _ hn hX
   unfold Fin' at this; unfold Arith.Sm half; split <;> omega
  ·
   rename_i z2
   have hY := nX_lt (s := sy) (h1 z2) hy
   have := hN.bd _ _ hn hY
   unfold Fin' at this; unfold Arith.Sm; omega
def loF (c f : Int) : Int := if f = 4611686018427387904 then -4611686018427387904 else c - f
def hiF (c g : Int) : Int := if g = 4611686018427387904 then 4611686018427387904 else c + g
end
def bndF (v m : List Int) (e : Bool) (x sx y sy c : Int) : Int × Int :=
 if (closeF v m e).2.2 = true then (1, 0) else if (sx ≠ 0 ∧ placeF v x < 0) ∨ (sy ≠ 0 ∧ placeF v y < 0) then (-4611686018427387904, 4611686018427387904)
 else (loF c (mostF (closeM (2 * v.length) (lowM v.length m)) (placeF v x) (-sx) (placeF v y) (-sy)), hiF c (mostF (closeM (2 * v.length) (lowM v.length m)) (placeF v x) sx (placeF v y) sy))
theorem node_at (l : List Int) (hl : l.length ≤ 1000) (x : Int) : ∀ (m : List Int) (e : Bool) (s : Int) (k : Nat), l.length < k → oct_node.f k l m e x s = some (if 0 ≤ placeF l x ∧ s < 0 then 2 * placeF l x + 1 else 2 * placeF l x) := by
 intro m e s k hk
 obtain ⟨v, h1, h2, h3, h4, _⟩ := Places.node l m e (by omega) x
 obtain ⟨K, hK⟩ := rplace_f l m e x hl
 have e1 := h3 (l.length + 1 + K) (by omega)
 have e3 := hK (l.length + 1 + K) (by omega)
 have e2 : v = placeF l x := Option.some.inj (e1.symm.trans e3)
 rw [← e2]
 exact h4 s k hk
theorem omost_ev {v m : List Int} {e : Bool} {C : Mx} (h : OFit v m e) (hcl : closeF v m e = (v, lst (2 * v.length) C, false)) (hC : Snd (2 * v.length) C) (x sx y sy c : Int) (hx : sx ≠ 0 → 0 ≤ placeF v x) (hy : sy ≠ 0 → 0 ≤ placeF v y) (k : Nat) (hk : v.length < k) :
 oct_most.f k v (lst (2 * v.length) C) false x sx y sy c = some (mostF C (placeF v x) sx (placeF v y) sy) ∧ gimbalref11_greatest.f k v (lst (2 * v.length) C) false x sx y sy c = some (mostF C (placeF v x) sx (placeF v y) sy) := by
 have hl : v.length ≤ 1000 := by have := h.1.1; omega
 have e1 := fun k => most_f h.1 hC (placeF_lt v x).2 (placeF_lt v y).2 (node_at v hl x) (node_at v hl y) sx sy c hx hy false k
 have pl : ∀ a u : Int, (∀ k, v.length < k → gimbalref11_Place.f k v (lst (2 * v.length) C) false a = some u) → u = placeF v a := fun a u hu => by
  obtain ⟨K, hK⟩ := rplace_f v (lst (2 * v.length) C) false a hl
  exact Option.some.inj ((hu (v.length + 1 + K) (by omega)).symm.trans (hK (v.length + 1 + K) (by omega)))
 obtain ⟨g, _, hg⟩ := Most.most v (lst (2 * v.length) C) false (fit_mat (fit_of_snd h.1 hC) h.1.1) x sx y sy c (fun hs u hu => by rw [pl x u hu]; exact hx hs) (fun _ hs u hu => by rw [pl y u hu]; exact hy hs)
 have e2 : g = mostF C (placeF v x) sx (placeF v y) sy := Option.some.inj ((hg k hk).1.symm.trans (e1 k hk))
 exact ⟨e1 k hk, by rw [(hg k hk).2, e2]⟩
end BndF
end Go.Proofs.Ytphfchbggechhaa.Pure
end
end
section
noncomputable section
namespace Go.Proofs.Ytphfchbggechhaa.QO
open Go.RowKit Go.Shelf YtphfchbggechhaaW.PrintWords YtphfchbggechhaaW.PrintLast YtphfchbggechhaaW.PrintMore
theorem eq_arr2 {P : Program} {w : World} {t e : TypeId} {d : Nat} {a b a' b' : Int} (i : TypeInfo) (ht : P.underlying t = some (.array 2 e)) (he : P.underlying e = some (.int .i64)) (hi : P.info? e = some i) (hs : P.cellsOf e = 1) :
 (Op.equalIn (d + 2) t (.agg #[.int .i64 a, .int .i64 b]) (.agg #[.int .i64 a', .int .i64 b'])).run P w = .ok (a == a' && b == b') w := by
 have pk : P.plainKey e = true := by unfold Program.plainKey; simp [he]
 rw [run_equalIn_array w (d + 1) _ _ ht hi, hs]
 have p0 := fun (v u : Int) => run_part_plain (P := P) w pk (xs := #[.int .i64 v, .int .i64 u]) (off := 0) (v := .int .i64 v) rfl
 have p1 := fun (v u : Int) => run_part_plain (P := P) w pk (xs := #[.int .i64 v, .int .i64 u]) (off := 1) (v := .int .i64 u) rfl
 have q := fun (v u : Int) => run_equalIn_int (P := P) w d e .i64 .i64 v u he
 rw [show List.range 2 = [0, 1] from rfl]
 simp only [Op.eqItems, Sem.run_bind, Nat.zero_mul, Nat.one_mul, p0, q, Result.andThen_ok]
 cases (a == a')
 ·
  simp
 ·
  rw [if_neg (by simp)]
  simp only [Sem.run_bind]
  rw [p1]
  simp only [Result.andThen_ok]
  rw [p1]
  simp only [Result.andThen_ok]
  rw [q]
  cases (b == b') <;> simp
end Go.Proofs.Ytphfchbggechhaa.QO
end
end
section
noncomputable section
namespace Go.Proofs.Ytphfchbggechhaa.QO
open Go.RowKit Go.Shelf YtphfchbggechhaaW.PrintWords YtphfchbggechhaaW.PrintLast YtphfchbggechhaaW.PrintMore
open Ytphfchbggechhaa.Pure
attribute [local go_sem] Oper.semAt_some
attribute [local go_sem ↓] Go.wp_at_zero Go.wp_at_succ
set_option linter.unusedVariables false
set_option linter.unusedSimpArgs false
def upG (a b c d : Nat) (hi : Int) (i j : Nat) (e : Int) : Int := if (i = a ∧ j = b) ∨ (i = c ∧ j = d) then mn e hi else e
theorem two_no {i j a b : Nat} (h : ¬ (i = a ∧ j = b)) : ((i : Int) == (a : Int) && (j : Int) == (b : Int)) = false := by
 rw [Bool.eq_false_iff]
 intro e
 have e' := e
 simp only [Bool.and_eq_true, beq_iff_eq] at e'
 exact h ⟨by omega, by omega⟩
theorem two_yes {i j a b : Nat} (h : i = a ∧ j = b) : ((i : Int) == (a : Int) && (j : Int) == (b : Int)) = true := by
 obtain ⟨rfl, rfl⟩ := h
 simp
theorem upper_will (gp gh a b c d n : Nat) (hi : Int) {w : World} (hp : w.heap[gp]? = some (.cells #[.int .i64 (a : Int), .int .i64 (b : Int), .int .i64 (c : Int), .int .i64 (d : Int)] 99 (0, 0))) (hh : w.heap[gh]? = some (.cells #[.int .i64 hi] 2 (0, 0))) : Will3 103 #[.pointer (some ⟨gp, 0, none⟩), .pointer (some ⟨gh, 0, none⟩)] n (upG a b c d hi) w := by
 intro W i j e hb _ _
 have p_ := (hb.block gp (blk_lt hp)).trans hp
 have h_ := (hb.block gh (blk_lt hh)).trans hh
 have hu98 := Try.underlying98
 have hu99 := Try.underlying99
 have P_ := Aside0.mk p_
 have H_ := Aside0.mk h_
 unfold upG
 by_cases h1 : i = a ∧ j = b
 ·
  have H1 := Aside0.mk (two_yes h1)
  rw [if_pos (.inl h1)]
  clear h1
  clear hb hp hh p_ h_
  go_enter Try.func103, Try.ntmps103
  go_upto_region 2 with fail
  have n0 := blk_new W (.cells #[.int .i64 (i : Int), .int .i64 (j : Int)] 98 (0, 0))
  have p1 := blk_alloc P_.out (.cells #[.int .i64 (i : Int), .int .i64 (j : Int)] 98 (0, 0))
  have h1 := blk_alloc H_.out (.cells #[.int .i64 (i : Int), .int .i64 (j : Int)] 98 (0, 0))
  have HB : Aside0 (Below W.heap.size W (W.alloc (.cells #[.int .i64 (i : Int), .int .i64 (j : Int)] 98 (0, 0)))) := ⟨below_alloc (Below.refl _ _) _⟩
  generalize hW1 : W.alloc _ = W1 at n0 p1 h1 HB ⊢
  clear hW1 P_ H_
  have k0 : W1.cell? ⟨gp, 0, none⟩ = some (.int .i64 (a : Int)) := blk_cell p1 0
  have k1 : W1.cell? ⟨gp, 1, none⟩ = some (.int .i64 (b : Int)) := blk_cell p1 1
  have k2 : W1.cell? ⟨gp, 2, none⟩ = some (.int .i64 (c : Int)) := blk_cell p1 2
  have k3 : W1.cell? ⟨gp, 3, none⟩ = some (.int .i64 (d : Int)) := blk_cell p1 3
  have k4 : W1.cell? ⟨gh, 0, none⟩ = some (.int .i64 hi) := blk_cell h1 0
  have k5 : W1.cell? ⟨W.heap.size, 0, none⟩ = some (.int .i64 (i : Int)) := blk_cell n0 0
  have k6 : W1.cell? ⟨W.heap.size, 1, none⟩ = some (.int .i64 (j : Int)) := blk_cell n0 1
  clear n0 p1 h1
  obtain ⟨i3, hi3⟩ : ∃ i, Try.prog.info? 3 = some i := Option.isSome_iff_exists.1 (by kernel_rfl)
  have e1 := eq_arr2 (w := W1) (d := 9998) (a := (i : Int)) (b := (j : Int)) (a' := (a : Int)) (b' := (b : Int)) i3 hu98 Try.underlying3 hi3 (by kernel_rfl)
  rw [H1.out] at e1
  clear hi3
  go_wp2
  all_goals go_ret
  all_goals refine ⟨?_, HB.out⟩
  all_goals unfold mn
  all_goals (repeat' split) <;> first | rfl | (congr 2; omega)
 ·
  have H1 := Aside0.mk (two_no h1)
  by_cases h2 : i = c ∧ j = d
  ·
   have H2 := Aside0.mk (two_yes h2)
   rw [if_pos (.inr h2)]
   clear h1 h2
   clear hb hp hh p_ h_
   go_enter Try.func103, Try.ntmps103
   go_upto_region 2 with fail
   have n0 := blk_new W (.cells #[.int .i64 (i : Int), .int .i64 (j : Int)] 98 (0, 0))
   have p1 := blk_alloc P_.out (.cells #[.int .i64 (i : Int), .int .i64 (j : Int)] 98 (0, 0))
   have h1 := blk_alloc H_.out (.cells #[.int .i64 (i : Int), .int .i64 (j : Int)] 98 (0, 0))
   have HB : Aside0 (Below W.heap.size W (W.alloc (.cells #[.int .i64 (i : Int), .int .i64 (j : Int)] 98 (0, 0)))) := ⟨below_alloc (Below.refl _ _) _⟩
   generalize hW1 : W.alloc _ = W1 at n0 p1 h1 HB ⊢
   clear hW1 P_ H_
   have k0 : W1.cell? ⟨gp, 0, none⟩ = some (.int .i64 (a : Int)) := blk_cell p1 0
   have k1 : W1.cell? ⟨gp, 1, none⟩ = some (.int .i64 (b : Int)) := blk_cell p1 1
   have k2 : W1.cell? ⟨gp, 2, none⟩ = some (.int .i64 (c : Int)) := blk_cell p1 2
   have k3 : W1.cell? ⟨gp, 3, none⟩ = some (.int .i64 (d : Int)) := blk_cell p1 3
   have k4 : W1.cell? ⟨gh, 0, none⟩ = some (.int .i64 hi) := blk_cell h1 0
   have k5 : W1.cell? ⟨W.heap.size, 0, none⟩ = some (.int .i64 (i : Int)) := blk_cell n0 0
   have k6 : W1.cell? ⟨W.heap.size, 1, none⟩ = some (.int .i64 (j : Int)) := blk_cell n0 1
   clear n0 p1 h1
   obtain ⟨i3, hi3⟩ : ∃ i, Try.prog.info? 3 = some i := Option.isSome_iff_exists.1 (by kernel_rfl)
   have e1 := eq_arr2 (w := W1) (d := 9998) (a := (i : Int)) (b := (j : Int)) (a' := (a : Int)) (b' := (b : Int)) i3 hu98 Try.underlying3 hi3 (by kernel_rfl)
   rw [H1.out] at e1
   have e2 := eq_arr2 (w := W1) (d := 9998) (a := (i : Int)) (b := (j : Int)) (a' := (c : Int)) (b' := (d : Int)) i3 hu98 Try.underlying3 hi3 (by kernel_rfl)
   rw [H2.out] at e2
   clear hi3
   go_wp2
   all_goals go_ret
   all_goals refine ⟨?_, HB.out⟩
   all_goals unfold mn
   all_goals (repeat' split) <;> first | rfl | (congr 2; omega)
  ·
   have H2 := Aside0.mk (two_no h2)
   rw [if_neg (fun h => h.elim h1 h2)]
   clear h1 h2
   clear hb hp hh p_ h_
   go_enter Try.func103, Try.ntmps103
   go_upto_region 2 with fail
   have n0 := blk_new W (.cells #[.int .i64 (i : Int), .int .i64 (j : Int)] 98 (0, 0))
   have p1 := blk_alloc P_.out (.cells #[.int .i64 (i : Int), .int .i64 (j : Int)] 98 (0, 0))
   have h1 := blk_alloc H_.out (.cells #[.int .i64 (i : Int), .int .i64 (j : Int)] 98 (0, 0))
   have HB : Aside0 (Below W.heap.size W (W.alloc (.cells #[.int .i64 (i : Int), .int .i64 (j : Int)] 98 (0, 0)))) := ⟨below_alloc (Below.refl _ _) _⟩
   generalize hW1 : W.alloc _ = W1 at n0 p1 h1 HB ⊢
   clear hW1 P_ H_
   have k0 : W1.cell? ⟨gp, 0, none⟩ = some (.int .i64 (a : Int)) := blk_cell p1 0
   have k1 : W1.cell? ⟨gp, 1, none⟩ = some (.int .i64 (b : Int)) := blk_cell p1 1
   have k2 : W1.cell? ⟨gp, 2, none⟩ = some (.int .i64 (c : Int)) := blk_cell p1 2
   have k3 : W1.cell? ⟨gp, 3, none⟩ = some (.int .i64 (d : Int)) := blk_cell p1 3
   have k4 : W1.cell? ⟨gh, 0, none⟩ = some (.int .i64 hi) := blk_cell h1 0
   have k5 : W1.cell? ⟨W.heap.size, 0, none⟩ = some (.int .i64 (i : Int)) := blk_cell n0 0
   have k6 : W1.cell? ⟨W.heap.size, 1, none⟩ = some (.int .i64 (j : Int)) := blk_cell n0 1
   clear n0 p1 h1
   obtain ⟨i3, hi3⟩ : ∃ i, Try.prog.info? 3 = some i := Option.isSome_iff_exists.1 (by kernel_rfl)
   have e1 := eq_arr2 (w := W1) (d := 9998) (a := (i : Int)) (b := (j : Int)) (a' := (a : Int)) (b' := (b : Int)) i3 hu98 Try.underlying3 hi3 (by kernel_rfl)
   rw [H1.out] at e1
   have e2 := eq_arr2 (w := W1) (d := 9998) (a := (i : Int)) (b := (j : Int)) (a' := (c : Int)) (b' := (d : Int)) i3 hu98 Try.underlying3 hi3 (by kernel_rfl)
   rw [H2.out] at e2
   clear hi3
   go_wp2
   all_goals go_ret
   all_goals exact ⟨rfl, HB.out⟩
end Go.Proofs.Ytphfchbggechhaa.QO
end
end
section
noncomputable section
namespace Go.Proofs.Ytphfchbggechhaa.QO
open Go.RowKit Go.Shelf YtphfchbggechhaaW.PrintWords YtphfchbggechhaaW.PrintLast YtphfchbggechhaaW.PrintMore
open Ytphfchbggechhaa.Pure
set_option linter.unusedVariables false
def nd (p : Nat) (s : Int) : Nat := if s < 0 then 2 * p + 1 else 2 * p
theorem nd_lt {p n : Nat} {s : Int} (h : p < n) : nd p s < 2 * n := by unfold nd; split <;> omega
theorem node_f (p : Nat) (s : Int) (hp : p < 100) : octop_node.f (p : Int) s = some ((nd p s : Nat) : Int) := by
 have h1 : wrap64 (2 * (p : Int)) = 2 * (p : Int) := by unfold wrap64; omega
 have h2 : wrap64 (2 * (p : Int) + 1) = 2 * (p : Int) + 1 := by unfold wrap64; omega
 unfold octop_node.f nd
 rw [h1, h2]
 by_cases h : s < 0
 ·
  rw [if_pos h, if_pos h]; push_cast; rfl
 ·
  rw [if_neg h, if_neg h]; push_cast; rfl
theorem taken_f (x : Int) : octop_taken.f x = some (clipV x) := by
 unfold octop_taken.f clipV mx
 by_cases h : x > 1099511627776
 ·
  rw [if_pos h, if_pos h]
 ·
  rw [if_neg h, if_neg h]
def bupF (a b : Int) : Int := if bfit a = 4611686018427387904 ∨ bfit b = 4611686018427387904 then 4611686018427387904 else mn (mx (bfit a + bfit b) (-4611686018427387903)) 4611686018427387904
theorem bfit_bd (a : Int) : -4611686018427387904 ≤ bfit a ∧ bfit a ≤ 4611686018427387904 := by
 unfold bfit
 repeat' split
 all_goals omega
theorem bup_f (a b : Int) : bound_Up.f a b = some (bupF a b) := by
 unfold bound_Up.f bound_Fit.f bupF
 simp only [Option.bind_some]
 have h1 := bfit_bd a
 have h2 := bfit_bd b
 generalize bfit a = x at *
 generalize bfit b = y at *
 by_cases e : x = 4611686018427387904
 ·
  rw [if_pos e, if_pos (.inl e)]
 ·
  rw [if_neg e]
  by_cases e' : y = 4611686018427387904
  ·
   rw [if_pos e', if_pos (.inr e')]
  ·
   rw [if_neg e', if_neg (fun h => h.elim e e')]
   have h3 : wrap64 (x + y) = x + y := by unfold wrap64; omega
   rw [h3]
def bnegF (a : Int) : Int := - bfit a
theorem bneg_f (a : Int) : bound_Neg.f a = some (bnegF a) := by
 unfold bound_Neg.f bound_Fit.f bnegF
 simp only [Option.bind_some]
 have h1 := bfit_bd a
 have h3 : wrap64 (-bfit a) = -bfit a := by unfold wrap64; omega
 rw [h3]
section
variable {W : World}
theorem says_of {f : Nat} {args : Array Value} {v : Value} (h : Calls Try.prog f args W fun e w' => e = .returned v ∧ Drawn0 W w') : Says f args W v := h.mono (fun _ _ q => ⟨q.1, q.2.below⟩)
theorem node_as {p N : Nat} (s : Int) (hp : p < 100) (hN : nd p s = N) : Says 101 #[.int .i64 (p : Int), .int .i64 s] W (.int .i64 (N : Int)) := by
 subst hN
 exact says_of (octop_node.calls (p : Int) s _ W (node_f p s hp))
theorem taken_as {x r : Int} (h : clipV x = r) : Says 102 #[.int .i64 x] W (.int .i64 r) := by
 subst h
 exact octop_taken.calls x _ W (taken_f x)
theorem bup_as {a b r : Int} (h : bupF a b = r) : Says 60 #[.int .i64 a, .int .i64 b] W (.int .i64 r) := by
 subst h
 exact bound_Up.calls a b _ W (bup_f a b)
theorem bneg_as {a r : Int} (h : bnegF a = r) : Says 61 #[.int .i64 a] W (.int .i64 r) := by
 subst h
 exact says_of (bound_Neg.calls a _ W (bneg_f a))
end
theorem xor_nb {N : Nat} (h : N < 16) : Go.bits .xor .i64 (N : Int) 1 = ((nb N : Nat) : Int) := by
 rw [xor_one _ (by omega) (by omega), nbar_nb]
def upM (C : Mx) (a b : Nat) (h : Int) : Mx := fun i j => if i = j then C i j else upG a b (nb b) (nb a) h i j (C i j)
def upC (C : Mx) (p : Nat) (sx : Int) (q : Nat) (sy hi : Int) : Mx :=
 if hi = 4611686018427387904 then C else if sy = 0 then upM C (nb (nd p sx)) (nd p sx) (clipV (bupF hi hi)) else upM C (nb (nd p sx)) (nd q sy) (clipV hi)
end Go.Proofs.Ytphfchbggechhaa.QO
end
end
section
noncomputable section
namespace Go.Proofs.Ytphfchbggechhaa.QO
open Go.RowKit Go.Shelf YtphfchbggechhaaW.PrintWords YtphfchbggechhaaW.PrintLast YtphfchbggechhaaW.PrintMore
open Ytphfchbggechhaa.Pure
attribute [local go_sem] Oper.semAt_some
attribute [local go_sem ↓] Go.wp_at_zero Go.wp_at_succ
set_option linter.unusedVariables false
set_option linter.unusedSimpArgs false
theorem each_eq {n : Nat} {C : Mx} {a b c d : Nat} {h : Int} (hb : nb b = c) (ha : nb a = d) : lst n (fun i j => if i = j then C i j else upG a b c d h i j (C i j)) = lst n (upM C a b h) := by
 subst hb ha; rfl
theorem upper_ms (X : OV) (sx x sy y hi : Int) {v : List Int} {C : Mx} {p q : Nat} {w0 w : World} (hX : Oc w0 w X) (h0 : Below w0.heap.size w0 w) (ho : X.o = (v, lst (2 * v.length) C, false)) (l8 : v.length ≤ 8) (hp : placeF v x = (p : Int)) (hq : sy ≠ 0 → placeF v y = (q : Int)) :
 Calls Try.prog 59 #[X.val, .int .i64 sx, .int .i64 x, .int .i64 sy, .int .i64 y, .int .i64 hi] w fun e W' => ∃ z : OV, e = .returned z.val ∧ z.o = (v, lst (2 * v.length) (upC C p sx q sy hi), false) ∧ (∀ w0 os fs, MS w0 (X :: os) fs w → MS w0 (z :: os) fs W') ∧ Below w.heap.size w W' := by
 have hu25 := Try.underlying25
 have HX : Aside0 (Oc w w X) := ⟨⟨⟨hX.r0.le, .inl (hX.r0.reads h0)⟩, ⟨hX.r1.le, .inl (hX.r1.reads h0)⟩⟩⟩
 have L8 := Aside0.mk l8
 have LK : Aside0 (v.length ≤ 1000) := ⟨by omega⟩
 have hpl := placeF_lt v x
 have hN := nd_lt (n := v.length) (s := sx) (show p < v.length by omega)
 have PL : Aside0 (p < 100) := ⟨by omega⟩
 have HP := Aside0.mk hp
 unfold upC
 by_cases hI : hi = 4611686018427387904
 ·
  subst hI
  rw [if_pos rfl]
  have HO := Aside0.mk ho
  clear hX h0 ho l8 hp hq hpl hN
  go_enter Try.func59, Try.ntmps59
  go_upto_region 1 with fail
  have HM := MS.n3 w X.cells (.cells #[.int .i64 4611686018427387904] 2 (0, 0)) zeroO
  generalize World.alloc _ _ = wk at HM ⊢
  generalize w.heap.size + 2 = gr at HM ⊢
  generalize w.heap.size + 1 = gh at HM ⊢
  generalize w.heap.size = gc at HM ⊢
  have kgr := MS.c3 HM m0_; have kgh := MS.c1 HM m1_; have kgc := MS.c3 HM m2_
  go_wp2
  replace HM := MS.po0 X HM
  generalize World.setCell _ _ _ = wk at HM ⊢
  replace kgr := MS.c3 HM m0_; replace kgh := MS.c1 HM m1_; replace kgc := MS.c3 HM m2_
  refine MS.rt HM m0_ ?_
  exact ⟨X, rfl, HO.out, fun _ _ _ h => h.next HM.out.S.below, HM.out.S.below⟩
 ·
  rw [if_neg hI]
  have HI : Aside0 ((hi == 4611686018427387904) = false) := ⟨by simpa using hI⟩
  obtain ⟨N, eN⟩ : ∃ N, nd p sx = N := ⟨_, rfl⟩
  obtain ⟨M, eM⟩ : ∃ M, nb N = M := ⟨_, rfl⟩
  have eN' : nb M = N := by rw [← eM, nb_nb]
  rw [eN] at hN
  have hM : M < 2 * v.length := by rw [← eM]; exact nb_lt hN
  have HN := Aside0.mk eN
  have XN : Aside0 (Go.bits .xor .i64 (N : Int) 1 = (M : Int)) := ⟨by rw [xor_nb (by omega), eM]⟩
  have XM : Aside0 (Go.bits .xor .i64 (M : Int) 1 = (N : Int)) := ⟨by rw [xor_nb (by omega), eN']⟩
  rw [eN, eM]
  by_cases hs : sy = 0
  ·
   subst hs
   rw [if_pos rfl]
   obtain ⟨u, hu⟩ : ∃ u, bupF hi hi = u := ⟨_, rfl⟩
   obtain ⟨t, ht⟩ : ∃ t, clipV u = t := ⟨_, rfl⟩
   rw [hu, ht]
   have HU := Aside0.mk hu
   have HT := Aside0.mk ht
   have HO := Aside0.mk ho
   have HA : Aside0 ((v, lst (2 * v.length) (fun i j => if i = j then C i j else upG M N M N t i j (C i j)), false) = (v, lst (2 * v.length) (upM C M N t), false)) := ⟨by rw [each_eq eM eN']⟩
   clear hX h0 ho l8 hp hq hpl hN hM eN eM eN' hI hu ht
   go_enter Try.func59, Try.ntmps59
   go_upto_region 1 with fail
   have HM := MS.n3 w X.cells (.cells #[.int .i64 hi] 2 (0, 0)) zeroO
   generalize World.alloc _ _ = wk at HM ⊢
   generalize w.heap.size + 2 = gr at HM ⊢
   generalize w.heap.size + 1 = gh at HM ⊢
   generalize w.heap.size = gc at HM ⊢
   have kgr := MS.c3 HM m0_; have kgh := MS.c1 HM m1_; have kgc := MS.c3 HM m2_
   have tst := HI.out
   go_upto_region 3 with fail
   clear tst
   go_upto_region 4 with (first | (go_at_call 52; (with_reducible refine (place_as (Oc.now HX (MS.bel HM)) (Below.refl _ _) HO.out LK.out x HP.out).mono ?_); rintro e wk ⟨rfl, hb⟩; replace HM := MS.nx HM hb; clear hb; replace kgr := MS.c3 HM m0_; replace kgh := MS.c1 HM m1_; replace kgc := MS.c3 HM m2_) | (go_at_call 101; (with_reducible refine (node_as sx PL.out HN.out).mono ?_); rintro e wk ⟨rfl, hb⟩; replace HM := MS.nx HM hb; clear hb; replace kgr := MS.c3 HM m0_; replace kgh := MS.c1 HM m1_; replace kgc := MS.c3 HM m2_))
   have x1 := XN.out; have x2 := XM.out
   go_upto_region 5 with fail
   go_upto_region 7 with (first | (go_at_call 60; (with_reducible refine (bup_as HU.out).mono ?_); rintro e wk ⟨rfl, hb⟩; replace HM := MS.nx HM hb; clear hb; replace kgr := MS.c3 HM m0_; replace kgh := MS.c1 HM m1_; replace kgc := MS.c3 HM m2_))
   replace HM := MS.pv1 (.int .i64 u) HM
   generalize World.setCell _ _ _ = wk at HM ⊢
   replace kgr := MS.c3 HM m0_; replace kgh := MS.c1 HM m1_; replace kgc := MS.c3 HM m2_
   go_upto_region 8 with (first | (go_at_call 102; (with_reducible refine (taken_as HT.out).mono ?_); rintro e wk ⟨rfl, hb⟩; replace HM := MS.nx HM hb; clear hb; replace kgr := MS.c3 HM m0_; replace kgh := MS.c1 HM m1_; replace kgc := MS.c3 HM m2_))
   replace HM := MS.pv1 (.int .i64 t) HM
   generalize World.setCell _ _ _ = wk at HM ⊢
   replace kgr := MS.c3 HM m0_; replace kgh := MS.c1 HM m1_; replace kgc := MS.c3 HM m2_
   go_upto_region 9 with (first | ((with_reducible refine gate_dst (N := 15) rfl ?_); refine bx_ 15 #[.int .i64 0, .int .i64 0, .int .i64 0, .int .i64 0] 99 ?_; intro gp hg wk hbox hb; replace HM := MS.md HM hg hbox hb; clear hg hbox hb; have kgp := MS.c4 HM m0_; replace kgr := MS.c3 HM m1_; replace kgh := MS.c1 HM m2_; replace kgc := MS.c3 HM m3_))
   have n_ : Aside0 (MS w [] [(gp, .cells #[.int .i64 (M : Int), .int .i64 (N : Int), .int .i64 (M : Int), .int .i64 (N : Int)] 99 (0, 0)), (gr, zeroO), (gh, .cells #[.int .i64 t] 2 (0, 0)), (gc, X.cells)] _) := ⟨MS.put4 [] HM.out (a' := .int .i64 (M : Int)) (b' := .int .i64 (N : Int)) (c' := .int .i64 (M : Int)) (d' := .int .i64 (N : Int))⟩; clear HM; have HM := n_; clear n_
   generalize World.setCell _ _ _ = wk at HM ⊢
   replace kgp := MS.c4 HM m0_; replace kgr := MS.c3 HM m1_; replace kgh := MS.c1 HM m2_; replace kgc := MS.c3 HM m3_
   clear x1 x2
   have HW : Aside0 (Will3 103 #[.pointer (some ⟨gp, 0, none⟩), .pointer (some ⟨gh, 0, none⟩)] (2 * v.length) (upG M N M N t) wk) := ⟨upper_will gp gh M N M N _ t (HM.out.F.all _ m0_).1 (HM.out.F.all _ m2_).1⟩
   go_wp2_with (first | (go_at_call 53; (with_reducible refine (each_as _ _ (fun _ _ => rfl) (Oc.now HX (MS.bel HM)) (Below.refl _ _) HO.out L8.out HW.out HA.out).mono ?_); rintro e wk ⟨zv, rfl, hzv, ho, hb⟩; replace HM := MS.cl HM hb ho; clear ho hb; replace kgp := MS.c4 HM m0_; replace kgr := MS.c3 HM m1_; replace kgh := MS.c1 HM m2_; replace kgc := MS.c3 HM m3_))
   replace HM := MS.po1 zv HM
   generalize World.setCell _ _ _ = wk at HM ⊢
   replace kgp := MS.c4 HM m0_; replace kgr := MS.c3 HM m1_; replace kgh := MS.c1 HM m2_; replace kgc := MS.c3 HM m3_
   refine MS.rt HM m1_ ?_
   exact ⟨zv, rfl, hzv, fun _ _ _ h => (h.call HM.out.S.below (HM.out.S.own _ m0_)).sub (by exact List.Sublist.cons_cons _ (List.sublist_cons_self _ _)) (List.Sublist.refl _), HM.out.S.below⟩
  ·
   rw [if_neg hs]
   have hq' := hq hs
   have hql := placeF_lt v y
   have hQ := nd_lt (n := v.length) (s := sy) (show q < v.length by omega)
   obtain ⟨Q, eQ⟩ : ∃ N, nd q sy = N := ⟨_, rfl⟩
   obtain ⟨R, eR⟩ : ∃ M, nb Q = M := ⟨_, rfl⟩
   rw [eQ] at hQ
   have QL : Aside0 (q < 100) := ⟨by omega⟩
   have HQ := Aside0.mk hq'
   have HNQ := Aside0.mk eQ
   have XQ : Aside0 (Go.bits .xor .i64 (Q : Int) 1 = (R : Int)) := ⟨by rw [xor_nb (by omega), eR]⟩
   have HSY : Aside0 ((sy == 0) = false) := ⟨by simpa using hs⟩
   obtain ⟨t, ht⟩ : ∃ t, clipV hi = t := ⟨_, rfl⟩
   rw [eQ, ht]
   have HT := Aside0.mk ht
   have HO := Aside0.mk ho
   have HA : Aside0 ((v, lst (2 * v.length) (fun i j => if i = j then C i j else upG M Q R N t i j (C i j)), false) = (v, lst (2 * v.length) (upM C M Q t), false)) := ⟨by rw [each_eq eR eN']⟩
   clear hX h0 ho l8 hp hq hpl hN hM eN eM eN' hI hq' hql hQ eQ eR hs ht
   go_enter Try.func59, Try.ntmps59
   go_upto_region 1 with fail
   have HM := MS.n3 w X.cells (.cells #[.int .i64 hi] 2 (0, 0)) zeroO
   generalize World.alloc _ _ = wk at HM ⊢
   generalize w.heap.size + 2 = gr at HM ⊢
   generalize w.heap.size + 1 = gh at HM ⊢
   generalize w.heap.size = gc at HM ⊢
   have kgr := MS.c3 HM m0_; have kgh := MS.c1 HM m1_; have kgc := MS.c3 HM m2_
   have tst := HI.out
   go_upto_region 3 with fail
   clear tst
   go_upto_region 4 with (first | (go_at_call 52; (with_reducible refine (place_as (Oc.now HX (MS.bel HM)) (Below.refl _ _) HO.out LK.out x HP.out).mono ?_); rintro e wk ⟨rfl, hb⟩; replace HM := MS.nx HM hb; clear hb; replace kgr := MS.c3 HM m0_; replace kgh := MS.c1 HM m1_; replace kgc := MS.c3 HM m2_) | (go_at_call 101; (with_reducible refine (node_as sx PL.out HN.out).mono ?_); rintro e wk ⟨rfl, hb⟩; replace HM := MS.nx HM hb; clear hb; replace kgr := MS.c3 HM m0_; replace kgh := MS.c1 HM m1_; replace kgc := MS.c3 HM m2_))
   have x1 := XN.out; have x2 := XM.out
   have tsy := HSY.out
   go_upto_region 6 with fail
   clear tsy
   go_upto_region 7 with (first | (go_at_call 52; (with_reducible refine (place_as (Oc.now HX (MS.bel HM)) (Below.refl _ _) HO.out LK.out y HQ.out).mono ?_); rintro e wk ⟨rfl, hb⟩; replace HM := MS.nx HM hb; clear hb; replace kgr := MS.c3 HM m0_; replace kgh := MS.c1 HM m1_; replace kgc := MS.c3 HM m2_) | (go_at_call 101; (with_reducible refine (node_as sy QL.out HNQ.out).mono ?_); rintro e wk ⟨rfl, hb⟩; replace HM := MS.nx HM hb; clear hb; replace kgr := MS.c3 HM m0_; replace kgh := MS.c1 HM m1_; replace kgc := MS.c3 HM m2_))
   have x3 := XQ.out
   go_upto_region 8 with (first | (go_at_call 102; (with_reducible refine (taken_as HT.out).mono ?_); rintro e wk ⟨rfl, hb⟩; replace HM := MS.nx HM hb; clear hb; replace kgr := MS.c3 HM m0_; replace kgh := MS.c1 HM m1_; replace kgc := MS.c3 HM m2_))
   replace HM := MS.pv1 (.int .i64 t) HM
   generalize World.setCell _ _ _ = wk at HM ⊢
   replace kgr := MS.c3 HM m0_; replace kgh := MS.c1 HM m1_; replace kgc := MS.c3 HM m2_
   go_upto_region 9 with (first | ((with_reducible refine gate_dst (N := 15) rfl ?_); refine bx_ 15 #[.int .i64 0, .int .i64 0, .int .i64 0, .int .i64 0] 99 ?_; intro gp hg wk hbox hb; replace HM := MS.md HM hg hbox hb; clear hg hbox hb; have kgp := MS.c4 HM m0_; replace kgr := MS.c3 HM m1_; replace kgh := MS.c1 HM m2_; replace kgc := MS.c3 HM m3_))
   have n_ : Aside0 (MS w [] [(gp, .cells #[.int .i64 (M : Int), .int .i64 (Q : Int), .int .i64 (R : Int), .int .i64 (N : Int)] 99 (0, 0)), (gr, zeroO), (gh, .cells #[.int .i64 t] 2 (0, 0)), (gc, X.cells)] _) := ⟨MS.put4 [] HM.out (a' := .int .i64 (M : Int)) (b' := .int .i64 (Q : Int)) (c' := .int .i64 (R : Int)) (d' := .int .i64 (N : Int))⟩; clear HM; have HM := n_; clear n_
   generalize World.setCell _ _ _ = wk at HM ⊢
   replace kgp := MS.c4 HM m0_; replace kgr := MS.c3 HM m1_; replace kgh := MS.c1 HM m2_; replace kgc := MS.c3 HM m3_
   clear x1 x2 x3
   have HW : Aside0 (Will3 103 #[.pointer (some ⟨gp, 0, none⟩), .pointer (some ⟨gh, 0, none⟩)] (2 * v.length) (upG M Q R N t) wk) := ⟨upper_will gp gh M Q R N _ t (HM.out.F.all _ m0_).1 (HM.out.F.all _ m2_).1⟩
   go_wp2_with (first | (go_at_call 53; (with_reducible refine (each_as _ _ (fun _ _ => rfl) (Oc.now HX (MS.bel HM)) (Below.refl _ _) HO.out L8.out HW.out HA.out).mono ?_); rintro e wk ⟨zv, rfl, hzv, ho, hb⟩; replace HM := MS.cl HM hb ho; clear ho hb; replace kgp := MS.c4 HM m0_; replace kgr := MS.c3 HM m1_; replace kgh := MS.c1 HM m2_; replace kgc := MS.c3 HM m3_))
   replace HM := MS.po1 zv HM
   generalize World.setCell _ _ _ = wk at HM ⊢
   replace kgp := MS.c4 HM m0_; replace kgr := MS.c3 HM m1_; replace kgh := MS.c1 HM m2_; replace kgc := MS.c3 HM m3_
   refine MS.rt HM m1_ ?_
   exact ⟨zv, rfl, hzv, fun _ _ _ h => (h.call HM.out.S.below (HM.out.S.own _ m0_)).sub (by exact List.Sublist.cons_cons _ (List.sublist_cons_self _ _)) (List.Sublist.refl _), HM.out.S.below⟩
def lfitP (x sx y sy c : Int) : Prop := -1099511627776 ≤ c ∧ c ≤ 1099511627776 ∧ 0 ≤ x ∧ ((sx = 0 ∧ sy = 0 ∧ x = 0 ∧ y = 0) ∨ ((sx = 1 ∨ sx = -1) ∧ sy = 0 ∧ y = 0) ∨ ((sx = 1 ∨ sx = -1) ∧ (sy = 1 ∨ sy = -1) ∧ x < y))
instance (x sx y sy c : Int) : Decidable (lfitP x sx y sy c) := by unfold lfitP; infer_instance
def lfitB (x sx y sy c : Int) : Bool := decide (lfitP x sx y sy c)
theorem fit1_o (s : Int) (w : World) : Calls Try.prog 124 #[.int .i64 s] w fun e w' => e = .returned (.bool (decide (s = 1 ∨ s = -1))) ∧ w = w' := by
 go_enter Try.func124, Try.ntmps124
 go_wp2
 all_goals go_ret
 all_goals refine ⟨congrArg (fun b => Ending.returned (.bool b)) ?_, rfl⟩
 ·
  simp; exact .inl (by assumption)
 ·
  rw [Bool.eq_iff_iff]; simp
theorem fit_o (x sx y sy c : Int) (w : World) : Says 98 #[lV x sx y sy c] w (.bool (lfitB x sx y sy c)) := by
 have hu34 := Try.underlying34
 have hu98 := Try.underlying98
 obtain ⟨i3, hi3_⟩ : ∃ i, Try.prog.info? 3 = some i := Option.isSome_iff_exists.1 (by kernel_rfl)
 have hi3 := Aside0.mk hi3_
 clear hi3_
 go_enter Try.func98, Try.ntmps98
 go_upto_region 1 with fail
 have HM := MS.n1 w (lC x sx y sy c)
 generalize World.alloc _ _ = wk at HM ⊢
 generalize w.heap.size = gl at HM ⊢
 have kgl := MS.c5 HM m0_
 go_upto_region 2 with (first | ((with_reducible refine gate_dst (N := 3) rfl ?_); refine bx_ 3 #[.int .i64 0, .int .i64 0] 98 ?_; intro gs hg wk hbox hb; replace HM := MS.md HM hg hbox hb; clear hg hbox hb; have kgs := MS.c2 HM m0_; replace kgl := MS.c5 HM m1_))
 have n_ : Aside0 (MS w [] [(gs, .cells #[.int .i64 sx, .int .i64 sy] 98 (0, 0)), (gl, lC x sx y sy c)] _) := ⟨MS.put2 [] HM.out (a' := .int .i64 sx) (b' := .int .i64 sy)⟩; clear HM; have HM := n_; clear n_
 generalize World.setCell _ _ _ = wk at HM ⊢
 replace kgs := MS.c2 HM m0_; replace kgl := MS.c5 HM m1_
 have e1 := eq_arr2 (w := wk) (d := 9998) (a := sx) (b := sy) (a' := 0) (b' := 0) i3 hu98 Try.underlying3 hi3.out (by kernel_rfl)
 have e2 := eq_arr2 (w := wk) (d := 9998) (a := sx) (b := sy) (a' := sx) (b' := 0) i3 hu98 Try.underlying3 hi3.out (by kernel_rfl)
 go_wp2_with (first | (go_at_call 124; (with_reducible refine (fit1_o _ _).mono ?_); rintro e wk' ⟨rfl, rfl⟩))
 all_goals go_ret
 all_goals refine ⟨congrArg (fun b => Ending.returned (.bool b)) ?_, HM.out.S.below⟩
 all_goals clear e1 e2 hi3 HM hu34 hu98 kgl kgs
 all_goals try simp only [beq_eq_false_iff_ne, beq_iff_eq, ne_eq, Bool.or_eq_true, decide_eq_true_eq] at *
 all_goals (unfold lfitB; rw [Bool.eq_iff_iff]; simp only [decide_eq_true_eq, Bool.and_eq_true, Bool.or_eq_true, beq_iff_eq, Bool.false_eq_true]; unfold lfitP; first | omega | (simp only [false_iff, true_iff]; omega))
def ofB (v : List Int) (x sx y sy c : Int) : Bool := decide (lfitP x sx y sy c ∧ (sx = 0 ∨ 0 ≤ placeF v x) ∧ (sy = 0 ∨ 0 ≤ placeF v y))
theorem of_o (X : OV) (x sx y sy c : Int) {w0 w : World} (hX : Oc w0 w X) (h0 : Below w0.heap.size w0 w) (l : X.v.length ≤ 1000) : Says 55 #[X.val, lV x sx y sy c] w (.bool (ofB X.v x sx y sy c)) := by
 have hu34 := Try.underlying34
 have hu25 := Try.underlying25
 have HX : Aside0 (Oc w w X) := ⟨⟨⟨hX.r0.le, .inl (hX.r0.reads h0)⟩, ⟨hX.r1.le, .inl (hX.r1.reads h0)⟩⟩⟩
 have LK := Aside0.mk l
 clear hX h0 l
 go_enter Try.func55, Try.ntmps55
 go_upto_region 1 with fail
 have HM := MS.n2 w X.cells (lC x sx y sy c)
 generalize World.alloc _ _ = wk at HM ⊢
 generalize w.heap.size + 1 = gl at HM ⊢
 generalize w.heap.size = gc at HM ⊢
 have kgl := MS.c5 HM m0_; have kgc := MS.c3 HM m1_
 go_wp2_with (first | (go_at_call 98; (with_reducible refine (fit_o x sx y sy c _).mono ?_); rintro e wk ⟨rfl, hb⟩; replace HM := MS.nx HM hb; clear hb; replace kgl := MS.c5 HM m0_; replace kgc := MS.c3 HM m1_) | (go_at_call 52; (with_reducible refine (place_o (Oc.now HX (MS.bel HM)) (Below.refl _ _) LK.out _).mono ?_); rintro e wk ⟨rfl, hb⟩; replace HM := MS.nx HM hb; clear hb; replace kgl := MS.c5 HM m0_; replace kgc := MS.c3 HM m1_))
 all_goals go_ret
 all_goals refine ⟨congrArg (fun b => Ending.returned (.bool b)) ?_, HM.out.S.below⟩
 all_goals clear HM hu34 hu25 kgc kgl
 all_goals try simp only [beq_eq_false_iff_ne, beq_iff_eq, ne_eq, Bool.or_eq_true, decide_eq_true_eq] at *
 all_goals rw [Bool.eq_iff_iff]
 all_goals (try simp only [ofB, lfitB, decide_eq_true_eq, decide_eq_false_iff_not, Bool.and_eq_true, Bool.or_eq_true, beq_iff_eq, Bool.false_eq_true] at *)
 all_goals (try simp only [lfitP] at *)
 all_goals first | omega | (simp only [false_iff, true_iff]; omega)
end Go.Proofs.Ytphfchbggechhaa.QO
end
end
section
noncomputable section
namespace Go.Proofs.Ytphfchbggechhaa.QO
open Go.RowKit Go.Shelf YtphfchbggechhaaW.PrintWords YtphfchbggechhaaW.PrintLast YtphfchbggechhaaW.PrintMore
attribute [local go_sem] Oper.semAt_some
attribute [local go_sem ↓] Go.wp_at_zero Go.wp_at_succ
set_option linter.unusedVariables false
set_option linter.unusedSimpArgs false
def itvOf (a b : Int) : Int × Int := if a > b then (1, 0) else (mx (if a ≥ 4611686018427387904 then 4611686018427387903 else a) (-4611686018427387904), mn (if b ≤ -4611686018427387904 then -4611686018427387903 else b) 4611686018427387904)
theorem put2_box {W : World} {g : Nat} {x y a b : Value} {t : TypeId} (h : W.heap[g]? = some (.cells #[x, y] t (0, 0))) : ((W.setCell ⟨g, 0, none⟩ a).setCell ⟨g, 1, none⟩ b).heap[g]? = some (.cells #[a, b] t (0, 0)) := blk_put (blk_put h 0 a rfl) 1 b rfl
theorem empty_o (w : World) : Calls Try.prog 99 #[] w fun e w' => e = .returned (iV 1 0) ∧ Below w.heap.size w w' := by
 go_enter Try.func99, Try.ntmps99
 go_upto_region 1 with fail
 have hu36 := Try.underlying36
 have HM := MS.n1 w (iC 0 0)
 generalize World.alloc _ _ = wk at HM ⊢
 generalize w.heap.size = gr at HM ⊢
 have kgr := MS.c2 HM m0_
 go_wp2
 replace HM := MS.pi0 1 0 HM
 generalize World.setCell _ _ _ = wk at HM ⊢
 replace kgr := MS.c2 HM m0_
 refine MS.rt HM m0_ ?_
 exact ⟨rfl, HM.out.S.below⟩
theorem itvOf_any (a b : Int) (w : World) : Calls Try.prog 56 #[.int .i64 a, .int .i64 b] w fun e w' => e = .returned (.agg #[.int .i64 (itvOf a b).1, .int .i64 (itvOf a b).2]) ∧ Below w.heap.size w w' := by
 have hu36 := Try.underlying36
 go_enter Try.func56, Try.ntmps56
 go_upto_region 1 with fail
 have HM := MS.n1 w (iC 0 0)
 generalize World.alloc _ _ = wk at HM ⊢
 generalize w.heap.size = gr at HM ⊢
 have kgr := MS.c2 HM m0_
 go_wp2_with (first | (go_at_call 99; (with_reducible refine (empty_o _).mono ?_); rintro e wk ⟨rfl, hb⟩; replace HM := MS.nx HM hb; clear hb; replace kgr := MS.c2 HM m0_))
 all_goals refine bodyPost_ret (results_cell_row rfl _ _ gr 36 #[_, _] (0, 0) _ rfl (put2_box (HM.out.F.all _ m0_).1) Try.underlying36 rfl (by kernel_rfl)) rfl ?_
 all_goals refine ⟨?_, (MS.put2 [] HM.out).S.below⟩
 all_goals clear HM hu36 kgr
 all_goals unfold itvOf mx mn
 all_goals (repeat' split) <;> first | rfl | (exfalso; omega) | (congr 3 <;> first | rfl | omega)
end Go.Proofs.Ytphfchbggechhaa.QO
end
end
section
noncomputable section
namespace Go.Proofs.Ytphfchbggechhaa.QO
open Go.RowKit YtphfchbggechhaaW.PrintWords YtphfchbggechhaaW.PrintLast
set_option linter.unusedVariables false
set_option linter.unusedSimpArgs false
def itv_Of.f (a0 : Int) (a1 : Int) : Option (Int × Int) := some (itvOf a0 a1)
theorem itv_Of.calls (a0 : Int) (a1 : Int) (r1 : Int) (r2 : Int) (w : World) (h : itv_Of.f a0 a1 = some (r1, r2)) :
 Calls Try.prog 56 #[.int .i64 a0, .int .i64 a1] w fun e w' => e = .returned (.agg #[.int .i64 r1, .int .i64 r2]) ∧ Below w.heap.size w w' := by
 unfold itv_Of.f at h
 have e := Option.some.inj h
 have hc := itvOf_any a0 a1 w
 rw [e] at hc
 exact hc
def itv_sound.f (a0_0 : Int) (a0_1 : Int) : Option (Int × Int) := (itv_Of.f a0_0 a0_1).bind fun bt105 => (some (bt105.1, bt105.2))
theorem itv_sound.calls (a0_0 : Int) (a0_1 : Int) (r1 : Int) (r2 : Int) (w : World) (h : itv_sound.f a0_0 a0_1 = some (r1, r2)) :
 Calls Try.prog 74 #[.agg #[.int .i64 a0_0, .int .i64 a0_1]] w fun e w' => e = .returned (.agg #[.int .i64 r1, .int .i64 r2]) ∧ Below w.heap.size w w' := by
 have hu36 := Try.underlying36
 have HB := Aside0.mk (Below.refl w.heap.size w)
 have H := h
 unfold itv_sound.f at H
 clear h
 replace H := Option.bind_eq_some_iff.mp H
 obtain ⟨⟨t105, t106⟩, A20, H⟩ := H
 try dsimp only at H
 have A2 := Aside0.mk A20
 clear A20
 simp only [Option.some.injEq, Prod.mk.injEq] at H
 obtain ⟨rfl, rfl⟩ := H
 go_enter Try.func74, Try.ntmps74
 go_wp2_with (first | ((with_reducible refine gate_dst (N := 1) rfl ?_); refine bx_ 1 #[.int .i64 a0_0, .int .i64 a0_1] 36 ?_; intro gb103 hg w3 hbox hb; have BK103 := Aside0.mk (hbox); have GW103 := vS hg HB; have GE103 := vS hg HB; replace HB := vWs HB hb; clear hb hbox hg) | ((with_reducible refine gate_dst (N := 2) rfl ?_); refine bx_ 2 #[.int .i64 0, .int .i64 0] 36 ?_; intro gb104 hg w4 hbox hb; have BK104 := Aside0.mk (hbox); have GW104 := vS hg HB; have GE104 := vS hg HB; replace HB := vWs HB hb; have NB103_104 := vNl hg BK103; have NB104_103 := vNg hg BK103; replace BK103 := vBb BK103 hb; clear hb hbox hg; have hnb5 := NB103_104.out; have hnc5 := NB104_103.out; obtain ⟨hcz6_0, hcz6_1, hfz6_0, hfz6_1⟩ := vF2 BK103.out) | ((with_reducible refine gate_callee (f := 56) rfl ?_); refine gl_ (some 7) Try.func56 #[.int .i64 a0_0, .int .i64 a0_1] ?_; (with_reducible refine (itv_Of.calls a0_0 a0_1 t105 t106 _ A2.out).mono ?_); rintro e w7 ⟨rfl, hb⟩; refine ⟨_, rfl, ?_⟩; replace BK103 := vBb BK103 hb; replace BK104 := vBb BK104 hb; replace HB := vWs HB hb; (try clear hb); (try clear hb2); (try clear hk); (try clear hi); obtain ⟨hcz8_0, hcz8_1, hfz8_0, hfz8_1⟩ := vF2 BK104.out))
 refine bodyPost_ret (results_cell_row rfl _ _ gb104 36 #[.int .i64 t105, .int .i64 t106] (0, 0) _ rfl (vP2 BK104.out) Try.underlying36 rfl (by kernel_rfl)) rfl ?_
 exact ⟨vE, vW HB.out⟩
def itv_Has.f (a0_0 : Int) (a0_1 : Int) (a1 : Int) : Option (Bool) := (itv_sound.f a0_0 a0_1).bind fun bt108 => ((itv_None.f bt108.1 bt108.2).bind fun t110 => (if t110 = true then (some false) else (if bt108.1 = (-4611686018427387904) then (if bt108.2 = 4611686018427387904 then (some true) else (some (decide (a1 ≤ bt108.2)))) else (if bt108.1 ≤ a1 then (if bt108.2 = 4611686018427387904 then (some true) else (some (decide (a1 ≤ bt108.2)))) else (some false)))))
theorem itv_Has.calls (a0_0 : Int) (a0_1 : Int) (a1 : Int) (r : Bool) (w : World) (h : itv_Has.f a0_0 a0_1 a1 = some r) :
 Calls Try.prog 34 #[.agg #[.int .i64 a0_0, .int .i64 a0_1], .int .i64 a1] w fun e w' => e = .returned (.bool r) ∧ Below w.heap.size w w' := by
 have hu36 := Try.underlying36
 have HB := Aside0.mk (Below.refl w.heap.size w)
 have H := h
 unfold itv_Has.f at H
 clear h
 replace H := Option.bind_eq_some_iff.mp H
 obtain ⟨⟨t108, t109⟩, A30, H⟩ := H
 try dsimp only at H
 have A3 := Aside0.mk A30
 clear A30
 replace H := Option.bind_eq_some_iff.mp H
 obtain ⟨t110, A40, H⟩ := H
 try dsimp only at H
 have A4 := Aside0.mk A40
 clear A40
 by_cases c5 : t110 = true
 ·
  subst c5
  rw [if_pos rfl] at H
  try dsimp only at H
  obtain rfl := Option.some.inj H
  go_enter Try.func34, Try.ntmps34
  go_wp2_with (first | ((with_reducible refine gate_dst (N := 2) rfl ?_); refine bx_ 2 #[.int .i64 a0_0, .int .i64 a0_1] 36 ?_; intro gb107 hg w6 hbox hb; have BK107 := Aside0.mk (hbox); have GW107 := vS hg HB; have GE107 := vS hg HB; replace HB := vWs HB hb; clear hb hbox hg; obtain ⟨hcz7_0, hcz7_1, hfz7_0, hfz7_1⟩ := vF2 BK107.out) | ((with_reducible refine gate_callee (f := 74) rfl ?_); refine gl_ (some 6) Try.func74 #[.agg #[.int .i64 a0_0, .int .i64 a0_1]] ?_; (with_reducible refine (itv_sound.calls a0_0 a0_1 t108 t109 _ A3.out).mono ?_); rintro e w8 ⟨rfl, hb⟩; refine ⟨_, rfl, ?_⟩; replace BK107 := vBb BK107 hb; replace HB := vWs HB hb; (try clear hb); (try clear hb2); (try clear hk); (try clear hi); obtain ⟨hcz9_0, hcz9_1, hfz9_0, hfz9_1⟩ := vF2 BK107.out) | ((with_reducible refine gate_callee (f := 57) rfl ?_); refine gl_ (some 8) Try.func57 #[.agg #[.int .i64 t108, .int .i64 t109]] ?_; (with_reducible refine (itv_None.calls t108 t109 true _ A4.out).mono ?_); rintro e w10 ⟨rfl, hb⟩; refine ⟨_, rfl, ?_⟩; replace BK107 := Aside0.mk (blk_below (g := gb107) (o := .cells #[.int .i64 t108, .int .i64 t109] 36 (0, 0)) (vP2 BK107.out) hb); replace HB := vWs HB hb; (try clear hb); (try clear hb2); (try clear hk); (try clear hi)))
  go_ret
  exact ⟨vE, vW HB.out⟩
 ·
  replace c5 := Bool.eq_false_iff.mpr c5
  subst c5
  rw [if_neg (show ¬ (false = true) by decide)] at H
  try dsimp only at H
  by_cases c11 : t108 = (-4611686018427387904)
  ·
   rw [if_pos c11] at H
   have c11b0 : (t108 == (-4611686018427387904)) = true := beq_iff_eq.mpr c11
   have c11b1 : (t108 != (-4611686018427387904)) = false := bne_eq_false_iff_eq.mpr c11
   clear c11
   by_cases c12 : t109 = 4611686018427387904
   ·
    rw [if_pos c12] at H
    have c12b0 : (t109 == 4611686018427387904) = true := beq_iff_eq.mpr c12
    have c12b1 : (t109 != 4611686018427387904) = false := bne_eq_false_iff_eq.mpr c12
    clear c12
    obtain rfl := Option.some.inj H
    go_enter Try.func34, Try.ntmps34
    go_wp2_with (first | ((with_reducible refine gate_dst (N := 2) rfl ?_); refine bx_ 2 #[.int .i64 a0_0, .int .i64 a0_1] 36 ?_; intro gb107 hg w13 hbox hb; have BK107 := Aside0.mk (hbox); have GW107 := vS hg HB; have GE107 := vS hg HB; replace HB := vWs HB hb; clear hb hbox hg; obtain ⟨hcz14_0, hcz14_1, hfz14_0, hfz14_1⟩ := vF2 BK107.out) | ((with_reducible refine gate_callee (f := 74) rfl ?_); refine gl_ (some 6) Try.func74 #[.agg #[.int .i64 a0_0, .int .i64 a0_1]] ?_; (with_reducible refine (itv_sound.calls a0_0 a0_1 t108 t109 _ A3.out).mono ?_); rintro e w15 ⟨rfl, hb⟩; refine ⟨_, rfl, ?_⟩; replace BK107 := vBb BK107 hb; replace HB := vWs HB hb; (try clear hb); (try clear hb2); (try clear hk); (try clear hi); obtain ⟨hcz16_0, hcz16_1, hfz16_0, hfz16_1⟩ := vF2 BK107.out) | ((with_reducible refine gate_callee (f := 57) rfl ?_); refine gl_ (some 8) Try.func57 #[.agg #[.int .i64 t108, .int .i64 t109]] ?_; (with_reducible refine (itv_None.calls t108 t109 false _ A4.out).mono ?_); rintro e w17 ⟨rfl, hb⟩; refine ⟨_, rfl, ?_⟩; replace BK107 := Aside0.mk (blk_below (g := gb107) (o := .cells #[.int .i64 t108, .int .i64 t109] 36 (0, 0)) (vP2 BK107.out) hb); replace HB := vWs HB hb; (try clear hb); (try clear hb2); (try clear hk); (try clear hi); obtain ⟨hcz18_0, hcz18_1, hfz18_0, hfz18_1⟩ := vF2 BK107.out))
    go_ret
    exact ⟨vE, vW HB.out⟩
   ·
    rw [if_neg c12] at H
    have c12b0 : (t109 == 4611686018427387904) = false := beq_eq_false_iff_ne.mpr c12
    have c12b1 : (t109 != 4611686018427387904) = true := bne_iff_ne.mpr c12
    obtain rfl := Option.some.inj H
    go_enter Try.func34, Try.ntmps34
    go_wp2_with (first | ((with_reducible refine gate_dst (N := 2) rfl ?_); refine bx_ 2 #[.int .i64 a0_0, .int .i64 a0_1] 36 ?_; intro gb107 hg w19 hbox hb; have BK107 := Aside0.mk (hbox); have GW107 := vS hg HB; have GE107 := vS hg HB; replace HB := vWs HB hb; clear hb hbox hg; obtain ⟨hcz20_0, hcz20_1, hfz20_0, hfz20_1⟩ := vF2 BK107.out) | ((with_reducible refine gate_callee (f := 74) rfl ?_); refine gl_ (some 6) Try.func74 #[.agg #[.int .i64 a0_0, .int .i64 a0_1]] ?_; (with_reducible refine (itv_sound.calls a0_0 a0_1 t108 t109 _ A3.out).mono ?_); rintro e w21 ⟨rfl, hb⟩; refine ⟨_, rfl, ?_⟩; replace BK107 := vBb BK107 hb; replace HB := vWs HB hb; (try clear hb); (try clear hb2); (try clear hk); (try clear hi); obtain ⟨hcz22_0, hcz22_1, hfz22_0, hfz22_1⟩ := vF2 BK107.out) | ((with_reducible refine gate_callee (f := 57) rfl ?_); refine gl_ (some 8) Try.func57 #[.agg #[.int .i64 t108, .int .i64 t109]] ?_; (with_reducible refine (itv_None.calls t108 t109 false _ A4.out).mono ?_); rintro e w23 ⟨rfl, hb⟩; refine ⟨_, rfl, ?_⟩; replace BK107 := Aside0.mk (blk_below (g := gb107) (o := .cells #[.int .i64 t108, .int .i64 t109] 36 (0, 0)) (vP2 BK107.out) hb); replace HB := vWs HB hb; (try clear hb); (try clear hb2); (try clear hk); (try clear hi); obtain ⟨hcz24_0, hcz24_1, hfz24_0, hfz24_1⟩ := vF2 BK107.out))
    go_ret
    exact ⟨vE, vW HB.out⟩
  ·
   rw [if_neg c11] at H
   have c11b0 : (t108 == (-4611686018427387904)) = false := beq_eq_false_iff_ne.mpr c11
   have c11b1 : (t108 != (-4611686018427387904)) = true := bne_iff_ne.mpr c11
   by_cases c25 : t108 ≤ a1
   ·
    rw [if_pos c25] at H
    have c25b0 : decide (t108 ≤ a1) = true := decide_eq_true c25
    clear c25
    by_cases c26 : t109 = 4611686018427387904
    ·
     rw [if_pos c26] at H
     have c26b0 : (t109 == 4611686018427387904) = true := beq_iff_eq.mpr c26
     have c26b1 : (t109 != 4611686018427387904) = false := bne_eq_false_iff_eq.mpr c26
     clear c26
     obtain rfl := Option.some.inj H
     go_enter Try.func34, Try.ntmps34
     go_wp2_with (first | ((with_reducible refine gate_dst (N := 2) rfl ?_); refine bx_ 2 #[.int .i64 a0_0, .int .i64 a0_1] 36 ?_; intro gb107 hg w27 hbox hb; have BK107 := Aside0.mk (hbox); have GW107 := vS hg HB; have GE107 := vS hg HB; replace HB := vWs HB hb; clear hb hbox hg; obtain ⟨hcz28_0, hcz28_1, hfz28_0, hfz28_1⟩ := vF2 BK107.out) | ((with_reducible refine gate_callee (f := 74) rfl ?_); refine gl_ (some 6) Try.func74 #[.agg #[.int .i64 a0_0, .int .i64 a0_1]] ?_; (with_reducible refine (itv_sound.calls a0_0 a0_1 t108 t109 _ A3.out).mono ?_); rintro e w29 ⟨rfl, hb⟩; refine ⟨_, rfl, ?_⟩; replace BK107 := vBb BK107 hb; replace HB := vWs HB hb; (try clear hb); (try clear hb2); (try clear hk); (try clear hi); obtain ⟨hcz30_0, hcz30_1, hfz30_0, hfz30_1⟩ := vF2 BK107.out) | ((with_reducible refine gate_callee (f := 57) rfl ?_); refine gl_ (some 8) Try.func57 #[.agg #[.int .i64 t108, .int .i64 t109]] ?_; (with_reducible refine (itv_None.calls t108 t109 false _ A4.out).mono ?_); rintro e w31 ⟨rfl, hb⟩; refine ⟨_, rfl, ?_⟩; replace BK107 := Aside0.mk (blk_below (g := gb107) (o := .cells #[.int .i64 t108, .int .i64 t109] 36 (0, 0)) (vP2 BK107.out) hb); replace HB := vWs HB hb; (try clear hb); (try clear hb2); (try clear hk); (try clear hi); obtain ⟨hcz32_0, hcz32_1, hfz32_0, hfz32_1⟩ := vF2 BK107.out))
     go_ret
     exact ⟨vE, vW HB.out⟩
    ·
     rw [if_neg c26] at H
     have c26b0 : (t109 == 4611686018427387904) = false := beq_eq_false_iff_ne.mpr c26
     have c26b1 : (t109 != 4611686018427387904) = true := bne_iff_ne.mpr c26
     obtain rfl := Option.some.inj H
     go_enter Try.func34, Try.ntmps34
     go_wp2_with (first | ((with_reducible refine gate_dst (N := 2) rfl ?_); refine bx_ 2 #[.int .i64 a0_0, .int .i64 a0_1] 36 ?_; intro gb107 hg w33 hbox hb; have BK107 := Aside0.mk (hbox); have GW107 := vS hg HB; have GE107 := vS hg HB; replace HB := vWs HB hb; clear hb hbox hg; obtain ⟨hcz34_0, hcz34_1, hfz34_0, hfz34_1⟩ := vF2 BK107.out) | ((with_reducible refine gate_callee (f := 74) rfl ?_); refine gl_ (some 6) Try.func74 #[.agg #[.int .i64 a0_0, .int .i64 a0_1]] ?_; (with_reducible refine (itv_sound.calls a0_0 a0_1 t108 t109 _ A3.out).mono ?_); rintro e w35 ⟨rfl, hb⟩; refine ⟨_, rfl, ?_⟩; replace BK107 := vBb BK107 hb; replace HB := vWs HB hb; (try clear hb); (try clear hb2); (try clear hk); (try clear hi); obtain ⟨hcz36_0, hcz36_1, hfz36_0, hfz36_1⟩ := vF2 BK107.out) | ((with_reducible refine gate_callee (f := 57) rfl ?_); refine gl_ (some 8) Try.func57 #[.agg #[.int .i64 t108, .int .i64 t109]] ?_; (with_reducible refine (itv_None.calls t108 t109 false _ A4.out).mono ?_); rintro e w37 ⟨rfl, hb⟩; refine ⟨_, rfl, ?_⟩; replace BK107 := Aside0.mk (blk_below (g := gb107) (o := .cells #[.int .i64 t108, .int .i64 t109] 36 (0, 0)) (vP2 BK107.out) hb); replace HB := vWs HB hb; (try clear hb); (try clear hb2); (try clear hk); (try clear hi); obtain ⟨hcz38_0, hcz38_1, hfz38_0, hfz38_1⟩ := vF2 BK107.out))
     go_ret
     exact ⟨vE, vW HB.out⟩
   ·
    rw [if_neg c25] at H
    have c25b0 : decide (t108 ≤ a1) = false := decide_eq_false c25
    clear c25
    obtain rfl := Option.some.inj H
    go_enter Try.func34, Try.ntmps34
    go_wp2_with (first | ((with_reducible refine gate_dst (N := 2) rfl ?_); refine bx_ 2 #[.int .i64 a0_0, .int .i64 a0_1] 36 ?_; intro gb107 hg w39 hbox hb; have BK107 := Aside0.mk (hbox); have GW107 := vS hg HB; have GE107 := vS hg HB; replace HB := vWs HB hb; clear hb hbox hg; obtain ⟨hcz40_0, hcz40_1, hfz40_0, hfz40_1⟩ := vF2 BK107.out) | ((with_reducible refine gate_callee (f := 74) rfl ?_); refine gl_ (some 6) Try.func74 #[.agg #[.int .i64 a0_0, .int .i64 a0_1]] ?_; (with_reducible refine (itv_sound.calls a0_0 a0_1 t108 t109 _ A3.out).mono ?_); rintro e w41 ⟨rfl, hb⟩; refine ⟨_, rfl, ?_⟩; replace BK107 := vBb BK107 hb; replace HB := vWs HB hb; (try clear hb); (try clear hb2); (try clear hk); (try clear hi); obtain ⟨hcz42_0, hcz42_1, hfz42_0, hfz42_1⟩ := vF2 BK107.out) | ((with_reducible refine gate_callee (f := 57) rfl ?_); refine gl_ (some 8) Try.func57 #[.agg #[.int .i64 t108, .int .i64 t109]] ?_; (with_reducible refine (itv_None.calls t108 t109 false _ A4.out).mono ?_); rintro e w43 ⟨rfl, hb⟩; refine ⟨_, rfl, ?_⟩; replace BK107 := Aside0.mk (blk_below (g := gb107) (o := .cells #[.int .i64 t108, .int .i64 t109] 36 (0, 0)) (vP2 BK107.out) hb); replace HB := vWs HB hb; (try clear hb); (try clear hb2); (try clear hk); (try clear hi); obtain ⟨hcz44_0, hcz44_1, hfz44_0, hfz44_1⟩ := vF2 BK107.out))
    go_ret
    exact ⟨vE, vW HB.out⟩
end Go.Proofs.Ytphfchbggechhaa.QO
end
end
section
noncomputable section
namespace Go.Proofs.Ytphfchbggechhaa.QO
open Go.RowKit Go.Shelf YtphfchbggechhaaW.PrintWords YtphfchbggechhaaW.PrintLast YtphfchbggechhaaW.PrintMore
open Ytphfchbggechhaa.Pure
set_option linter.unusedVariables false
theorem itvOf_f (a b : Int) : itv_Of.f a b = some (itvOf a b) := rfl
def itvHas (a b x : Int) : Bool := decide ((itvOf a b).1 ≤ (itvOf a b).2 ∧ ((itvOf a b).1 = -4611686018427387904 ∨ (itvOf a b).1 ≤ x) ∧ ((itvOf a b).2 = 4611686018427387904 ∨ x ≤ (itvOf a b).2))
theorem itvHas_f (a b x : Int) : itv_Has.f a b x = some (itvHas a b x) := by
 unfold itv_Has.f itv_sound.f itvHas itv_None.f
 rw [itvOf_f]
 simp only [Option.bind_some]
 generalize (itvOf a b).1 = l
 generalize (itvOf a b).2 = h
 by_cases h1 : l > h
 ·
  rw [if_pos (decide_eq_true h1)]
  congr 1; rw [decide_eq_false (by omega)]
 ·
  rw [if_neg (by simpa using h1)]
  by_cases h2 : l = -4611686018427387904
  ·
   rw [if_pos h2]
   by_cases h3 : h = 4611686018427387904
   ·
    rw [if_pos h3]; congr 1; rw [decide_eq_true (by omega)]
   ·
    rw [if_neg h3]; congr 1
    rw [Bool.eq_iff_iff]; simp only [decide_eq_true_eq]; omega
  ·
   rw [if_neg h2]
   by_cases h4 : l ≤ x
   ·
    rw [if_pos h4]
    by_cases h3 : h = 4611686018427387904
    ·
     rw [if_pos h3]; congr 1; rw [decide_eq_true (by omega)]
    ·
     rw [if_neg h3]; congr 1
     rw [Bool.eq_iff_iff]; simp only [decide_eq_true_eq]; omega
   ·
    rw [if_neg h4]; congr 1; rw [decide_eq_false (by omega)]
section
variable {w W : World} {x : OV}
theorem itvOf_as {a b l h : Int} (e : itvOf a b = (l, h)) : Says 56 #[.int .i64 a, .int .i64 b] W (.agg #[.int .i64 l, .int .i64 h]) :=
 itv_Of.calls a b l h W (by rw [itvOf_f, e])
theorem itvNone_as {a b : Int} {t : Bool} (e : decide (a > b) = t) : Says 57 #[.agg #[.int .i64 a, .int .i64 b]] W (.bool t) :=
 itv_None.calls a b t W (by unfold itv_None.f; rw [e])
theorem itvHas_as {a b c : Int} {t : Bool} (e : itvHas a b c = t) : Says 34 #[.agg #[.int .i64 a, .int .i64 b], .int .i64 c] W (.bool t) :=
 itv_Has.calls a b c t W (by rw [itvHas_f, e])
theorem botm_f {v : List Int} (h : VarsOk v) : oct_Bottom.f v = some (v, [], true) := by
 have h8 := h.1
 have hc : slices_Clone_int_int.f v = some v := by unfold slices_Clone_int_int.f; rw [if_pos (by omega)]
 unfold oct_Bottom.f oct_may.f
 rw [varsB_true.2 h]
 simp [hc]
theorem bottom_own {A : Option Addr} {c : Nat} {v : List Int} (hr : Row w W 3 A c v) (hb : Below w.heap.size w W) (hv : VarsOk v) :
 Calls Try.prog 58 #[.slice A v.length c] W fun e W' => ∃ z : OV, e = .returned z.val ∧ z.o = (v, [], true) ∧ Own W W' z ∧ Below W.heap.size W W' :=
 of_calls2 (a := (v, [], true)) (oct_Bottom.calls A c v _ _ _ W (hr.reads hb) hr.le (botm_f hv))
end
def guardF (v m : List Int) (e : Bool) (x sx y sy c lo hi : Int) : List Int × List Int × Bool :=
 if (closeF v m e).2.2 = true ∨ ofB v x sx y sy c = false then closeF v m e
 else if (itvOf lo hi).1 > (itvOf lo hi).2 ∨ (sx = 0 ∧ itvHas (itvOf lo hi).1 (itvOf lo hi).2 c = false) then (v, [], true)
 else if sx = 0 then closeF v m e
 else closeF v (lst (2 * v.length) (upC (upC (closeM (2 * v.length) (lowM v.length m)) (placeF v x).toNat sx (placeF v y).toNat sy (bupF (itvOf lo hi).2 (-c))) (placeF v x).toNat (-sx) (placeF v y).toNat (-sy) (bupF (bnegF (itvOf lo hi).1) c))) false
end Go.Proofs.Ytphfchbggechhaa.QO
end
end
section
noncomputable section
namespace Go.Proofs.Ytphfchbggechhaa.QO
open Go.RowKit Go.Shelf YtphfchbggechhaaW.PrintWords YtphfchbggechhaaW.PrintLast YtphfchbggechhaaW.PrintMore
open Ytphfchbggechhaa.Pure
attribute [local go_sem] Oper.semAt_some
attribute [local go_sem ↓] Go.wp_at_zero Go.wp_at_succ
set_option linter.unusedVariables false
set_option linter.unusedSimpArgs false
def guard_T9 : Bool × List (List Nat × List Nat) := (true, [([], []), ([], []), ([1], [1]), ([], []), ([3], [3]), ([], []), ([5], [5]), ([], []), ([7], [7]), ([], []), ([9], [9]), ([], []), ([11], [11]), ([12], [12]), ([10, 13], [10, 13]), ([0, 2, 4, 6, 8, 14, 14], [0, 2, 4, 6, 8, 14]), ([15, 15, 0, 1, 2, 3, 4, 5, 6, 7, 8, 9, 10, 11, 12, 13, 14, 15], [15])])
def guard_B9 : List Nat := [0, 0, 2, 0, 8, 0, 32, 0, 128, 0, 512, 0, 2048, 6144, 15872, 32767, 65535]
theorem guard_tab9 : rtab .any (opsOf Try.f19 9) = guard_T9 := by kernel_rfl
theorem guard_bits9 : waitsOk guard_T9.2 guard_B9 = true := by kernel_rfl
def guard_T10 : Bool × List (List Nat × List Nat) := (true, [([], []), ([], []), ([1], [1]), ([2], [2]), ([], []), ([4], [4]), ([], []), ([6], [6]), ([7], [7]), ([], []), ([9], [9]), ([], []), ([11], [11]), ([12], [12]), ([], []), ([14], [14]), ([13, 15, 13], [13, 15]), ([0, 3, 5, 8, 10, 16, 16], [0, 3, 5, 8, 10, 16]), ([17, 17, 0, 1, 2, 3, 4, 5, 6, 7, 8, 9, 10, 11, 12, 13, 14, 15, 16, 17], [17])])
def guard_B10 : List Nat := [0, 0, 2, 6, 0, 16, 0, 64, 192, 0, 512, 0, 2048, 6144, 0, 16384, 63488, 131071, 262143]
theorem guard_tab10 : rtab .any (opsOf Try.f19 10) = guard_T10 := by kernel_rfl
theorem guard_bits10 : waitsOk guard_T10.2 guard_B10 = true := by kernel_rfl
theorem of_as {X : OV} {x sx y sy c : Int} {t : Bool} {w W : World} (hX : Oc w W X) (h0 : Below w.heap.size w W) (l : X.v.length ≤ 1000) (h : ofB X.v x sx y sy c = t) : Says 55 #[X.val, lV x sx y sy c] W (.bool t) := by
 rw [← h]; exact of_o X x sx y sy c hX h0 l
theorem guard_own (X : OV) (x sx y sy c lo hi : Int) {w0 w : World} (hX : Oc w0 w X) (h0 : Below w0.heap.size w0 w) (fx : OFit X.v X.m X.e)
 (hup : ∀ (C : Mx) (p q : Nat) (u v : Int), Cld (2 * X.v.length) C → ofB X.v x sx y sy c = true → sx ≠ 0 → placeF X.v x = (p : Int) → (sy ≠ 0 → placeF X.v y = (q : Int)) → OFit X.v (lst (2 * X.v.length) (upC (upC C p sx q sy u) p (-sx) q (-sy) v)) false) :
 Calls Try.prog 19 #[X.val, lV x sx y sy c, iV lo hi] w fun e W' => ∃ z : OV, e = .returned z.val ∧ z.o = guardF X.v X.m X.e x sx y sy c lo hi ∧ Own w W' z ∧ Below w.heap.size w W' := by
 have hu25 := Try.underlying25
 have hu34 := Try.underlying34
 have hu36 := Try.underlying36
 have HX : Aside0 (Oc w w X) := ⟨⟨⟨hX.r0.le, .inl (hX.r0.reads h0)⟩, ⟨hX.r1.le, .inl (hX.r1.reads h0)⟩⟩⟩
 have FX_ := Aside0.mk fx
 have L8 : Aside0 (X.v.length ≤ 8) := ⟨fx.1.1⟩
 have LK : Aside0 (X.v.length ≤ 1000) := ⟨by have := fx.1.1; omega⟩
 have HV : Aside0 (VarsOk X.v) := ⟨fx.1⟩
 have cases := close_cases fx
 by_cases hof : ofB X.v x sx y sy c = false
 ·
  have hg : guardF X.v X.m X.e x sx y sy c lo hi = closeF X.v X.m X.e := by unfold guardF; rw [if_pos (.inr hof)]
  rw [hg]
  obtain ⟨a, ha⟩ : ∃ a, closeF X.v X.m X.e = a := ⟨_, rfl⟩
  rw [ha]
  have HC := Aside0.mk ha
  have HOF := Aside0.mk hof
  clear hX h0 fx cases hg ha hof hup
  go_enter Try.func19, Try.ntmps19
  go_upto_region 1 with fail
  have HM := MS.n4 w X.cells (lC x sx y sy c) (iC lo hi) zeroO
  generalize World.alloc _ _ = wk at HM ⊢
  generalize w.heap.size + 3 = gr at HM ⊢
  generalize w.heap.size + 2 = gi at HM ⊢
  generalize w.heap.size + 1 = gl at HM ⊢
  generalize w.heap.size = go at HM ⊢
  have kgo := MS.c3 HM m3_
  go_upto_region 2 with (first | (go_at_call 51; (with_reducible refine (close_as (Oc.now HX (MS.bel HM)) (Below.refl _ _) rfl FX_.out HC.out).mono ?_); rintro e wk ⟨cv, rfl, hcv, ho, hb⟩; replace HM := MS.cl HM hb ho; clear ho hb; replace kgo := MS.c3 HM m3_) | ((with_reducible refine gate_dst (N := 7) rfl ?_); refine bx_ 7 #[.slice none 0 0, .slice none 0 0, .bool false] 25 ?_; intro gc hg wk hbox hb; replace HM := MS.md HM hg hbox hb; clear hg hbox hb; have kgc := MS.c3 HM m0_; replace kgo := MS.c3 HM m4_))
  replace HM := MS.po0 cv HM
  generalize World.setCell _ _ _ = wk at HM ⊢
  have HCV := Aside0.mk hcv; clear hcv
  replace kgc := MS.c3 HM m0_; have kgl := MS.c5 HM m3_; replace kgo := MS.c3 HM m4_
  go_upto_region 3 with (first | (go_at_call 55; (with_reducible refine (of_as (Oc.now HX (MS.bel HM)) (Below.refl _ _) LK.out HOF.out).mono ?_); rintro e wk ⟨rfl, hb⟩; replace HM := MS.nx HM hb; clear hb; replace kgc := MS.c3 HM m0_; replace kgl := MS.c5 HM m3_; replace kgo := MS.c3 HM m4_))
  have kgr := MS.c3 HM m1_; have kgi := MS.c2 HM m2_
  go_wp2
  replace HM := MS.po1 cv HM
  generalize World.setCell _ _ _ = wk at HM ⊢
  refine MS.rt HM m1_ ?_
  exact ⟨cv, rfl, HCV.out, HM.out.S.own _ m0_, HM.out.S.below⟩
 ·
  have hof' : ofB X.v x sx y sy c = true := by simpa using hof
  have HOF := Aside0.mk hof'
  rcases cases with ⟨hcl, _⟩ | ⟨he, hc, hcl⟩
  ·
   have hg : guardF X.v X.m X.e x sx y sy c lo hi = closeF X.v X.m X.e := by unfold guardF; rw [if_pos (.inl (by rw [hcl]))]
   rw [hg, hcl]
   have HC := Aside0.mk hcl
   clear hX h0 fx hg hcl hof hof' hup
   go_enter Try.func19, Try.ntmps19
   go_upto_region 1 with fail
   have HM := MS.n4 w X.cells (lC x sx y sy c) (iC lo hi) zeroO
   generalize World.alloc _ _ = wk at HM ⊢
   generalize w.heap.size + 3 = gr at HM ⊢
   generalize w.heap.size + 2 = gi at HM ⊢
   generalize w.heap.size + 1 = gl at HM ⊢
   generalize w.heap.size = go at HM ⊢
   have kgo := MS.c3 HM m3_
   go_upto_region 2 with (first | (go_at_call 51; (with_reducible refine (close_as (Oc.now HX (MS.bel HM)) (Below.refl _ _) rfl FX_.out HC.out).mono ?_); rintro e wk ⟨cv, rfl, hcv, ho, hb⟩; replace HM := MS.cl HM hb ho; clear ho hb; replace kgo := MS.c3 HM m3_) | ((with_reducible refine gate_dst (N := 7) rfl ?_); refine bx_ 7 #[.slice none 0 0, .slice none 0 0, .bool false] 25 ?_; intro gc hg wk hbox hb; replace HM := MS.md HM hg hbox hb; clear hg hbox hb; have kgc := MS.c3 HM m0_; replace kgo := MS.c3 HM m4_))
   replace HM := MS.po0 cv HM
   generalize World.setCell _ _ _ = wk at HM ⊢
   have HCV := Aside0.mk hcv; clear hcv
   have hem : cv.e = true := congrArg (·.2.2) HCV.out
   replace kgc := MS.c3 HM m0_; have kgl := MS.c5 HM m3_; replace kgo := MS.c3 HM m4_
   go_upto_region 3 with (first | (go_at_call 55; (with_reducible refine (of_as (Oc.now HX (MS.bel HM)) (Below.refl _ _) LK.out HOF.out).mono ?_); rintro e wk ⟨rfl, hb⟩; replace HM := MS.nx HM hb; clear hb; replace kgc := MS.c3 HM m0_; replace kgl := MS.c5 HM m3_; replace kgo := MS.c3 HM m4_))
   clear hem
   have kgr := MS.c3 HM m1_; have kgi := MS.c2 HM m2_
   go_wp2
   replace HM := MS.po1 cv HM
   generalize World.setCell _ _ _ = wk at HM ⊢
   refine MS.rt HM m1_ ?_
   exact ⟨cv, rfl, HCV.out, HM.out.S.own _ m0_, HM.out.S.below⟩
  ·
   obtain ⟨a, b, hab⟩ : ∃ a b, itvOf lo hi = (a, b) := ⟨_, _, rfl⟩
   have HC := Aside0.mk hcl
   have HIT := Aside0.mk hab
   have hge : guardF X.v X.m X.e x sx y sy c lo hi = if a > b ∨ (sx = 0 ∧ itvHas a b c = false) then (X.v, [], true) else if sx = 0 then closeF X.v X.m X.e else closeF X.v (lst (2 * X.v.length) (upC (upC (closeM (2 * X.v.length) (lowM X.v.length X.m)) (placeF X.v x).toNat sx (placeF X.v y).toNat sy (bupF b (-c))) (placeF X.v x).toNat (-sx) (placeF X.v y).toNat (-sy) (bupF (bnegF a) c))) false := by
    unfold guardF; rw [if_neg (by rw [hcl, hof']; simp), hab]
   rw [hge]
   by_cases hn : a > b
   ·
    rw [if_pos (.inl hn)]
    have HN : Aside0 (decide (a > b) = true) := ⟨decide_eq_true hn⟩
    have HH : Aside0 (itvHas a b c = itvHas a b c) := ⟨rfl⟩
    clear hX h0 fx hcl hof hof' he hc hab hge hn hup
    go_enter Try.func19, Try.ntmps19
    go_upto_region 1 with fail
    have HM := MS.n4 w X.cells (lC x sx y sy c) (iC lo hi) zeroO
    generalize World.alloc _ _ = wk at HM ⊢
    generalize w.heap.size + 3 = gr at HM ⊢
    generalize w.heap.size + 2 = gi at HM ⊢
    generalize w.heap.size + 1 = gl at HM ⊢
    generalize w.heap.size = go at HM ⊢
    have kgo := MS.c3 HM m3_
    go_upto_region 2 with (first | (go_at_call 51; (with_reducible refine (close_as (Oc.now HX (MS.bel HM)) (Below.refl _ _) rfl FX_.out HC.out).mono ?_); rintro e wk ⟨cv, rfl, hcv, ho, hb⟩; replace HM := MS.cl HM hb ho; clear ho hb; replace kgo := MS.c3 HM m3_) | ((with_reducible refine gate_dst (N := 7) rfl ?_); refine bx_ 7 #[.slice none 0 0, .slice none 0 0, .bool false] 25 ?_; intro gc hg wk hbox hb; replace HM := MS.md HM hg hbox hb; clear hg hbox hb; have kgc := MS.c3 HM m0_; replace kgo := MS.c3 HM m4_))
    replace HM := MS.po0 cv HM
    generalize World.setCell _ _ _ = wk at HM ⊢
    have HCV := Aside0.mk hcv; clear hcv
    have hem : cv.e = false := congrArg (·.2.2) HCV.out
    replace kgc := MS.c3 HM m0_; have kgr := MS.c3 HM m1_; have kgl := MS.c5 HM m3_; replace kgo := MS.c3 HM m4_
    go_upto_region 4 with (first | (go_at_call 55; (with_reducible refine (of_as (Oc.now HX (MS.bel HM)) (Below.refl _ _) LK.out HOF.out).mono ?_); rintro e wk ⟨rfl, hb⟩; replace HM := MS.nx HM hb; clear hb; replace kgc := MS.c3 HM m0_; replace kgr := MS.c3 HM m1_; replace kgl := MS.c5 HM m3_; replace kgo := MS.c3 HM m4_))
    clear hem
    have kgi := MS.c2 HM m2_
    go_upto_region 5 with (first | (go_at_call 56; (with_reducible refine (itvOf_as HIT.out).mono ?_); rintro e wk ⟨rfl, hb⟩; replace HM := MS.nx HM hb; clear hb; replace kgi := MS.c2 HM m2_))
    replace HM := MS.pi2 a b HM
    generalize World.setCell _ _ _ = wk at HM ⊢
    replace kgi := MS.c2 HM m2_; replace kgl := MS.c5 HM m3_
    go_upto_region 6 with (first | (go_at_call 57; (with_reducible refine (itvNone_as HN.out).mono ?_); rintro e wk ⟨rfl, hb⟩; replace HM := MS.nx HM hb; clear hb; replace kgi := MS.c2 HM m2_; replace kgl := MS.c5 HM m3_) | (go_at_call 34; (with_reducible refine (itvHas_as HH.out).mono ?_); rintro e wk ⟨rfl, hb⟩; replace HM := MS.nx HM hb; clear hb; replace kgi := MS.c2 HM m2_; replace kgl := MS.c5 HM m3_))
    replace kgc := MS.c3 HM m0_; replace kgr := MS.c3 HM m1_; replace kgo := MS.c3 HM m4_
    go_wp2_with (first | (go_at_call 58; (with_reducible refine (bottom_own (Oc.now HX (MS.bel HM)).r0 (Below.refl _ _) HV.out).mono ?_); rintro e wk ⟨zv, rfl, hzv, ho, hb⟩; replace HM := MS.cl HM hb ho; clear ho hb; replace kgc := MS.c3 HM m0_; replace kgr := MS.c3 HM m1_; replace kgi := MS.c2 HM m2_; replace kgl := MS.c5 HM m3_; replace kgo := MS.c3 HM m4_))
    replace HM := MS.po1 zv HM
    generalize World.setCell _ _ _ = wk at HM ⊢
    refine MS.rt HM m1_ ?_
    exact ⟨zv, rfl, hzv, HM.out.S.own _ m0_, HM.out.S.below⟩
   ·
    have HN : Aside0 (decide (a > b) = false) := ⟨decide_eq_false hn⟩
    by_cases hs : sx = 0
    ·
     have HSX : Aside0 ((sx == 0) = true) := ⟨by simpa using hs⟩
     obtain ⟨t, ht⟩ : ∃ t, itvHas a b c = t := ⟨_, rfl⟩
     have HH := Aside0.mk ht
     cases t with
     | false =>
      rw [if_pos (.inr ⟨hs, ht⟩)]
      clear hX h0 fx hcl hof hof' he hc hab hge hn hs ht hup
      go_enter Try.func19, Try.ntmps19
      go_upto_region 1 with fail
      have HM := MS.n4 w X.cells (lC x sx y sy c) (iC lo hi) zeroO
      generalize World.alloc _ _ = wk at HM ⊢
      generalize w.heap.size + 3 = gr at HM ⊢
      generalize w.heap.size + 2 = gi at HM ⊢
      generalize w.heap.size + 1 = gl at HM ⊢
      generalize w.heap.size = go at HM ⊢
      have kgo := MS.c3 HM m3_
      go_upto_region 2 with (first | (go_at_call 51; (with_reducible refine (close_as (Oc.now HX (MS.bel HM)) (Below.refl _ _) rfl FX_.out HC.out).mono ?_); rintro e wk ⟨cv, rfl, hcv, ho, hb⟩; replace HM := MS.cl HM hb ho; clear ho hb; replace kgo := MS.c3 HM m3_) | ((with_reducible refine gate_dst (N := 7) rfl ?_); refine bx_ 7 #[.slice none 0 0, .slice none 0 0, .bool false] 25 ?_; intro gc hg wk hbox hb; replace HM := MS.md HM hg hbox hb; clear hg hbox hb; have kgc := MS.c3 HM m0_; replace kgo := MS.c3 HM m4_))
      replace HM := MS.po0 cv HM
      generalize World.setCell _ _ _ = wk at HM ⊢
      have HCV := Aside0.mk hcv; clear hcv
      have hem : cv.e = false := congrArg (·.2.2) HCV.out
      replace kgc := MS.c3 HM m0_; have kgr := MS.c3 HM m1_; have kgl := MS.c5 HM m3_; replace kgo := MS.c3 HM m4_
      go_upto_region 4 with (first | (go_at_call 55; (with_reducible refine (of_as (Oc.now HX (MS.bel HM)) (Below.refl _ _) LK.out HOF.out).mono ?_); rintro e wk ⟨rfl, hb⟩; replace HM := MS.nx HM hb; clear hb; replace kgc := MS.c3 HM m0_; replace kgr := MS.c3 HM m1_; replace kgl := MS.c5 HM m3_; replace kgo := MS.c3 HM m4_))
      clear hem
      have kgi := MS.c2 HM m2_
      go_upto_region 5 with (first | (go_at_call 56; (with_reducible refine (itvOf_as HIT.out).mono ?_); rintro e wk ⟨rfl, hb⟩; replace HM := MS.nx HM hb; clear hb; replace kgi := MS.c2 HM m2_))
      replace HM := MS.pi2 a b HM
      generalize World.setCell _ _ _ = wk at HM ⊢
      have sx0 := HSX.out
      replace kgi := MS.c2 HM m2_; replace kgl := MS.c5 HM m3_
      go_upto_region 6 with (first | (go_at_call 57; (with_reducible refine (itvNone_as HN.out).mono ?_); rintro e wk ⟨rfl, hb⟩; replace HM := MS.nx HM hb; clear hb; replace kgi := MS.c2 HM m2_; replace kgl := MS.c5 HM m3_) | (go_at_call 34; (with_reducible refine (itvHas_as HH.out).mono ?_); rintro e wk ⟨rfl, hb⟩; replace HM := MS.nx HM hb; clear hb; replace kgi := MS.c2 HM m2_; replace kgl := MS.c5 HM m3_))
      clear sx0
      replace kgc := MS.c3 HM m0_; replace kgr := MS.c3 HM m1_; replace kgo := MS.c3 HM m4_
      go_wp2_with (first | (go_at_call 58; (with_reducible refine (bottom_own (Oc.now HX (MS.bel HM)).r0 (Below.refl _ _) HV.out).mono ?_); rintro e wk ⟨zv, rfl, hzv, ho, hb⟩; replace HM := MS.cl HM hb ho; clear ho hb; replace kgc := MS.c3 HM m0_; replace kgr := MS.c3 HM m1_; replace kgi := MS.c2 HM m2_; replace kgl := MS.c5 HM m3_; replace kgo := MS.c3 HM m4_))
      replace HM := MS.po1 zv HM
      generalize World.setCell _ _ _ = wk at HM ⊢
      refine MS.rt HM m1_ ?_
      exact ⟨zv, rfl, hzv, HM.out.S.own _ m0_, HM.out.S.below⟩
     | true =>
      rw [if_neg (fun h => h.elim hn (fun h => by rw [ht] at h; exact absurd h.2 (by decide))), if_pos hs, hcl]
      clear hX h0 fx hcl hof hof' he hc hab hge hn hs ht hup
      go_enter Try.func19, Try.ntmps19
      go_upto_region 1 with fail
      have HM := MS.n4 w X.cells (lC x sx y sy c) (iC lo hi) zeroO
      generalize World.alloc _ _ = wk at HM ⊢
      generalize w.heap.size + 3 = gr at HM ⊢
      generalize w.heap.size + 2 = gi at HM ⊢
      generalize w.heap.size + 1 = gl at HM ⊢
      generalize w.heap.size = go at HM ⊢
      have kgo := MS.c3 HM m3_
      go_upto_region 2 with (first | (go_at_call 51; (with_reducible refine (close_as (Oc.now HX (MS.bel HM)) (Below.refl _ _) rfl FX_.out HC.out).mono ?_); rintro e wk ⟨cv, rfl, hcv, ho, hb⟩; replace HM := MS.cl HM hb ho; clear ho hb; replace kgo := MS.c3 HM m3_) | ((with_reducible refine gate_dst (N := 7) rfl ?_); refine bx_ 7 #[.slice none 0 0, .slice none 0 0, .bool false] 25 ?_; intro gc hg wk hbox hb; replace HM := MS.md HM hg hbox hb; clear hg hbox hb; have kgc := MS.c3 HM m0_; replace kgo := MS.c3 HM m4_))
      replace HM := MS.po0 cv HM
      generalize World.setCell _ _ _ = wk at HM ⊢
      have HCV := Aside0.mk hcv; clear hcv
      have hem : cv.e = false := congrArg (·.2.2) HCV.out
      replace kgc := MS.c3 HM m0_; have kgr := MS.c3 HM m1_; have kgl := MS.c5 HM m3_; replace kgo := MS.c3 HM m4_
      go_upto_region 4 with (first | (go_at_call 55; (with_reducible refine (of_as (Oc.now HX (MS.bel HM)) (Below.refl _ _) LK.out HOF.out).mono ?_); rintro e wk ⟨rfl, hb⟩; replace HM := MS.nx HM hb; clear hb; replace kgc := MS.c3 HM m0_; replace kgr := MS.c3 HM m1_; replace kgl := MS.c5 HM m3_; replace kgo := MS.c3 HM m4_))
      clear hem
      have kgi := MS.c2 HM m2_
      go_upto_region 5 with (first | (go_at_call 56; (with_reducible refine (itvOf_as HIT.out).mono ?_); rintro e wk ⟨rfl, hb⟩; replace HM := MS.nx HM hb; clear hb; replace kgi := MS.c2 HM m2_))
      replace HM := MS.pi2 a b HM
      generalize World.setCell _ _ _ = wk at HM ⊢
      have sx0 := HSX.out
      replace kgr := MS.c3 HM m1_; replace kgi := MS.c2 HM m2_; replace kgl := MS.c5 HM m3_; replace kgo := MS.c3 HM m4_
      go_upto_region 7 with (first | (go_at_call 57; (with_reducible refine (itvNone_as HN.out).mono ?_); rintro e wk ⟨rfl, hb⟩; replace HM := MS.nx HM hb; clear hb; replace kgr := MS.c3 HM m1_; replace kgi := MS.c2 HM m2_; replace kgl := MS.c5 HM m3_; replace kgo := MS.c3 HM m4_) | (go_at_call 34; (with_reducible refine (itvHas_as HH.out).mono ?_); rintro e wk ⟨rfl, hb⟩; replace HM := MS.nx HM hb; clear hb; replace kgr := MS.c3 HM m1_; replace kgi := MS.c2 HM m2_; replace kgl := MS.c5 HM m3_; replace kgo := MS.c3 HM m4_))
      go_upto_region 8 with fail
      clear sx0
      replace kgc := MS.c3 HM m0_
      go_wp2
      replace HM := MS.po1 cv HM
      generalize World.setCell _ _ _ = wk at HM ⊢
      refine MS.rt HM m1_ ?_
      exact ⟨cv, rfl, HCV.out, HM.out.S.own _ m0_, HM.out.S.below⟩
    ·
     have HSX : Aside0 ((sx == 0) = false) := ⟨by simpa using hs⟩
     have HH : Aside0 (itvHas a b c = itvHas a b c) := ⟨rfl⟩
     rw [if_neg (fun h => h.elim hn (fun h => hs h.1)), if_neg hs]
     have hP := of_decide_eq_true hof'
     have hp : placeF X.v x = ((placeF X.v x).toNat : Int) := by have := hP.2.1; omega
     have hq : sy ≠ 0 → placeF X.v y = ((placeF X.v y).toNat : Int) := fun h => by have := hP.2.2; omega
     have hb : -1099511627776 ≤ c ∧ c ≤ 1099511627776 := ⟨hP.1.1, hP.1.2.1⟩
     have hsx : sx = 1 ∨ sx = -1 := by have := hP.1.2.2.2; omega
     have hsy : sy = 0 ∨ sy = 1 ∨ sy = -1 := by have := hP.1.2.2.2; omega
     have hft := hup (closeM (2 * X.v.length) (lowM X.v.length X.m)) _ _ (bupF b (-c)) (bupF (bnegF a) c) (Cld.of (snd_of_fit (by rw [he] at fx; exact fx)) hc) hof' hs hp hq
     generalize (placeF X.v x).toNat = p at hp hft ⊢
     generalize (placeF X.v y).toNat = q at hq hft ⊢
     obtain ⟨c', hc'⟩ : ∃ u, -c = u := ⟨_, rfl⟩
     obtain ⟨sx', hsx'⟩ : ∃ u, -sx = u := ⟨_, rfl⟩
     obtain ⟨sy', hsy'⟩ : ∃ u, -sy = u := ⟨_, rfl⟩
     rw [hc', hsx', hsy'] at hft ⊢
     have WC : Aside0 (IntKind.i64.wrap (-c) = c') := ⟨by rw [← hc']; unfold IntKind.wrap; simp [IntKind.bits, IntKind.signed]; omega⟩
     have WS : Aside0 (IntKind.i64.wrap (-sx) = sx') := ⟨by rw [← hsx']; unfold IntKind.wrap; simp [IntKind.bits, IntKind.signed]; omega⟩
     have WT : Aside0 (IntKind.i64.wrap (-sy) = sy') := ⟨by rw [← hsy']; unfold IntKind.wrap; simp [IntKind.bits, IntKind.signed]; omega⟩
     have HP := Aside0.mk hp
     have HQ := Aside0.mk hq
     have HQ' : Aside0 (sy' ≠ 0 → placeF X.v y = (q : Int)) := ⟨fun h => hq (by omega)⟩
     obtain ⟨u1, hu1⟩ : ∃ u, bupF b c' = u := ⟨_, rfl⟩
     obtain ⟨u2, hu2⟩ : ∃ u, bnegF a = u := ⟨_, rfl⟩
     obtain ⟨u3, hu3⟩ : ∃ u, bupF u2 c = u := ⟨_, rfl⟩
     rw [hu1, hu2, hu3] at hft ⊢
     have HU1 := Aside0.mk hu1
     have HU2 := Aside0.mk hu2
     have HU3 := Aside0.mk hu3
     have HFT := Aside0.mk hft
     clear hX h0 fx hcl hof hof' he hc hab hge hn hs hup hP hp hq hb hsx hsy hc' hsx' hsy' hu1 hu2 hu3 hft
     go_enter Try.func19, Try.ntmps19
     go_upto_region 1 with fail
     have HM := MS.n4 w X.cells (lC x sx y sy c) (iC lo hi) zeroO
     generalize World.alloc _ _ = wk at HM ⊢
     generalize w.heap.size + 3 = gr at HM ⊢
     generalize w.heap.size + 2 = gi at HM ⊢
     generalize w.heap.size + 1 = gl at HM ⊢
     generalize w.heap.size = go at HM ⊢
     have kgo := MS.c3 HM m3_
     go_upto_region 2 with (first | (go_at_call 51; (with_reducible refine (close_as (Oc.now HX (MS.bel HM)) (Below.refl _ _) rfl FX_.out HC.out).mono ?_); rintro e wk ⟨cv, rfl, hcv, ho, hb⟩; replace HM := MS.cl HM hb ho; clear ho hb; replace kgo := MS.c3 HM m3_) | ((with_reducible refine gate_dst (N := 7) rfl ?_); refine bx_ 7 #[.slice none 0 0, .slice none 0 0, .bool false] 25 ?_; intro gc hg wk hbox hb; replace HM := MS.md HM hg hbox hb; clear hg hbox hb; have kgc := MS.c3 HM m0_; replace kgo := MS.c3 HM m4_))
     replace HM := MS.po0 cv HM
     generalize World.setCell _ _ _ = wk at HM ⊢
     have HCV := Aside0.mk hcv; clear hcv
     have hem : cv.e = false := congrArg (·.2.2) HCV.out
     replace kgc := MS.c3 HM m0_; have kgr := MS.c3 HM m1_; have kgl := MS.c5 HM m3_; replace kgo := MS.c3 HM m4_
     go_upto_region 4 with (first | (go_at_call 55; (with_reducible refine (of_as (Oc.now HX (MS.bel HM)) (Below.refl _ _) LK.out HOF.out).mono ?_); rintro e wk ⟨rfl, hb⟩; replace HM := MS.nx HM hb; clear hb; replace kgc := MS.c3 HM m0_; replace kgr := MS.c3 HM m1_; replace kgl := MS.c5 HM m3_; replace kgo := MS.c3 HM m4_))
     clear hem
     have kgi := MS.c2 HM m2_
     go_upto_region 5 with (first | (go_at_call 56; (with_reducible refine (itvOf_as HIT.out).mono ?_); rintro e wk ⟨rfl, hb⟩; replace HM := MS.nx HM hb; clear hb; replace kgi := MS.c2 HM m2_))
     replace HM := MS.pi2 a b HM
     generalize World.setCell _ _ _ = wk at HM ⊢
     have sx0 := HSX.out
     replace kgr := MS.c3 HM m1_; replace kgi := MS.c2 HM m2_; replace kgl := MS.c5 HM m3_; replace kgo := MS.c3 HM m4_
     go_upto_region 7 with (first | (go_at_call 57; (with_reducible refine (itvNone_as HN.out).mono ?_); rintro e wk ⟨rfl, hb⟩; replace HM := MS.nx HM hb; clear hb; replace kgr := MS.c3 HM m1_; replace kgi := MS.c2 HM m2_; replace kgl := MS.c5 HM m3_; replace kgo := MS.c3 HM m4_) | (go_at_call 34; (with_reducible refine (itvHas_as HH.out).mono ?_); rintro e wk ⟨rfl, hb⟩; replace HM := MS.nx HM hb; clear hb; replace kgr := MS.c3 HM m1_; replace kgi := MS.c2 HM m2_; replace kgl := MS.c5 HM m3_; replace kgo := MS.c3 HM m4_))
     replace kgc := MS.c3 HM m0_
     go_upto_region 9 with fail
     clear sx0
     have wc := WC.out
     replace HM := MS.dr HM
     clear kgc kgi kgl kgo kgr
     refine st_ 17 (fun w' => oR gc cv w' ∧ w'.cell? ⟨gl, 1, none⟩ = some (.int .i64 sx) ∧ w'.cell? ⟨gl, 0, none⟩ = some (.int .i64 x) ∧ w'.cell? ⟨gl, 3, none⟩ = some (.int .i64 sy) ∧ w'.cell? ⟨gl, 2, none⟩ = some (.int .i64 y) ∧ w'.cell? ⟨gi, 1, none⟩ = some (.int .i64 b) ∧ w'.cell? ⟨gl, 4, none⟩ = some (.int .i64 c)) [16] ⟨kO HM m0_, MS.k HM m3_ 1 rfl, MS.k HM m3_ 0 rfl, MS.k HM m3_ 3 rfl, MS.k HM m3_ 2 rfl, MS.k HM m2_ 1 rfl, MS.k HM m3_ 4 rfl⟩ (fun hHeld => ?_)
     refine with_tabW guard_tab9 guard_bits9 (fun HT_ HW_ => ?_)
     generalize World.drew _ = wk at HM hHeld ⊢
     refine tV_ 0 45 (mB 17 1) HT_ HW_ hHeld ?_
     refine pV_ 1 46 (mB 17 3) HT_ ?_
     refine tV_ 2 47 (mB 17 7) HT_ HW_ hHeld ?_
     refine pV_ 3 48 (mB 17 15) HT_ ?_
     refine tV_ 4 49 (mB 17 31) HT_ HW_ hHeld ?_
     refine pV_ 5 50 (mB 17 63) HT_ ?_
     refine tV_ 6 51 (mB 17 127) HT_ HW_ hHeld ?_
     refine pV_ 7 52 (mB 17 255) HT_ ?_
     refine tV_ 8 53 (mB 17 511) HT_ HW_ hHeld ?_
     refine pV_ 9 54 (mB 17 1023) HT_ ?_
     refine tV_ 10 55 (mB 17 2047) HT_ HW_ hHeld ?_
     refine pV_ 11 56 (mB 17 4095) HT_ ?_
     refine tV_ 12 57 (mB 17 8191) HT_ HW_ hHeld ?_
     refine pV_ 13 58 (mB 17 16383) HT_ ?_
     refine on_ 14 (some 59) (mB 17 32767) HT_ (fun K hK => ?_)
     refine gs_ Try.func60 #[.int .i64 b, .int .i64 c'] ?_
     with_reducible refine sk_ (bup_as HU1.out) fun wk hb => ?_
     replace HM := MS.nx HM hb; clear hb
     refine hK.out _ _ ⟨kO HM m0_, MS.k HM m3_ 1 rfl, MS.k HM m3_ 0 rfl, MS.k HM m3_ 3 rfl, MS.k HM m3_ 2 rfl, MS.k HM m2_ 1 rfl, MS.k HM m3_ 4 rfl⟩ (fun hHeld => ?_)
     clear hK K
     refine nO_ 59 ?_
     refine on_ 15 (some 60) (mB 17 65535) HT_ (fun K hK => ?_)
     refine gs_ Try.func59 #[cv.val, .int .i64 sx, .int .i64 x, .int .i64 sy, .int .i64 y, .int .i64 u1] ?_
     with_reducible refine (upper_ms cv sx x sy y u1 (MS.oc HM m0_) (MS.bel HM) HCV.out L8.out HP.out HQ.out).mono ?_
     rintro e wk ⟨c1, rfl, hc1, ho, hb⟩; refine ⟨_, rfl, ?_⟩
     replace HM := Aside0.mk (ho _ _ _ HM.out); clear hb ho
     refine hK.out _ _ ⟨kO HM m0_, MS.k HM m3_ 1 rfl, MS.k HM m3_ 0 rfl, MS.k HM m3_ 3 rfl, MS.k HM m3_ 2 rfl, MS.k HM m2_ 1 rfl, MS.k HM m3_ 4 rfl⟩ (fun hHeld => ?_)
     clear hK K
     refine nO_ 60 ?_
     have kgc := MS.c3 HM m0_
     refine la_ 16 (mB 17 131071) HT_ (fun K hK => ?_)
     refine skip_ (w1 := ?_) (by rfl) rfl ?_ ?_
     rotate_left
     ·
      go_simp
      rfl
     refine hK.out _ _ ?_
     clear hK K
     refine dn_ HT_ ?_
     clear HT_ HW_ hHeld
     replace HM := MS.po0 c1 HM
     generalize World.setCell _ _ _ = wk at HM ⊢
     clear wc; have HC1 := Aside0.mk hc1; clear hc1
     have ws := WS.out; have wt := WT.out
     replace kgc := MS.c3 HM m0_; have kgr := MS.c3 HM m1_; have kgi := MS.c2 HM m2_; have kgl := MS.c5 HM m3_; have kgo := MS.c3 HM m4_
     go_upto_region 10 with fail
     replace HM := MS.dr HM
     clear kgc kgi kgl kgo kgr
     refine st_ 19 (fun w' => oR gc c1 w' ∧ w'.cell? ⟨gl, 1, none⟩ = some (.int .i64 sx) ∧ w'.cell? ⟨gl, 0, none⟩ = some (.int .i64 x) ∧ w'.cell? ⟨gl, 3, none⟩ = some (.int .i64 sy) ∧ w'.cell? ⟨gl, 2, none⟩ = some (.int .i64 y) ∧ w'.cell? ⟨gi, 0, none⟩ = some (.int .i64 a) ∧ w'.cell? ⟨gl, 4, none⟩ = some (.int .i64 c)) [18] ⟨kO HM m0_, MS.k HM m3_ 1 rfl, MS.k HM m3_ 0 rfl, MS.k HM m3_ 3 rfl, MS.k HM m3_ 2 rfl, MS.k HM m2_ 0 rfl, MS.k HM m3_ 4 rfl⟩ (fun hHeld => ?_)
     refine with_tabW guard_tab10 guard_bits10 (fun HT_ HW_ => ?_)
     generalize World.drew _ = wk at HM hHeld ⊢
     refine tV_ 0 61 (mB 19 1) HT_ HW_ hHeld ?_
     refine pV_ 1 62 (mB 19 3) HT_ ?_
     refine tV_ 2 63 (mB 19 7) HT_ HW_ hHeld ?_
     refine pV_ 3 64 (mB 19 15) HT_ ?_
     refine pV_ 4 65 (mB 19 31) HT_ ?_
     refine tV_ 5 66 (mB 19 63) HT_ HW_ hHeld ?_
     refine pV_ 6 67 (mB 19 127) HT_ ?_
     refine tV_ 7 68 (mB 19 255) HT_ HW_ hHeld ?_
     refine pV_ 8 69 (mB 19 511) HT_ ?_
     refine pV_ 9 70 (mB 19 1023) HT_ ?_
     refine tV_ 10 71 (mB 19 2047) HT_ HW_ hHeld ?_
     refine pV_ 11 72 (mB 19 4095) HT_ ?_
     refine tV_ 12 73 (mB 19 8191) HT_ HW_ hHeld ?_
     refine pV_ 14 75 (mB 19 24575) HT_ ?_
     refine tV_ 15 76 (mB 19 57343) HT_ HW_ hHeld ?_
     refine on_ 13 (some 74) (mB 19 65535) HT_ (fun K hK => ?_)
     refine gs_ Try.func61 #[.int .i64 a] ?_
     with_reducible refine sk_ (bneg_as HU2.out) fun wk hb => ?_
     replace HM := MS.nx HM hb; clear hb
     refine hK.out _ _ ⟨kO HM m0_, MS.k HM m3_ 1 rfl, MS.k HM m3_ 0 rfl, MS.k HM m3_ 3 rfl, MS.k HM m3_ 2 rfl, MS.k HM m2_ 0 rfl, MS.k HM m3_ 4 rfl⟩ (fun hHeld => ?_)
     clear hK K
     refine nO_ 74 ?_
     refine on_ 16 (some 77) (mB 19 131071) HT_ (fun K hK => ?_)
     refine gs_ Try.func60 #[.int .i64 u2, .int .i64 c] ?_
     with_reducible refine sk_ (bup_as HU3.out) fun wk hb => ?_
     replace HM := MS.nx HM hb; clear hb
     refine hK.out _ _ ⟨kO HM m0_, MS.k HM m3_ 1 rfl, MS.k HM m3_ 0 rfl, MS.k HM m3_ 3 rfl, MS.k HM m3_ 2 rfl, MS.k HM m2_ 0 rfl, MS.k HM m3_ 4 rfl⟩ (fun hHeld => ?_)
     clear hK K
     refine nO_ 77 ?_
     refine on_ 17 (some 78) (mB 19 262143) HT_ (fun K hK => ?_)
     refine gs_ Try.func59 #[c1.val, .int .i64 sx', .int .i64 x, .int .i64 sy', .int .i64 y, .int .i64 u3] ?_
     with_reducible refine (upper_ms c1 sx' x sy' y u3 (MS.oc HM m0_) (MS.bel HM) HC1.out L8.out HP.out HQ'.out).mono ?_
     rintro e wk ⟨c2, rfl, hc2, ho, hb⟩; refine ⟨_, rfl, ?_⟩
     replace HM := Aside0.mk (ho _ _ _ HM.out); clear hb ho
     refine hK.out _ _ ⟨kO HM m0_, MS.k HM m3_ 1 rfl, MS.k HM m3_ 0 rfl, MS.k HM m3_ 3 rfl, MS.k HM m3_ 2 rfl, MS.k HM m2_ 0 rfl, MS.k HM m3_ 4 rfl⟩ (fun hHeld => ?_)
     clear hK K
     refine nO_ 78 ?_
     have kgc := MS.c3 HM m0_
     refine la_ 18 (mB 19 524287) HT_ (fun K hK => ?_)
     refine skip_ (w1 := ?_) (by rfl) rfl ?_ ?_
     rotate_left
     ·
      go_simp
      rfl
     refine hK.out _ _ ?_
     clear hK K
     refine dn_ HT_ ?_
     clear HT_ HW_ hHeld
     replace HM := MS.po0 c2 HM
     generalize World.setCell _ _ _ = wk at HM ⊢
     clear ws wt; have HC2 := Aside0.mk hc2; clear hc2
     replace kgc := MS.c3 HM m0_; have kgr := MS.c3 HM m1_
     go_wp2_with (first | (go_at_call 51; (with_reducible refine (close_as (MS.oc HM m0_) (MS.bel HM) HC2.out HFT.out rfl).mono ?_); rintro e wk ⟨zv, rfl, hzv, ho, hb⟩; replace HM := MS.cl HM hb ho; clear ho hb; replace kgc := MS.c3 HM m0_; replace kgr := MS.c3 HM m1_))
     replace HM := MS.po1 zv HM
     generalize World.setCell _ _ _ = wk at HM ⊢
     refine MS.rt HM m1_ ?_
     exact ⟨zv, rfl, hzv, HM.out.S.own _ m0_, HM.out.S.below⟩
end Go.Proofs.Ytphfchbggechhaa.QO
end
end
section
noncomputable section
namespace Go.Proofs.Ytphfchbggechhaa.QO
open Go.RowKit Go.Shelf YtphfchbggechhaaW.PrintWords YtphfchbggechhaaW.PrintLast YtphfchbggechhaaW.PrintMore
attribute [local go_sem] Oper.semAt_some
attribute [local go_sem ↓] Go.wp_at_zero Go.wp_at_succ
set_option linter.unusedVariables false
set_option linter.unusedSimpArgs false
def fromF (s : Int) (k i : Nat) : Nat := if s < 0 ∧ i / 2 = k then nb i else i
def gainF (k : Nat) (d : Int) (i : Nat) : Int := if i = 2 * k then d else if i = 2 * k + 1 then -d else 0
theorem fromF_lt {s : Int} {k i n : Nat} (h : i < 2 * n) : fromF s k i < 2 * n := by unfold fromF; split <;> first | exact nb_lt h | exact h
theorem from_o (gs gk k i : Nat) (s : Int) {w : World} (hs : w.cell? ⟨gs, 0, none⟩ = some (.int .i64 s)) (hk : w.cell? ⟨gk, 0, none⟩ = some (.int .i64 (k : Int))) (hi : i < 16) : Calls Try.prog 109 #[.int .i64 (i : Int), .pointer (some ⟨gs, 0, none⟩), .pointer (some ⟨gk, 0, none⟩)] w fun e w' => e = .returned (.int .i64 ((fromF s k i : Nat) : Int)) ∧ w = w' := by
 have X_ := Aside0.mk (xor_nb hi)
 have w1 : IntKind.i64.wrap ((i : Int).tdiv 2) = ((i / 2 : Nat) : Int) := by
  rw [show (i : Int).tdiv 2 = ((i / 2 : Nat) : Int) from rfl]
  unfold IntKind.wrap; simp [IntKind.bits, IntKind.signed]; omega
 have w2 : wrap64 ((i : Int) / 2) = ((i / 2 : Nat) : Int) := by unfold wrap64; omega
 obtain ⟨a, ha⟩ : ∃ a : Int, ((i / 2 : Nat) : Int) = a := ⟨_, rfl⟩
 rw [ha] at w1 w2
 have HA := Aside0.mk ha
 have HI := Aside0.mk hi
 clear ha hi
 go_enter Try.func109, Try.ntmps109
 go_wp2
 all_goals go_ret
 all_goals refine ⟨congrArg (fun b => Ending.returned (.int .i64 b)) ?_, rfl⟩
 all_goals clear w1 w2
 all_goals try simp only [beq_iff_eq, beq_eq_false_iff_ne, ne_eq] at *
 all_goals have ha := HA.out
 all_goals have hi := HI.out
 all_goals have hx := X_.out
 all_goals clear HA HI X_
 all_goals unfold fromF
 all_goals first | (rw [if_pos (by omega)]; exact hx) | (rw [if_neg (by omega)])
theorem gain_o (gk gd k i : Nat) (d : Int) {w : World} (hk : w.cell? ⟨gk, 0, none⟩ = some (.int .i64 (k : Int))) (hd : w.cell? ⟨gd, 0, none⟩ = some (.int .i64 d)) (k8 : k ≤ 8) (db : -1099511627776 ≤ d ∧ d ≤ 1099511627776) : Calls Try.prog 110 #[.int .i64 (i : Int), .pointer (some ⟨gk, 0, none⟩), .pointer (some ⟨gd, 0, none⟩)] w fun e w' => e = .returned (.int .i64 (gainF k d i)) ∧ w = w' := by
 have K8 := Aside0.mk k8
 have d1 := db.1
 have d2 := db.2
 obtain ⟨kk, hkk⟩ : ∃ a : Int, (k : Int) = a := ⟨_, rfl⟩
 rw [hkk] at hk
 have k0 : 0 ≤ kk := by omega
 have k9 : kk ≤ 8 := by omega
 have HK := Aside0.mk hkk
 clear hkk k8 db
 go_enter Try.func110, Try.ntmps110
 go_wp2
 all_goals go_ret
 all_goals refine ⟨congrArg (fun b => Ending.returned (.int .i64 b)) ?_, rfl⟩
 all_goals have hkk := HK.out
 all_goals clear HK K8
 all_goals unfold gainF
 all_goals try simp only [beq_iff_eq, beq_eq_false_iff_ne, ne_eq] at *
 all_goals (repeat' split) <;> first | rfl | omega
end Go.Proofs.Ytphfchbggechhaa.QO
end
end
section
noncomputable section
namespace Go.Proofs.Ytphfchbggechhaa.QO
open Go.RowKit Go.Shelf YtphfchbggechhaaW.PrintWords YtphfchbggechhaaW.PrintLast YtphfchbggechhaaW.PrintMore
def CQ (L : List (Addr × Value)) (W : World) : Prop := ∀ p, p ∈ L → W.cell? p.1 = some p.2
theorem CQ.next {L : List (Addr × Value)} {W W' : World} (h : CQ L W) (hb : Below W.heap.size W W') : CQ L W' := fun p hp => (hb.cell (World.block_lt_of_cell? W _ (h p hp))).trans (h p hp)
theorem CQ.drew {L : List (Addr × Value)} {W : World} (h : CQ L W) : CQ L W.drew := fun p hp => h p hp
theorem CQ.at_ {L : List (Addr × Value)} {W : World} {a : Addr} {v : Value} (h : Aside0 (CQ L W)) (hp : (a, v) ∈ L) : W.cell? a = some v := h.out _ hp
theorem CQ.nil (W : World) : CQ [] W := fun _ h => absurd h List.not_mem_nil
theorem CQ.cons {L : List (Addr × Value)} {W : World} {a : Addr} {v : Value} (hc : W.cell? a = some v) (h : CQ L W) : CQ ((a, v) :: L) W := fun p hp => by
 cases hp with
 | head => exact hc
 | tail _ hp => exact h p hp
end Go.Proofs.Ytphfchbggechhaa.QO
end
end
section
noncomputable section
namespace Go.Proofs.Ytphfchbggechhaa.QO
open Go.RowKit Go.Shelf YtphfchbggechhaaW.PrintWords YtphfchbggechhaaW.PrintLast YtphfchbggechhaaW.PrintMore
open Ytphfchbggechhaa.Pure
attribute [local go_sem] Oper.semAt_some
attribute [local go_sem ↓] Go.wp_at_zero Go.wp_at_succ
set_option linter.unusedVariables false
set_option linter.unusedSimpArgs false
def mov3_T1 : Bool × List (List Nat × List Nat) := (true, [([], []), ([0], [0]), ([], []), ([], []), ([2, 3], [2, 3]), ([], []), ([4, 5], [4, 5]), ([], []), ([], []), ([7, 8, 4], [7, 8]), ([6, 9], [6, 9]), ([1, 10], [1, 10]), ([11], [11]), ([12, 9, 0, 1, 2, 3, 4, 5, 6, 7, 8, 9, 10, 11, 12], [12])])
def mov3_B1 : List Nat := [0, 1, 0, 0, 12, 0, 60, 0, 0, 412, 1020, 2047, 4095, 8191]
theorem mov3_tab1 : rtab .any (opsOf Try.f111 1) = mov3_T1 := by kernel_rfl
theorem mov3_bits1 : waitsOk mov3_T1.2 mov3_B1 = true := by kernel_rfl
def mov3_T4 : Bool × List (List Nat × List Nat) := (true, [([], []), ([], []), ([], []), ([1, 2], [1, 2]), ([0, 3], [0, 3]), ([], []), ([], []), ([5, 6, 3], [5, 6]), ([4, 7], [4, 7]), ([8, 7], [8]), ([9, 9, 0, 1, 2, 3, 4, 5, 6, 7, 8, 9], [9])])
def mov3_B4 : List Nat := [0, 0, 0, 6, 15, 0, 0, 110, 255, 511, 1023]
theorem mov3_tab4 : rtab .any (opsOf Try.f111 4) = mov3_T4 := by kernel_rfl
theorem mov3_bits4 : waitsOk mov3_T4.2 mov3_B4 = true := by kernel_rfl
theorem from_as (gs gk k i : Nat) (s : Int) {a : Nat} {w : World} (hs : w.cell? ⟨gs, 0, none⟩ = some (.int .i64 s)) (hk : w.cell? ⟨gk, 0, none⟩ = some (.int .i64 (k : Int))) (hi : i < 16) (ha : fromF s k i = a) : Calls Try.prog 109 (#[.int .i64 (i : Int)] ++ #[.pointer (some ⟨gs, 0, none⟩), .pointer (some ⟨gk, 0, none⟩)]) w fun e w' => e = .returned (.int .i64 (a : Int)) ∧ w = w' := by
 subst ha; exact from_o gs gk k i s hs hk hi
theorem gain_as (gk gd k i : Nat) (d : Int) {a : Int} {w : World} (hk : w.cell? ⟨gk, 0, none⟩ = some (.int .i64 (k : Int))) (hd : w.cell? ⟨gd, 0, none⟩ = some (.int .i64 d)) (k8 : k ≤ 8) (db : -1099511627776 ≤ d ∧ d ≤ 1099511627776) (ha : gainF k d i = a) : Calls Try.prog 110 (#[.int .i64 (i : Int)] ++ #[.pointer (some ⟨gk, 0, none⟩), .pointer (some ⟨gd, 0, none⟩)]) w fun e w' => e = .returned (.int .i64 a) ∧ w = w' := by
 subst ha; exact gain_o gk gd k i d hk hd k8 db
def movedG (s : Int) (k : Nat) (d : Int) (C : Mx) (i j : Nat) (e : Int) : Int := if C (fromF s k i) (fromF s k j) = 4611686018427387904 then 4611686018427387904 else clipV (C (fromF s k i) (fromF s k j) + gainF k d j - gainF k d i)
theorem gainF_bd {k : Nat} {d : Int} {i : Nat} (db : -1099511627776 ≤ d ∧ d ≤ 1099511627776) : -1099511627776 ≤ gainF k d i ∧ gainF k d i ≤ 1099511627776 := by unfold gainF; (repeat' split) <;> omega
theorem moved_will (gc gf gn gg gs gk gd k n : Nat) (s d : Int) (C : Mx) (X : OV) {w : World} (hc : w.cell? ⟨gc, 1, none⟩ = some (.slice X.Q X.m.length X.q)) (hr : Kd.C (Kd.int .i64) w X.Q X.m.length X.m) (hm : X.m = lst (2 * n) C)
 (hf : w.cell? ⟨gf, 0, none⟩ = some (.func (.func 109) #[] #[.pointer (some ⟨gs, 0, none⟩), .pointer (some ⟨gk, 0, none⟩)])) (hn : w.cell? ⟨gn, 0, none⟩ = some (.int .i64 ((2 * n : Nat) : Int))) (hg : w.cell? ⟨gg, 0, none⟩ = some (.func (.func 110) #[] #[.pointer (some ⟨gk, 0, none⟩), .pointer (some ⟨gd, 0, none⟩)]))
 (hs : w.cell? ⟨gs, 0, none⟩ = some (.int .i64 s)) (hk : w.cell? ⟨gk, 0, none⟩ = some (.int .i64 (k : Int))) (hd : w.cell? ⟨gd, 0, none⟩ = some (.int .i64 d)) (n8 : n ≤ 8) (k8 : k ≤ 8) (db : -1099511627776 ≤ d ∧ d ≤ 1099511627776) (hC : ∀ i j, i < 2 * n → j < 2 * n → OctMath.Fin' 1099511627776 (C i j)) :
 Will3 111 #[.pointer (some ⟨gc, 0, none⟩), .pointer (some ⟨gf, 0, none⟩), .pointer (some ⟨gn, 0, none⟩), .pointer (some ⟨gg, 0, none⟩)] (2 * n) (movedG s k d C) w := by
 intro W i j e0 hb hi hj
 have hu25 := Try.underlying25
 unfold movedG
 obtain ⟨A, eA⟩ : ∃ a, fromF s k i = a := ⟨_, rfl⟩
 obtain ⟨B, eB⟩ : ∃ a, fromF s k j = a := ⟨_, rfl⟩
 obtain ⟨N, eN⟩ : ∃ a, 2 * n = a := ⟨_, rfl⟩
 have lA : A < N := by rw [← eA, ← eN]; exact fromF_lt hi
 have lB : B < N := by rw [← eB, ← eN]; exact fromF_lt hj
 have N16 : N ≤ 16 := by omega
 obtain ⟨I, eI⟩ : ∃ I : Int, ((A * N + B : Nat) : Int) = I := ⟨_, rfl⟩
 have hlt : A * N + B < N * N := by
  have : A * N + N ≤ N * N := by rw [← Nat.succ_mul]; exact Nat.mul_le_mul_right _ lA
  omega
 have hNN : N * N ≤ 256 := Nat.le_trans (Nat.mul_le_mul N16 N16) (by decide)
 have hlm : X.m.length = N * N := by rw [hm, lst_length, eN]
 have p2 : 0 ≤ I := by omega
 have q2 : I < (X.m.length : Int) := by rw [hlm, ← eI]; exact_mod_cast hlt
 obtain ⟨ad, e0', hx⟩ := Kd.at_int hr I p2 q2
 have hval : rd X.m I = C A B := by rw [hm, eN, ← eI]; exact rd_lst lA lB
 rw [hval] at hx
 have hfin := hC A B (by rw [eN]; exact lA) (by rw [eN]; exact lB)
 rw [eA, eB]
 obtain ⟨e, he⟩ : ∃ e, C A B = e := ⟨_, rfl⟩
 rw [he] at hx hfin ⊢
 rw [e0'] at hc
 rw [eN] at hn
 obtain ⟨lm, elm⟩ : ∃ l, X.m.length = l := ⟨_, rfl⟩
 obtain ⟨cm, ecm⟩ : ∃ l, X.q = l := ⟨_, rfl⟩
 rw [elm, ecm] at hc
 rw [elm] at q2
 have HQ : Aside0 (CQ [(⟨gc, 1, none⟩, .slice (some ad) lm cm), (⟨gf, 0, none⟩, (.func (.func 109) #[] #[.pointer (some ⟨gs, 0, none⟩), .pointer (some ⟨gk, 0, none⟩)])), (⟨gn, 0, none⟩, .int .i64 (N : Int)), (⟨gg, 0, none⟩, (.func (.func 110) #[] #[.pointer (some ⟨gk, 0, none⟩), .pointer (some ⟨gd, 0, none⟩)])), (⟨gs, 0, none⟩, .int .i64 s), (⟨gk, 0, none⟩, .int .i64 (k : Int)), (⟨gd, 0, none⟩, .int .i64 d), (ad.add I.toNat, .int .i64 e)] W) := ⟨(CQ.cons hc (CQ.cons hf (CQ.cons hn (CQ.cons hg (CQ.cons hs (CQ.cons hk (CQ.cons hd (CQ.cons hx (CQ.nil w))))))))).next hb⟩
 have f1 : IntKind.i64.wrap ((A : Int) * (N : Int)) = ((A * N : Nat) : Int) := by rw [IntKind.wrap_i64]; push_cast; omega
 have f2 : IntKind.i64.wrap (((A * N : Nat) : Int) + (B : Int)) = I := by rw [IntKind.wrap_i64, ← eI]; push_cast; omega
 obtain ⟨P, eP⟩ : ∃ P : Int, ((A * N : Nat) : Int) = P := ⟨_, rfl⟩
 rw [eP] at f1 f2
 replace p2 := eq_true p2
 replace q2 := eq_true q2
 have HA := Aside0.mk eA
 have HB_ := Aside0.mk eB
 have HI : Aside0 (i < 16) := ⟨by omega⟩
 have HJ : Aside0 (j < 16) := ⟨by omega⟩
 have HB := Aside0.mk (Below.refl W.heap.size W)
 by_cases hE : e = 4611686018427387904
 ·
  rw [if_pos hE]
  have HE : Aside0 ((e == 4611686018427387904) = true) := ⟨by simpa using hE⟩
  have HEQ := Aside0.mk hE
  clear hc hr hm hf hn hg hs hk hd n8 k8 db hC hb hi hj eN lA lB N16 hlt hNN hlm hx hval hfin he e0' elm ecm eP eI eA eB hE
  go_enter Try.func111, Try.ntmps111
  go_upto_region 1 with fail
  have n_ := Aside0.mk (HQ.out.drew); clear HQ; have HQ := n_; clear n_
  have n_ := Aside0.mk (below_drew HB.out); clear HB; have HB := n_; clear n_
  refine st_ 14 (fun w' => w'.cell? ⟨gc, 1, none⟩ = some (.slice (some ad) lm cm) ∧ w'.cell? ⟨gf, 0, none⟩ = some (.func (.func 109) #[] #[.pointer (some ⟨gs, 0, none⟩), .pointer (some ⟨gk, 0, none⟩)]) ∧ w'.cell? ⟨gn, 0, none⟩ = some (.int .i64 (N : Int)) ∧ w'.cell? (ad.add I.toNat) = some (.int .i64 e)) [] ⟨CQ.at_ HQ m0_, CQ.at_ HQ m1_, CQ.at_ HQ m2_, CQ.at_ HQ m7_⟩ (fun hHeld => ?_)
  refine with_tabW mov3_tab1 mov3_bits1 (fun HT_ HW_ => ?_)
  generalize World.drew _ = wk at HQ HB hHeld ⊢
  refine pV_ 0 12 (mB 14 1) HT_ ?_
  refine tV_ 1 13 (mB 14 3) HT_ HW_ hHeld ?_
  refine tV_ 2 14 (mB 14 7) HT_ HW_ hHeld ?_
  refine pV_ 3 15 (mB 14 15) HT_ ?_
  refine tV_ 5 17 (mB 14 47) HT_ HW_ hHeld ?_
  refine tV_ 7 19 (mB 14 175) HT_ HW_ hHeld ?_
  refine pV_ 8 20 (mB 14 431) HT_ ?_
  refine on_ 4 (some 16) (mB 14 447) HT_ (fun K hK => ?_)
  refine goesF_ (t := 14) (lb := #[.pointer (some ⟨gs, 0, none⟩), .pointer (some ⟨gk, 0, none⟩)]) #[.int .i64 (i : Int)] (rfl) (by rfl) rfl rfl rfl vL ?_
  with_reducible refine (from_as gs gk k i s (CQ.at_ HQ m4_) (CQ.at_ HQ m5_) HI.out HA.out).mono ?_
  rintro e w_ ⟨rfl, rfl⟩; refine ⟨_, rfl, ?_⟩
  refine hK.out _ _ ⟨CQ.at_ HQ m0_, CQ.at_ HQ m1_, CQ.at_ HQ m2_, CQ.at_ HQ m7_⟩ (fun hHeld => ?_)
  clear hK K
  refine nO_ 16 ?_
  refine pV_ 6 18 (mB 14 511) HT_ ?_
  refine on_ 9 (some 21) (mB 14 1023) HT_ (fun K hK => ?_)
  refine goesF_ (t := 19) (lb := #[.pointer (some ⟨gs, 0, none⟩), .pointer (some ⟨gk, 0, none⟩)]) #[.int .i64 (j : Int)] (rfl) (by rfl) rfl rfl rfl vL ?_
  with_reducible refine (from_as gs gk k j s (CQ.at_ HQ m4_) (CQ.at_ HQ m5_) HJ.out HB_.out).mono ?_
  rintro e w_ ⟨rfl, rfl⟩; refine ⟨_, rfl, ?_⟩
  refine hK.out _ _ ⟨CQ.at_ HQ m0_, CQ.at_ HQ m1_, CQ.at_ HQ m2_, CQ.at_ HQ m7_⟩ (fun hHeld => ?_)
  clear hK K
  refine nO_ 21 ?_
  refine pV_ 10 22 (mB 14 2047) HT_ ?_
  refine pV_ 11 23 (mB 14 4095) HT_ ?_
  refine tV_ 12 24 (mB 14 8191) HT_ HW_ hHeld ?_
  refine pV_ 13 11 (mB 14 16383) HT_ ?_
  refine dn_ HT_ ?_
  clear HT_ HW_ hHeld
  clear f1 f2 p2 q2
  have ei := HE.out
  go_wp2
  go_ret
  exact ⟨congrArg (fun b => Ending.returned (.int .i64 b)) HEQ.out, HB.out⟩
 ·
  rw [if_neg hE]
  have HE : Aside0 ((e == 4611686018427387904) = false) := ⟨by simpa using hE⟩
  obtain ⟨gj, egj⟩ : ∃ u, gainF k d j = u := ⟨_, rfl⟩
  obtain ⟨gi, egi⟩ : ∃ u, gainF k d i = u := ⟨_, rfl⟩
  have b1 := gainF_bd (k := k) (i := j) db
  have b2 := gainF_bd (k := k) (i := i) db
  rw [egj] at b1
  rw [egi] at b2
  rw [egj, egi]
  have GJ := Aside0.mk egj
  have GI := Aside0.mk egi
  have K8 := Aside0.mk k8
  have DB := Aside0.mk db
  have hfe : -1099511627776 ≤ e ∧ e ≤ 1099511627776 := by rcases hfin with h | h; exact absurd h hE; exact h
  obtain ⟨u1, eu1⟩ : ∃ u, e + gj = u := ⟨_, rfl⟩
  obtain ⟨u2, eu2⟩ : ∃ u, u1 - gi = u := ⟨_, rfl⟩
  have G1 : Aside0 (IntKind.i64.wrap (e + gj) = u1 ∧ wrap64 (e + gj) = u1) := ⟨by rw [IntKind.wrap_i64]; omega, by unfold wrap64; omega⟩
  have G2 : Aside0 (IntKind.i64.wrap (u1 - gi) = u2 ∧ wrap64 (u1 - gi) = u2) := ⟨by rw [IntKind.wrap_i64]; omega, by unfold wrap64; omega⟩
  rw [eu1, eu2]
  obtain ⟨t, ht⟩ : ∃ t, clipV u2 = t := ⟨_, rfl⟩
  rw [ht]
  have HT := Aside0.mk ht
  clear hc hr hm hf hn hg hs hk hd n8 k8 db hC hb hi hj eN lA lB N16 hlt hNN hlm hx hval hfin he e0' elm ecm eP eI eA eB hE egj egi b1 b2 hfe eu1 eu2 ht
  go_enter Try.func111, Try.ntmps111
  go_upto_region 1 with fail
  have n_ := Aside0.mk (HQ.out.drew); clear HQ; have HQ := n_; clear n_
  have n_ := Aside0.mk (below_drew HB.out); clear HB; have HB := n_; clear n_
  refine st_ 14 (fun w' => w'.cell? ⟨gc, 1, none⟩ = some (.slice (some ad) lm cm) ∧ w'.cell? ⟨gf, 0, none⟩ = some (.func (.func 109) #[] #[.pointer (some ⟨gs, 0, none⟩), .pointer (some ⟨gk, 0, none⟩)]) ∧ w'.cell? ⟨gn, 0, none⟩ = some (.int .i64 (N : Int)) ∧ w'.cell? (ad.add I.toNat) = some (.int .i64 e)) [] ⟨CQ.at_ HQ m0_, CQ.at_ HQ m1_, CQ.at_ HQ m2_, CQ.at_ HQ m7_⟩ (fun hHeld => ?_)
  refine with_tabW mov3_tab1 mov3_bits1 (fun HT_ HW_ => ?_)
  generalize World.drew _ = wk at HQ HB hHeld ⊢
  refine pV_ 0 12 (mB 14 1) HT_ ?_
  refine tV_ 1 13 (mB 14 3) HT_ HW_ hHeld ?_
  refine tV_ 2 14 (mB 14 7) HT_ HW_ hHeld ?_
  refine pV_ 3 15 (mB 14 15) HT_ ?_
  refine tV_ 5 17 (mB 14 47) HT_ HW_ hHeld ?_
  refine tV_ 7 19 (mB 14 175) HT_ HW_ hHeld ?_
  refine pV_ 8 20 (mB 14 431) HT_ ?_
  refine on_ 4 (some 16) (mB 14 447) HT_ (fun K hK => ?_)
  refine goesF_ (t := 14) (lb := #[.pointer (some ⟨gs, 0, none⟩), .pointer (some ⟨gk, 0, none⟩)]) #[.int .i64 (i : Int)] (rfl) (by rfl) rfl rfl rfl vL ?_
  with_reducible refine (from_as gs gk k i s (CQ.at_ HQ m4_) (CQ.at_ HQ m5_) HI.out HA.out).mono ?_
  rintro e w_ ⟨rfl, rfl⟩; refine ⟨_, rfl, ?_⟩
  refine hK.out _ _ ⟨CQ.at_ HQ m0_, CQ.at_ HQ m1_, CQ.at_ HQ m2_, CQ.at_ HQ m7_⟩ (fun hHeld => ?_)
  clear hK K
  refine nO_ 16 ?_
  refine pV_ 6 18 (mB 14 511) HT_ ?_
  refine on_ 9 (some 21) (mB 14 1023) HT_ (fun K hK => ?_)
  refine goesF_ (t := 19) (lb := #[.pointer (some ⟨gs, 0, none⟩), .pointer (some ⟨gk, 0, none⟩)]) #[.int .i64 (j : Int)] (rfl) (by rfl) rfl rfl rfl vL ?_
  with_reducible refine (from_as gs gk k j s (CQ.at_ HQ m4_) (CQ.at_ HQ m5_) HJ.out HB_.out).mono ?_
  rintro e w_ ⟨rfl, rfl⟩; refine ⟨_, rfl, ?_⟩
  refine hK.out _ _ ⟨CQ.at_ HQ m0_, CQ.at_ HQ m1_, CQ.at_ HQ m2_, CQ.at_ HQ m7_⟩ (fun hHeld => ?_)
  clear hK K
  refine nO_ 21 ?_
  refine pV_ 10 22 (mB 14 2047) HT_ ?_
  refine pV_ 11 23 (mB 14 4095) HT_ ?_
  refine tV_ 12 24 (mB 14 8191) HT_ HW_ hHeld ?_
  refine pV_ 13 11 (mB 14 16383) HT_ ?_
  refine dn_ HT_ ?_
  clear HT_ HW_ hHeld
  clear f1 f2 p2 q2
  have ei := HE.out
  go_upto_region 4 with fail
  clear ei; obtain ⟨g1, g1'⟩ := G1.out; obtain ⟨g2, g2'⟩ := G2.out
  have n_ := Aside0.mk (HQ.out.drew); clear HQ; have HQ := n_; clear n_
  have n_ := Aside0.mk (below_drew HB.out); clear HB; have HB := n_; clear n_
  refine st_ 11 (fun w' => w'.cell? ⟨gg, 0, none⟩ = some (.func (.func 110) #[] #[.pointer (some ⟨gk, 0, none⟩), .pointer (some ⟨gd, 0, none⟩)])) [] (CQ.at_ HQ m3_) (fun hHeld => ?_)
  refine with_tabW mov3_tab4 mov3_bits4 (fun HT_ HW_ => ?_)
  generalize World.drew _ = wk at HQ HB hHeld ⊢
  refine pV_ 0 28 (mB 11 1) HT_ ?_
  refine tV_ 1 29 (mB 11 3) HT_ HW_ hHeld ?_
  refine pV_ 2 30 (mB 11 7) HT_ ?_
  refine tV_ 5 33 (mB 11 39) HT_ HW_ hHeld ?_
  refine pV_ 6 34 (mB 11 103) HT_ ?_
  refine on_ 3 (some 31) (mB 11 111) HT_ (fun K hK => ?_)
  refine goesF_ (t := 29) (lb := #[.pointer (some ⟨gk, 0, none⟩), .pointer (some ⟨gd, 0, none⟩)]) #[.int .i64 (j : Int)] (rfl) (by rfl) rfl rfl rfl vL ?_
  with_reducible refine (gain_as gk gd k j d (CQ.at_ HQ m5_) (CQ.at_ HQ m6_) K8.out DB.out GJ.out).mono ?_
  rintro e w_ ⟨rfl, rfl⟩; refine ⟨_, rfl, ?_⟩
  refine hK.out _ _ (CQ.at_ HQ m3_) (fun hHeld => ?_)
  clear hK K
  refine nO_ 31 ?_
  refine pV_ 4 32 (mB 11 127) HT_ ?_
  refine on_ 7 (some 35) (mB 11 255) HT_ (fun K hK => ?_)
  refine goesF_ (t := 33) (lb := #[.pointer (some ⟨gk, 0, none⟩), .pointer (some ⟨gd, 0, none⟩)]) #[.int .i64 (i : Int)] (rfl) (by rfl) rfl rfl rfl vL ?_
  with_reducible refine (gain_as gk gd k i d (CQ.at_ HQ m5_) (CQ.at_ HQ m6_) K8.out DB.out GI.out).mono ?_
  rintro e w_ ⟨rfl, rfl⟩; refine ⟨_, rfl, ?_⟩
  refine hK.out _ _ (CQ.at_ HQ m3_) (fun hHeld => ?_)
  clear hK K
  refine nO_ 35 ?_
  refine pV_ 8 36 (mB 11 511) HT_ ?_
  refine on_ 9 (some 37) (mB 11 1023) HT_ (fun K hK => ?_)
  refine gs_ Try.func102 #[.int .i64 u2] ?_
  with_reducible refine (taken_as HT.out).mono ?_
  rintro e wk ⟨rfl, hb⟩; refine ⟨_, rfl, ?_⟩
  have n_ := Aside0.mk (HQ.out.next hb); clear HQ; have HQ := n_; clear n_
  have n_ := Aside0.mk (HB.out.trans (Below.mono hb HB.out.size)); clear HB; have HB := n_; clear n_
  clear hb
  refine hK.out _ _ (CQ.at_ HQ m3_) (fun hHeld => ?_)
  clear hK K
  refine nO_ 37 ?_
  refine pV_ 10 10 (mB 11 2047) HT_ ?_
  refine dn_ HT_ ?_
  clear HT_ HW_ hHeld
  go_wp2
  go_ret
  exact ⟨rfl, HB.out⟩
def movM (C : Mx) (s : Int) (k : Nat) (d : Int) : Mx := fun i j => if i = j then C i j else movedG s k d C i j (C i j)
theorem moved_own (X : OV) (k : Nat) (s d : Int) {v : List Int} {C : Mx} {w0 w : World} (hX : Oc w0 w X) (h0 : Below w0.heap.size w0 w) (ho : X.o = (v, lst (2 * v.length) C, false)) (l8 : v.length ≤ 8) (k8 : k ≤ 8) (db : -1099511627776 ≤ d ∧ d ≤ 1099511627776) (hC : ∀ i j, i < 2 * v.length → j < 2 * v.length → OctMath.Fin' 1099511627776 (C i j)) :
 Calls Try.prog 69 #[X.val, .int .i64 (k : Int), .int .i64 s, .int .i64 d] w fun e W' => ∃ z : OV, e = .returned z.val ∧ z.o = (v, lst (2 * v.length) (movM C s k d), false) ∧ Own w W' z ∧ Below w.heap.size w W' := by
 have hu25 := Try.underlying25
 have HX : Aside0 (Oc w w X) := ⟨⟨⟨hX.r0.le, .inl (hX.r0.reads h0)⟩, ⟨hX.r1.le, .inl (hX.r1.reads h0)⟩⟩⟩
 have L8 := Aside0.mk l8
 have K8 := Aside0.mk k8
 have DB := Aside0.mk db
 have HC := Aside0.mk hC
 have HO := Aside0.mk ho
 have e1 : X.v = v := congrArg Prod.fst ho
 have HXM : Aside0 (X.m = lst (2 * v.length) C) := ⟨congrArg (·.2.1) ho⟩
 obtain ⟨N, eN⟩ : ∃ N, 2 * v.length = N := ⟨_, rfl⟩
 have HNN := Aside0.mk eN
 have HN : Aside0 (IntKind.i64.wrap (2 * (X.v.length : Int)) = (N : Int) ∧ wrap64 (2 * (X.v.length : Int)) = (N : Int)) := ⟨by rw [e1, IntKind.wrap_i64]; omega, by rw [e1]; unfold wrap64; omega⟩
 clear hX h0 ho l8 k8 db hC e1 eN
 go_enter Try.func69, Try.ntmps69
 go_upto_region 1 with fail
 have HM : Aside0 (MS w [] [(w.heap.size + 4, zeroO), (w.heap.size + 3, .cells #[.int .i64 d] 2 (0, 0)), (w.heap.size + 2, .cells #[.int .i64 s] 3 (0, 0)), (w.heap.size + 1, .cells #[.int .i64 (k : Int)] 3 (0, 0)), (w.heap.size, X.cells)] (((((w.alloc (X.cells)).alloc (.cells #[.int .i64 (k : Int)] 3 (0, 0))).alloc (.cells #[.int .i64 s] 3 (0, 0))).alloc (.cells #[.int .i64 d] 2 (0, 0))).alloc (zeroO))) := ⟨(MS.new (MS.new (MS.new (MS.new (MS.new (MS.nil w) _ rfl) _ (by simp)) _ (by simp)) _ (by simp)) _ (by simp))⟩
 generalize (((((w.alloc (X.cells)).alloc (.cells #[.int .i64 (k : Int)] 3 (0, 0))).alloc (.cells #[.int .i64 s] 3 (0, 0))).alloc (.cells #[.int .i64 d] 2 (0, 0))).alloc (zeroO)) = wk at HM ⊢
 generalize w.heap.size + 4 = gr at HM ⊢
 generalize w.heap.size + 3 = gd at HM ⊢
 generalize w.heap.size + 2 = gs at HM ⊢
 generalize w.heap.size + 1 = gk at HM ⊢
 generalize w.heap.size = gc at HM ⊢
 have kgr := MS.c3 HM m0_; have kgd := MS.c1 HM m1_; have kgs := MS.c1 HM m2_; have kgk := MS.c1 HM m3_; have kgc := MS.c3 HM m4_
 obtain ⟨n1, n2⟩ := HN.out
 go_upto_region 2 with (first | ((with_reducible refine gate_dst (N := 9) rfl ?_); refine bx_ 9 #[.int .i64 0] 3 ?_; intro gn hg wk hbox hb; replace HM := MS.md HM hg hbox hb; clear hg hbox hb; have kgn := MS.c1 HM m0_; replace kgr := MS.c3 HM m1_; replace kgd := MS.c1 HM m2_; replace kgs := MS.c1 HM m3_; replace kgk := MS.c1 HM m4_; replace kgc := MS.c3 HM m5_))
 clear n1 n2
 replace HM := MS.pv0 (.int .i64 (N : Int)) HM
 generalize World.setCell _ _ _ = wk at HM ⊢
 replace kgn := MS.c1 HM m0_; replace kgr := MS.c3 HM m1_; replace kgd := MS.c1 HM m2_; replace kgs := MS.c1 HM m3_; replace kgk := MS.c1 HM m4_; replace kgc := MS.c3 HM m5_
 go_upto_region 3 with (first | ((with_reducible refine gate_dst (N := 10) rfl ?_); refine bx_ 10 #[.nilFunc] 63 ?_; intro gf hg wk hbox hb; replace HM := MS.md HM hg hbox hb; clear hg hbox hb; have kgf := MS.c1 HM m0_; replace kgn := MS.c1 HM m1_; replace kgr := MS.c3 HM m2_; replace kgd := MS.c1 HM m3_; replace kgs := MS.c1 HM m4_; replace kgk := MS.c1 HM m5_; replace kgc := MS.c3 HM m6_))
 replace HM := MS.pv0 ((.func (.func 109) #[] #[.pointer (some ⟨gs, 0, none⟩), .pointer (some ⟨gk, 0, none⟩)])) HM
 generalize World.setCell _ _ _ = wk at HM ⊢
 replace kgf := MS.c1 HM m0_; replace kgn := MS.c1 HM m1_; replace kgr := MS.c3 HM m2_; replace kgd := MS.c1 HM m3_; replace kgs := MS.c1 HM m4_; replace kgk := MS.c1 HM m5_; replace kgc := MS.c3 HM m6_
 go_upto_region 4 with (first | ((with_reducible refine gate_dst (N := 11) rfl ?_); refine bx_ 11 #[.nilFunc] 81 ?_; intro gg hg wk hbox hb; replace HM := MS.md HM hg hbox hb; clear hg hbox hb; have kgg := MS.c1 HM m0_; replace kgf := MS.c1 HM m1_; replace kgn := MS.c1 HM m2_; replace kgr := MS.c3 HM m3_; replace kgd := MS.c1 HM m4_; replace kgs := MS.c1 HM m5_; replace kgk := MS.c1 HM m6_; replace kgc := MS.c3 HM m7_))
 replace HM := MS.pv0 ((.func (.func 110) #[] #[.pointer (some ⟨gk, 0, none⟩), .pointer (some ⟨gd, 0, none⟩)])) HM
 generalize World.setCell _ _ _ = wk at HM ⊢
 replace kgg := MS.c1 HM m0_; replace kgf := MS.c1 HM m1_; replace kgn := MS.c1 HM m2_; replace kgr := MS.c3 HM m3_; replace kgd := MS.c1 HM m4_; replace kgs := MS.c1 HM m5_; replace kgk := MS.c1 HM m6_; replace kgc := MS.c3 HM m7_
 have HW : Aside0 (Will3 111 #[.pointer (some ⟨gc, 0, none⟩), .pointer (some ⟨gf, 0, none⟩), .pointer (some ⟨gn, 0, none⟩), .pointer (some ⟨gg, 0, none⟩)] (2 * v.length) (movedG s k d C) wk) := ⟨moved_will gc gf gn gg gs gk gd k _ s d C X (MS.k HM m7_ 1 rfl) ((HX.out.next HM.out.S.below).r1.reads HM.out.S.below) HXM.out (MS.k HM m1_ 0 rfl) (by rw [HNN.out]; exact (MS.k HM m2_ 0 rfl)) (MS.k HM m0_ 0 rfl) (MS.k HM m5_ 0 rfl) (MS.k HM m6_ 0 rfl) (MS.k HM m4_ 0 rfl) L8.out K8.out DB.out HC.out⟩
 go_wp2_with (first | (go_at_call 53; (with_reducible refine (each_as _ _ (fun _ _ => rfl) (Oc.now HX (MS.bel HM)) (Below.refl _ _) HO.out L8.out HW.out rfl).mono ?_); rintro e wk ⟨zv, rfl, hzv, ho, hb⟩; replace HM := MS.cl HM hb ho; clear ho hb; replace kgg := MS.c1 HM m0_; replace kgf := MS.c1 HM m1_; replace kgn := MS.c1 HM m2_; replace kgr := MS.c3 HM m3_; replace kgd := MS.c1 HM m4_; replace kgs := MS.c1 HM m5_; replace kgk := MS.c1 HM m6_; replace kgc := MS.c3 HM m7_))
 replace HM := MS.po3 zv HM
 generalize World.setCell _ _ _ = wk at HM ⊢
 replace kgg := MS.c1 HM m0_; replace kgf := MS.c1 HM m1_; replace kgn := MS.c1 HM m2_; replace kgr := MS.c3 HM m3_; replace kgd := MS.c1 HM m4_; replace kgs := MS.c1 HM m5_; replace kgk := MS.c1 HM m6_; replace kgc := MS.c3 HM m7_
 refine MS.rt HM m3_ ?_
 exact ⟨zv, rfl, hzv, HM.out.S.own _ m0_, HM.out.S.below⟩
theorem forget_own (X : OV) (x : Int) {w0 w : World} (hX : Oc w0 w X) (h0 : Below w0.heap.size w0 w) (fx : OFit X.v X.m X.e) : Calls Try.prog 15 #[X.val, .int .i64 x] w fun e W' => ∃ z : OV, e = .returned z.val ∧ z.o = forgetF X.v X.m X.e x ∧ Own w W' z ∧ Below w.heap.size w W' := by
 have hu25 := Try.underlying25
 have HX : Aside0 (Oc w w X) := ⟨⟨⟨hX.r0.le, .inl (hX.r0.reads h0)⟩, ⟨hX.r1.le, .inl (hX.r1.reads h0)⟩⟩⟩
 have FX_ := Aside0.mk fx
 have L8 : Aside0 (X.v.length ≤ 8) := ⟨fx.1.1⟩
 have LK : Aside0 (X.v.length ≤ 1000) := ⟨by have := fx.1.1; omega⟩
 rcases close_cases fx with ⟨hcl, _⟩ | ⟨he, hc, hcl⟩
 ·
  obtain ⟨p, hp⟩ : ∃ p, placeF X.v x = p := ⟨_, rfl⟩
  have hfe := forgetF_bot (x := x) hcl
  have HC := Aside0.mk hcl
  have HP := Aside0.mk hp
  rw [hfe]
  have HFE := Aside0.mk hfe
  clear hX h0 fx hcl hp hfe
  go_enter Try.func15, Try.ntmps15
  go_upto_region 1 with fail
  have HM := MS.n2 w X.cells zeroO
  generalize World.alloc _ _ = wk at HM ⊢
  generalize w.heap.size + 1 = gr at HM ⊢
  generalize w.heap.size = go at HM ⊢
  have kgr := MS.c3 HM m0_; have kgo := MS.c3 HM m1_
  go_upto_region 2 with (first | (go_at_call 51; (with_reducible refine (close_as (Oc.now HX (MS.bel HM)) (Below.refl _ _) rfl FX_.out HC.out).mono ?_); rintro e wk ⟨cv, rfl, hcv, ho, hb⟩; replace HM := MS.cl HM hb ho; clear ho hb; replace kgr := MS.c3 HM m0_; replace kgo := MS.c3 HM m1_) | ((with_reducible refine gate_dst (N := 5) rfl ?_); refine bx_ 5 #[.slice none 0 0, .slice none 0 0, .bool false] 25 ?_; intro g5 hg wk hbox hb; replace HM := MS.md HM hg hbox hb; clear hg hbox hb; have kg5 := MS.c3 HM m0_; replace kgr := MS.c3 HM m1_; replace kgo := MS.c3 HM m2_))
  replace HM := MS.po0 cv HM
  generalize World.setCell _ _ _ = wk at HM ⊢
  replace kg5 := MS.c3 HM m0_; replace kgr := MS.c3 HM m1_; replace kgo := MS.c3 HM m2_
  have HCV := Aside0.mk hcv; clear hcv
  go_upto_region 3 with (first | (go_at_call 52; (with_reducible refine (place_as (MS.oc HM m0_) (MS.bel HM) HCV.out LK.out x HP.out).mono ?_); rintro e wk ⟨rfl, hb⟩; replace HM := MS.nx HM hb; clear hb; replace kg5 := MS.c3 HM m0_; replace kgr := MS.c3 HM m1_; replace kgo := MS.c3 HM m2_) | ((with_reducible refine gate_dst (N := 6) rfl ?_); refine bx_ 6 #[.int .i64 0] 3 ?_; intro g6 hg wk hbox hb; replace HM := MS.md HM hg hbox hb; clear hg hbox hb; have kg6 := MS.c1 HM m0_; replace kg5 := MS.c3 HM m1_; replace kgr := MS.c3 HM m2_; replace kgo := MS.c3 HM m3_))
  replace HM := MS.pv0 (.int .i64 p) HM
  generalize World.setCell _ _ _ = wk at HM ⊢
  replace kg6 := MS.c1 HM m0_; replace kg5 := MS.c3 HM m1_; replace kgr := MS.c3 HM m2_; replace kgo := MS.c3 HM m3_
  have hem : cv.e = true := congrArg (·.2.2) HCV.out
  go_upto_region 4 with fail
  clear hem
  go_wp2
  replace HM := MS.po2 cv HM
  generalize World.setCell _ _ _ = wk at HM ⊢
  replace kg6 := MS.c1 HM m0_; replace kg5 := MS.c3 HM m1_; replace kgr := MS.c3 HM m2_; replace kgo := MS.c3 HM m3_
  refine MS.rt HM m2_ ?_
  exact ⟨cv, rfl, HCV.out.trans rfl, HM.out.S.own _ m0_, HM.out.S.below⟩
 ·
  rcases placeF_cases X.v x with ⟨p, hp1, hp2, _, _⟩ | ⟨hp2, _⟩
  ·
   have hfe := forgetF_at (m := X.m) (e := X.e) (x := x) (by rw [hcl]) hp2
   have HC := Aside0.mk hcl
   have HP := Aside0.mk hp2
   rw [hfe]
   clear hX h0 fx hcl hp1 hp2 hfe hc he
   go_enter Try.func15, Try.ntmps15
   go_upto_region 1 with fail
   have HM := MS.n2 w X.cells zeroO
   generalize World.alloc _ _ = wk at HM ⊢
   generalize w.heap.size + 1 = gr at HM ⊢
   generalize w.heap.size = go at HM ⊢
   have kgr := MS.c3 HM m0_; have kgo := MS.c3 HM m1_
   go_upto_region 2 with (first | (go_at_call 51; (with_reducible refine (close_as (Oc.now HX (MS.bel HM)) (Below.refl _ _) rfl FX_.out HC.out).mono ?_); rintro e wk ⟨cv, rfl, hcv, ho, hb⟩; replace HM := MS.cl HM hb ho; clear ho hb; replace kgr := MS.c3 HM m0_; replace kgo := MS.c3 HM m1_) | ((with_reducible refine gate_dst (N := 5) rfl ?_); refine bx_ 5 #[.slice none 0 0, .slice none 0 0, .bool false] 25 ?_; intro g5 hg wk hbox hb; replace HM := MS.md HM hg hbox hb; clear hg hbox hb; have kg5 := MS.c3 HM m0_; replace kgr := MS.c3 HM m1_; replace kgo := MS.c3 HM m2_))
   replace HM := MS.po0 cv HM
   generalize World.setCell _ _ _ = wk at HM ⊢
   replace kg5 := MS.c3 HM m0_; replace kgr := MS.c3 HM m1_; replace kgo := MS.c3 HM m2_
   have HCV := Aside0.mk hcv; clear hcv
   go_upto_region 3 with (first | (go_at_call 52; (with_reducible refine (place_as (MS.oc HM m0_) (MS.bel HM) HCV.out LK.out x HP.out).mono ?_); rintro e wk ⟨rfl, hb⟩; replace HM := MS.nx HM hb; clear hb; replace kg5 := MS.c3 HM m0_; replace kgr := MS.c3 HM m1_; replace kgo := MS.c3 HM m2_) | ((with_reducible refine gate_dst (N := 6) rfl ?_); refine bx_ 6 #[.int .i64 0] 3 ?_; intro g6 hg wk hbox hb; replace HM := MS.md HM hg hbox hb; clear hg hbox hb; have kg6 := MS.c1 HM m0_; replace kg5 := MS.c3 HM m1_; replace kgr := MS.c3 HM m2_; replace kgo := MS.c3 HM m3_))
   replace HM := MS.pv0 (.int .i64 (p : Int)) HM
   generalize World.setCell _ _ _ = wk at HM ⊢
   replace kg6 := MS.c1 HM m0_; replace kg5 := MS.c3 HM m1_; replace kgr := MS.c3 HM m2_; replace kgo := MS.c3 HM m3_
   have hem : cv.e = false := congrArg (·.2.2) HCV.out
   have q0 : (0 : Int) ≤ (p : Int) := Int.natCast_nonneg _
   go_upto_region 5 with fail
   clear hem
   have HW : Aside0 (Will3 54 #[.pointer (some ⟨g6, 0, none⟩)] (2 * X.v.length) (forgetG p) wk) := ⟨forget_will g6 p _ (HM.out.lt m0_) (MS.k HM m0_ 0 rfl) (by have := L8.out; omega)⟩
   go_wp2_with (first | (go_at_call 53; (with_reducible refine (each_as _ _ (fun _ _ => rfl) (MS.oc HM m0_) (MS.bel HM) HCV.out L8.out HW.out rfl).mono ?_); rintro e wk ⟨zv, rfl, hzv, ho, hb⟩; replace HM := MS.cl HM hb ho; clear ho hb; replace kg6 := MS.c1 HM m0_; replace kg5 := MS.c3 HM m1_; replace kgr := MS.c3 HM m2_; replace kgo := MS.c3 HM m3_))
   replace HM := MS.po2 zv HM
   generalize World.setCell _ _ _ = wk at HM ⊢
   replace kg6 := MS.c1 HM m0_; replace kg5 := MS.c3 HM m1_; replace kgr := MS.c3 HM m2_; replace kgo := MS.c3 HM m3_
   refine MS.rt HM m2_ ?_
   exact ⟨zv, rfl, hzv.trans rfl, HM.out.S.own _ m0_, HM.out.S.below⟩
  ·
   have hfe := forgetF_no (v := X.v) (m := X.m) (e := X.e) (x := x) (by omega)
   rw [hfe, hcl]
   have HC := Aside0.mk hcl
   have HP := Aside0.mk hp2
   clear hX h0 fx hcl hp2 hfe hc he
   go_enter Try.func15, Try.ntmps15
   go_upto_region 1 with fail
   have HM := MS.n2 w X.cells zeroO
   generalize World.alloc _ _ = wk at HM ⊢
   generalize w.heap.size + 1 = gr at HM ⊢
   generalize w.heap.size = go at HM ⊢
   have kgr := MS.c3 HM m0_; have kgo := MS.c3 HM m1_
   go_upto_region 2 with (first | (go_at_call 51; (with_reducible refine (close_as (Oc.now HX (MS.bel HM)) (Below.refl _ _) rfl FX_.out HC.out).mono ?_); rintro e wk ⟨cv, rfl, hcv, ho, hb⟩; replace HM := MS.cl HM hb ho; clear ho hb; replace kgr := MS.c3 HM m0_; replace kgo := MS.c3 HM m1_) | ((with_reducible refine gate_dst (N := 5) rfl ?_); refine bx_ 5 #[.slice none 0 0, .slice none 0 0, .bool false] 25 ?_; intro g5 hg wk hbox hb; replace HM := MS.md HM hg hbox hb; clear hg hbox hb; have kg5 := MS.c3 HM m0_; replace kgr := MS.c3 HM m1_; replace kgo := MS.c3 HM m2_))
   replace HM := MS.po0 cv HM
   generalize World.setCell _ _ _ = wk at HM ⊢
   replace kg5 := MS.c3 HM m0_; replace kgr := MS.c3 HM m1_; replace kgo := MS.c3 HM m2_
   have HCV := Aside0.mk hcv; clear hcv
   go_upto_region 3 with (first | (go_at_call 52; (with_reducible refine (place_as (MS.oc HM m0_) (MS.bel HM) HCV.out LK.out x HP.out).mono ?_); rintro e wk ⟨rfl, hb⟩; replace HM := MS.nx HM hb; clear hb; replace kg5 := MS.c3 HM m0_; replace kgr := MS.c3 HM m1_; replace kgo := MS.c3 HM m2_) | ((with_reducible refine gate_dst (N := 6) rfl ?_); refine bx_ 6 #[.int .i64 0] 3 ?_; intro g6 hg wk hbox hb; replace HM := MS.md HM hg hbox hb; clear hg hbox hb; have kg6 := MS.c1 HM m0_; replace kg5 := MS.c3 HM m1_; replace kgr := MS.c3 HM m2_; replace kgo := MS.c3 HM m3_))
   replace HM := MS.pv0 (.int .i64 (-1)) HM
   generalize World.setCell _ _ _ = wk at HM ⊢
   replace kg6 := MS.c1 HM m0_; replace kg5 := MS.c3 HM m1_; replace kgr := MS.c3 HM m2_; replace kgo := MS.c3 HM m3_
   have hem : cv.e = false := congrArg (·.2.2) HCV.out
   go_upto_region 4 with fail
   clear hem
   go_wp2
   replace HM := MS.po2 cv HM
   generalize World.setCell _ _ _ = wk at HM ⊢
   replace kg6 := MS.c1 HM m0_; replace kg5 := MS.c3 HM m1_; replace kgr := MS.c3 HM m2_; replace kgo := MS.c3 HM m3_
   refine MS.rt HM m2_ ?_
   exact ⟨cv, rfl, HCV.out.trans rfl, HM.out.S.own _ m0_, HM.out.S.below⟩
end Go.Proofs.Ytphfchbggechhaa.QO
end
end
section
noncomputable section
namespace Go.Proofs.Ytphfchbggechhaa.QO
open Go.RowKit Go.Shelf YtphfchbggechhaaW.PrintWords YtphfchbggechhaaW.PrintLast YtphfchbggechhaaW.PrintMore
open Ytphfchbggechhaa.Pure
open OctMath (Bd Fin')
set_option linter.unusedVariables false
theorem nb_half (i : Nat) : nb i / 2 = i / 2 := by unfold nb; split <;> omega
theorem nb_eq {i j : Nat} : nb i = nb j ↔ i = j := ⟨fun h => by rw [← nb_nb i, h, nb_nb], fun h => by rw [h]⟩
theorem nb_flip {i j : Nat} : nb i = j ↔ i = nb j := ⟨fun h => by rw [← h, nb_nb], fun h => by rw [h, nb_nb]⟩
theorem fin_inf {B : Int} : Fin' B 4611686018427387904 := .inl rfl
theorem fin_mn {B a b : Int} (h : Fin' B a) (h' : Fin' B b) : Fin' B (mn a b) := by unfold mn; split <;> assumption
theorem upM_snd {n : Nat} {C : Mx} {a b : Nat} {h : Int} (hC : Snd n C) (hh : Fin' 1099511627776 h) : Snd n (upM C a b h) := by
 refine ⟨hC.ev, fun i j hi hj => ?_, fun i j hi hj => ?_, fun i hi => ?_⟩
 ·
  have := hC.bd i j hi hj
  unfold upM upG
  split
  ·
   exact this
  ·
   split
   ·
    exact fin_mn this hh
   ·
    exact this
 ·
  have e := hC.coh i j hi hj
  unfold upM upG
  by_cases d : i = j
  ·
   rw [if_pos d, if_pos (nb_eq.2 d.symm), e]
  ·
   rw [if_neg d, if_neg (fun q => d (nb_eq.1 q).symm), ← e]
   by_cases c : (i = a ∧ j = b) ∨ (i = nb b ∧ j = nb a)
   ·
    rw [if_pos c, if_pos]
    rcases c with ⟨rfl, rfl⟩ | ⟨rfl, rfl⟩
    ·
     exact .inr ⟨rfl, rfl⟩
    ·
     exact .inl ⟨nb_nb _, nb_nb _⟩
   ·
    rw [if_neg c, if_neg]
    rintro (⟨h1, h2⟩ | ⟨h1, h2⟩)
    ·
     exact c (.inr ⟨nb_flip.1 h2, nb_flip.1 h1⟩)
    ·
     exact c (.inl ⟨nb_eq.1 h2, nb_eq.1 h1⟩)
 ·
  unfold upM; rw [if_pos rfl]; exact hC.dg i hi
theorem upC_snd {n : Nat} {C : Mx} {p q : Nat} {sx sy hi : Int} (hC : Snd n C) : Snd n (upC C p sx q sy hi) := by
 unfold upC
 split
 ·
  exact hC
 ·
  split
  ·
   exact upM_snd hC (clip_bd _)
  ·
   exact upM_snd hC (clip_bd _)
theorem forgetM_snd {n p : Nat} {C : Mx} (hC : Snd n C) : Snd n (forgetM p C) := by
 refine ⟨hC.ev, fun i j hi hj => ?_, fun i j hi hj => ?_, fun i hi => ?_⟩
 ·
  have := hC.bd i j hi hj
  unfold forgetM forgetG
  split
  ·
   exact this
  ·
   split
   ·
    exact fin_inf
   ·
    exact this
 ·
  have e := hC.coh i j hi hj
  unfold forgetM forgetG
  rw [nb_half, nb_half, ← e]
  by_cases d : i = j
  ·
   rw [if_pos d, if_pos (nb_eq.2 d.symm)]
  ·
   rw [if_neg d, if_neg (fun q => d (nb_eq.1 q).symm)]
   by_cases c : i / 2 = p ∨ j / 2 = p
   ·
    rw [if_pos c, if_pos c.symm]
   ·
    rw [if_neg c, if_neg (fun h => c h.symm)]
 ·
  unfold forgetM; rw [if_pos rfl]; exact hC.dg i hi
theorem fromF_nb (s : Int) (k i : Nat) : fromF s k (nb i) = nb (fromF s k i) := by
 unfold fromF; rw [nb_half]; split <;> rfl
theorem gainF_nb (k : Nat) (d : Int) (i : Nat) : gainF k d (nb i) = - gainF k d i := by
 unfold gainF nb
 by_cases h : i % 2 = 0
 ·
  rw [if_pos h]
  by_cases h1 : i = 2 * k
  ·
   rw [if_neg (by omega), if_pos (by omega), if_pos h1]
  ·
   rw [if_neg (by omega), if_neg (by omega), if_neg h1, if_neg (by omega)]; rfl
 ·
  rw [if_neg h]
  by_cases h1 : i = 2 * k + 1
  ·
   rw [if_pos (by omega), if_neg (by omega), if_pos h1]; omega
  ·
   rw [if_neg (by omega), if_neg (by omega), if_neg (by omega), if_neg h1]; rfl
theorem movM_snd {n k : Nat} {C : Mx} {s d : Int} (hC : Snd (2 * n) C) : Snd (2 * n) (movM C s k d) := by
 refine ⟨hC.ev, fun i j hi hj => ?_, fun i j hi hj => ?_, fun i hi => ?_⟩
 ·
  have := hC.bd i j hi hj
  unfold movM movedG
  split
  ·
   exact this
  ·
   split
   ·
    exact fin_inf
   ·
    exact clip_bd _
 ·
  have e := hC.coh i j hi hj
  unfold movM movedG
  by_cases dd : i = j
  ·
   rw [if_pos dd, if_pos (nb_eq.2 dd.symm), e]
  ·
   rw [if_neg dd, if_neg (fun q => dd (nb_eq.1 q).symm), fromF_nb, fromF_nb, gainF_nb, gainF_nb, ← hC.coh _ _ (fromF_lt hi) (fromF_lt hj)]
   split
   ·
    rfl
   ·
    congr 1; omega
 ·
  unfold movM; rw [if_pos rfl]; exact hC.dg i hi
section
variable {v m : List Int} {e : Bool}
theorem cl_ex (h : OFit v m e) : ∃ cm ce, closeF v m e = (v, cm, ce) ∧ OFit v cm ce := by
 refine ⟨(closeF v m e).2.1, (closeF v m e).2.2, ?_, fit_close h⟩
 exact Prod.ext (closeF_fst v m e) rfl
theorem fgt_ex (h : OFit v m e) (x : Int) : ∃ fm fe, forgetF v m e x = (v, fm, fe) ∧ OFit v fm fe := by
 unfold forgetF
 split
 ·
  exact cl_ex h
 ·
  rename_i hn
  rcases close_cases h with ⟨h1, _⟩ | ⟨he, hc, h1⟩
  ·
   exact absurd (.inl (by rw [h1])) hn
  ·
   subst he
   exact ⟨_, _, rfl, fit_of_snd h.1 (forgetM_snd (snd_close (snd_of_fit h) hc))⟩
theorem grd_ex (h : OFit v m e) (x sx y sy c lo hi : Int) : ∃ fm fe, guardF v m e x sx y sy c lo hi = (v, fm, fe) ∧ OFit v fm fe := by
 unfold guardF
 split
 ·
  exact cl_ex h
 ·
  rename_i hn
  split
  ·
   exact ⟨_, _, rfl, fit_bot h.1⟩
  ·
   split
   ·
    exact cl_ex h
   ·
    rcases close_cases h with ⟨h1, _⟩ | ⟨he, hc, h1⟩
    ·
     exact absurd (.inl (by rw [h1])) hn
    ·
     subst he
     exact cl_ex (fit_of_snd h.1 (upC_snd (upC_snd (snd_close (snd_of_fit h) hc))))
end
abbrev Tri := List Int × List Int × Bool
def grd (t : Tri) (x sx y sy c : Int) (i : Int × Int) : Tri := guardF t.1 t.2.1 t.2.2 x sx y sy c i.1 i.2
def lessG (t : Tri) (x s y : Int) (i : Int × Int) : Tri := if x < y then grd t x 1 y (-s) 0 i else grd t y (-s) x 1 0 i
def asgF (v cm : List Int) (ce : Bool) (x lx sx y sy c : Int) : Tri :=
 if sx = 0 then grd (forgetF v cm ce x) x 1 0 0 0 (itvOf c c)
 else if sy = 0 ∧ lx = x then closeF v (lst (2 * v.length) (movM (closeM (2 * v.length) (lowM v.length cm)) sx (placeF v x).toNat c)) false
 else if sy = 0 then lessG (forgetF v cm ce x) x sx lx (itvOf c c)
 else
  let o0 := grd (forgetF v cm ce x) x 1 0 0 0 (BndF.bndF v cm ce lx sx y sy c)
  let o1 := if lx = x then o0 else lessG o0 x sx lx (BndF.bndF v cm ce y sy 0 0 c)
  if y = x then o1 else lessG o1 x sy y (BndF.bndF v cm ce lx sx 0 0 c)
def assignF (v m : List Int) (e : Bool) (x lx sx y sy c : Int) : Tri :=
 if (closeF v m e).2.2 = true ∨ placeF v x < 0 then closeF v m e
 else if ofB v lx sx y sy c = false then forgetF v (closeF v m e).2.1 (closeF v m e).2.2 x
 else asgF v (closeF v m e).2.1 (closeF v m e).2.2 x lx sx y sy c
section
variable {w W : World} {x : OV} {v m : List Int} {e : Bool} {a : Tri}
theorem forget_as (hx : Oc w W x) (hb : Below w.heap.size w W) (ho : x.o = (v, m, e)) (fx : OFit v m e) (s : Int) (ha : forgetF v m e s = a) :
 Calls Try.prog 15 #[x.val, .int .i64 s] W fun e W' => ∃ z : OV, e = .returned z.val ∧ z.o = a ∧ Own W W' z ∧ Below W.heap.size W W' := by
 obtain ⟨P, p, Q, q, v', m', e'⟩ := x
 cases ho
 rw [← ha]; exact forget_own _ s hx hb fx
theorem guard_as (hx : Oc w W x) (hb : Below w.heap.size w W) (ho : x.o = (v, m, e)) (fx : OFit v m e) (lx sx y sy c lo hi : Int) (ha : guardF v m e lx sx y sy c lo hi = a) :
 Calls Try.prog 19 #[x.val, .agg #[.int .i64 lx, .int .i64 sx, .int .i64 y, .int .i64 sy, .int .i64 c], .agg #[.int .i64 lo, .int .i64 hi]] W fun e W' => ∃ z : OV, e = .returned z.val ∧ z.o = a ∧ Own W W' z ∧ Below W.heap.size W W' := by
 obtain ⟨P, p, Q, q, v', m', e'⟩ := x
 cases ho
 rw [← ha]; exact guard_own _ lx sx y sy c lo hi hx hb fx (fun C p q u v hC _ _ _ _ => fit_of_snd fx.1 (upC_snd (upC_snd hC.s)))
theorem less_as {x s y r1 r2 r3 r4 : Int} (hs : -1 ≤ s ∧ s ≤ 1) (h : (if x < y then (x, 1, y, -s) else (y, -s, x, 1)) = (r1, r2, r3, r4)) :
 Says 70 #[.int .i64 x, .int .i64 s, .int .i64 y] W (.agg #[.int .i64 r1, .int .i64 r2, .int .i64 r3, .int .i64 r4, .int .i64 0]) := by
 refine octop_less.calls x s y r1 r2 r3 r4 0 W ?_
 have hw : wrap64 (-s) = -s := by unfold wrap64; omega
 unfold octop_less.f
 rw [hw]
 by_cases c : x < y
 ·
  rw [if_pos c] at h ⊢; cases h; rfl
 ·
  rw [if_neg c] at h ⊢; cases h; rfl
theorem moved_as {C : Mx} {k : Nat} {s d : Int} (hx : Oc w W x) (hb : Below w.heap.size w W) (ho : x.o = (v, lst (2 * v.length) C, false)) (l8 : v.length ≤ 8) (k8 : k ≤ 8) (db : -1099511627776 ≤ d ∧ d ≤ 1099511627776) (hC : Snd (2 * v.length) C) (ha : (v, lst (2 * v.length) (movM C s k d), false) = a) :
 Calls Try.prog 69 #[x.val, .int .i64 (k : Int), .int .i64 s, .int .i64 d] W fun e W' => ∃ z : OV, e = .returned z.val ∧ z.o = a ∧ Own W W' z ∧ Below W.heap.size W W' := by
 rw [← ha]; exact moved_own x k s d hx hb ho l8 k8 db (fun i j hi hj => hC.bd i j hi hj)
end
theorem lessG_at {t : Tri} {x s y r1 r2 r3 r4 : Int} {i : Int × Int} (h : (if x < y then (x, 1, y, -s) else (y, -s, x, 1)) = (r1, r2, r3, r4)) : lessG t x s y i = grd t r1 r2 r3 r4 0 i := by
 unfold lessG
 by_cases c : x < y
 ·
  rw [if_pos c] at h ⊢; cases h; rfl
 ·
  rw [if_neg c] at h ⊢; cases h; rfl
end Go.Proofs.Ytphfchbggechhaa.QO
end
end
section
noncomputable section
namespace Go.Proofs.Ytphfchbggechhaa.QO
open Go.RowKit Go.Shelf YtphfchbggechhaaW.PrintWords YtphfchbggechhaaW.PrintLast YtphfchbggechhaaW.PrintMore
open Ytphfchbggechhaa.Pure
set_option linter.unusedVariables false
section
variable {v m cm fm : List Int} {e fe : Bool} {s lx sx y sy c : Int} {p : Nat}
theorem asgn_bot (h : closeF v m e = (v, cm, true)) : assignF v m e s lx sx y sy c = (v, cm, true) := by unfold assignF; rw [h, if_pos (.inl rfl)]
theorem asgn_no (h : closeF v m e = (v, cm, false)) (hp : placeF v s < 0) : assignF v m e s lx sx y sy c = (v, cm, false) := by unfold assignF; rw [h, if_pos (.inr hp)]
theorem asgn_not (h : closeF v m e = (v, cm, false)) (hp : ¬ placeF v s < 0) (ho : ofB v lx sx y sy c = false) : assignF v m e s lx sx y sy c = forgetF v cm false s := by unfold assignF; rw [h, if_neg (by simp; omega), if_pos ho]
theorem asgn_of (h : closeF v m e = (v, cm, false)) (hp : ¬ placeF v s < 0) (ho : ofB v lx sx y sy c = true) : assignF v m e s lx sx y sy c = asgF v cm false s lx sx y sy c := by unfold assignF; rw [h, if_neg (by simp; omega), if_neg (by rw [ho]; decide)]
structure AsgW (v cm fm : List Int) (fe : Bool) (s lx sx y sy c : Int) (p : Nat) (C : Mx) (gm0 gm1 : List Int) (ge0 ge1 : Bool) (a b a0 b0 a1 b1 a2 b2 r01 r02 r03 r04 r11 r12 r13 r14 : Int) : Prop where
 cb : -1099511627776 ≤ c ∧ c ≤ 1099511627776
 sxb : -1 ≤ sx ∧ sx ≤ 1
 syb : -1 ≤ sy ∧ sy ≤ 1
 ne : sy ≠ 0 → lx ≠ y
 px : sx ≠ 0 → 0 ≤ placeF v lx
 py : sy ≠ 0 → 0 ≤ placeF v y
 hcm : cm = lst (2 * v.length) C
 sc : Snd (2 * v.length) C
 it : itvOf c c = (a, b)
 e0 : BndF.bndF v cm false lx sx y sy c = (a0, b0)
 e1 : BndF.bndF v cm false y sy 0 0 c = (a1, b1)
 e2 : BndF.bndF v cm false lx sx 0 0 c = (a2, b2)
 l0 : (if s < lx then (s, 1, lx, -sx) else (lx, -sx, s, 1)) = (r01, r02, r03, r04)
 l1 : (if s < y then (s, 1, y, -sy) else (y, -sy, s, 1)) = (r11, r12, r13, r14)
 g0 : guardF v fm fe s 1 0 0 0 a0 b0 = (v, gm0, ge0)
 f0 : OFit v gm0 ge0
 g1 : guardF v gm0 ge0 r01 r02 r03 r04 0 a1 b1 = (v, gm1, ge1)
 f1 : OFit v gm1 ge1
 r0 : sx = 0 → guardF v fm fe s 1 0 0 0 a b = asgF v cm false s lx sx y sy c
 r1 : sx ≠ 0 → sy = 0 → lx = s → closeF v (lst (2 * v.length) (movM C sx p c)) false = asgF v cm false s lx sx y sy c
 r2 : sx ≠ 0 → sy = 0 → lx ≠ s → guardF v fm fe r01 r02 r03 r04 0 a b = asgF v cm false s lx sx y sy c
 r3 : sx ≠ 0 → sy ≠ 0 → lx ≠ s → y ≠ s → guardF v gm1 ge1 r11 r12 r13 r14 0 a2 b2 = asgF v cm false s lx sx y sy c
 r4 : sx ≠ 0 → sy ≠ 0 → lx ≠ s → y = s → (v, gm1, ge1) = asgF v cm false s lx sx y sy c
 r5 : sx ≠ 0 → sy ≠ 0 → lx = s → guardF v gm0 ge0 r11 r12 r13 r14 0 a2 b2 = asgF v cm false s lx sx y sy c
theorem asgF_ways (fx : OFit v m e) (hcl : closeF v m e = (v, cm, false)) (cf : OFit v cm false) (hp2 : placeF v s = (p : Int)) (hfg : forgetF v cm false s = (v, fm, fe)) (ff : OFit v fm fe) (hof : ofB v lx sx y sy c = true) :
 ∃ (C : Mx) (gm0 gm1 : List Int) (ge0 ge1 : Bool) (a b a0 b0 a1 b1 a2 b2 r01 r02 r03 r04 r11 r12 r13 r14 : Int), AsgW v cm fm fe s lx sx y sy c p C gm0 gm1 ge0 ge1 a b a0 b0 a1 b1 a2 b2 r01 r02 r03 r04 r11 r12 r13 r14 := by
 have hP := (of_decide_eq_true hof).1
 have h3 := hP.2.2.2
 obtain ⟨C, hC, hcm, hsc⟩ : ∃ C, closeM (2 * v.length) (lowM v.length cm) = C ∧ cm = lst (2 * v.length) C ∧ Snd (2 * v.length) C := by
  rcases close_cases cf with ⟨h1, _⟩ | ⟨_, hok, h1⟩
  ·
   exfalso
   have tw := closeF_twice fx
   rw [hcl] at tw
   dsimp only at tw
   rw [h1] at tw
   cases tw
  ·
   have tw := closeF_twice fx
   rw [hcl] at tw
   dsimp only at tw
   rw [h1] at tw
   exact ⟨_, rfl, (congrArg (·.2.1) tw).symm, snd_close (snd_of_fit cf) hok⟩
 obtain ⟨a, b, hab⟩ : ∃ a b, itvOf c c = (a, b) := ⟨_, _, rfl⟩
 obtain ⟨a0, b0, hb0⟩ : ∃ a b, BndF.bndF v cm false lx sx y sy c = (a, b) := ⟨_, _, rfl⟩
 obtain ⟨a1, b1, hb1⟩ : ∃ a b, BndF.bndF v cm false y sy 0 0 c = (a, b) := ⟨_, _, rfl⟩
 obtain ⟨a2, b2, hb2⟩ : ∃ a b, BndF.bndF v cm false lx sx 0 0 c = (a, b) := ⟨_, _, rfl⟩
 obtain ⟨r01, r02, r03, r04, hl0⟩ : ∃ r1 r2 r3 r4, (if s < lx then (s, 1, lx, -sx) else (lx, -sx, s, 1)) = (r1, r2, r3, r4) := ⟨_, _, _, _, rfl⟩
 obtain ⟨r11, r12, r13, r14, hl1⟩ : ∃ r1 r2 r3 r4, (if s < y then (s, 1, y, -sy) else (y, -sy, s, 1)) = (r1, r2, r3, r4) := ⟨_, _, _, _, rfl⟩
 obtain ⟨gm0, ge0, hg0, gf0⟩ := grd_ex ff s 1 0 0 0 a0 b0
 obtain ⟨gm1, ge1, hg1, gf1⟩ := grd_ex gf0 r01 r02 r03 r04 0 a1 b1
 have e0 : grd (forgetF v cm false s) s 1 0 0 0 (BndF.bndF v cm false lx sx y sy c) = (v, gm0, ge0) := by rw [hfg, hb0]; exact hg0
 have e1 : lessG (v, gm0, ge0) s sx lx (BndF.bndF v cm false y sy 0 0 c) = (v, gm1, ge1) := by rw [lessG_at hl0, hb1]; exact hg1
 refine ⟨C, gm0, gm1, ge0, ge1, a, b, a0, b0, a1, b1, a2, b2, r01, r02, r03, r04, r11, r12, r13, r14, ⟨⟨hP.1, hP.2.1⟩, by omega, by omega, fun h => by omega, fun h => by have := (of_decide_eq_true hof).2; omega, fun h => by have := (of_decide_eq_true hof).2; omega, hcm, hsc, hab, hb0, hb1, hb2, hl0, hl1, hg0, gf0, hg1, gf1, fun h => ?_, fun h1 h2 h3 => ?_, fun h1 h2 h3 => ?_, fun h1 h2 h3 h4 => ?_, fun h1 h2 h3 h4 => ?_, fun h1 h2 h3 => ?_⟩⟩
 ·
  unfold asgF; rw [if_pos h, hfg, hab]; rfl
 ·
  unfold asgF; rw [if_neg h1, if_pos ⟨h2, h3⟩, hp2, Int.toNat_natCast, hC]
 ·
  unfold asgF; rw [if_neg h1, if_neg (fun h => h3 h.2), if_pos h2, hfg, lessG_at hl0, hab]; rfl
 ·
  unfold asgF; rw [if_neg h1, if_neg (fun h => h2 h.1), if_neg h2]; simp only [e0, if_neg h3, e1, if_neg h4]; rw [lessG_at hl1, hb2]; rfl
 ·
  unfold asgF; rw [if_neg h1, if_neg (fun h => h2 h.1), if_neg h2]; simp only [e0, if_neg h3, e1, if_pos h4]
 ·
  unfold asgF; rw [if_neg h1, if_neg (fun h => h2 h.1), if_neg h2]; simp only [e0, if_pos h3, if_neg (show ¬ y = s from fun h => by omega)]; rw [lessG_at hl1, hb2]; rfl
theorem asg_ex (fx : OFit v m e) (x lx sx y sy c : Int) : ∃ am ae, assignF v m e x lx sx y sy c = (v, am, ae) ∧ OFit v am ae := by
 obtain ⟨cm, ce, hcl, cf⟩ := cl_ex fx
 cases ce with
 | true => exact ⟨cm, true, asgn_bot hcl, cf⟩
 | false =>
  by_cases hp : placeF v x < 0
  ·
   exact ⟨cm, false, asgn_no hcl hp, cf⟩
  ·
   obtain ⟨fm, fe, hfg, ff⟩ := fgt_ex cf x
   by_cases hof : ofB v lx sx y sy c = false
   ·
    rw [asgn_not hcl hp hof]; exact ⟨fm, fe, hfg, ff⟩
   ·
    have hof' : ofB v lx sx y sy c = true := by simpa using hof
    rw [asgn_of hcl hp hof']
    obtain ⟨p, hp2⟩ : ∃ p : Nat, placeF v x = p := ⟨(placeF v x).toNat, by omega⟩
    obtain ⟨C, gm0, gm1, ge0, ge1, a, b, a0, b0, a1, b1, a2, b2, r01, r02, r03, r04, r11, r12, r13, r14, g⟩ := asgF_ways (s := x) (lx := lx) (sx := sx) (y := y) (sy := sy) (c := c) fx hcl cf hp2 hfg ff hof'
    by_cases h1 : sx = 0
    ·
     rw [← g.r0 h1]; exact grd_ex ff _ _ _ _ _ _ _
    ·
     by_cases h2 : sy = 0
     ·
      by_cases h3 : lx = x
      ·
       rw [← g.r1 h1 h2 h3]; exact cl_ex (fit_of_snd fx.1 (movM_snd g.sc))
      ·
       rw [← g.r2 h1 h2 h3]; exact grd_ex ff _ _ _ _ _ _ _
     ·
      by_cases h3 : lx = x
      ·
       rw [← g.r5 h1 h2 h3]; exact grd_ex g.f0 _ _ _ _ _ _ _
      ·
       by_cases h4 : y = x
       ·
        rw [← g.r4 h1 h2 h3 h4]; exact ⟨gm1, ge1, rfl, g.f1⟩
       ·
        rw [← g.r3 h1 h2 h3 h4]; exact grd_ex g.f1 _ _ _ _ _ _ _
end
end Go.Proofs.Ytphfchbggechhaa.QO
end
end
section
noncomputable section
namespace Go.Proofs.Ytphfchbggechhaa.QO
open Go.RowKit Go.Shelf YtphfchbggechhaaW.PrintWords YtphfchbggechhaaW.PrintLast YtphfchbggechhaaW.PrintMore
open Ytphfchbggechhaa.Pure
open OctMath (Le Fin')
open BndF (bndF mostF loF hiF)
set_option linter.unusedVariables false
theorem lst_inj {n : Nat} {A B : Mx} (h : lst n A = lst n B) (i j : Nat) (hi : i < n) (hj : j < n) : A i j = B i j := by
 have h1 := rd_lst (C := A) hi hj
 have h2 := rd_lst (C := B) hi hj
 rw [← h1, ← h2, h]
theorem Le.refl {n : Nat} {A : Mx} : Le n A A := fun _ _ _ _ => Int.le_refl _
theorem Le.trans {n : Nat} {A B C : Mx} (h : Le n A B) (k : Le n B C) : Le n A C := fun i j hi hj => Int.le_trans (h i j hi hj) (k i j hi hj)
theorem bup_top (a b : Int) : bupF a b ≤ 4611686018427387904 := by unfold bupF mn; split <;> (try split) <;> omega
theorem upC_ext {n p q : Nat} {A B : Mx} {sx sy h : Int} (e : ∀ i j, i < n → j < n → A i j = B i j) : ∀ i j, i < n → j < n → upC A p sx q sy h i j = upC B p sx q sy h i j := by
 have um : ∀ a b h, ∀ i j, i < n → j < n → upM A a b h i j = upM B a b h i j := fun a b h i j hi hj => by unfold upM; rw [e i j hi hj]
 unfold upC
 split
 ·
  exact e
 ·
  split <;> exact um _ _ _
def On (v : List Int) (t : Tri) : Prop := t.1 = v ∧ OFit v t.2.1 t.2.2
def clT (v : List Int) (t : Tri) : Tri := closeF v t.2.1 t.2.2
section
variable {v : List Int} {a b t t' : Tri}
theorem On.vok (o : On v t) : VarsOk v := o.2.1
theorem On.cases (o : On v t) : clT v t = (v, [], true) ∨ ∃ C, Cld (2 * v.length) C ∧ clT v t = (v, lst (2 * v.length) C, false) := cl_cases o.2
theorem On.cl (o : On v t) : On v (clT v t) := ⟨closeF_fst _ _ _, fit_close o.2⟩
theorem On.mat {A : Mx} (hv : VarsOk v) (ha : Snd (2 * v.length) A) : On v (v, lst (2 * v.length) A, false) := ⟨rfl, fit_of_snd hv ha⟩
theorem closeM_at (o : On v t) {A : Mx} (h : clT v t = (v, lst (2 * v.length) A, false)) : ∀ i j, i < 2 * v.length → j < 2 * v.length → closeM (2 * v.length) (lowM v.length t.2.1) i j = A i j := by
 rcases close_cases o.2 with ⟨h1, _⟩ | ⟨_, _, h3⟩
 ·
  exact absurd (congrArg (fun q : Tri => q.2.2) (h.symm.trans h1)) (by simp)
 ·
  exact fun i j hi hj => (lst_inj (congrArg (·.2.1) (h.symm.trans h3)) i j hi hj).symm
def fgtT (v : List Int) (t : Tri) (x : Int) : Tri := forgetF v t.2.1 t.2.2 x
theorem fgt_on (o : On v t) (x : Int) : On v (fgtT v t x) := by
 obtain ⟨m, e, h, f⟩ := fgt_ex o.2 x
 unfold fgtT; rw [h]; exact ⟨rfl, f⟩
theorem fgt_at (o : On v t) {A : Mx} (h : clT v t = (v, lst (2 * v.length) A, false)) (x : Int) : fgtT v t x = if placeF v x < 0 then (v, lst (2 * v.length) A, false) else (v, lst (2 * v.length) (forgetM (placeF v x).toNat A), false) := by
 have h' : closeF v t.2.1 t.2.2 = (v, lst (2 * v.length) A, false) := h
 unfold fgtT forgetF
 by_cases c : placeF v x < 0
 ·
  rw [if_pos (.inr c), if_pos c, h']
 ·
  rw [if_neg (by rw [h']; simp; omega), if_neg c]
  congr 2
  exact lst_ext fun i j hi hj => by unfold forgetM; rw [closeM_at o h i j hi hj]
theorem itvOf_idem (a b : Int) : itvOf (itvOf a b).1 (itvOf a b).2 = itvOf a b := by
 unfold itvOf mx mn
 by_cases c : a > b
 ·
  rw [if_pos c]; decide
 ·
  rw [if_neg c]
  dsimp only
  (repeat' split) <;> (first | (refine Prod.ext ?_ ?_ <;> dsimp only <;> omega) | omega)
theorem grd_on (o : On v t) (x sx y sy c : Int) (i : Int × Int) : On v (grd t x sx y sy c i) := by
 obtain ⟨e, f⟩ := o
 obtain ⟨m, b, h, f'⟩ := grd_ex f x sx y sy c i.1 i.2
 unfold grd; rw [e, h]; exact ⟨rfl, f'⟩
def grdM (v : List Int) (A : Mx) (x sx y sy c : Int) (i : Int × Int) : Mx := upC (upC A (placeF v x).toNat sx (placeF v y).toNat sy (bupF (itvOf i.1 i.2).2 (-c))) (placeF v x).toNat (-sx) (placeF v y).toNat (-sy) (bupF (bnegF (itvOf i.1 i.2).1) c)
theorem grd_at (o : On v t) {A : Mx} (h : clT v t = (v, lst (2 * v.length) A, false)) (x sx y sy c : Int) (i : Int × Int) : grd t x sx y sy c i =
 if ofB v x sx y sy c = false then (v, lst (2 * v.length) A, false)
 else if (itvOf i.1 i.2).1 > (itvOf i.1 i.2).2 ∨ (sx = 0 ∧ itvHas (itvOf i.1 i.2).1 (itvOf i.1 i.2).2 c = false) then (v, [], true)
 else if sx = 0 then (v, lst (2 * v.length) A, false) else clT v (v, lst (2 * v.length) (grdM v A x sx y sy c i), false) := by
 have h' : closeF v t.2.1 t.2.2 = (v, lst (2 * v.length) A, false) := h
 unfold grd; rw [o.1]; unfold guardF
 by_cases c1 : ofB v x sx y sy c = false
 ·
  rw [if_pos (.inr c1), if_pos c1, h']
 ·
  rw [if_neg (by rw [h']; simpa using c1), if_neg c1]
  split
  ·
   rfl
  ·
   split
   ·
    exact h'
   ·
    unfold clT grdM
    rw [lst_ext (upC_ext (upC_ext (closeM_at o h)))]
theorem grdM_snd {A : Mx} (hA : Snd (2 * v.length) A) (x sx y sy c : Int) (i : Int × Int) : Snd (2 * v.length) (grdM v A x sx y sy c i) := upC_snd (upC_snd hA)
theorem less_on (o : On v t) (x s y : Int) (i : Int × Int) : On v (lessG t x s y i) := by unfold lessG; split <;> exact grd_on o _ _ _ _ _ _
def asgT (v : List Int) (t : Tri) (x lx sx y sy c : Int) : Tri := assignF v t.2.1 t.2.2 x lx sx y sy c
theorem asg_on (o : On v t) (x lx sx y sy c : Int) : On v (asgT v t x lx sx y sy c) := by
 obtain ⟨m, e, h, f⟩ := asg_ex o.2 x lx sx y sy c
 unfold asgT; rw [h]; exact ⟨rfl, f⟩
end
end Go.Proofs.Ytphfchbggechhaa.QO
end
end
section
noncomputable section
namespace Go.Proofs.Ytphfchbggechhaa.QO
open Go.RowKit Go.Shelf YtphfchbggechhaaW.PrintWords YtphfchbggechhaaW.PrintLast YtphfchbggechhaaW.PrintMore
open Ytphfchbggechhaa.Pure
open OctMath (Le Fin' plus)
set_option linter.unusedVariables false
def Vl (n : Nat) (w : List Int) : Prop := w.length = n ∧ ∀ k : Int, 0 ≤ k → k < (n : Int) → -17592186044416 < rd w k ∧ rd w k < 17592186044416
def vM (w : List Int) : Mx := fun i j => sgn w (j : Int) - sgn w (i : Int)
theorem sgn_vl {n : Nat} {w : List Int} (h : Vl n w) {i : Nat} (hi : i < 2 * n) : -17592186044416 < sgn w (i : Int) ∧ sgn w (i : Int) < 17592186044416 := by
 have := h.2 ((i : Int) / 2) (by omega) (by omega)
 unfold sgn; split <;> omega
theorem sgnb (w : List Int) (i : Nat) : sgn w ((nb i : Nat) : Int) = - sgn w (i : Int) := by
 unfold nb
 split
 ·
  rename_i h
  have e1 : (((i + 1 : Nat) : Int)) % 2 = 1 := by omega
  have e2 : (((i + 1 : Nat) : Int)) / 2 = (i : Int) / 2 := by omega
  have e3 : ¬ ((i : Int) % 2 = 1) := by omega
  unfold sgn; rw [if_pos e1, e2, if_neg e3]
 ·
  rename_i h
  have e1 : ¬ (((i - 1 : Nat) : Int)) % 2 = 1 := by omega
  have e2 : (((i - 1 : Nat) : Int)) / 2 = (i : Int) / 2 := by omega
  have e3 : (i : Int) % 2 = 1 := by omega
  unfold sgn; rw [if_neg e1, e2, if_pos e3]; omega
theorem vM_tgt {n : Nat} {w : List Int} (h : Vl n w) : Tgt (2 * n) (vM w) := by
 have hs := fun i hi => sgn_vl h (i := i) hi
 refine ⟨⟨fun i _ => by unfold vM; omega, fun i j k hi hj hk => ?_⟩, fun i j hi hj => ?_, fun i j hi hj => ?_, fun i hi => .inr ⟨-sgn w (i : Int), ?_⟩, fun i j hi hj => ?_⟩
 ·
  have h1 := hs i hi; have h2 := hs j hj; have h3 := hs k hk
  unfold vM plus; rw [if_neg (by omega)]; omega
 ·
  unfold vM; rw [sgnb, sgnb]; omega
 ·
  have h1 := hs i hi; have h2 := hs j hj
  unfold vM Fin'; omega
 ·
  unfold vM; rw [sgnb]; omega
 ·
  have h1 := hs i hi; have h2 := hs j hj
  unfold vM; rw [sgnb, sgnb]
  unfold plus; rw [if_neg (by omega)]; unfold half; rw [if_neg (by omega)]; omega
section
variable {v m w : List Int} {e : Bool}
theorem in_iff (h : OFit v m false) (hw : Vl v.length w) : hasB v m false w = true ↔ Le (2 * v.length) (vM w) (lowM v.length m) := by
 rw [hasB_true]
 constructor
 ·
  intro H i j hi hj
  have h1 := H.2.2.2.2 (i : Int) (j : Int) (by omega) (by omega) (by omega) (by omega)
  unfold lowM vM
  rw [lowAt_same h (by omega) (by omega) (by omega) (by omega)]
  have h2 := sgn_vl hw hi; have h3 := sgn_vl hw hj
  omega
 ·
  intro H
  refine ⟨rfl, h, hw.1, fun k h0 h1 => ?_, fun i j h0 h1 h2 h3 => ?_⟩
  ·
   have := hw.2 k h0 (by have := hw.1; omega); omega
  ·
   obtain ⟨a, rfl⟩ : ∃ a : Nat, i = (a : Int) := ⟨i.toNat, by omega⟩
   obtain ⟨b, rfl⟩ : ∃ b : Nat, j = (b : Int) := ⟨j.toNat, by omega⟩
   have := H a b (by omega) (by omega)
   unfold lowM vM at this
   rw [lowAt_same h (by omega) (by omega) (by omega) (by omega)] at this
   exact .inr this
theorem in_lst {A : Mx} (hv : VarsOk v) (hA : Snd (2 * v.length) A) (hw : Vl v.length w) : hasB v (lst (2 * v.length) A) false w = true ↔ Le (2 * v.length) (vM w) A := by
 rw [in_iff (fit_of_snd hv hA) hw]
 constructor
 ·
  intro H i j hi hj; have := H i j hi hj; rwa [lowM_lst hv hA i j hi hj] at this
 ·
  intro H i j hi hj; rw [lowM_lst hv hA i j hi hj]; exact H i j hi hj
theorem in_cl (h : OFit v m e) (hw : Vl v.length w) (hx : hasB v m e w = true) : ∃ A, Cld (2 * v.length) A ∧ closeF v m e = (v, lst (2 * v.length) A, false) ∧ Le (2 * v.length) (vM w) A := by
 have he := (hasB_true.1 hx).1
 subst he
 have sn := snd_of_fit h
 obtain ⟨g1, g2⟩ := tgt_great sn (vM_tgt hw) ((in_iff h hw).1 hx)
 rcases close_cases h with ⟨_, h2 | h2⟩ | ⟨_, _, h3⟩
 ·
  cases h2
 ·
  exact absurd g1 h2
 ·
  exact ⟨_, Cld.of sn g1, h3, fun i j hi hj => Int.le_trans (g2 i j hi hj) (tgt_close sn g1 i j hi hj)⟩
theorem in_clmat {A : Mx} (hv : VarsOk v) (hA : Snd (2 * v.length) A) (hw : Vl v.length w) (l : Le (2 * v.length) (vM w) A) : hasB v (clT v (v, lst (2 * v.length) A, false)).2.1 (clT v (v, lst (2 * v.length) A, false)).2.2 w = true := by
 obtain ⟨g1, g2⟩ := tgt_great hA (vM_tgt hw) l
 have e : clT v (v, lst (2 * v.length) A, false) = (v, lst (2 * v.length) (closeM (2 * v.length) A), false) := clF_ok hv hA g1
 rw [e]
 exact (in_lst hv (snd_close hA g1) hw).2 fun i j hi hj => Int.le_trans (g2 i j hi hj) (tgt_close hA g1 i j hi hj)
end
def In (v : List Int) (t : Tri) (w : List Int) : Prop := hasB v t.2.1 t.2.2 w = true
section
variable {v w u : List Int} {t : Tri}
theorem In.cl (o : On v t) (hw : Vl v.length w) (h : In v t w) : ∃ A, Cld (2 * v.length) A ∧ clT v t = (v, lst (2 * v.length) A, false) ∧ Le (2 * v.length) (vM w) A := in_cl o.2 hw h
theorem In.mat {A : Mx} (hv : VarsOk v) (hA : Snd (2 * v.length) A) (hw : Vl v.length w) (l : Le (2 * v.length) (vM w) A) : In v (v, lst (2 * v.length) A, false) w := (in_lst hv hA hw).2 l
def But (p : Nat) (w u : List Int) : Prop := ∀ k : Nat, k ≠ p → rd u (k : Int) = rd w (k : Int)
theorem sgn_but {p : Nat} (b : But p w u) {i : Nat} (hi : i / 2 ≠ p) : sgn u (i : Int) = sgn w (i : Int) := by
 have := b (i / 2) hi
 have e : ((i / 2 : Nat) : Int) = (i : Int) / 2 := by omega
 rw [e] at this
 unfold sgn; rw [this]
theorem forget_in {n p : Nat} {C : Mx} (hC : Snd (2 * n) C) (hu : Vl n u) (b : But p w u) (l : Le (2 * n) (vM w) C) : Le (2 * n) (vM u) (forgetM p C) := fun i j hi hj => by
 have h := l i j hi hj
 have s1 := sgn_vl hu hi
 have s2 := sgn_vl hu hj
 unfold forgetM forgetG
 by_cases e : i = j
 ·
  subst e; rw [if_pos rfl, hC.dg i hi]; unfold vM; omega
 ·
  rw [if_neg e]
  by_cases c : i / 2 = p ∨ j / 2 = p
  ·
   rw [if_pos c]; unfold vM; omega
  ·
   rw [if_neg c]
   unfold vM at h ⊢
   rw [sgn_but b (fun q => c (.inl q)), sgn_but b (fun q => c (.inr q))]
   exact h
theorem fgt_in (o : On v t) (hw : Vl v.length w) (hu : Vl v.length u) (h : In v t w) (x : Int) (b : placeF v x < 0 → u = w) (b' : But (placeF v x).toNat w u) : In v (fgtT v t x) u := by
 obtain ⟨A, hA, e, l⟩ := h.cl o hw
 rw [fgt_at o e]
 by_cases c : placeF v x < 0
 ·
  rw [if_pos c, b c]; exact In.mat o.vok hA.s hw l
 ·
  rw [if_neg c]
  exact In.mat o.vok (forgetM_snd hA.s) hu (forget_in hA.s hu b' l)
theorem sgn_nd (w : List Int) (p : Nat) {s : Int} (hs : s = 1 ∨ s = -1) : sgn w ((nd p s : Nat) : Int) = s * rd w (p : Int) := by
 rcases hs with rfl | rfl
 ·
  have : nd p 1 = 2 * p := by unfold nd; rw [if_neg (by decide)]
  rw [this]
  have e1 : ¬ ((2 * p : Nat) : Int) % 2 = 1 := by omega
  have e2 : ((2 * p : Nat) : Int) / 2 = (p : Int) := by omega
  unfold sgn; rw [if_neg e1, e2]; omega
 ·
  have : nd p (-1) = 2 * p + 1 := by unfold nd; rw [if_pos (by decide)]
  rw [this]
  have e1 : ((2 * p + 1 : Nat) : Int) % 2 = 1 := by omega
  have e2 : ((2 * p + 1 : Nat) : Int) / 2 = (p : Int) := by omega
  unfold sgn; rw [if_pos e1, e2]; omega
theorem upM_in {n a b : Nat} {h : Int} {C : Mx} (l : Le n (vM w) C) (hab : vM w a b ≤ h) : Le n (vM w) (upM C a b h) := fun i j hi hj => by
 have k := l i j hi hj
 unfold upM upG
 split
 ·
  exact k
 ·
  split
  ·
   rename_i q
   have e : vM w i j = vM w a b := by
    rcases q with ⟨rfl, rfl⟩ | ⟨rfl, rfl⟩
    ·
     rfl
    ·
     unfold vM; rw [sgnb, sgnb]; omega
   unfold mn; split <;> omega
  ·
   exact k
theorem upC_in {n p q : Nat} {sx sy h : Int} {C : Mx} (hw : Vl n w) (hp : p < n) (hq : sy ≠ 0 → q < n) (l : Le (2 * n) (vM w) C) (hs : sx = 1 ∨ sx = -1) (ht : sy = 0 ∨ sy = 1 ∨ sy = -1) (hh : sx * rd w (p : Int) + sy * rd w (q : Int) ≤ h) (hi : h ≤ 4611686018427387904) : Le (2 * n) (vM w) (upC C p sx q sy h) := by
 have bp := hw.2 (p : Int) (by omega) (by omega)
 unfold upC
 by_cases c : h = 4611686018427387904
 ·
  rw [if_pos c]; exact l
 ·
  rw [if_neg c]
  by_cases z : sy = 0
  ·
   rw [if_pos z]
   refine upM_in l (Int.le_trans ?_ (clip_ge (bup_top _ _)))
   unfold vM
   rw [sgnb, sgn_nd w p hs]
   have e : sx * rd w (p : Int) ≤ h := by rw [z] at hh; simpa using hh
   have b1 : -17592186044416 < sx * rd w (p : Int) ∧ sx * rd w (p : Int) < 17592186044416 := by rcases hs with rfl | rfl <;> omega
   unfold bupF bfit mn mx
   (repeat' split) <;> omega
  ·
   rw [if_neg z]
   have ht' : sy = 1 ∨ sy = -1 := by omega
   refine upM_in l (Int.le_trans ?_ (clip_ge hi))
   unfold vM
   rw [sgnb, sgn_nd w p hs, sgn_nd w q ht']
   omega
theorem bup_ge {f b d : Int} (hf : f ≤ bfit b + bfit d) (hs : -4000000000000000000 ≤ f ∧ f ≤ 4611686018427387904) : f ≤ bupF b d := by
 unfold bupF
 split
 ·
  omega
 ·
  generalize bfit b = b' at *
  generalize bfit d = d' at *
  unfold mn mx
  (repeat' split) <;> omega
theorem bup_num1 {f b c : Int} (fb : -105553116266496 < f - c ∧ f - c < 105553116266496) (cb : -1099511627776 ≤ c ∧ c ≤ 1099511627776) (h : b = 4611686018427387904 ∨ f ≤ b) : f - c ≤ bupF b (-c) := by
 refine bup_ge ?_ (by omega)
 rw [bfit_id (a := -c) (by omega) (by omega)]
 have : f ≤ bfit b := by unfold bfit; (repeat' split) <;> omega
 omega
theorem bup_num2 {f a c : Int} (fb : -105553116266496 < f - c ∧ f - c < 105553116266496) (cb : -1099511627776 ≤ c ∧ c ≤ 1099511627776) (h : a = -4611686018427387904 ∨ a ≤ f) : c - f ≤ bupF (bnegF a) c := by
 refine bup_ge ?_ (by omega)
 rw [bfit_id (a := c) (by omega) (by omega)]
 have h1 : bfit a ≤ f := by unfold bfit; (repeat' split) <;> omega
 have h2 : bfit (bnegF a) = - bfit a := by unfold bnegF; exact bfit_id (by have := bfit_bd a; omega) (by have := bfit_bd a; omega)
 rw [h2]; omega
def formV (v w : List Int) (x sx y sy c : Int) : Int := sx * rd w (placeF v x) + sy * rd w (placeF v y) + c
theorem grd_in (o : On v t) (hw : Vl v.length w) (h : In v t w) (x sx y sy c : Int) (i : Int × Int) (hi : ofB v x sx y sy c = true → itvHas i.1 i.2 (formV v w x sx y sy c) = true) : In v (grd t x sx y sy c i) w := by
 obtain ⟨A, hA, e, l⟩ := h.cl o hw
 rw [grd_at o e]
 by_cases c1 : ofB v x sx y sy c = false
 ·
  rw [if_pos c1]; exact In.mat o.vok hA.s hw l
 ·
  rw [if_neg c1]
  have hof : ofB v x sx y sy c = true := by simpa using c1
  have hP := of_decide_eq_true hof
  have hI := hi hof
  unfold itvHas at hI
  rw [decide_eq_true_eq] at hI
  have hz : sx = 0 → formV v w x sx y sy c = c := fun q => by
   have : sy = 0 := by have := hP.1.2.2.2; omega
   unfold formV; rw [q, this]; omega
  have c2 : ¬ ((itvOf i.1 i.2).1 > (itvOf i.1 i.2).2 ∨ (sx = 0 ∧ itvHas (itvOf i.1 i.2).1 (itvOf i.1 i.2).2 c = false)) := by
   rintro (q | ⟨q1, q2⟩)
   ·
    omega
   ·
    unfold itvHas at q2
    rw [itvOf_idem, decide_eq_false_iff_not] at q2
    rw [hz q1] at hI
    exact q2 hI
  rw [if_neg c2]
  by_cases c3 : sx = 0
  ·
   rw [if_pos c3]; exact In.mat o.vok hA.s hw l
  ·
   rw [if_neg c3]
   refine in_clmat o.vok (grdM_snd hA.s x sx y sy c i) hw ?_
   have px : 0 ≤ placeF v x := by have := hP.2.1; omega
   have py : sy ≠ 0 → 0 ≤ placeF v y := fun q => by have := hP.2.2; omega
   have lx := (placeF_lt v x).2
   have ly := (placeF_lt v y).2
   have hs : sx = 1 ∨ sx = -1 := by have := hP.1.2.2.2; omega
   have ht : sy = 0 ∨ sy = 1 ∨ sy = -1 := by have := hP.1.2.2.2; omega
   have ex : (((placeF v x).toNat : Nat) : Int) = placeF v x := by omega
   have bx := hw.2 (placeF v x) px lx
   have e1 : sx * rd w (placeF v x) + sy * rd w (((placeF v y).toNat : Nat) : Int) = formV v w x sx y sy c - c := by
    unfold formV
    by_cases q : sy = 0
    ·
     rw [q]; omega
    ·
     rw [show (((placeF v y).toNat : Nat) : Int) = placeF v y by have := py q; omega]; omega
   have e2 : -sx * rd w (placeF v x) + -sy * rd w (((placeF v y).toNat : Nat) : Int) = c - formV v w x sx y sy c := by
    rw [Int.neg_mul, Int.neg_mul]; omega
   have cb := hP.1.1
   have cb2 := hP.1.2.1
   have fb : -105553116266496 < formV v w x sx y sy c - c ∧ formV v w x sx y sy c - c < 105553116266496 := by
    rw [← e1]
    have b1 : -17592186044416 < sx * rd w (placeF v x) ∧ sx * rd w (placeF v x) < 17592186044416 := by rcases hs with rfl | rfl <;> omega
    have b2 : -17592186044416 < sy * rd w (((placeF v y).toNat : Nat) : Int) ∧ sy * rd w (((placeF v y).toNat : Nat) : Int) < 17592186044416 := by
     rcases ht with rfl | rfl | rfl
     ·
      omega
     ·
      have := hw.2 (((placeF v y).toNat : Nat) : Int) (by omega) (by have := py (by decide); omega); omega
     ·
      have := hw.2 (((placeF v y).toNat : Nat) : Int) (by omega) (by have := py (by decide); omega); omega
    omega
   have h1 : sx * rd w (((placeF v x).toNat : Nat) : Int) + sy * rd w (((placeF v y).toNat : Nat) : Int) ≤ bupF (itvOf i.1 i.2).2 (-c) := by
    rw [ex, e1]
    exact bup_num1 fb ⟨cb, cb2⟩ hI.2.2
   have h2 : -sx * rd w (((placeF v x).toNat : Nat) : Int) + -sy * rd w (((placeF v y).toNat : Nat) : Int) ≤ bupF (bnegF (itvOf i.1 i.2).1) c := by
    rw [ex, e2]
    exact bup_num2 fb ⟨cb, cb2⟩ hI.2.1
   have p1 : (placeF v x).toNat < v.length := by omega
   have p2 : sy ≠ 0 → (placeF v y).toNat < v.length := fun q => by have := py q; omega
   exact upC_in hw p1 (fun q => p2 (by omega)) (upC_in hw p1 p2 l hs ht h1 (bup_top _ _)) (by omega) (by omega) h2 (bup_top _ _)
theorem has_in {lo hi f : Int} (h1 : lo = -4611686018427387904 ∨ lo ≤ f) (h2 : hi = 4611686018427387904 ∨ f ≤ hi) (fb : -1000000000000000 < f ∧ f < 1000000000000000) : itvHas lo hi f = true := by
 unfold itvHas
 rw [decide_eq_true_eq]
 unfold itvOf mx mn
 rw [if_neg (show ¬ lo > hi by omega)]
 dsimp only
 refine ⟨?_, ?_, ?_⟩ <;> ((repeat' split) <;> omega)
theorem itv_id {a b : Int} (h : -4611686018427387904 ≤ a ∧ a < 4611686018427387904 ∧ -4611686018427387904 < b ∧ b ≤ 4611686018427387904) (l : a ≤ b) : itvOf a b = (a, b) := by
 unfold itvOf mx mn
 rw [if_neg (by omega), if_neg (show ¬ a ≥ 4611686018427387904 by omega), if_neg (show ¬ b ≤ -4611686018427387904 by omega)]
 refine Prod.ext ?_ ?_ <;> dsimp only <;> split <;> omega
theorem has_one {c : Int} (cb : -1099511627776 ≤ c ∧ c ≤ 1099511627776) : itvHas (itvOf c c).1 (itvOf c c).2 c = true := by
 unfold itvHas
 rw [itvOf_idem, decide_eq_true_eq, itv_id (by omega) (Int.le_refl _)]
 dsimp only
 omega
theorem place_ne {x y : Int} (h : x ≠ y) (hx : 0 ≤ placeF v x) : placeF v y ≠ placeF v x := by
 rcases placeF_cases v x with ⟨p, _, p2, p3, _⟩ | ⟨p2, _⟩
 ·
  rcases placeF_cases v y with ⟨q, _, q2, q3, _⟩ | ⟨q2, _⟩
  ·
   intro e
   have : q = p := by omega
   subst this
   exact h (p3.symm.trans q3)
  ·
   omega
 ·
  omega
theorem sgn_pm {n : Nat} (hw : Vl n w) {k s : Int} (h0 : 0 ≤ k) (h1 : k < (n : Int)) (hs : s = 0 ∨ s = 1 ∨ s = -1) : -17592186044416 < s * rd w k ∧ s * rd w k < 17592186044416 := by
 have := hw.2 k h0 h1
 rcases hs with rfl | rfl | rfl <;> omega
theorem bnd_in {m : List Int} {e : Bool} {A : Mx} (o : OFit v m e) (hA : Snd (2 * v.length) A) (ha : closeF v m e = (v, lst (2 * v.length) A, false)) (hw : Vl v.length w) (l : Le (2 * v.length) (vM w) A)
 (x sx y sy c : Int) (hc : -1099511627776 ≤ c ∧ c ≤ 1099511627776) (hs : sx = 1 ∨ sx = -1) (ht : sy = 0 ∨ sy = 1 ∨ sy = -1) (hx : 0 ≤ placeF v x) (hy : sy ≠ 0 → 0 ≤ placeF v y) : itvHas (BndF.bndF v m e x sx y sy c).1 (BndF.bndF v m e x sx y sy c).2 (formV v w x sx y sy c) = true := by
 have lx := (placeF_lt v x).2
 have ly := (placeF_lt v y).2
 have bx := sgn_pm hw hx lx (s := sx) (by omega)
 have cm := closeM_at (t := (v, m, e)) ⟨rfl, o⟩ ha
 have nxe : ∀ s, s = 1 ∨ s = -1 → ∀ a, 0 ≤ placeF v a → BndF.nX (placeF v a) s = nd (placeF v a).toNat s := fun s hs a h0 => by
  unfold BndF.nX nd
  rcases hs with rfl | rfl
  ·
   rw [if_neg (by omega), if_neg (by omega)]; omega
  ·
   rw [if_pos ⟨h0, by omega⟩, if_pos (by omega)]; omega
 have up : ∀ s u, (s = 1 ∨ s = -1) → (u = 0 ∨ u = 1 ∨ u = -1) → (u ≠ 0 → 0 ≤ placeF v y) → BndF.mostF (closeM (2 * v.length) (lowM v.length m)) (placeF v x) s (placeF v y) u = 4611686018427387904 ∨ s * rd w (placeF v x) + u * rd w (placeF v y) ≤ BndF.mostF (closeM (2 * v.length) (lowM v.length m)) (placeF v x) s (placeF v y) u := fun s u h1 h2 h3 => by
  have ex : (((placeF v x).toNat : Nat) : Int) = placeF v x := by omega
  have b1 := sgn_pm hw hx lx (s := s) (by omega)
  unfold BndF.mostF
  rw [if_neg (by omega)]
  have lX := BndF.nX_lt (s := s) hx lx
  have lN := nb_lt lX
  by_cases z : u = 0
  ·
   rw [if_pos z, cm _ _ lN lX]
   have g := l _ _ lN lX
   unfold vM at g
   rw [nxe s h1 x hx] at g ⊢
   rw [sgnb, sgn_nd w _ h1, ex] at g
   rw [z]
   unfold half
   split
   ·
    left; assumption
   ·
    right; omega
  ·
   rw [if_neg z]
   have ey : (((placeF v y).toNat : Nat) : Int) = placeF v y := by have := h3 z; omega
   have lY := BndF.nX_lt (s := u) (h3 z) ly
   rw [cm _ _ lN lY]
   have g := l _ _ lN lY
   unfold vM at g
   rw [nxe s h1 x hx, nxe u (by omega) y (h3 z)] at g ⊢
   rw [sgnb, sgn_nd w _ h1, sgn_nd w _ (show u = 1 ∨ u = -1 by omega), ex, ey] at g
   right; omega
 have u1 := up sx sy hs ht hy
 have u2 := up (-sx) (-sy) (by omega) (by omega) (fun h => hy (by omega))
 rw [Int.neg_mul, Int.neg_mul] at u2
 have by_ : -17592186044416 < sy * rd w (placeF v y) ∧ sy * rd w (placeF v y) < 17592186044416 := by
  by_cases z : sy = 0
  ·
   rw [z]; omega
  ·
   exact sgn_pm hw (hy z) ly ht
 unfold BndF.bndF
 rw [if_neg (by rw [ha]; simp), if_neg (by
  rintro (⟨_, k⟩ | ⟨h, k⟩)
  ·
   omega
  ·
   have := hy h; omega)]
 generalize BndF.mostF (closeM (2 * v.length) (lowM v.length m)) (placeF v x) sx (placeF v y) sy = g1 at *
 generalize BndF.mostF (closeM (2 * v.length) (lowM v.length m)) (placeF v x) (-sx) (placeF v y) (-sy) = g2 at *
 unfold formV BndF.loF BndF.hiF
 generalize sx * rd w (placeF v x) = f1 at *
 generalize sy * rd w (placeF v y) = f2 at *
 refine has_in ?_ ?_ (by omega) <;> (dsimp only; split <;> omega)
theorem movM_in {n p : Nat} {s d : Int} {C : Mx} (hC : Snd (2 * n) C) (hs : s = 1 ∨ s = -1) (l : Le (2 * n) (vM w) C) (hu : Vl n u) (b : But p w u) (hp : rd u (p : Int) = s * rd w (p : Int) + d) : Le (2 * n) (vM u) (movM C s p d) := fun i j hi hj => by
 have sg : ∀ i : Nat, sgn u (i : Int) = sgn w ((fromF s p i : Nat) : Int) + gainF p d i := fun i => by
  by_cases c : i / 2 = p
  ·
   rcases Nat.mod_two_eq_zero_or_one i with e | e
   ·
    have ei : i = 2 * p := by omega
    subst ei
    have e1 : ¬ ((2 * p : Nat) : Int) % 2 = 1 := by omega
    have e2 : ((2 * p : Nat) : Int) / 2 = (p : Int) := by omega
    have g : gainF p d (2 * p) = d := by unfold gainF; rw [if_pos rfl]
    rw [g]
    unfold fromF
    rcases hs with rfl | rfl
    ·
     rw [if_neg (by omega)]; unfold sgn; rw [if_neg e1, e2, hp]; omega
    ·
     rw [if_pos ⟨by omega, c⟩, sgnb]; unfold sgn; rw [if_neg e1, e2, hp]; omega
   ·
    have ei : i = 2 * p + 1 := by omega
    subst ei
    have e1 : ((2 * p + 1 : Nat) : Int) % 2 = 1 := by omega
    have e2 : ((2 * p + 1 : Nat) : Int) / 2 = (p : Int) := by omega
    have g : gainF p d (2 * p + 1) = -d := by unfold gainF; rw [if_neg (by omega), if_pos rfl]
    rw [g]
    unfold fromF
    rcases hs with rfl | rfl
    ·
     rw [if_neg (by omega)]; unfold sgn; rw [if_pos e1, e2, hp]; omega
    ·
     rw [if_pos ⟨by omega, c⟩, sgnb]; unfold sgn; rw [if_pos e1, e2, hp]; omega
  ·
   have e1 : fromF s p i = i := by unfold fromF; rw [if_neg (fun q => c q.2)]
   have e2 : gainF p d i = 0 := by unfold gainF; rw [if_neg (by omega), if_neg (by omega)]
   rw [e1, e2, sgn_but b c]; omega
 have h2 := l _ _ (fromF_lt (s := s) (k := p) hi) (fromF_lt (s := s) (k := p) hj)
 have s1 := sgn_vl hu hi
 have s2 := sgn_vl hu hj
 have bd := hC.bd _ _ (fromF_lt (s := s) (k := p) hi) (fromF_lt (s := s) (k := p) hj)
 unfold movM movedG
 by_cases e : i = j
 ·
  subst e; rw [if_pos rfl, hC.dg i hi]; unfold vM; omega
 ·
  rw [if_neg e]
  unfold vM at h2 ⊢
  rw [sg i, sg j] at *
  generalize C (fromF s p i) (fromF s p j) = k at *
  generalize gainF p d i = g1 at *
  generalize gainF p d j = g2 at *
  generalize sgn w ((fromF s p i : Nat) : Int) = a1 at *
  generalize sgn w ((fromF s p j : Nat) : Int) = a2 at *
  unfold Fin' at bd
  unfold clipV
  (repeat' split) <;> omega
theorem asg_in (o : On v t) (hw : Vl v.length w) (hu : Vl v.length u) (h : In v t w) (x lx sx y sy c : Int) (b : But (placeF v x).toNat w u) (b0 : placeF v x < 0 → u = w) (bx : 0 ≤ placeF v x → ofB v lx sx y sy c = true → rd u (placeF v x) = formV v w lx sx y sy c) : In v (asgT v t x lx sx y sy c) u := by
 obtain ⟨A, hA, e, l⟩ := h.cl o hw
 have ha : closeF v t.2.1 t.2.2 = (v, lst (2 * v.length) A, false) := e
 have oa := On.mat o.vok hA.s
 have ia : In v (v, lst (2 * v.length) A, false) w := In.mat o.vok hA.s hw l
 have fi := fgt_in oa hw hu ia x b0 b
 have fo := fgt_on oa x
 unfold asgT
 by_cases hp : placeF v x < 0
 ·
  rw [asgn_no ha hp, b0 hp]; exact ia
 ·
  by_cases hof : ofB v lx sx y sy c = false
  ·
   rw [asgn_not ha hp hof]; exact fi
  ·
   have hof' : ofB v lx sx y sy c = true := by simpa using hof
   rw [asgn_of ha hp hof']
   have val := bx (by omega) hof'
   have hP := of_decide_eq_true hof'
   have h3 := hP.1.2.2.2
   have cb : -1099511627776 ≤ c ∧ c ≤ 1099511627776 := ⟨hP.1.1, hP.1.2.1⟩
   have px : sx ≠ 0 → 0 ≤ placeF v lx := fun h => by have := hP.2.1; omega
   have py : sy ≠ 0 → 0 ≤ placeF v y := fun h => by have := hP.2.2; omega
   have ht : sy = 0 ∨ sy = 1 ∨ sy = -1 := by omega
   have ub : ∀ a, a ≠ x → 0 ≤ placeF v a → rd u (placeF v a) = rd w (placeF v a) := fun a hne h0 => by
    have := b (placeF v a).toNat (fun q => place_ne hne h0 (by omega))
    rwa [show (((placeF v a).toNat : Nat) : Int) = placeF v a by omega] at this
   have less_ok : ∀ (t' : Tri), On v t' → In v t' u → ∀ (s a : Int) (i : Int × Int), itvHas i.1 i.2 (rd u (placeF v x) - s * rd u (placeF v a)) = true → In v (lessG t' x s a i) u := fun t' o' i' s a i hi => by
    unfold lessG
    split
    ·
     refine grd_in o' hu i' x 1 a (-s) 0 i (fun _ => ?_)
     have : formV v u x 1 a (-s) 0 = rd u (placeF v x) - s * rd u (placeF v a) := by unfold formV; rw [Int.neg_mul]; omega
     rw [this]; exact hi
    ·
     refine grd_in o' hu i' a (-s) x 1 0 i (fun _ => ?_)
     have : formV v u a (-s) x 1 0 = rd u (placeF v x) - s * rd u (placeF v a) := by unfold formV; rw [Int.neg_mul]; omega
     rw [this]; exact hi
   unfold asgF
   split
   ·
    rename_i s0
    refine grd_in fo hu fi x 1 0 0 0 _ (fun _ => ?_)
    have sy0 : sy = 0 := by omega
    have e1 : formV v u x 1 0 0 0 = c := by
     have : rd u (placeF v x) = c := by rw [val]; unfold formV; rw [s0, sy0]; omega
     unfold formV; omega
    rw [e1]; exact has_one cb
   ·
    rename_i s0
    have hs : sx = 1 ∨ sx = -1 := by omega
    split
    ·
     rename_i q
     have e2 : lst (2 * v.length) (movM (closeM (2 * v.length) (lowM v.length (lst (2 * v.length) A))) sx (placeF v x).toNat c) = lst (2 * v.length) (movM A sx (placeF v x).toNat c) := by
      have r := closeM_at oa (hA.clF o.vok)
      refine lst_ext fun i j hi hj => ?_
      unfold movM movedG
      rw [r i j hi hj, r _ _ (fromF_lt hi) (fromF_lt hj)]
     rw [e2]
     refine in_clmat o.vok (movM_snd hA.s) hu (movM_in hA.s hs l hu b ?_)
     rw [show (((placeF v x).toNat : Nat) : Int) = placeF v x by omega, val]
     unfold formV; rw [q.1, q.2]; omega
    ·
     rename_i q
     split
     ·
      rename_i s1
      have hne : lx ≠ x := fun k => q ⟨s1, k⟩
      refine less_ok _ fo fi sx lx _ ?_
      have e1 : rd u (placeF v x) - sx * rd u (placeF v lx) = c := by
       rw [ub lx hne (px s0), val]; unfold formV; rw [s1]; omega
      rw [e1]; exact has_one cb
     ·
      rename_i s1
      have hs2 : sy = 1 ∨ sy = -1 := by omega
      have ca := hA.clF o.vok
      have g0 := bnd_in oa.2 hA.s ca hw l lx sx y sy c cb hs ht (px s0) py
      have g1 := bnd_in oa.2 hA.s ca hw l y sy 0 0 c cb hs2 (.inl rfl) (py s1) (fun h => absurd rfl h)
      have g2 := bnd_in oa.2 hA.s ca hw l lx sx 0 0 c cb hs (.inl rfl) (px s0) (fun h => absurd rfl h)
      have i0 : In v (grd (fgtT v (v, lst (2 * v.length) A, false) x) x 1 0 0 0 (BndF.bndF v (lst (2 * v.length) A) false lx sx y sy c)) u := by
       refine grd_in fo hu fi x 1 0 0 0 _ (fun _ => ?_)
       have e1 : formV v u x 1 0 0 0 = formV v w lx sx y sy c := by rw [← val]; unfold formV; omega
       rw [e1]; exact g0
      have o0 := grd_on fo x 1 0 0 0 (BndF.bndF v (lst (2 * v.length) A) false lx sx y sy c)
      unfold fgtT at i0 o0
      dsimp only at i0 o0
      dsimp only
      have k2 : ∀ t', On v t' → In v t' u → y ≠ x → In v (lessG t' x sy y (BndF.bndF v (lst (2 * v.length) A) false lx sx 0 0 c)) u := fun t' o' i' hne => by
       refine less_ok _ o' i' sy y _ ?_
       have e1 : rd u (placeF v x) - sy * rd u (placeF v y) = formV v w lx sx 0 0 c := by
        rw [ub y hne (py s1), val]; unfold formV; omega
       rw [e1]; exact g2
      by_cases d1 : lx = x
      ·
       simp only [if_pos d1]
       split
       ·
        exact i0
       ·
        rename_i d2; exact k2 _ o0 i0 d2
      ·
       simp only [if_neg d1]
       have i1 : In v (lessG (grd (forgetF v (lst (2 * v.length) A) false x) x 1 0 0 0 (BndF.bndF v (lst (2 * v.length) A) false lx sx y sy c)) x sx lx (BndF.bndF v (lst (2 * v.length) A) false y sy 0 0 c)) u := by
        refine less_ok _ o0 i0 sx lx _ ?_
        have e1 : rd u (placeF v x) - sx * rd u (placeF v lx) = formV v w y sy 0 0 c := by
         rw [ub lx d1 (px s0), val]; unfold formV; omega
        rw [e1]; exact g1
       split
       ·
        exact i1
       ·
        rename_i d2; exact k2 _ (less_on o0 _ _ _ _) i1 d2
end
end Go.Proofs.Ytphfchbggechhaa.QO
end
end
section
noncomputable section
namespace Go.Proofs.Ytphfchbggechhaa.Pure
open Go.RowKit Ytphfchbggechhaa.QO YtphfchbggechhaaW.PrintWords YtphfchbggechhaaW.PrintLast YtphfchbggechhaaW.PrintMore
open Ytphfchbggechhaa.OctMath (over overs plus Bd Fin' Top62 dbl dbls least IsClosure)
set_option linter.unusedVariables false
theorem tt_bd {n : Nat} {M : Nat → Nat → Int} (hM : Bd n 1099511627776 M) {t : Nat} (ht : t ≤ 6) : Bd n 70368744177664 (dbls n M t) := fun i j hi hj => by
 have hp : (2 : Int) ^ t ≤ 2 ^ 6 := by
  have := Nat.pow_le_pow_right (n := 2) (by decide) ht
  exact_mod_cast this
 have h4 : (1099511627776 : Int) * 2 ^ t ≤ 1099511627776 * 2 ^ 6 := Int.mul_le_mul_of_nonneg_left hp (by decide)
 exact OctMath.fin_mono (OctMath.bd_dbls hM (by decide) t (by omega) i j hi hj) (by omega)
theorem tt_same {n : Nat} {M : Nat → Nat → Int} (hn : n ≤ 16) (hM : Bd n 1099511627776 M) (hd : ∀ i, i < n → M i i = 0) {b : Bool} {e : Nat → Nat → Int} (hc : IsClosure n M b e) (ht : b = true → Top62 n e) : (b = true ↔ FloydOk n M) ∧ (b = true → ∀ i j, i < n → j < n → e i j = overs M n i j) := by
 have top : Top62 n M := OctMath.fin_of_low hM (by decide)
 have pw : (2 : Int) ^ n ≤ 2 ^ 16 := by
  have := Nat.pow_le_pow_right (n := 2) (by decide) hn
  exact_mod_cast this
 have h16 : (1099511627776 : Int) * 2 ^ n ≤ 1099511627776 * 2 ^ 16 := Int.mul_le_mul_of_nonneg_left pw (by decide)
 by_cases hf : FloydOk n M
 ·
  have f1 := OctMath.overs_closure hM (by decide) (by omega) hd (fun k i hk hi => hf k i hk hi)
  have f2 : Top62 n (overs M n) := OctMath.fin_of_low (overs_bd hM hn) (by decide)
  have := OctMath.closure_unique hc f1 ht (fun _ => f2)
  exact ⟨⟨fun _ => hf, fun _ => this.1⟩, this.2⟩
 ·
  have h1 : ∃ t i, t ≤ n ∧ i < n ∧ overs M t i i < 0 := Classical.byContradiction fun c => hf fun t i ht hi => by
   refine Classical.byContradiction fun q => c ⟨t, i, ht, hi, by omega⟩
  obtain ⟨t, i, h1, h2, h3⟩ := h1
  have := OctMath.closure_unique hc ((OctMath.overs_none top h1 h2 h3 : IsClosure n M false (overs M n))) ht (fun h => by cases h)
  exact ⟨⟨(fun h => by rw [this.1] at h; cases h), fun h => absurd h hf⟩, this.2⟩
theorem tt_none {n : Nat} {M : Nat → Nat → Int} (hn : n ≤ 16) (hM : Bd n 1099511627776 M) (hd : ∀ i, i < n → M i i = 0) {t i : Nat} (hi : i < n) (h : dbls n M (t + 1) i i < 0) : tightR n M = ([], false) := by
 have top : Top62 n M := OctMath.fin_of_low hM (by decide)
 have hc : IsClosure n M false (overs M n) := OctMath.dbls_none (t := t + 1) top hi h
 have hs := tt_same hn hM hd hc (fun h => by cases h)
 unfold tightR
 rw [closeB_false.2 (fun h => by have := hs.1.2 h.1; cases this)]; rfl
theorem tt_last {n : Nat} {M : Nat → Nat → Int} (hn : n ≤ 16) (hM : Bd n 1099511627776 M) (hd : ∀ i, i < n → M i i = 0) {t : Nat} (ht : t ≤ 6) (h2 : ¬ ((2 : Int) ^ t ≤ 2 * (n : Int))) (hp : ∀ i, i < n → 0 ≤ dbls n M t i i) : FloydOk n M ∧ lst n (dbls n M t) = lst n (tigTo (overs M n) 0) := by
 have h3 : n + 1 ≤ 2 ^ t := by
  have : (n : Int) + 1 ≤ 2 ^ t := by omega
  exact_mod_cast this
 have h5 : (2 : Int) ^ t ≤ 2 ^ 6 := by
  have := Nat.pow_le_pow_right (n := 2) (by decide) ht
  exact_mod_cast this
 have h4 : (1099511627776 : Int) * 2 ^ t ≤ 1099511627776 * 2 ^ 6 := Int.mul_le_mul_of_nonneg_left h5 (by decide)
 have hcl := OctMath.dbls_closure (t := t) hM (by decide) hd (by omega) h3 hp
 have hs := tt_same hn hM hd hcl (fun _ => OctMath.fin_of_low (tt_bd hM ht) (by decide))
 exact ⟨hs.1.1 rfl, lst_congr (fun a b ha hb => by rw [hs.2 rfl a b ha hb, tigTo_zero])⟩
theorem tt_bad {n : Nat} {M : Nat → Nat → Int} {i : Nat} (hi : i < n) (h : plus (tig (overs M n) i (nb i)) (tig (overs M n) (nb i) i) < 0) : tightR n M = ([], false) := by
 unfold tightR; rw [closeB_false.2 (fun q => by have := q.2 i hi; omega)]; rfl
theorem tt_good {n : Nat} {M : Nat → Nat → Int} (hf : FloydOk n M) (h : ∀ i, i < n → 0 ≤ plus (tig (overs M n) i (nb i)) (tig (overs M n) (nb i) i)) : tightR n M = (lst n (strg (tig (overs M n))), true) := by
 unfold tightR; rw [if_pos (closeB_true.2 ⟨hf, h⟩)]
theorem tt_le {t : Nat} {L : Int} (h : L = 2 ^ t) (ht : t ≤ 6) (hl : L ≤ 32) : t ≤ 5 := by
 by_cases e : t = 6
 ·
  subst e; omega
 ·
  omega
theorem tt_pow {t : Nat} (ht : t ≤ 5) : IntKind.i64.wrap (2 * (2 : Int) ^ t) = 2 ^ (t + 1) := by
 have h5 : (2 : Int) ^ t ≤ 2 ^ 5 := by
  have := Nat.pow_le_pow_right (n := 2) (by decide) ht
  exact_mod_cast this
 have e1 : (2 : Int) ^ (t + 1) = 2 * 2 ^ t := by rw [Int.pow_succ]; omega
 have e2 : (0 : Int) ≤ 2 ^ t := Int.pow_nonneg (by decide)
 rw [IntKind.wrap_i64, e1]; omega
theorem low_lst {vars m : List Int} (h : OFit vars m false) : m = lst (2 * vars.length) (lowM vars.length m) := by
 have hl : m.length = (2 * vars.length) * (2 * vars.length) := by
  have h1 := (h.2.2 rfl).1
  have e : ((m.length : Nat) : Int) = (((2 * vars.length) * (2 * vars.length) : Nat) : Int) := by rw [h1]; push_cast; rfl
  omega
 apply List.ext_getElem
 ·
  rw [lst_length]; exact hl
 ·
  intro t h1 h2
  have ht : t < (2 * vars.length) * (2 * vars.length) := by omega
  have h0 : 0 < 2 * vars.length := by
   rcases Nat.eq_zero_or_pos (2 * vars.length) with e | e
   ·
    rw [e] at ht; omega
   ·
    exact e
  have ha : t / (2 * vars.length) < 2 * vars.length := Nat.div_lt_of_lt_mul ht
  have hb := Nat.mod_lt t h0
  have hdm := Nat.div_add_mod t (2 * vars.length)
  simp only [lst, List.getElem_map, List.getElem_range]
  generalize t / (2 * vars.length) = a at *
  generalize t % (2 * vars.length) = b at *
  unfold lowM
  rw [lowAt_same h (by omega) (by omega) (by omega) (by omega)]
  have e : (a : Int) * (2 * (vars.length : Int)) + (b : Int) = (t : Int) := by
   have e2 : ((2 * vars.length * a + b : Nat) : Int) = (t : Int) := by rw [hdm]
   push_cast at e2
   rw [Int.mul_comm]; exact e2
  rw [e]; unfold rd; rw [Int.toNat_natCast]; simp [h1]
theorem ix {n i j NN : Nat} (hn : n ≤ 16) (hN : n * n = NN) (hi : i < n) (hj : j < n) : ∃ P I : Int, IntKind.i64.wrap ((i : Int) * (n : Int)) = P ∧ IntKind.i64.wrap (P + (j : Int)) = I ∧ Aside0 (I = ((i * n + j : Nat) : Int)) ∧ (0 ≤ I) = True ∧ (I < (NN : Int)) = True := by
 have h1 := ij_lt hi hj
 have h2 : i * n ≤ 16 * 16 := Nat.mul_le_mul (by omega) hn
 have e : (i : Int) * (n : Int) = ((i * n : Nat) : Int) := by push_cast; rfl
 refine ⟨((i * n : Nat) : Int), ((i * n + j : Nat) : Int), ?_, ?_, ⟨rfl⟩, eq_true (by omega), eq_true (by omega)⟩
 ·
  rw [IntKind.wrap_i64, e]; omega
 ·
  rw [IntKind.wrap_i64]; push_cast; omega
theorem up_set {n i j : Nat} {D : Nat → Nat → Int} {I : Int} {u : Int} (hi : i < n) (hj : j < n) (hI : I = ((i * n + j : Nat) : Int)) (hu : u = D i j) : (lst n (upTo D i j)).set I.toNat u = lst n (upTo D i (j + 1)) := by
 rw [lst_set hi hj hI, hu]
 exact lst_congr (fun a b _ _ => (upTo_step a b).symm)
theorem up_row {n i : Nat} (D : Nat → Nat → Int) : lst n (upTo D i n) = lst n (upTo D (i + 1) 0) := lst_congr (fun a b _ hb => upTo_row a b hb)
theorem up_end {n : Nat} (D : Nat → Nat → Int) : lst n (upTo D n 0) = lst n D := lst_congr (fun a b ha _ => upTo_all a b ha)
theorem tig_end {n : Nat} (D : Nat → Nat → Int) : lst n (tigTo D n) = lst n (tig D) := lst_congr (fun a b ha _ => tigTo_all a b ha)
theorem tig_inf {n i : Nat} {D : Nat → Nat → Int} (h : D i (nb i) = 4611686018427387904) : lst n (tigTo D i) = lst n (tigTo D (i + 1)) := lst_congr (fun a b _ _ => by
 rw [tigTo_step a b]
 by_cases q : a = i ∧ b = nb i
 ·
  rw [if_pos q, q.1, q.2]
  have ed : tigTo D i i (nb i) = D i (nb i) := by unfold tigTo; rw [if_neg (by omega)]
  rw [ed]; unfold tig; rw [if_pos rfl, if_pos h, h]
 ·
  rw [if_neg q])
theorem tig_at {i : Nat} {D : Nat → Nat → Int} : tigTo D i i (nb i) = D i (nb i) := by unfold tigTo; rw [if_neg (by omega)]
theorem tig_set {n i : Nat} {D : Nat → Nat → Int} {I u : Int} (hi : i < n) (hj : nb i < n) (hI : I = ((i * n + nb i : Nat) : Int)) (hu : u = tig D i (nb i)) : (lst n (tigTo D i)).set I.toNat u = lst n (tigTo D (i + 1)) := by
 rw [lst_set hi hj hI, hu]
 exact lst_congr (fun a b _ _ => (tigTo_step a b).symm)
theorem str_set2 {n i j : Nat} {S : Nat → Nat → Int} {I J u v : Int} (hi : i < n) (hj : j < n) (hI : I = ((i * n + j : Nat) : Int)) (e : J = I) (hu : u = S i j) : ((lst n (upTo S i j)).set I.toNat v).set J.toNat u = lst n (upTo S i (j + 1)) := by
 subst e; rw [List.set_set]; exact up_set hi hj hI hu
end Go.Proofs.Ytphfchbggechhaa.Pure
namespace Go.Proofs.Ytphfchbggechhaa.QO
open Go.RowKit Go.Shelf YtphfchbggechhaaW.PrintWords YtphfchbggechhaaW.PrintLast YtphfchbggechhaaW.PrintMore
open Ytphfchbggechhaa.Pure
open Ytphfchbggechhaa.OctMath (plus Fin')
section
variable {w w1 W W' W0 : World} {os : List OV} {fs : List (Nat × Obj)} {Q : Option Addr} {q b n : Nat} {l : List Int} {ok : Nat → Prop} {v : Value}
theorem MS.mkz (h : Aside0 (MS w os fs W0)) (ho : Kd.R (Kd.int .i64) 2 W' W.heap.size ok v (List.replicate n 0)) (hb : Below W.heap.size W W') (f : MS w os fs W0 → MS w os fs W := by intro h_; (with_reducible repeat (first | exact h_ | refine MS.next ?_ (below_alloc (Below.refl _ _) _) | refine MS.next ?_ (below_drew (Below.refl _ _)) | refine MS.next ?_ (pw_below_drewN (Below.refl _ _) _)))) :
 ∃ Q q, v = .slice Q n q ∧ Aside0 (MS w (rV Q q (List.replicate n 0) :: os) fs W') := by
 obtain ⟨Q, q, rfl⟩ := Kd.R_slice ho
 exact ⟨Q, q, by rw [List.length_replicate], ⟨(f h.out).call hb (Own.row ho)⟩⟩
theorem MS.apn (h : Aside0 (MS w os fs W0)) (ho : Kd.R (Kd.int .i64) 2 W' W.heap.size ok v ([] ++ l)) (hb : Below W.heap.size W W') (hn : l.length = n) (f : MS w os fs W0 → MS w os fs W := by intro h_; (with_reducible repeat (first | exact h_ | refine MS.next ?_ (below_alloc (Below.refl _ _) _) | refine MS.next ?_ (below_drew (Below.refl _ _)) | refine MS.next ?_ (pw_below_drewN (Below.refl _ _) _)))) :
 ∃ Q q, v = .slice Q n q ∧ Aside0 (MS w (rV Q q l :: os) fs W') := by
 rw [List.nil_append] at ho
 obtain ⟨Q, q, rfl⟩ := Kd.R_slice ho
 exact ⟨Q, q, by rw [hn], ⟨(f h.out).call hb (Own.row ho)⟩⟩
theorem MS.cel {A : Nat → Nat → Int} {i j : Nat} {I : Int} (h : Aside0 (MS w os fs W)) (hx : rV (some ⟨b, 0, none⟩) q (lst n A) ∈ os) (hi : i < n) (hj : j < n) (hI : I = ((i * n + j : Nat) : Int)) : W.cell? ⟨b, I.toNat, none⟩ = some (.int .i64 (A i j)) ∧ W.frozen? ⟨b, I.toNat, none⟩ = false := by
 have := ij_lt hi hj
 have r := MS.cer h hx I (by omega) (by rw [lst_length]; omega)
 rwa [lst_rd hi hj hI] at r
end
theorem str_rd {W : World} {b : Nat} {l : List Int} {I J u : Int} (h : W.cell? ⟨b, J.toNat, none⟩ = some (.int .i64 (rd (l.set I.toNat u) J))) (e : J = I) (hI : I < (l.length : Int)) (h0 : 0 ≤ I) : W.cell? ⟨b, J.toNat, none⟩ = some (.int .i64 u) := by
 rw [h, e, rd_set h0 hI h0, if_pos rfl]
theorem plus_as {B a c r : Int} {W : World} (hB : B ≤ 1152921504606846976) (ha : Fin' B a) (hc : Fin' B c) (h : plus a c = r) : Says 118 #[.int .i64 a, .int .i64 c] W (.int .i64 r) :=
 (gimbalref11_plus.calls a c r W (by rw [plus_f hB ha hc, h])).mono (by rintro e wk ⟨rfl, ⟨nd, rfl⟩⟩; exact ⟨rfl, pw_below_drewN (Below.refl _ _) _⟩)
theorem halved_as {a r : Int} {W : World} (ha : Fin' 1152921504606846976 a) (hx : a ≠ 4611686018427387904) (h : half a = r) : Says 119 #[.int .i64 a] W (.int .i64 r) :=
 (gimbalref11_halved.calls a r W (by rw [half_f ha hx, h])).mono (by rintro e wk ⟨rfl, ⟨nd, rfl⟩⟩; exact ⟨rfl, pw_below_drewN (Below.refl _ _) _⟩)
theorem bar11_as {i n : Nat} {W : World} (hn : n ≤ 16) (hi : i < n) : Says 47 #[.int .i64 (i : Int)] W (.int .i64 ((nb i : Nat) : Int)) :=
 (gimbalref11_bar.calls (i : Int) _ W (bar_f hn hi)).mono (by rintro e wk ⟨rfl, ⟨nd, rfl⟩⟩; exact ⟨rfl, pw_below_drewN (Below.refl _ _) _⟩)
end Go.Proofs.Ytphfchbggechhaa.QO
end
end
section
noncomputable section
namespace Go.Proofs.Ytphfchbggechhaa.QO
open Go.RowKit Go.Shelf YtphfchbggechhaaW.PrintWords YtphfchbggechhaaW.PrintLast YtphfchbggechhaaW.PrintMore
open Ytphfchbggechhaa.Pure
open OctMath (over overs plus Bd Fin' Top62 dbl dbls least)
attribute [local go_sem] Oper.semAt_some
attribute [local go_sem ↓] Go.wp_at_zero Go.wp_at_succ
set_option linter.unusedVariables false
set_option linter.unusedSimpArgs false
def tt_T17 : Bool × List (List Nat × List Nat) := (true, [([], []), ([], []), ([], []), ([], []), ([2, 3], [2, 3]), ([], []), ([4, 5], [4, 5]), ([1, 6], [1, 6]), ([7], [7]), ([], []), ([], []), ([], []), ([10, 11], [10, 11]), ([], []), ([12, 13], [12, 13]), ([9, 14], [9, 14]), ([15], [15]), ([8, 16], [8, 16]), ([0, 17], [0, 17]), ([18, 17, 0, 1, 2, 3, 4, 5, 6, 7, 8, 9, 10, 11, 12, 13, 14, 15, 16, 17, 18], [0, 18])])
def tt_B17 : List Nat := [0, 0, 0, 0, 12, 0, 60, 126, 254, 0, 0, 0, 3072, 0, 15360, 32256, 65024, 131070, 262143, 524287]
theorem tt_tab17 : rtab .any (opsOf Try.f82 17) = tt_T17 := by kernel_rfl
theorem tt_bits17 : waitsOk tt_T17.2 tt_B17 = true := by kernel_rfl
def tt_T31 : Bool × List (List Nat × List Nat) := (true, [([], []), ([], []), ([], []), ([1, 2], [1, 2]), ([], []), ([4], [4]), ([3, 5], [3, 5]), ([0, 6], [0, 6]), ([7], [7]), ([], []), ([], []), ([10, 5], [10]), ([], []), ([11, 12], [11, 12]), ([], []), ([13, 14], [13, 14]), ([9, 15], [9, 15]), ([16], [16]), ([8, 17, 11], [8, 17]), ([18], [18])])
def tt_B31 : List Nat := [0, 0, 0, 6, 0, 16, 62, 127, 255, 0, 0, 1072, 0, 7216, 0, 31792, 65072, 130608, 262143, 524287]
theorem tt_tab31 : rtab .any (opsOf Try.f82 31) = tt_T31 := by kernel_rfl
theorem tt_bits31 : waitsOk tt_T31.2 tt_B31 = true := by kernel_rfl
def tt_T41 : Bool × List (List Nat × List Nat) := (true, [([], []), ([], []), ([], []), ([1, 2], [1, 2]), ([], []), ([4], [4]), ([3, 5], [3, 5]), ([0, 6], [0, 6]), ([7], [7]), ([], []), ([], []), ([10, 5], [10]), ([], []), ([11, 12], [11, 12]), ([], []), ([13, 14], [13, 14]), ([9, 15], [9, 15]), ([16], [16]), ([8, 17, 11], [8, 17]), ([18, 18, 0, 1, 2, 3, 4, 5, 6, 7, 8, 9, 10, 11, 12, 13, 14, 15, 16, 17, 18], [18])])
def tt_B41 : List Nat := [0, 0, 0, 6, 0, 16, 62, 127, 255, 0, 0, 1072, 0, 7216, 0, 31792, 65072, 130608, 262143, 524287]
theorem tt_tab41 : rtab .any (opsOf Try.f82 41) = tt_T41 := by kernel_rfl
theorem tt_bits41 : waitsOk tt_T41.2 tt_B41 = true := by kernel_rfl
def tt_T43 : Bool × List (List Nat × List Nat) := (true, [([], []), ([], []), ([], []), ([1, 2], [1, 2]), ([], []), ([3, 4], [3, 4]), ([], []), ([], []), ([], []), ([7, 8], [7, 8]), ([], []), ([9, 10], [9, 10]), ([6, 11], [6, 11]), ([12], [12]), ([], []), ([14], [14]), ([13, 15], [13, 15]), ([0, 5, 0, 1, 2, 3, 4, 5, 6, 7, 8, 9, 10, 11, 12, 13, 14, 15, 16], [0, 5]), ([17, 16, 15, 0, 1, 2, 3, 4, 5, 6, 7, 8, 9, 10, 11, 12, 13, 14, 15, 16], [16, 17])])
def tt_B43 : List Nat := [0, 0, 0, 6, 0, 30, 0, 0, 0, 384, 0, 1920, 4032, 8128, 0, 16384, 65472, 131071, 262143]
theorem tt_tab43 : rtab .any (opsOf Try.f82 43) = tt_T43 := by kernel_rfl
theorem tt_bits43 : waitsOk tt_T43.2 tt_B43 = true := by kernel_rfl
theorem tight_w {n NN : Nat} {M : Nat → Nat → Int} {P0 : Option Addr} {p0 : Nat} {w : World} (HN : Aside0 (n ≤ 16)) (HE : Aside0 (∀ a, a < n → nb a < n)) (HNN : Aside0 (n * n = NN)) (HK : Aside0 (NN ≤ 256)) (FN : Aside0 (IntKind.i64.wrap ((n : Int) * (n : Int)) = (NN : Int))) (HB : Aside0 (Bd n 1099511627776 M)) (HD : Aside0 (∀ i, i < n → M i i = 0)) (HR : Aside0 (Kd.C (Kd.int .i64) w P0 NN (lst n M))) : Calls Try.prog 82 #[.slice P0 NN p0, .int .i64 (n : Int)] w fun e W' => ∃ (Q : Option Addr) (q : Nat) (l : List Int) (k : Nat) (b : Bool), e = .returned (.tuple #[.slice Q k q, .bool b]) ∧ l.length = k ∧ (l, b) = tightR n M ∧ Own w W' (rV Q q l) ∧ Below w.heap.size w W' := by
 have hu22 := Try.underlying22
 have hu23 := Try.underlying23
 go_enter Try.func82, Try.ntmps82
 have HM : Aside0 (MS w [] [] w) := ⟨MS.nil w⟩
 go_upto_block 0 with (first | ((with_reducible refine gate_builtin (b := .append) (xs := #[.tmp 20, .tmp 21]) rfl ?_); at_builtin; refine Kd.R_append_rows (Kd.int .i64) (w0 := w) w.heap.size rfl (.tmp 20) (.tmp 21) 23 2 (.int .i64 0) 8 rfl Try.underlying23 info2 rfl (by decide) (by omega) (.slice none 0 0) ([] : List Int) (lst n M) _ _ _ (fun _ => True) (fun _ => False) rfl rfl ?aO ?aR (fun _ _ h => h) (fun _ h => h.elim) ?aF ?aB ?aS ?aL ?_; (case aR => exact HR.out); (case aB => exact Below.refl _ _); (case aF => exact fun _ _ => trivial); (case aO => exact Kd.R_nil _ _ _ _ (fun _ => True)); (case aS => exact Nat.le_refl _); (case aL => have := HK.out; simp only [List.length_nil]; omega); intro v1 wk ho hb hg hat; obtain ⟨Qa, qa, rfl, HM_⟩ := MS.apn HM ho hb (by rw [lst_length, HNN.out]); clear HM; have HM := HM_; clear HM_; clear ho hb hg hat))
 go_cut [6] from 20 (fun v6 wc => ∃ (t : Nat) (Qa : Option Addr) (qa : Nat), v6 = .slice Qa NN qa ∧ Aside0 (t ≤ 6 ∧ ¬ ((2 : Int) ^ t ≤ 2 * (n : Int)) ∧ ∀ i, i < n → 0 ≤ dbls n M t i i) ∧ Aside0 (MS w [rV Qa qa (lst n (dbls n M t))] [] wc))
 case first =>
  go_wp2
  go_loopg [6, 7] 7 (fun kq v6 v7 w' => ∃ (t : Nat) (Qa : Option Addr) (qa : Nat) (L : Int), v6 = .slice Qa NN qa ∧ v7 = .int .i64 L ∧ Aside0 (L = 2 ^ t ∧ t + kq = 7) ∧ Aside0 (t ≤ 6) ∧ Aside0 (∀ i, i < n → 0 ≤ dbls n M t i i) ∧ Aside0 (MS w [rV Qa qa (lst n (dbls n M t))] [] w'))
  case atStart => exact ⟨0, Qa, qa, 1, by rfl, by rfl, ⟨by decide⟩, ⟨by decide⟩, ⟨fun i hi => by show 0 ≤ M i i; rw [HD.out i hi]; exact Int.le_refl _⟩, ⟨MS.to HM⟩⟩
  case round =>
   clear HM
   obtain ⟨t, Qa, qa, L, rfl, rfl, HL, HT6, HP, HM⟩ := hrel
   obtain ⟨N2, hn2⟩ : ∃ N2, IntKind.i64.wrap (2 * (n : Int)) = N2 := ⟨_, rfl⟩
   have H2 : Aside0 (N2 = 2 * (n : Int)) := ⟨by rw [← hn2, IntKind.wrap_i64]; have := HN.out; omega⟩
   by_cases C_ : L ≤ N2
   ·
    have C := Aside0.mk C_; clear C_; have c1 : decide (L ≤ N2) = true := decide_eq_true C.out; have f0 := FN.out
    have HT5 : Aside0 (t ≤ 5) := ⟨tt_le HL.out.1 HT6.out (by have := C.out; have := H2.out; have := HN.out; omega)⟩
    cases gk with
    | zero => exact absurd HL.out (by have := HT5.out; omega)
    | succ t_ =>
     go_upto_region 7 with (first | ((with_reducible refine gate_dst (N := 32) rfl ?_); refine Kd.R_make (Kd.int .i64) _ 2 rfl (N := 32) rfl 23 _ _ rfl (NN : Int) rfl rfl Try.underlying23 (.int .i64 0) 8 info2 rfl (by decide) (by omega) 0 (ok := fun _ => True) (okp := fun _ => True) rfl (fun _ hk => hk) trivial (by omega) (by have := HK.out; omega) (Below.refl _ _) (Nat.le_refl _) ?_; intro v1 wk ho hb hg hn; obtain ⟨Qb, qb, rfl, HM_⟩ := MS.mkz (n := NN) HM ho hb; clear HM; have HM := HM_; clear HM_; clear ho hb hg hn))
     clear f0 c1
     have HBA : Aside0 (Bd n 70368744177664 (dbls n M t)) := ⟨tt_bd HB.out (by have := HT5.out; omega)⟩
     obtain ⟨D, hD⟩ : ∃ D, dbl n (dbls n M t) = D := ⟨_, rfl⟩; have ED := Aside0.mk hD
     have e_ : List.replicate NN (0 : Int) = lst n (upTo D 0 0) := by rw [← HNN.out]; exact lst_zero n D
     rw [e_] at HM; clear e_ hD
     have ESD : Aside0 (dbls n M (t + 1) = D) := ⟨ED.out⟩
     obtain ⟨A, hA⟩ : ∃ A, dbls n M t = A := ⟨_, rfl⟩; rw [hA] at HM HBA ED; clear hA
     go_wp2
     go_loopg [9] n (fun kq v9 w' => ∃ (i : Nat), v9 = .int .i64 (i : Int) ∧ Aside0 (i + kq = n) ∧ Aside0 (∀ a, a < i → 0 ≤ D a a) ∧ Aside0 (MS w [rV Qb qb (lst n (upTo D i 0)), rV Qa qa (lst n A)] [] w'))
     case atStart => exact ⟨0, by rfl, ⟨by omega⟩, ⟨fun a h => absurd h (by omega)⟩, ⟨MS.to HM⟩⟩
     case round =>
      clear HM
      obtain ⟨i, rfl, Hi, HG, HM⟩ := hrel
      cases gk with
      | zero =>
       have q1 : (decide ((i : Int) < (n : Int))) = false := decide_eq_false (by have := Hi.out; omega); have q1n : decide (i < n) = false := decide_eq_false (by have := Hi.out; omega)
       have e_ : i = n := by have := Hi.out; omega
       rw [e_] at HM; clear e_
       rw [up_end] at HM
       have f1 : IntKind.i64.wrap (2 * L) = 2 ^ (t + 1) := by rw [HL.out.1]; exact tt_pow HT5.out
       go_wp2
       go_roundg t_
       case measure => exact Nat.lt_succ_self _
       case rel => exact ⟨t + 1, Qb, qb, 2 ^ (t + 1), rfl, rfl, ⟨rfl, by have := HL.out; omega⟩, ⟨by have := HT5.out; omega⟩, ⟨fun a ha => by rw [ESD.out]; exact HG.out a (by have := Hi.out; omega)⟩, MS.sb (by rw [ESD.out]; exact ⟨MS.to HM⟩) (.cons_cons _ (.cons _ .slnil)) (.refl _)⟩
      | succ i_ =>
       have LI : Aside0 (i < n) := ⟨by have := Hi.out; omega⟩; have q1 : (decide ((i : Int) < (n : Int))) = true := decide_eq_true (by have := LI.out; omega); have q1n : decide (i < n) = true := decide_eq_true (by have := LI.out; omega)
       obtain ⟨bb, rfl⟩ := MS.plr HM m0_ (by rw [lst_length]; exact Nat.mul_pos (by have := LI.out; omega) (by have := LI.out; omega)); obtain ⟨ba, rfl⟩ := MS.plr HM m1_ (by rw [lst_length]; exact Nat.mul_pos (by have := LI.out; omega) (by have := LI.out; omega))
       go_wp2
       go_loopg [10] n (fun kq v10 w' => ∃ (j : Nat), v10 = .int .i64 (j : Int) ∧ Aside0 (j + kq = n) ∧ Aside0 (MS w [rV (some ⟨bb, 0, none⟩) qb (lst n (upTo D i j)), rV (some ⟨ba, 0, none⟩) qa (lst n A)] [] w'))
       case atStart => exact ⟨0, by rfl, ⟨by omega⟩, ⟨MS.to HM⟩⟩
       case round =>
        clear HM
        obtain ⟨j, rfl, Hj, HM⟩ := hrel
        cases gk with
        | zero =>
         have q2 : (decide ((j : Int) < (n : Int))) = false := decide_eq_false (by have := Hj.out; omega); have q2n : decide (j < n) = false := decide_eq_false (by have := Hj.out; omega)
         have e_ : j = n := by have := Hj.out; omega
         rw [e_, up_row] at HM; clear e_
         obtain ⟨P, I, fI, gI, HI, pI, qI⟩ := ix HN.out HNN.out LI.out LI.out
         have eu : upTo D (i + 1) 0 i i = D i i := by unfold upTo; rw [if_pos (by omega)]
         obtain ⟨x1, z1⟩ := MS.cel HM m0_ LI.out LI.out HI.out
         rw [eu] at x1; clear eu
         by_cases G_ : D i i < 0
         ·
          have G := Aside0.mk G_; clear G_; have d1 : decide (D i i < 0) = true := decide_eq_true G.out
          go_wp2
          ((try simp only [Exit.inBlock, Exit.then]); refine bodyPost_ret (results_tmp2 rfl _ _ _) rfl ?_)
          exact ⟨none, 0, [], 0, false, rfl, rfl, (tt_none HN.out HB.out HD.out LI.out (by rw [ESD.out]; exact G.out)).symm, (MS.r0 HM).out.S.own _ m0_, MS.bel HM⟩
         ·
          have G := Aside0.mk G_; clear G_; have d1 : decide (D i i < 0) = false := decide_eq_false G.out
          go_wp2
          clear d1 x1 z1 q1 q1n q2 q2n
          clear fI gI pI qI
          go_roundg i_
          case measure => exact Nat.lt_succ_self _
          case rel =>
           have hw : wrap64 ((i : Int) + 1) = ((i + 1 : Nat) : Int) := suc (by have := Hi.out; have := HN.out; omega)
           rw [hw]
           exact ⟨i + 1, rfl, ⟨by have := Hi.out; omega⟩, ⟨fun a ha => by by_cases e : a = i; rw [e]; have := G.out; omega; exact HG.out a (by omega)⟩, ⟨MS.to HM⟩⟩
        | succ j_ =>
         have LJ : Aside0 (j < n) := ⟨by have := Hj.out; omega⟩; have q2 : (decide ((j : Int) < (n : Int))) = true := decide_eq_true (by have := LJ.out; omega); have q2n : decide (j < n) = true := decide_eq_true (by have := LJ.out; omega)
         obtain ⟨P, I, fI, gI, HI, pI, qI⟩ := ix HN.out HNN.out LI.out LJ.out
         obtain ⟨x1, z1⟩ := MS.cel HM m1_ LI.out LJ.out HI.out
         go_wp2
         clear x1 z1 q2 q2n
         go_loopg [12, 11] n (fun kq v12 v11 w' => ∃ (k : Nat), v12 = .int .i64 (k : Int) ∧ v11 = .int .i64 (least A i j k) ∧ Aside0 (k + kq = n) ∧ Aside0 (MS w [rV (some ⟨bb, 0, none⟩) qb (lst n (upTo D i j)), rV (some ⟨ba, 0, none⟩) qa (lst n A)] [] w'))
         case atStart => exact ⟨0, by rfl, by rfl, ⟨by omega⟩, ⟨MS.to HM⟩⟩
         case round =>
          clear HM
          obtain ⟨k, rfl, rfl, Hk, HM⟩ := hrel
          cases gk with
          | zero =>
           have q3 : (decide ((k : Int) < (n : Int))) = false := decide_eq_false (by have := Hk.out; omega); have q3n : decide (k < n) = false := decide_eq_false (by have := Hk.out; omega)
           have e_ : k = n := by have := Hk.out; omega
           have hz := (MS.cel HM m0_ LI.out LJ.out HI.out).2
           have hz0 := (MS.cel HM m0_ LI.out LJ.out HI.out).1
           go_wp2
           clear hz hz0 q3 q3n
           replace HM := MS.pkr (i := I) (u := least A i j n) HM (by rw [lst_length, HNN.out]; have := of_eq_true pI; have := of_eq_true qI; omega)
           rw [up_set LI.out LJ.out HI.out (by rw [← ED.out]; rfl)] at HM
           clear fI gI pI qI
           go_roundg j_
           case measure => exact Nat.lt_succ_self _
           case rel =>
            have hw : wrap64 ((j : Int) + 1) = ((j + 1 : Nat) : Int) := suc (by have := Hj.out; have := HN.out; omega)
            rw [hw]
            exact ⟨j + 1, rfl, ⟨by have := Hj.out; omega⟩, HM⟩
          | succ k_ =>
           have LK : Aside0 (k < n) := ⟨by have := Hk.out; omega⟩; have q3 : (decide ((k : Int) < (n : Int))) = true := decide_eq_true (by have := LK.out; omega); have q3n : decide (k < n) = true := decide_eq_true (by have := LK.out; omega)
           go_upto_region 17 with fail
           clear fI gI pI qI
           obtain ⟨P2, I2, fI2, gI2, HI2, pI2, qI2⟩ := ix HN.out HNN.out LI.out LK.out
           obtain ⟨P3, I3, fI3, gI3, HI3, pI3, qI3⟩ := ix HN.out HNN.out LK.out LJ.out
           obtain ⟨s, hs⟩ : ∃ s, plus (A i k) (A k j) = s := ⟨_, rfl⟩; have HS := Aside0.mk hs; clear hs
           obtain ⟨bst, hb⟩ : ∃ b, (if s < least A i j k then s else least A i j k) = b := ⟨_, rfl⟩; have HBS := Aside0.mk hb
           have HF1 : Aside0 (Fin' 70368744177664 (A i k)) := ⟨HBA.out i k LI.out LK.out⟩; have HF2 : Aside0 (Fin' 70368744177664 (A k j)) := ⟨HBA.out k j LK.out LJ.out⟩
           replace HM := MS.dr HM
           skip
           refine st_ 20 (fun w' => True ∧ w'.cell? ⟨ba, I2.toNat, none⟩ = some (.int .i64 (A i k)) ∧ w'.cell? ⟨ba, I3.toNat, none⟩ = some (.int .i64 (A k j))) [] ⟨trivial, (MS.cel HM m1_ LI.out LK.out HI2.out).1, (MS.cel HM m1_ LK.out LJ.out HI3.out).1⟩ (fun hHeld => ?_)
           refine with_tabW tt_tab17 tt_bits17 (fun HT_ HW_ => ?_)
           generalize World.drew _ = wk at HM hHeld ⊢
           refine pV_ 0 56 (mB 20 1) HT_ ?_
           refine pV_ 1 57 (mB 20 3) HT_ ?_
           refine pV_ 2 58 (mB 20 7) HT_ ?_
           refine pV_ 3 59 (mB 20 15) HT_ ?_
           refine pV_ 4 60 (mB 20 31) HT_ ?_
           refine pV_ 5 61 (mB 20 63) HT_ ?_
           refine pV_ 6 62 (mB 20 127) HT_ ?_
           refine pV_ 7 63 (mB 20 255) HT_ ?_
           refine tV_ 8 64 (mB 20 511) HT_ HW_ hHeld ?_
           refine pV_ 9 65 (mB 20 1023) HT_ ?_
           refine pV_ 10 66 (mB 20 2047) HT_ ?_
           refine pV_ 11 67 (mB 20 4095) HT_ ?_
           refine pV_ 12 68 (mB 20 8191) HT_ ?_
           refine pV_ 13 69 (mB 20 16383) HT_ ?_
           refine pV_ 14 70 (mB 20 32767) HT_ ?_
           refine pV_ 15 71 (mB 20 65535) HT_ ?_
           refine tV_ 16 72 (mB 20 131071) HT_ HW_ hHeld ?_
           refine on_ 17 (some 73) (mB 20 262143) HT_ (fun K hK => ?_)
           refine gs_ Try.func118 #[.int .i64 (A i k), .int .i64 (A k j)] ?_
           with_reducible refine sk_ (plus_as (B := 70368744177664) (by decide) HF1.out HF2.out HS.out) fun wk hb => ?_
           replace HM := MS.nx HM hb; clear hb
           refine hK.out _ _ ⟨trivial, (MS.cel HM m1_ LI.out LK.out HI2.out).1, (MS.cel HM m1_ LK.out LJ.out HI3.out).1⟩ (fun hHeld => ?_)
           clear hK K
           refine nO_ 73 ?_
           refine pV_ 18 74 (mB 20 524287) HT_ ?_
           refine pV_ 19 11 (mB 20 1048575) HT_ ?_
           refine dn_ HT_ ?_
           clear HT_ HW_ hHeld
           clear hb
           clear fI2 gI2 pI2 qI2 fI3 gI3 pI3 qI3
           try go_wp2
           go_roundg k_
           case measure => exact Nat.lt_succ_self _
           case rel =>
            have hw : wrap64 ((k : Int) + 1) = ((k + 1 : Nat) : Int) := suc (by have := Hk.out; have := HN.out; omega)
            rw [hw]
            exact ⟨k + 1, rfl, by rw [← HBS.out, ← HS.out]; rfl, ⟨by have := Hk.out; omega⟩, ⟨MS.to HM⟩⟩
   ·
    have C := Aside0.mk C_; clear C_; have c1 : decide (L ≤ N2) = false := decide_eq_false C.out
    go_wp2
    go_meet
    case rel => exact ⟨t, Qa, qa, rfl, ⟨by have h := HL.out; have c := C.out; have h2 := H2.out; rw [h.1, h2] at c; exact ⟨HT6.out, c, HP.out⟩⟩, HM⟩
 case rest =>
  clear HM
  obtain ⟨t, Qa, qa, rfl, HT, HM⟩ := hcut
  obtain ⟨hf, hl⟩ := tt_last HN.out HB.out HD.out HT.out.1 HT.out.2.1 HT.out.2.2; have HF := Aside0.mk hf; clear hf; rw [hl] at HM; clear hl HT t
  have HO : Aside0 (Bd n 72057594037927936 (overs M n)) := ⟨overs_bd HB.out HN.out⟩
  obtain ⟨O, hO⟩ : ∃ O, overs M n = O := ⟨_, rfl⟩; rw [hO] at HM HO; have EO := Aside0.mk hO; clear hO
  go_wp2
  go_loopg [13] n (fun kq v13 w' => ∃ (i : Nat), v13 = .int .i64 (i : Int) ∧ Aside0 (i + kq = n) ∧ Aside0 (MS w [rV Qa qa (lst n (tigTo O i))] [] w'))
  case atStart => exact ⟨0, by rfl, ⟨by omega⟩, ⟨MS.to HM⟩⟩
  case round =>
   clear HM
   obtain ⟨i, rfl, Hi, HM⟩ := hrel
   cases gk with
   | zero =>
    have q1 : (decide ((i : Int) < (n : Int))) = false := decide_eq_false (by have := Hi.out; omega); have q1n : decide (i < n) = false := decide_eq_false (by have := Hi.out; omega)
    have e_ : i = n := by have := Hi.out; omega
    rw [e_] at HM; clear e_
    rw [tig_end] at HM
    have HT : Aside0 (Bd n 288230376151711744 (tig O)) := ⟨fun a b ha hb => OctMath.fin_mono (tig_bd HO.out (by decide) a b ha hb) (by decide)⟩
    obtain ⟨T, hT⟩ : ∃ T, tig O = T := ⟨_, rfl⟩; rw [hT] at HM HT; have ET := Aside0.mk hT; clear hT
    go_wp2
    clear q1 q1n
    go_loopg [15] n (fun kq v15 w' => ∃ (i : Nat), v15 = .int .i64 (i : Int) ∧ Aside0 (i + kq = n) ∧ Aside0 (∀ a, a < i → 0 ≤ plus (T a (nb a)) (T (nb a) a)) ∧ Aside0 (MS w [rV Qa qa (lst n T)] [] w'))
    case atStart => exact ⟨0, by rfl, ⟨by omega⟩, ⟨fun a h => absurd h (by omega)⟩, ⟨MS.to HM⟩⟩
    case round =>
     clear HM
     obtain ⟨i, rfl, Hi, HG, HM⟩ := hrel
     cases gk with
     | zero =>
      have q1 : (decide ((i : Int) < (n : Int))) = false := decide_eq_false (by have := Hi.out; omega); have q1n : decide (i < n) = false := decide_eq_false (by have := Hi.out; omega)
      have GOOD : Aside0 (tightR n M = (lst n (strg T), true)) := ⟨by have h := tt_good (n := n) HF.out; rw [EO.out, ET.out] at h; exact h (fun a ha => HG.out a (by have := Hi.out; omega))⟩
      obtain ⟨S, hS⟩ : ∃ S, strg T = S := ⟨_, rfl⟩; rw [hS] at GOOD; have ES := Aside0.mk hS; clear hS
      have f0 := FN.out
      go_upto_region 34 with (first | ((with_reducible refine gate_dst (N := 146) rfl ?_); refine Kd.R_make (Kd.int .i64) _ 2 rfl (N := 146) rfl 23 _ _ rfl (NN : Int) rfl rfl Try.underlying23 (.int .i64 0) 8 info2 rfl (by decide) (by omega) 0 (ok := fun _ => True) (okp := fun _ => True) rfl (fun _ hk => hk) trivial (by omega) (by have := HK.out; omega) (Below.refl _ _) (Nat.le_refl _) ?_; intro v1 wk ho hb hg hn; obtain ⟨Qc, qc, rfl, HM_⟩ := MS.mkz (n := NN) HM ho hb; clear HM; have HM := HM_; clear HM_; clear ho hb hg hn))
      clear f0 q1 q1n
      have e_ : List.replicate NN (0 : Int) = lst n (upTo S 0 0) := by rw [← HNN.out]; exact lst_zero n S
      rw [e_] at HM; clear e_
      clear Hi HG
      go_wp2
      go_loopg [17] n (fun kq v17 w' => ∃ (i : Nat), v17 = .int .i64 (i : Int) ∧ Aside0 (i + kq = n) ∧ Aside0 (MS w [rV Qc qc (lst n (upTo S i 0)), rV Qa qa (lst n T)] [] w'))
      case atStart => exact ⟨0, by rfl, ⟨by omega⟩, ⟨MS.to HM⟩⟩
      case round =>
       clear HM
       obtain ⟨i, rfl, Hi, HM⟩ := hrel
       cases gk with
       | zero =>
        have q1 : (decide ((i : Int) < (n : Int))) = false := decide_eq_false (by have := Hi.out; omega); have q1n : decide (i < n) = false := decide_eq_false (by have := Hi.out; omega)
        have e_ : i = n := by have := Hi.out; omega
        rw [e_, up_end] at HM; clear e_
        go_wp2
        ((try simp only [Exit.inBlock, Exit.then]); refine bodyPost_ret (results_tmp2 rfl _ _ _) rfl ?_)
        exact ⟨Qc, qc, lst n S, NN, true, rfl, by rw [lst_length, HNN.out], GOOD.out.symm, HM.out.S.own _ m0_, MS.bel HM⟩
       | succ i_ =>
        have LI : Aside0 (i < n) := ⟨by have := Hi.out; omega⟩; have q1 : (decide ((i : Int) < (n : Int))) = true := decide_eq_true (by have := LI.out; omega); have q1n : decide (i < n) = true := decide_eq_true LI.out; have LB : Aside0 (nb i < n) := ⟨HE.out i LI.out⟩
        obtain ⟨bc, rfl⟩ := MS.plr HM m0_ (by rw [lst_length]; exact Nat.mul_pos (by have := LI.out; omega) (by have := LI.out; omega)); obtain ⟨ba, rfl⟩ := MS.plr HM m1_ (by rw [lst_length]; exact Nat.mul_pos (by have := LI.out; omega) (by have := LI.out; omega))
        go_wp2
        go_loopg [18] n (fun kq v18 w' => ∃ (j : Nat), v18 = .int .i64 (j : Int) ∧ Aside0 (j + kq = n) ∧ Aside0 (MS w [rV (some ⟨bc, 0, none⟩) qc (lst n (upTo S i j)), rV (some ⟨ba, 0, none⟩) qa (lst n T)] [] w'))
        case atStart => exact ⟨0, by rfl, ⟨by omega⟩, ⟨MS.to HM⟩⟩
        case round =>
         clear HM
         obtain ⟨j, rfl, Hj, HM⟩ := hrel
         cases gk with
         | zero =>
          have q2 : (decide ((j : Int) < (n : Int))) = false := decide_eq_false (by have := Hj.out; omega); have q2n : decide (j < n) = false := decide_eq_false (by have := Hj.out; omega)
          have e_ : j = n := by have := Hj.out; omega
          rw [e_, up_row] at HM; clear e_
          go_wp2
          clear q1 q1n q2 q2n
          go_roundg i_
          case measure => exact Nat.lt_succ_self _
          case rel =>
           have hw : wrap64 ((i : Int) + 1) = ((i + 1 : Nat) : Int) := suc (by have := Hi.out; have := HN.out; omega)
           rw [hw]
           exact ⟨i + 1, rfl, ⟨by have := Hi.out; omega⟩, ⟨MS.to HM⟩⟩
         | succ j_ =>
          have LJ : Aside0 (j < n) := ⟨by have := Hj.out; omega⟩; have q2 : (decide ((j : Int) < (n : Int))) = true := decide_eq_true (by have := LJ.out; omega); have q2n : decide (j < n) = true := decide_eq_true LJ.out; have LC : Aside0 (nb j < n) := ⟨HE.out j LJ.out⟩
          obtain ⟨P, I, fI, gI, HI, pI, qI⟩ := ix HN.out HNN.out LI.out LJ.out
          obtain ⟨x1, z1⟩ := MS.cel HM m1_ LI.out LJ.out HI.out
          obtain ⟨x2, z2⟩ := MS.cel HM m0_ LI.out LJ.out HI.out
          go_upto_region 41 with fail
          clear x1 z1 x2 z2 q2 q2n
          replace HM := MS.pkr (i := I) (u := T i j) HM (by rw [lst_length, HNN.out]; have := of_eq_true pI; have := of_eq_true qI; omega)
          generalize World.setCell _ _ _ = wk at HM ⊢
          clear fI gI pI qI
          obtain ⟨P2, I2, fI2, gI2, HI2, pI2, qI2⟩ := ix HN.out HNN.out LI.out LB.out
          obtain ⟨P3, I3, fI3, gI3, HI3, pI3, qI3⟩ := ix HN.out HNN.out LC.out LJ.out
          obtain ⟨s, hs⟩ : ∃ s, plus (T i (nb i)) (T (nb j) j) = s := ⟨_, rfl⟩; have HS := Aside0.mk hs; clear hs
          have HF1 : Aside0 (Fin' 288230376151711744 (T i (nb i))) := ⟨HT.out i (nb i) LI.out LB.out⟩; have HF2 : Aside0 (Fin' 288230376151711744 (T (nb j) j)) := ⟨HT.out (nb j) j LC.out LJ.out⟩; have HF3 : Aside0 (Fin' 1152921504606846976 s) := ⟨by rw [← HS.out]; exact plus_fin HF1.out HF2.out⟩
          replace HM := MS.dr HM
          skip
          refine st_ 20 (fun w' => True ∧ w'.cell? ⟨ba, I2.toNat, none⟩ = some (.int .i64 (T i (nb i))) ∧ w'.cell? ⟨ba, I3.toNat, none⟩ = some (.int .i64 (T (nb j) j))) [] ⟨trivial, (MS.cel HM m1_ LI.out LB.out HI2.out).1, (MS.cel HM m1_ LC.out LJ.out HI3.out).1⟩ (fun hHeld => ?_)
          refine with_tabW tt_tab41 tt_bits41 (fun HT_ HW_ => ?_)
          generalize World.drew _ = wk at HM hHeld ⊢
          refine pV_ 0 172 (mB 20 1) HT_ ?_
          refine pV_ 1 173 (mB 20 3) HT_ ?_
          refine pV_ 2 174 (mB 20 7) HT_ ?_
          refine pV_ 3 175 (mB 20 15) HT_ ?_
          refine pV_ 4 176 (mB 20 31) HT_ ?_
          refine pV_ 9 181 (mB 20 543) HT_ ?_
          refine pV_ 10 182 (mB 20 1567) HT_ ?_
          refine pV_ 12 184 (mB 20 5663) HT_ ?_
          refine pV_ 14 186 (mB 20 22047) HT_ ?_
          refine on_ 5 (some 177) (mB 20 22079) HT_ (fun K hK => ?_)
          refine gs_ Try.func47 #[.int .i64 (i : Int)] ?_
          with_reducible refine sk_ (bar11_as HN.out LI.out) fun wk hb => ?_
          replace HM := MS.nx HM hb; clear hb
          refine hK.out _ _ ⟨trivial, (MS.cel HM m1_ LI.out LB.out HI2.out).1, (MS.cel HM m1_ LC.out LJ.out HI3.out).1⟩ (fun hHeld => ?_)
          clear hK K
          refine nO_ 177 ?_
          refine pV_ 6 178 (mB 20 22143) HT_ ?_
          refine pV_ 7 179 (mB 20 22271) HT_ ?_
          refine tV_ 8 180 (mB 20 22527) HT_ HW_ hHeld ?_
          refine on_ 11 (some 183) (mB 20 24575) HT_ (fun K hK => ?_)
          refine gs_ Try.func47 #[.int .i64 (j : Int)] ?_
          with_reducible refine sk_ (bar11_as HN.out LJ.out) fun wk hb => ?_
          replace HM := MS.nx HM hb; clear hb
          refine hK.out _ _ ⟨trivial, (MS.cel HM m1_ LI.out LB.out HI2.out).1, (MS.cel HM m1_ LC.out LJ.out HI3.out).1⟩ (fun hHeld => ?_)
          clear hK K
          refine nO_ 183 ?_
          refine pV_ 13 185 (mB 20 32767) HT_ ?_
          refine pV_ 15 187 (mB 20 65535) HT_ ?_
          refine pV_ 16 188 (mB 20 131071) HT_ ?_
          refine tV_ 17 189 (mB 20 262143) HT_ HW_ hHeld ?_
          refine on_ 18 (some 190) (mB 20 524287) HT_ (fun K hK => ?_)
          refine gs_ Try.func118 #[.int .i64 (T i (nb i)), .int .i64 (T (nb j) j)] ?_
          with_reducible refine sk_ (plus_as (B := 288230376151711744) (by decide) HF1.out HF2.out HS.out) fun wk hb => ?_
          replace HM := MS.nx HM hb; clear hb
          refine hK.out _ _ ⟨trivial, (MS.cel HM m1_ LI.out LB.out HI2.out).1, (MS.cel HM m1_ LC.out LJ.out HI3.out).1⟩ (fun hHeld => ?_)
          clear hK K
          refine nO_ 190 ?_
          refine pV_ 19 19 (mB 20 1048575) HT_ ?_
          refine dn_ HT_ ?_
          clear HT_ HW_ hHeld
          clear fI2 gI2 pI2 qI2 fI3 gI3 pI3 qI3
          by_cases G_ : s = 4611686018427387904
          ·
           have G := Aside0.mk G_; clear G_; have d1 : (s != 4611686018427387904) = false := by rw [G.out]; rfl
           go_wp2
           clear d1
           have e1 : T i j = S i j := by rw [← ES.out]; exact (strg_inf (HT.out i j LI.out LJ.out) (HS.out.trans G.out)).symm
           rw [up_set LI.out LJ.out HI.out e1] at HM; clear e1
           go_roundg j_
           case measure => exact Nat.lt_succ_self _
           case rel =>
            have hw : wrap64 ((j : Int) + 1) = ((j + 1 : Nat) : Int) := suc (by have := Hj.out; have := HN.out; omega)
            rw [hw]
            exact ⟨j + 1, rfl, ⟨by have := Hj.out; omega⟩, ⟨MS.to HM⟩⟩
          ·
           have G := Aside0.mk G_; clear G_; have d1 : (s != 4611686018427387904) = true := bne_iff_ne.2 G.out
           obtain ⟨hv, hh⟩ : ∃ h, half s = h := ⟨_, rfl⟩; have HH := Aside0.mk hh; clear hh
           obtain ⟨u, hu⟩ : ∃ b, (if hv < T i j then hv else T i j) = b := ⟨_, rfl⟩; have HU := Aside0.mk hu
           go_upto_region 43 with fail
           clear d1
           obtain ⟨P5, I5, fI5, gI5, HI5, pI5, qI5⟩ := ix HN.out HNN.out LI.out LJ.out
           have HI6 : Aside0 (I5 = I) := ⟨HI5.out.trans HI.out.symm⟩
           replace HM := MS.dr HM
           skip
           refine st_ 19 (fun w' => True ∧ w'.cell? ⟨bc, I5.toNat, none⟩ = some (.int .i64 (T i j))) [18] ⟨trivial, (str_rd (MS.cer HM m0_ I5 (of_eq_true pI5) (by rw [List.length_set, lst_length, HNN.out]; exact of_eq_true qI5)).1 HI6.out (by rw [lst_length, HI.out]; exact_mod_cast ij_lt LI.out LJ.out) (by have := HI.out; omega))⟩ (fun hHeld => ?_)
           refine with_tabW tt_tab43 tt_bits43 (fun HT_ HW_ => ?_)
           generalize World.drew _ = wk at HM hHeld ⊢
           refine pV_ 0 193 (mB 19 1) HT_ ?_
           refine pV_ 1 194 (mB 19 3) HT_ ?_
           refine pV_ 2 195 (mB 19 7) HT_ ?_
           refine pV_ 3 196 (mB 19 15) HT_ ?_
           refine pV_ 4 197 (mB 19 31) HT_ ?_
           refine pV_ 5 198 (mB 19 63) HT_ ?_
           refine pV_ 6 199 (mB 19 127) HT_ ?_
           refine pV_ 7 200 (mB 19 255) HT_ ?_
           refine pV_ 8 201 (mB 19 511) HT_ ?_
           refine pV_ 9 202 (mB 19 1023) HT_ ?_
           refine pV_ 10 203 (mB 19 2047) HT_ ?_
           refine pV_ 11 204 (mB 19 4095) HT_ ?_
           refine pV_ 12 205 (mB 19 8191) HT_ ?_
           refine tV_ 13 206 (mB 19 16383) HT_ HW_ hHeld ?_
           refine pV_ 14 207 (mB 19 32767) HT_ ?_
           refine on_ 15 (some 208) (mB 19 65535) HT_ (fun K hK => ?_)
           refine gs_ Try.func119 #[.int .i64 s] ?_
           with_reducible refine sk_ (halved_as HF3.out G.out HH.out) fun wk hb => ?_
           replace HM := MS.nx HM hb; clear hb
           refine hK.out _ _ ⟨trivial, (str_rd (MS.cer HM m0_ I5 (of_eq_true pI5) (by rw [List.length_set, lst_length, HNN.out]; exact of_eq_true qI5)).1 HI6.out (by rw [lst_length, HI.out]; exact_mod_cast ij_lt LI.out LJ.out) (by have := HI.out; omega))⟩ (fun hHeld => ?_)
           clear hK K
           refine nO_ 208 ?_
           refine pV_ 16 209 (mB 19 131071) HT_ ?_
           obtain ⟨y1, y2⟩ := MS.cer HM m0_ I5 (of_eq_true pI5) (by rw [List.length_set, lst_length, HNN.out]; exact of_eq_true qI5)
           refine pV_ 17 210 (mB 19 262143) HT_ ?_

           refine la_ 18 (mB 19 524287) HT_ (fun K hK => ?_)
           refine skip_ (w1 := ?_) (by rfl) rfl ?_ ?_
           rotate_left
           ·
            go_simp
            rfl
           refine hK.out _ _ ?_
           clear hK K
           refine dn_ HT_ ?_
           clear HT_ HW_ hHeld
           clear hu y1 y2
           replace HM := MS.pkr (i := I5) (u := u) HM (by rw [List.length_set, lst_length, HNN.out]; have := of_eq_true pI5; have := of_eq_true qI5; omega)
           have e1 : u = S i j := by rw [← HU.out, ← ES.out, ← HH.out, ← HS.out]; rfl
           rw [str_set2 LI.out LJ.out HI.out HI6.out e1] at HM; clear e1
           clear fI5 gI5 pI5 qI5
           try go_wp2
           go_roundg j_
           case measure => exact Nat.lt_succ_self _
           case rel =>
            have hw : wrap64 ((j : Int) + 1) = ((j + 1 : Nat) : Int) := suc (by have := Hj.out; have := HN.out; omega)
            rw [hw]
            exact ⟨j + 1, rfl, ⟨by have := Hj.out; omega⟩, HM⟩
     | succ i_ =>
      have LI : Aside0 (i < n) := ⟨by have := Hi.out; omega⟩; have q1 : (decide ((i : Int) < (n : Int))) = true := decide_eq_true (by have := LI.out; omega); have q1n : decide (i < n) = true := decide_eq_true (by have := LI.out; omega); have LB : Aside0 (nb i < n) := ⟨HE.out i LI.out⟩
      obtain ⟨ba, rfl⟩ := MS.plr HM m0_ (by rw [lst_length]; exact Nat.mul_pos (by have := LI.out; omega) (by have := LI.out; omega))
      go_upto_region 31 with fail
      obtain ⟨P, I, fI, gI, HI, pI, qI⟩ := ix HN.out HNN.out LI.out LB.out
      obtain ⟨P2, I2, fI2, gI2, HI2, pI2, qI2⟩ := ix HN.out HNN.out LB.out LI.out
      obtain ⟨s, hs⟩ : ∃ s, plus (T i (nb i)) (T (nb i) i) = s := ⟨_, rfl⟩; have HS := Aside0.mk hs; clear hs
      have HF1 : Aside0 (Fin' 288230376151711744 (T i (nb i))) := ⟨HT.out i (nb i) LI.out LB.out⟩; have HF2 : Aside0 (Fin' 288230376151711744 (T (nb i) i)) := ⟨HT.out (nb i) i LB.out LI.out⟩
      replace HM := MS.dr HM
      skip
      refine st_ 20 (fun w' => True ∧ w'.cell? ⟨ba, I.toNat, none⟩ = some (.int .i64 (T i (nb i))) ∧ w'.cell? ⟨ba, I2.toNat, none⟩ = some (.int .i64 (T (nb i) i))) [] ⟨trivial, (MS.cel HM m0_ LI.out LB.out HI.out).1, (MS.cel HM m0_ LB.out LI.out HI2.out).1⟩ (fun hHeld => ?_)
      refine with_tabW tt_tab31 tt_bits31 (fun HT_ HW_ => ?_)
      generalize World.drew _ = wk at HM hHeld ⊢
      refine pV_ 0 123 (mB 20 1) HT_ ?_
      refine pV_ 1 124 (mB 20 3) HT_ ?_
      refine pV_ 2 125 (mB 20 7) HT_ ?_
      refine pV_ 3 126 (mB 20 15) HT_ ?_
      refine pV_ 4 127 (mB 20 31) HT_ ?_
      refine pV_ 9 132 (mB 20 543) HT_ ?_
      refine pV_ 10 133 (mB 20 1567) HT_ ?_
      refine pV_ 12 135 (mB 20 5663) HT_ ?_
      refine pV_ 14 137 (mB 20 22047) HT_ ?_
      refine on_ 5 (some 128) (mB 20 22079) HT_ (fun K hK => ?_)
      refine gs_ Try.func47 #[.int .i64 (i : Int)] ?_
      with_reducible refine sk_ (bar11_as HN.out LI.out) fun wk hb => ?_
      replace HM := MS.nx HM hb; clear hb
      refine hK.out _ _ ⟨trivial, (MS.cel HM m0_ LI.out LB.out HI.out).1, (MS.cel HM m0_ LB.out LI.out HI2.out).1⟩ (fun hHeld => ?_)
      clear hK K
      refine nO_ 128 ?_
      refine pV_ 6 129 (mB 20 22143) HT_ ?_
      refine pV_ 7 130 (mB 20 22271) HT_ ?_
      refine tV_ 8 131 (mB 20 22527) HT_ HW_ hHeld ?_
      refine on_ 11 (some 134) (mB 20 24575) HT_ (fun K hK => ?_)
      refine gs_ Try.func47 #[.int .i64 (i : Int)] ?_
      with_reducible refine sk_ (bar11_as HN.out LI.out) fun wk hb => ?_
      replace HM := MS.nx HM hb; clear hb
      refine hK.out _ _ ⟨trivial, (MS.cel HM m0_ LI.out LB.out HI.out).1, (MS.cel HM m0_ LB.out LI.out HI2.out).1⟩ (fun hHeld => ?_)
      clear hK K
      refine nO_ 134 ?_
      refine pV_ 13 136 (mB 20 32767) HT_ ?_
      refine pV_ 15 138 (mB 20 65535) HT_ ?_
      refine pV_ 16 139 (mB 20 131071) HT_ ?_
      refine tV_ 17 140 (mB 20 262143) HT_ HW_ hHeld ?_
      refine on_ 18 (some 141) (mB 20 524287) HT_ (fun K hK => ?_)
      refine gs_ Try.func118 #[.int .i64 (T i (nb i)), .int .i64 (T (nb i) i)] ?_
      with_reducible refine sk_ (plus_as (B := 288230376151711744) (by decide) HF1.out HF2.out HS.out) fun wk hb => ?_
      replace HM := MS.nx HM hb; clear hb
      refine hK.out _ _ ⟨trivial, (MS.cel HM m0_ LI.out LB.out HI.out).1, (MS.cel HM m0_ LB.out LI.out HI2.out).1⟩ (fun hHeld => ?_)
      clear hK K
      refine nO_ 141 ?_
      refine pV_ 19 142 (mB 20 1048575) HT_ ?_
      refine dn_ HT_ ?_
      clear HT_ HW_ hHeld
      clear fI gI pI qI fI2 gI2 pI2 qI2
      by_cases G_ : s < 0
      ·
       have G := Aside0.mk G_; clear G_; have d1 : decide (s < 0) = true := decide_eq_true G.out; have n1 := G.out
       go_wp2
       ((try simp only [Exit.inBlock, Exit.then]); refine bodyPost_ret (results_tmp2 rfl _ _ _) rfl ?_)
       exact ⟨none, 0, [], 0, false, rfl, rfl, (tt_bad LI.out (by rw [EO.out, ET.out, HS.out]; exact G.out)).symm, (MS.r0 HM).out.S.own _ m0_, MS.bel HM⟩
      ·
       have G := Aside0.mk G_; clear G_; have d1 : decide (s < 0) = false := decide_eq_false G.out; have n1 := G.out
       go_wp2
       clear d1 n1 q1 q1n
       go_roundg i_
       case measure => exact Nat.lt_succ_self _
       case rel =>
        have hw : wrap64 ((i : Int) + 1) = ((i + 1 : Nat) : Int) := suc (by have := Hi.out; have := HN.out; omega)
        rw [hw]
        exact ⟨i + 1, rfl, ⟨by have := Hi.out; omega⟩, ⟨fun a ha => by by_cases e : a = i; rw [e, HS.out]; have := G.out; omega; exact HG.out a (by omega)⟩, ⟨MS.to HM⟩⟩
   | succ i_ =>
    have LI : Aside0 (i < n) := ⟨by have := Hi.out; omega⟩; have q1 : (decide ((i : Int) < (n : Int))) = true := decide_eq_true (by have := LI.out; omega); have q1n : decide (i < n) = true := decide_eq_true (by have := LI.out; omega); have LB : Aside0 (nb i < n) := ⟨HE.out i LI.out⟩
    obtain ⟨ba, rfl⟩ := MS.plr HM m0_ (by rw [lst_length]; exact Nat.mul_pos (by have := LI.out; omega) (by have := LI.out; omega))
    obtain ⟨P, I, fI, gI, HI, pI, qI⟩ := ix HN.out HNN.out LI.out LB.out
    go_upto_region 26 with (first | (go_at_call 47; (with_reducible refine (bar11_as HN.out LI.out).mono ?_); rintro e wk ⟨rfl, hb⟩; replace HM := MS.nx HM hb; clear hb; ))
    obtain ⟨x1, z1⟩ := MS.cel HM m0_ LI.out LB.out HI.out
    rw [tig_at] at x1
    obtain ⟨e, he⟩ : ∃ e, O i (nb i) = e := ⟨_, rfl⟩; rw [he] at x1; have EE := Aside0.mk he; clear he
    by_cases G_ : e = 4611686018427387904
    ·
     have G := Aside0.mk G_; clear G_; have d1 : (e != 4611686018427387904) = false := by rw [G.out]; rfl
     go_wp2
     clear d1 x1 z1 q1 q1n
     clear fI gI pI qI
     rw [tig_inf (EE.out.trans G.out)] at HM
     go_roundg i_
     case measure => exact Nat.lt_succ_self _
     case rel =>
      have hw : wrap64 ((i : Int) + 1) = ((i + 1 : Nat) : Int) := suc (by have := Hi.out; have := HN.out; omega)
      rw [hw]
      exact ⟨i + 1, rfl, ⟨by have := Hi.out; omega⟩, ⟨MS.to HM⟩⟩
    ·
     have G := Aside0.mk G_; clear G_; have d1 : (e != 4611686018427387904) = true := bne_iff_ne.2 G.out
     have HFE : Aside0 (Fin' 72057594037927936 e) := ⟨by rw [← EE.out]; exact HO.out i (nb i) LI.out LB.out⟩
     obtain ⟨hv, hh⟩ : ∃ h, half e = h := ⟨_, rfl⟩; have HH := Aside0.mk hh; clear hh
     obtain ⟨tv, ht⟩ : ∃ h, IntKind.i64.wrap (2 * hv) = h := ⟨_, rfl⟩
     have HTV : Aside0 (tv = tig O i (nb i)) := ⟨by rw [← ht, ← HH.out, ← EE.out]; exact (i64_w _).trans (even_w (D := O) (i := i) (by rw [EE.out]; exact HFE.out) (by rw [EE.out]; exact G.out))⟩
     go_wp2_with (first | (go_at_call 119; (with_reducible refine (halved_as (OctMath.fin_mono HFE.out (by decide)) G.out HH.out).mono ?_); rintro e wk ⟨rfl, hb⟩; replace HM := MS.nx HM hb; clear hb; obtain ⟨x1, z1⟩ := MS.cel HM m0_ LI.out LB.out HI.out; ))
     clear d1 q1 q1n ht x1 z1
     replace HM := MS.pkr (i := I) (u := tv) HM (by rw [lst_length, HNN.out]; have := of_eq_true pI; have := of_eq_true qI; omega)
     rw [tig_set LI.out LB.out HI.out HTV.out] at HM
     clear fI gI pI qI
     go_roundg i_
     case measure => exact Nat.lt_succ_self _
     case rel =>
      have hw : wrap64 ((i : Int) + 1) = ((i + 1 : Nat) : Int) := suc (by have := Hi.out; have := HN.out; omega)
      rw [hw]
      exact ⟨i + 1, rfl, ⟨by have := Hi.out; omega⟩, HM⟩
end Go.Proofs.Ytphfchbggechhaa.QO
end
end
section
noncomputable section
namespace Go.Proofs.Ytphfchbggechhaa.QO
open Go.RowKit Go.Shelf YtphfchbggechhaaW.PrintWords YtphfchbggechhaaW.PrintLast YtphfchbggechhaaW.PrintMore
open Ytphfchbggechhaa.Pure
attribute [local go_sem] Oper.semAt_some
attribute [local go_sem ↓] Go.wp_at_zero Go.wp_at_succ
set_option linter.unusedVariables false
set_option linter.unusedSimpArgs false
def rcl_T10 : Bool × List (List Nat × List Nat) := (true, [([], []), ([0], [0]), ([], []), ([2], [2]), ([3], [3]), ([1, 4, 3], [1, 4]), ([0, 1, 2, 3, 4, 5], []), ([6, 5, 5, 0, 1, 2, 3, 4, 5], [5, 6])])
def rcl_B10 : List Nat := [0, 1, 0, 4, 12, 31, 63, 127]
theorem rcl_tab10 : rtab .any (opsOf Try.f38 10) = rcl_T10 := by kernel_rfl
theorem rcl_bits10 : waitsOk rcl_T10.2 rcl_B10 = true := by kernel_rfl
section
variable {w W : World}
theorem rbot_own {A : Option Addr} {c : Nat} {v : List Int} (hr : Row w W 3 A c v) (hb : Below w.heap.size w W) (hv : VarsOk v) :
 Calls Try.prog 65 #[.slice A v.length c] W fun e W' => ∃ z : OV, e = .returned z.val ∧ z.o = (v, [], true) ∧ Own W W' z ∧ Below W.heap.size W W' :=
 of_calls2 (a := (v, [], true)) (gimbalref11_Bottom.calls A c v _ _ _ W (hr.reads hb) hr.le (by
  have h : gimbalref11_VarsFit.f v = some true := by unfold gimbalref11_VarsFit.f; rw [varsB_true.2 hv]
  have hc : gimbalref11_copied.f v = some v := by unfold gimbalref11_copied.f; rw [if_pos (by have := hv.1; simp; omega)]; rfl
  unfold gimbalref11_Bottom.f
  rw [h, bsome, if_pos rfl, hc, bsome]))
theorem copied_v {A : Option Addr} {c : Nat} {v : List Int} (hr : Row w W 3 A c v) (hb : Below w.heap.size w W) (hv : VarsOk v) :
 Calls Try.prog 83 #[.slice A v.length c] W fun e W' => ∃ (P : Option Addr) (p : Nat), e = .returned (.slice P v.length p) ∧ Own W W' ⟨P, p, none, 0, v, [], false⟩ ∧ Below W.heap.size W W' := by
 refine (gimbalref11_copied.calls A c v v W (hr.reads hb) hr.le (by unfold gimbalref11_copied.f; rw [if_pos (by have := hv.1; simp; omega)]; rfl)).mono ?_
 rintro e W' ⟨v0, rfl, h, hb⟩
 obtain ⟨P, p, rfl⟩ := Kd.R_slice h
 exact ⟨P, p, rfl, Own.of (ok' := fun _ => True) (x := ⟨P, p, none, 0, v, [], false⟩) h (Kd.R_nil _ _ _ _ _), hb⟩
theorem clip11_as {a c : Int} (h : clipV a = c) : Says 84 #[.int .i64 a] W (.int .i64 c) :=
 (gimbalref11_clip.calls a c W (by rw [clip_f, h])).mono (by rintro e wk ⟨rfl, ⟨nd, rfl⟩⟩; exact ⟨rfl, pw_below_drewN (Below.refl _ _) _⟩)
theorem take_snoc {l : List Int} {i : Nat} (h : i < l.length) : (l.take i).map clipV ++ [clipV (rd l (i : Int))] = (l.take (i + 1)).map clipV := by
 rw [List.take_add_one, List.map_append]
 unfold rd
 rw [Int.toNat_natCast, List.getD_eq_getElem?_getD, List.getElem?_eq_getElem h]
 rfl
theorem tight_as {x : OV} {n : Nat} (hx : Oc w W x) (hb : Below w.heap.size w W) (fx : OFit x.v x.m false) (en : 2 * x.v.length = n) : Calls Try.prog 82 #[.slice x.Q x.m.length x.q, .int .i64 (n : Int)] W fun e W' => ∃ (Q : Option Addr) (q : Nat) (l : List Int) (k : Nat) (b : Bool), e = .returned (.tuple #[.slice Q k q, .bool b]) ∧ l.length = k ∧ (l, b) = tightR n (lowM x.v.length x.m) ∧ Own W W' (rV Q q l) ∧ Below W.heap.size W W' := by
 obtain ⟨hM, hd⟩ := lowM_ok fx
 have e := low_lst fx
 have h8 := fx.1.1
 have hn : n ≤ 16 := by omega
 have nn : n * n ≤ 256 := Nat.mul_le_mul hn hn
 have lm : x.m.length = n * n := by rw [e, lst_length, en]
 have key : ∀ (k : Nat) (m' : List Int), x.m.length = k → x.m = m' → Kd.C (Kd.int .i64) W x.Q k m' := fun k m' h1 h2 => by rw [← h1, ← h2]; exact hx.r1.reads hb
 have r := key (n * n) (lst n (lowM x.v.length x.m)) lm (by rw [← en]; exact e)
 have hf : IntKind.i64.wrap ((n : Int) * (n : Int)) = ((n * n : Nat) : Int) := by
  have q : (n : Int) * (n : Int) = ((n * n : Nat) : Int) := by push_cast; rfl
  rw [IntKind.wrap_i64, q]; omega
 have he : ∀ a, a < n → nb a < n := fun a ha => by rw [← en] at ha ⊢; exact nb_lt ha
 rw [en] at hM hd
 rw [lm]
 exact tight_w ⟨hn⟩ ⟨he⟩ ⟨rfl⟩ ⟨nn⟩ ⟨hf⟩ ⟨hM⟩ ⟨hd⟩ ⟨r⟩
end
theorem rclose_w1 (X : OV) {a : List Int × List Int × Bool} {w : World} (HX : Aside0 (Oc w w X)) (HV : Aside0 (VarsOk X.v)) (HE : Aside0 (X.e = true)) (HA : Aside0 ((X.v, [], true) = a)) : Calls Try.prog 38 #[X.val] w fun e W' => ∃ z : OV, e = .returned z.val ∧ z.o = a ∧ Own w W' z ∧ Below w.heap.size w W' := by
 have hu25 := Try.underlying25
 have hu22 := Try.underlying22
 have hu23 := Try.underlying23
 go_enter Try.func38, Try.ntmps38
 go_upto_region 1 with fail
 have HM := MS.n2 w X.cells zeroO
 generalize World.alloc _ _ = wk at HM ⊢
 generalize w.heap.size + 1 = gr at HM ⊢
 generalize w.heap.size = go at HM ⊢
 have e1 := HE.out
 have kgr := MS.c3 HM m0_; have kgo := MS.c3 HM m1_
 go_wp2_with (first | (go_at_call 65; (with_reducible refine (rbot_own (Oc.now HX (MS.bel HM)).r0 (Below.refl _ _) HV.out).mono ?_); rintro e wk ⟨z, rfl, hz, ho, hb⟩; replace HM := MS.cl HM hb ho; clear ho hb; replace kgr := MS.c3 HM m0_; replace kgo := MS.c3 HM m1_))
 replace HM := MS.po0 z HM
 generalize World.setCell _ _ _ = wk at HM ⊢
 refine MS.rt HM m0_ ?_
 exact ⟨z, rfl, hz.trans HA.out, HM.out.S.own _ m0_, HM.out.S.below⟩
theorem rclose_w2 (X : OV) {a : List Int × List Int × Bool} {w : World} (HX : Aside0 (Oc w w X)) (HV : Aside0 (VarsOk X.v)) (FX_ : Aside0 (OFit X.v X.m false)) {n : Nat} (EN : Aside0 (2 * X.v.length = n)) (F0 : Aside0 (IntKind.i64.wrap (2 * (X.v.length : Int)) = (n : Int))) (HE : Aside0 (X.e = false)) (HT : Aside0 (tightR n (lowM X.v.length X.m) = ([], false))) (HA : Aside0 ((X.v, [], true) = a)) : Calls Try.prog 38 #[X.val] w fun e W' => ∃ z : OV, e = .returned z.val ∧ z.o = a ∧ Own w W' z ∧ Below w.heap.size w W' := by
 have hu25 := Try.underlying25
 have hu22 := Try.underlying22
 have hu23 := Try.underlying23
 go_enter Try.func38, Try.ntmps38
 go_upto_region 1 with fail
 have HM := MS.n2 w X.cells zeroO
 generalize World.alloc _ _ = wk at HM ⊢
 generalize w.heap.size + 1 = gr at HM ⊢
 generalize w.heap.size = go at HM ⊢
 have e1 := HE.out
 have f0 := F0.out
 have kgr := MS.c3 HM m0_; have kgo := MS.c3 HM m1_
 go_upto_region 4 with (first | (go_at_call 82; (with_reducible refine (tight_as (Oc.now HX (MS.bel HM)) (Below.refl _ _) FX_.out EN.out).mono ?_); rintro e wk ⟨Qt, qt, l, k, b, rfl, hl, ht, ho, hb⟩; replace HM := MS.cl HM hb ho; clear ho hb; replace kgr := MS.c3 HM m0_; replace kgo := MS.c3 HM m1_))
 clear f0; rw [HT.out] at ht; obtain ⟨rfl, rfl⟩ := Prod.mk.inj ht; clear ht hl
 go_wp2_with (first | (go_at_call 65; (with_reducible refine (rbot_own (Oc.now HX (MS.bel HM)).r0 (Below.refl _ _) HV.out).mono ?_); rintro e wk ⟨z, rfl, hz, ho, hb⟩; replace HM := MS.cl HM hb ho; clear ho hb; replace kgr := MS.c3 HM m0_; replace kgo := MS.c3 HM m1_))
 replace HM := MS.po0 z HM
 generalize World.setCell _ _ _ = wk at HM ⊢
 refine MS.rt HM m0_ ?_
 exact ⟨z, rfl, hz.trans HA.out, HM.out.S.own _ m0_, HM.out.S.below⟩
theorem rclose_w3 (X : OV) {a : List Int × List Int × Bool} {w : World} (HX : Aside0 (Oc w w X)) (HV : Aside0 (VarsOk X.v)) (FX_ : Aside0 (OFit X.v X.m false)) {n : Nat} (EN : Aside0 (2 * X.v.length = n)) (F0 : Aside0 (IntKind.i64.wrap (2 * (X.v.length : Int)) = (n : Int))) (HE : Aside0 (X.e = false)) {S : Nat → Nat → Int} (HT : Aside0 (tightR n (lowM X.v.length X.m) = (lst n S, true))) (HK : Aside0 (n * n ≤ 256)) (HR : Aside0 ((X.v, (lst n S).map clipV, false) = a)) : Calls Try.prog 38 #[X.val] w fun e W' => ∃ z : OV, e = .returned z.val ∧ z.o = a ∧ Own w W' z ∧ Below w.heap.size w W' := by
 have hu25 := Try.underlying25
 have hu22 := Try.underlying22
 have hu23 := Try.underlying23
 go_enter Try.func38, Try.ntmps38
 go_upto_region 1 with fail
 have HM := MS.n2 w X.cells zeroO
 generalize World.alloc _ _ = wk at HM ⊢
 generalize w.heap.size + 1 = gr at HM ⊢
 generalize w.heap.size = go at HM ⊢
 have e1 := HE.out
 have f0 := F0.out
 have kgr := MS.c3 HM m0_; have kgo := MS.c3 HM m1_
 go_upto_region 4 with (first | (go_at_call 82; (with_reducible refine (tight_as (Oc.now HX (MS.bel HM)) (Below.refl _ _) FX_.out EN.out).mono ?_); rintro e wk ⟨Qt, qt, l, k, b, rfl, hl, ht, ho, hb⟩; replace HM := MS.cl HM hb ho; clear ho hb; replace kgr := MS.c3 HM m0_; replace kgo := MS.c3 HM m1_))
 clear f0; rw [HT.out] at ht; obtain ⟨rfl, rfl⟩ := Prod.mk.inj ht; clear ht; have HL := Aside0.mk hl; clear hl
 obtain ⟨l, hl⟩ : ∃ l, lst n S = l := ⟨_, rfl⟩; rw [hl] at HM HL; have EL := Aside0.mk hl; clear hl; have HKK : Aside0 (k ≤ 256) := ⟨by have := HL.out; have e := congrArg List.length EL.out; rw [lst_length] at e; have := HK.out; omega⟩
 go_upto_region 7 with (first | (go_at_call 83; (with_reducible refine (copied_v (Oc.now HX (MS.bel HM)).r0 (Below.refl _ _) HV.out).mono ?_); rintro e wk ⟨Pv, pv, rfl, ho, hb⟩; replace HM := MS.cl HM hb ho; clear ho hb; replace kgr := MS.c3 HM m0_; replace kgo := MS.c3 HM m1_) | ((with_reducible refine gate_dst (N := 5) rfl ?_); refine bx_ 5 #[.slice none 0 0, .slice none 0 0, .bool false] 25 ?_; intro gc hg wk hbox hb; replace HM := MS.md HM hg hbox hb; clear hg hbox hb; have kgc := MS.c3 HM m0_; replace kgr := MS.c3 HM m1_; replace kgo := MS.c3 HM m2_))
 have n_ : Aside0 (MS w [⟨Pv, pv, none, 0, X.v, [], false⟩, rV Qt qt l] [(gc, .cells #[.slice Pv X.v.length pv, .slice none 0 0, .bool false] 25 (0, 0)), (gr, zeroO), (go, X.cells)] _) := ⟨MS.put3 [] HM.out (a' := .slice Pv X.v.length pv) (b' := .slice none 0 0) (c' := .bool false)⟩; clear HM; have HM := n_; clear n_
 generalize World.setCell _ _ _ = wk at HM ⊢
 replace kgc := MS.c3 HM m0_; replace kgr := MS.c3 HM m1_; replace kgo := MS.c3 HM m2_
 go_wp2
 go_loopg [34] k (fun kq v34 w' => ∃ (i : Nat) (Qm : Option Addr) (qm : Nat) (mm : List Int), v34 = .int .i64 (i : Int) ∧ Aside0 (i + kq = k) ∧ Aside0 (mm = (l.take i).map clipV) ∧ Aside0 (MS w [⟨Pv, pv, Qm, qm, X.v, mm, false⟩, rV Qt qt l] [(gc, .cells #[.slice Pv X.v.length pv, .slice Qm mm.length qm, .bool false] 25 (0, 0)), (gr, zeroO), (go, X.cells)] w'))
 case atStart => exact ⟨0, none, 0, [], by rfl, ⟨by omega⟩, ⟨by simp⟩, ⟨MS.to HM⟩⟩
 case round =>
  clear HM; clear kgc kgo kgr
  obtain ⟨i, Qm, qm, mm, rfl, Hi, HC, HM⟩ := hrel
  cases gk with
  | zero =>
   have q1 : (decide ((i : Int) < (k : Int))) = false := decide_eq_false (by have := Hi.out; omega); have q1n : decide (i < k) = false := decide_eq_false (by have := Hi.out; omega)
   have kgc := MS.c3 HM m0_; have kgr := MS.c3 HM m1_
   go_wp2
   have n_ : Aside0 (MS w [⟨Pv, pv, Qm, qm, X.v, mm, false⟩, rV Qt qt l] [(gc, .cells #[.slice Pv X.v.length pv, .slice Qm mm.length qm, .bool false] 25 (0, 0)), (gr, .cells #[.slice Pv X.v.length pv, .slice Qm mm.length qm, .bool false] 25 (0, 0)), (go, X.cells)] _) := ⟨MS.put3 [(gc, .cells #[.slice Pv X.v.length pv, .slice Qm mm.length qm, .bool false] 25 (0, 0))] HM.out (a' := .slice Pv X.v.length pv) (b' := .slice Qm mm.length qm) (c' := .bool false)⟩; clear HM; have HM := n_; clear n_
   generalize World.setCell _ _ _ = wk at HM ⊢
   refine MS.rt HM m1_ ?_
   exact ⟨⟨Pv, pv, Qm, qm, X.v, mm, false⟩, rfl, by show (X.v, mm, false) = _; rw [HC.out, List.take_of_length_le (by have := HL.out; have := Hi.out; omega), ← EL.out, HR.out], HM.out.S.own _ m0_, HM.out.S.below⟩
  | succ i_ =>
   have LI : Aside0 (i < k) := ⟨by have := Hi.out; omega⟩; have q1 : (decide ((i : Int) < (k : Int))) = true := decide_eq_true (by have := LI.out; omega); have q1n : decide (i < k) = true := decide_eq_true LI.out; have p2 : (0 ≤ (i : Int)) = True := eq_true (by omega); have p3 : ((i : Int) < (k : Int)) = True := eq_true (by have := LI.out; omega); have p4 : (i < k) = True := eq_true LI.out
   obtain ⟨bt, rfl⟩ := MS.plr HM m1_ (by have := HL.out; have := LI.out; omega)
   obtain ⟨x1, z1⟩ := MS.cer HM m1_ (i : Int) (by omega) (by rw [HL.out]; have := LI.out; omega); rw [Int.toNat_natCast] at x1 z1
   go_upto_region 10 with fail
   clear x1 z1 q1 q1n p2 p3 p4; obtain ⟨cx, hcx⟩ : ∃ c, clipV (rd l (i : Int)) = c := ⟨_, rfl⟩; have HX_ := Aside0.mk hcx; clear hcx
   have HMM : Aside0 (mm.length ≤ 256) := ⟨by rw [HC.out, List.length_map, List.length_take]; have := LI.out; have := HKK.out; omega⟩
   replace HM := MS.dr HM
   skip
   refine st_ 8 (fun w' => w'.cell? ⟨gc, 0, none⟩ = some (.slice Pv X.v.length pv) ∧ w'.cell? ⟨gc, 1, none⟩ = some (.slice Qm mm.length qm) ∧ w'.cell? ⟨gc, 2, none⟩ = some (.bool false)) [7] ⟨MS.k HM m0_ 0 rfl, MS.k HM m0_ 1 rfl, MS.k HM m0_ 2 rfl⟩ (fun hHeld => ?_)
   refine with_tabW rcl_tab10 rcl_bits10 (fun HT_ HW_ => ?_)
   generalize World.drew _ = wk at HM hHeld ⊢
   refine pV_ 0 38 (mB 8 1) HT_ ?_
   refine pV_ 2 40 (mB 8 5) HT_ ?_
   refine tV_ 1 39 (mB 8 7) HT_ HW_ hHeld ?_
   refine on_ 3 (some 41) (mB 8 15) HT_ (fun K hK => ?_)
   refine gs_ Try.func84 #[.int .i64 (rd l (i : Int))] ?_
   with_reducible refine sk_ (clip11_as HX_.out) fun wk hb => ?_
   replace HM := MS.nx HM hb; clear hb
   refine hK.out _ _ ⟨MS.k HM m0_ 0 rfl, MS.k HM m0_ 1 rfl, MS.k HM m0_ 2 rfl⟩ (fun hHeld => ?_)
   clear hK K
   refine nO_ 41 ?_
   refine on_ 4 (some 42) (mB 8 31) HT_ (fun K hK => ?_)
   refine value_ (w1 := ?_) (v := ?_) (by rfl) rfl ?_ ?_
   rotate_left 2
   ·
    go_simp
    constructor
    ·
     rfl
    ·
     rfl
   refine hK.out _ _ ⟨MS.k ⟨MS.to HM⟩ m0_ 0 rfl, MS.k ⟨MS.to HM⟩ m0_ 1 rfl, MS.k ⟨MS.to HM⟩ m0_ 2 rfl⟩ (fun hHeld => ?_)
   clear hK K
   refine nO_ 42 ?_
   refine on_ 5 (some 43) (mB 8 63) HT_ (fun K hK => ?_)
   refine Kd.R_append_step (Kd.int .i64) (w0 := w) w.heap.size (by rfl) (.tmp 39) (.tmp 42) 23 2 (.int .i64 0) 8 rfl Try.underlying23 info2 rfl (by decide) (by omega) (.slice Qm mm.length qm) mm cx [.int .i64 cx] (fun _ => True) (fun _ => False) rfl rfl ?aP (fun _ hk => hk.elim) (fun _ _ => trivial) ?aO ?aB ?aS ?aL ?_
   (case aP => exact rfl)
   (case aB => exact MS.bel HM)
   (case aO => exact Kd.R_mono (OS.own (MS.S (MS.to HM)) _ m0_).r1 (fun _ _ => trivial))
   (case aS => exact (MS.bel HM).size)
   (case aL => have := HMM.out; omega)
   intro v1 wk ho hb hg hat; obtain ⟨nQ, nq, rfl⟩ := Kd.R_slice ho; replace HM := MS.apd ⟨MS.to HM⟩ ho hb hg hat; clear ho hb hg hat
   refine hK.out _ _ ⟨MS.k HM m0_ 0 rfl, MS.k HM m0_ 1 rfl, MS.k HM m0_ 2 rfl⟩ (fun hHeld => ?_)
   clear hK K
   refine nO_ 43 ?_
   refine pV_ 6 44 (mB 8 127) HT_ ?_
   have kgc := MS.c3 HM m0_
   refine la_ 7 (mB 8 255) HT_ (fun K hK => ?_)
   refine skip_ (w1 := ?_) (by rfl) rfl ?_ ?_
   rotate_left
   ·
    go_simp
    rfl
   refine hK.out _ _ ?_
   clear hK K
   refine dn_ HT_ ?_
   clear HT_ HW_ hHeld
   have HN_ := MS.pj0 (cs' := #[.slice Pv X.v.length pv, .slice nQ (mm ++ [cx]).length nq, .bool false]) 1 (.slice nQ (mm ++ [cx]).length nq) HM rfl
   clear kgc; try go_wp2
   go_roundg i_
   case measure => exact Nat.lt_succ_self _
   case rel =>
    have hw : wrap64 ((i : Int) + 1) = ((i + 1 : Nat) : Int) := by have := LI.out; have := HKK.out; unfold wrap64; omega
    rw [hw]
    exact ⟨i + 1, nQ, nq, mm ++ [cx], rfl, ⟨by have := Hi.out; omega⟩, ⟨by rw [HC.out, ← HX_.out]; exact take_snoc (by have := HL.out; have := LI.out; omega)⟩, by simpa using HN_⟩
theorem rclose_h {w W : World} {x : OV} {v m : List Int} {e : Bool} {a : List Int × List Int × Bool} (hx : Oc w W x) (hb : Below w.heap.size w W) (ho : x.o = (v, m, e)) (fx : OFit v m e) (ha : closeF v m e = a) :
 Calls Try.prog 38 #[x.val] W fun e W' => ∃ z : OV, e = .returned z.val ∧ z.o = a ∧ Own W W' z ∧ Below W.heap.size W W' := by
 have e1 : x.v = v := congrArg Prod.fst ho
 have e2 : x.m = m := congrArg (·.2.1) ho
 have e3 : x.e = e := congrArg (·.2.2) ho
 subst e1 e2
 have HX : Aside0 (Oc W W x) := ⟨⟨⟨hx.r0.le, .inl (hx.r0.reads hb)⟩, ⟨hx.r1.le, .inl (hx.r1.reads hb)⟩⟩⟩
 cases e with
 | true => exact rclose_w1 x HX ⟨fx.1⟩ ⟨e3⟩ ⟨ha⟩
 | false =>
  have h8 := fx.1.1
  obtain ⟨n, en⟩ : ∃ n, 2 * x.v.length = n := ⟨_, rfl⟩
  have F0 : IntKind.i64.wrap (2 * (x.v.length : Int)) = (n : Int) := by rw [IntKind.wrap_i64]; omega
  have hn : n ≤ 16 := by omega
  unfold closeF closeL at ha
  rw [if_neg (by simp), en] at ha
  have ht : tightR n (lowM x.v.length x.m) = if closeB n (lowM x.v.length x.m) = true then (lst n (strg (tig (OctMath.overs (lowM x.v.length x.m) n))), true) else ([], false) := rfl
  by_cases c : closeB n (lowM x.v.length x.m) = true
  ·
   rw [if_pos c] at ht ha
   rw [c] at ha
   refine rclose_w3 x HX ⟨fx.1⟩ ⟨fx⟩ ⟨en⟩ ⟨F0⟩ ⟨e3⟩ ⟨ht⟩ ⟨Nat.mul_le_mul hn hn⟩ ⟨?_⟩
   rw [← ha]
   show (x.v, _, false) = (x.v, lst n (closeM n (lowM x.v.length x.m)), false)
   unfold lst closeM
   rw [List.map_map]
   rfl
  ·
   rw [if_neg c] at ht ha
   have c' : closeB n (lowM x.v.length x.m) = false := by simpa using c
   rw [c'] at ha
   exact rclose_w2 x HX ⟨fx.1⟩ ⟨fx⟩ ⟨en⟩ ⟨F0⟩ ⟨e3⟩ ⟨ht⟩ ⟨ha⟩
end Go.Proofs.Ytphfchbggechhaa.QO
end
end
section
noncomputable section
namespace Go.Proofs.Ytphfchbggechhaa.Pure
open Go.RowKit Go.Shelf Ytphfchbggechhaa.QO YtphfchbggechhaaW.PrintWords YtphfchbggechhaaW.PrintLast YtphfchbggechhaaW.PrintMore
open OctMath (Fin')
set_option linter.unusedVariables false
def fixM (A : Mx) (p : Nat) (s : Int) : Mx := fun i j => if i = 2 * p ∧ j = 2 * p + 1 then mn (A i j) (-2 * s) else if i = 2 * p + 1 ∧ j = 2 * p then mn (A i j) (2 * s) else A i j
theorem fixM_snd {n p : Nat} {A : Mx} {s : Int} (hA : Snd (2 * n) A) (hs : -549755813888 ≤ s ∧ s ≤ 549755813888) : Snd (2 * n) (fixM A p s) := by
 have nbs : ∀ i, nb i = 2 * p ↔ i = 2 * p + 1 := fun i => by unfold nb; split <;> omega
 have nbt : ∀ i, nb i = 2 * p + 1 ↔ i = 2 * p := fun i => by unfold nb; split <;> omega
 refine ⟨hA.ev, fun i j hi hj => ?_, fun i j hi hj => ?_, fun i hi => ?_⟩
 ·
  have := hA.bd i j hi hj
  unfold fixM
  split
  ·
   exact fin_mn this (.inr (by omega))
  ·
   split
   ·
    exact fin_mn this (.inr (by omega))
   ·
    exact this
 ·
  have e := hA.coh i j hi hj
  unfold fixM
  by_cases c : i = 2 * p ∧ j = 2 * p + 1
  ·
   rw [if_pos c, if_pos ⟨(nbs _).2 c.2, (nbt _).2 c.1⟩, e]
  ·
   have n1 : ¬ (nb j = 2 * p ∧ nb i = 2 * p + 1) := fun q => c ⟨(nbt _).1 q.2, (nbs _).1 q.1⟩
   by_cases c2 : i = 2 * p + 1 ∧ j = 2 * p
   ·
    rw [if_neg c, if_pos c2, if_neg n1, if_pos ⟨(nbt _).2 c2.2, (nbs _).2 c2.1⟩, e]
   ·
    rw [if_neg c, if_neg c2, if_neg n1, if_neg (show ¬ (nb j = 2 * p + 1 ∧ nb i = 2 * p) from fun q => c2 ⟨(nbs _).1 q.2, (nbt _).1 q.1⟩), e]
 ·
  unfold fixM; rw [if_neg (by omega), if_neg (by omega)]; exact hA.dg i hi
theorem fix_set {n p : Nat} (A : Mx) {s U D S2 T2 : Int} (h : 2 * p + 1 < n) (hU : U = (((2 * p + 1) * n + 2 * p : Nat) : Int)) (hD : D = ((2 * p * n + (2 * p + 1) : Nat) : Int)) (h2 : S2 = 2 * s ∧ T2 = -2 * s) :
 ((lst n A).set U.toNat (if S2 < A (2 * p + 1) (2 * p) then S2 else A (2 * p + 1) (2 * p))).set D.toNat (if T2 < A (2 * p) (2 * p + 1) then T2 else A (2 * p) (2 * p + 1)) = lst n (fixM A p s) := by
 rw [lst_set (i := 2 * p + 1) (j := 2 * p) h (by omega) hU, lst_set (i := 2 * p) (j := 2 * p + 1) (by omega) h hD]
 refine lst_congr (fun a b _ _ => ?_)
 unfold fixM mn
 by_cases c : a = 2 * p ∧ b = 2 * p + 1
 ·
  rw [if_pos c, if_pos c, c.1, c.2, h2.2]
 ·
  rw [if_neg c, if_neg c]
  by_cases d : a = 2 * p + 1 ∧ b = 2 * p
  ·
   rw [if_pos d, if_pos d, d.1, d.2, h2.1]
  ·
   rw [if_neg d, if_neg d]
end Go.Proofs.Ytphfchbggechhaa.Pure
namespace Go.Proofs.Ytphfchbggechhaa.QO
open Go.RowKit Go.Shelf YtphfchbggechhaaW.PrintWords YtphfchbggechhaaW.PrintLast YtphfchbggechhaaW.PrintMore
open Ytphfchbggechhaa.Pure
theorem rclose_n {w W : World} {x : OV} {v m : List Int} {e : Bool} {a : List Int × List Int × Bool} {k : Nat} (hx : Oc w W x) (hb : Below w.heap.size w W) (ho : x.o = (v, m, e)) (fx : OFit v m e) (ha : closeF v m e = a) (hk : x.m.length = k) :
 Calls Try.prog 38 #[.agg #[.slice x.P x.v.length x.p, .slice x.Q k x.q, .bool x.e]] W fun e W' => ∃ z : OV, e = .returned z.val ∧ z.o = a ∧ Own W W' z ∧ Below W.heap.size W W' := by
 subst hk
 exact rclose_h hx hb ho fx ha
theorem cellA {W : World} {c : Addr} {l : List Int} {i a : Int} (h : W.cell? c = some (.int .i64 (rd l i)) ∧ W.frozen? c = false) (e : rd l i = a) : W.cell? c = some (.int .i64 a) ∧ W.frozen? c = false := e ▸ h
end Go.Proofs.Ytphfchbggechhaa.QO
end
end
section
noncomputable section
namespace Go.Proofs.Ytphfchbggechhaa.QO
open Go.RowKit Go.Shelf YtphfchbggechhaaW.PrintWords YtphfchbggechhaaW.PrintLast YtphfchbggechhaaW.PrintMore
open Ytphfchbggechhaa.Pure
attribute [local go_sem] Oper.semAt_some
attribute [local go_sem ↓] Go.wp_at_zero Go.wp_at_succ
set_option linter.unusedVariables false
set_option linter.unusedSimpArgs false
def rfx_T5 : Bool × List (List Nat × List Nat) := (true, [([], []), ([0], [0]), ([], []), ([], []), ([3], [3]), ([], []), ([4, 5], [4, 5]), ([6], [6]), ([], []), ([8], [8]), ([7, 9], [7, 9]), ([1, 2, 0, 1, 2, 3, 4, 5, 6, 7, 8, 9, 10], [1, 2]), ([11, 10, 0, 1, 2, 3, 4, 5, 6, 7, 8, 9, 10], [10, 11])])
def rfx_B5 : List Nat := [0, 1, 0, 0, 8, 0, 56, 120, 0, 256, 1016, 2047, 4095]
theorem rfx_tab5 : rtab .any (opsOf Try.f85 5) = rfx_T5 := by kernel_rfl
theorem rfx_bits5 : waitsOk rfx_T5.2 rfx_B5 = true := by kernel_rfl
def rfx_T6 : Bool × List (List Nat × List Nat) := (true, [([], []), ([0], [0]), ([], []), ([], []), ([3], [3]), ([], []), ([4, 5], [4, 5]), ([6], [6]), ([], []), ([8], [8]), ([7, 9], [7, 9]), ([1, 2, 0, 1, 2, 3, 4, 5, 6, 7, 8, 9, 10], [1, 2]), ([11, 10, 0, 1, 2, 3, 4, 5, 6, 7, 8, 9, 10], [10, 11])])
def rfx_B6 : List Nat := [0, 1, 0, 0, 8, 0, 56, 120, 0, 256, 1016, 2047, 4095]
theorem rfx_tab6 : rtab .any (opsOf Try.f85 6) = rfx_T6 := by kernel_rfl
theorem rfx_bits6 : waitsOk rfx_T6.2 rfx_B6 = true := by kernel_rfl
theorem rfix_w (X : OV) {a : List Int × List Int × Bool} {w : World} {A : Mx} {n p NN : Nat} {P P2 P3 K1 K2 K3 U D s S2 T2 : Int} (HX : Aside0 (Oc w w X)) (HV : Aside0 (VarsOk X.v)) (HE : Aside0 (X.e = false)) (HA : Aside0 (X.m = lst n A)) (HNN : Aside0 (X.m.length = NN)) (HK : Aside0 (NN ≤ 256)) (HP0 : Aside0 (0 < NN)) (F0 : Aside0 (IntKind.i64.wrap (2 * (X.v.length : Int)) = (n : Int)))
 (FW : Aside0 (IntKind.i64.wrap (2 * P) = P2 ∧ IntKind.i64.wrap (P2 + 1) = P3 ∧ IntKind.i64.wrap (P3 * (n : Int)) = K1 ∧ IntKind.i64.wrap (K1 + P2) = U ∧ IntKind.i64.wrap (P2 * (n : Int)) = K2 ∧ IntKind.i64.wrap (K2 + P2) = K3 ∧ IntKind.i64.wrap (K3 + 1) = D)) (FS2 : Aside0 (IntKind.i64.wrap (2 * s) = S2)) (FT2 : Aside0 (IntKind.i64.wrap (-2 * s) = T2))
 (HU : Aside0 (0 ≤ U ∧ U < (NN : Int))) (HD : Aside0 (0 ≤ D ∧ D < (NN : Int))) (HUD : Aside0 (D ≠ U)) (EU0 : Aside0 (rd (lst n A) U = A (2 * p + 1) (2 * p))) (ED0 : Aside0 (rd (lst n A) D = A (2 * p) (2 * p + 1)))
 (HIX : Aside0 (2 * p + 1 < n ∧ U = (((2 * p + 1) * n + 2 * p : Nat) : Int) ∧ D = ((2 * p * n + (2 * p + 1) : Nat) : Int) ∧ S2 = 2 * s ∧ T2 = -2 * s)) (HF : Aside0 (OFit X.v (lst n (fixM A p s)) false)) (HR : Aside0 (closeF X.v (lst n (fixM A p s)) false = a)) : Calls Try.prog 85 #[X.val, .int .i64 P, .int .i64 s] w fun e W' => ∃ z : OV, e = .returned z.val ∧ z.o = a ∧ Own w W' z ∧ Below w.heap.size w W' := by
 have hu25 := Try.underlying25
 have hu22 := Try.underlying22
 have hu23 := Try.underlying23
 go_enter Try.func85, Try.ntmps85
 go_upto_region 1 with fail
 have HM := MS.n2 w X.cells zeroO
 generalize World.alloc _ _ = wk at HM ⊢
 generalize w.heap.size + 1 = gr at HM ⊢
 generalize w.heap.size = go at HM ⊢
 have f0 := F0.out
 have kgo := MS.c3 HM m1_
 go_upto_region 3 with (first | (go_at_call 83; (with_reducible refine (copied_v (Oc.now HX (MS.bel HM)).r0 (Below.refl _ _) HV.out).mono ?_); rintro e wk ⟨Pv, pv, rfl, ho, hb⟩; replace HM := MS.cl HM hb ho; clear ho hb; replace kgo := MS.c3 HM m1_) | ((with_reducible refine gate_dst (N := 8) rfl ?_); refine bx_ 8 #[.slice none 0 0, .slice none 0 0, .bool false] 25 ?_; intro gc hg wk hbox hb; replace HM := MS.md HM hg hbox hb; clear hg hbox hb; have kgc := MS.c3 HM m0_; replace kgo := MS.c3 HM m2_))
 clear f0
 have n_ : Aside0 (MS w [⟨Pv, pv, none, 0, X.v, [], false⟩] [(gc, .cells #[.slice Pv X.v.length pv, .slice none 0 0, .bool false] 25 (0, 0)), (gr, zeroO), (go, X.cells)] _) := ⟨MS.put3 [] HM.out (a' := .slice Pv X.v.length pv) (b' := .slice none 0 0) (c' := .bool false)⟩; clear HM; have HM := n_; clear n_
 generalize World.setCell _ _ _ = wk at HM ⊢
 replace kgc := MS.c3 HM m0_; replace kgo := MS.c3 HM m2_
 go_upto_region 4 with (first | ((with_reducible refine gate_builtin (b := .append) (xs := #[.tmp 20, .tmp 22]) rfl ?_); at_builtin; refine Kd.R_append_rows (Kd.int .i64) (w0 := w) w.heap.size rfl (.tmp 20) (.tmp 22) 23 2 (.int .i64 0) 8 rfl Try.underlying23 info2 rfl (by decide) (by omega) (.slice none 0 0) ([] : List Int) X.m _ _ _ (fun _ => True) (fun _ => False) rfl rfl ?aO ?aR (fun _ _ h => h) (fun _ h => h.elim) ?aF ?aB ?aS ?aL ?_; (case aR => exact (Oc.now HX (MS.bel HM)).r1.reads (Below.refl _ _)); (case aB => exact MS.bel HM); (case aF => exact fun _ _ => trivial); (case aO => exact Kd.R_nil _ _ _ _ (fun _ => True)); (case aS => exact (MS.bel HM).size); (case aL => have := HNN.out; have := HK.out; simp only [List.length_nil]; omega); intro v1 wk ho hb hg hat; rw [List.nil_append] at ho; obtain ⟨Qm, qm, rfl⟩ := Kd.R_slice ho; replace HM := MS.apd HM ho hb hg hat; clear ho hb hg hat; replace kgc := MS.c3 HM m0_; replace kgo := MS.c3 HM m2_))
 replace HM := MS.pj0 (cs' := #[.slice Pv X.v.length pv, .slice Qm X.m.length qm, .bool false]) 1 (.slice Qm X.m.length qm) HM rfl
 generalize World.setCell _ _ _ = wk at HM ⊢
 obtain ⟨M, hM⟩ : ∃ M, X.m = M := ⟨_, rfl⟩; rw [hM] at HM HNN; have EM : Aside0 (M = lst n A) := ⟨hM.symm.trans HA.out⟩; have HNM := HNN
 obtain ⟨bm, rfl⟩ : ∃ b, Qm = some ⟨b, 0, none⟩ := MS.pl HM m0_ (by rw [HNM.out]; exact HP0.out)
 dsimp only at HM; rw [HNM.out] at HM; clear hM; have EU : Aside0 (rd M U = A (2 * p + 1) (2 * p)) := ⟨by rw [EM.out]; exact EU0.out⟩
 obtain ⟨f1, f2, f3, f4, f5, f6, f7⟩ := FW.out
 go_upto_region 5 with fail
 clear f1 f2 f3 f4 f5 f6 f7
 obtain ⟨uU, hu_⟩ : ∃ b, (if S2 < A (2 * p + 1) (2 * p) then S2 else A (2 * p + 1) (2 * p)) = b := ⟨_, rfl⟩; have HVU := Aside0.mk hu_; have f1 := FS2.out; have p1 := eq_true HU.out.1; have p2 := eq_true HU.out.2
 replace HM := MS.dr HM
 clear kgc kgo
 refine st_ 13 (fun w' => w'.cell? ⟨gc, 1, none⟩ = some (.slice (some ⟨bm, 0, none⟩) NN qm) ∧ w'.cell? ⟨bm, U.toNat, none⟩ = some (.int .i64 (A (2 * p + 1) (2 * p)))) [12] ⟨(MS.k HM m0_ 1 rfl), (cellA (MS.ce HM m0_ rfl U HU.out.1 (by dsimp only; rw [HNM.out]; exact HU.out.2)) EU.out).1⟩ (fun hHeld => ?_)
 refine with_tabW rfx_tab5 rfx_bits5 (fun HT_ HW_ => ?_)
 generalize World.drew _ = wk at HM hHeld ⊢
 refine pV_ 0 41 (mB 13 1) HT_ ?_
 refine tV_ 1 42 (mB 13 3) HT_ HW_ hHeld ?_
 refine pV_ 2 43 (mB 13 7) HT_ ?_
 refine pV_ 3 44 (mB 13 15) HT_ ?_
 refine tV_ 4 45 (mB 13 31) HT_ HW_ hHeld ?_
 refine pV_ 5 46 (mB 13 63) HT_ ?_
 refine pV_ 6 47 (mB 13 127) HT_ ?_
 refine tV_ 7 48 (mB 13 255) HT_ HW_ hHeld ?_
 refine pV_ 8 49 (mB 13 511) HT_ ?_
 refine pV_ 9 50 (mB 13 1023) HT_ ?_
 refine pV_ 10 51 (mB 13 2047) HT_ ?_
 obtain ⟨y1, y2⟩ := (cellA (MS.ce HM m0_ rfl U HU.out.1 (by dsimp only; rw [HNM.out]; exact HU.out.2)) EU.out)
 refine pV_ 11 52 (mB 13 4095) HT_ ?_
 have kgc := MS.c3 HM m0_; have kgr := MS.c3 HM m1_; have kgo := MS.c3 HM m2_
 refine la_ 12 (mB 13 8191) HT_ (fun K hK => ?_)
 refine skip_ (w1 := ?_) (by rfl) rfl ?_ ?_
 rotate_left
 ·
  go_simp
  rfl
 refine hK.out _ _ ?_
 clear hK K
 refine dn_ HT_ ?_
 clear HT_ HW_ hHeld
 clear hu_ f1 p1 p2 y1 y2
 replace HM : Aside0 (MS w [⟨Pv, pv, some ⟨bm, 0, none⟩, qm, X.v, M.set U.toNat uU, false⟩] [(gc, .cells #[.slice Pv X.v.length pv, .slice (some ⟨bm, 0, none⟩) NN qm, .bool false] 25 (0, 0)), (gr, zeroO), (go, X.cells)] _) := ⟨HM.out.poke rfl (by dsimp only; rw [HNM.out]; exact HP0.out) U uU⟩
 generalize World.setCell _ _ _ = wk at HM ⊢
 have HNS : Aside0 ((M.set U.toNat uU).length = NN) := ⟨by rw [List.length_set]; exact HNM.out⟩; have ED : Aside0 (rd (M.set U.toNat uU) D = A (2 * p) (2 * p + 1)) := ⟨by rw [rd_set HU.out.1 (by rw [HNM.out]; exact HU.out.2) HD.out.1, if_neg HUD.out, EM.out]; exact ED0.out⟩
 obtain ⟨M1, hM1⟩ : ∃ l, M.set U.toNat uU = l := ⟨_, rfl⟩; rw [hM1] at HM HNS ED; have EM1 := Aside0.mk hM1; clear hM1
 go_upto_region 6 with fail
 obtain ⟨uD, hu_⟩ : ∃ b, (if T2 < A (2 * p) (2 * p + 1) then T2 else A (2 * p) (2 * p + 1)) = b := ⟨_, rfl⟩; have HVD := Aside0.mk hu_; have f1 := FT2.out; have p1 := eq_true HD.out.1; have p2 := eq_true HD.out.2
 replace HM := MS.dr HM
 clear kgc kgo kgr
 refine st_ 13 (fun w' => w'.cell? ⟨gc, 1, none⟩ = some (.slice (some ⟨bm, 0, none⟩) NN qm) ∧ w'.cell? ⟨bm, D.toNat, none⟩ = some (.int .i64 (A (2 * p) (2 * p + 1)))) [12] ⟨(MS.k HM m0_ 1 rfl), (cellA (MS.ce HM m0_ rfl D HD.out.1 (by dsimp only; rw [HNS.out]; exact HD.out.2)) ED.out).1⟩ (fun hHeld => ?_)
 refine with_tabW rfx_tab6 rfx_bits6 (fun HT_ HW_ => ?_)
 generalize World.drew _ = wk at HM hHeld ⊢
 refine pV_ 0 53 (mB 13 1) HT_ ?_
 refine tV_ 1 54 (mB 13 3) HT_ HW_ hHeld ?_
 refine pV_ 2 55 (mB 13 7) HT_ ?_
 refine pV_ 3 56 (mB 13 15) HT_ ?_
 refine tV_ 4 57 (mB 13 31) HT_ HW_ hHeld ?_
 refine pV_ 5 58 (mB 13 63) HT_ ?_
 refine pV_ 6 59 (mB 13 127) HT_ ?_
 refine tV_ 7 60 (mB 13 255) HT_ HW_ hHeld ?_
 refine pV_ 8 61 (mB 13 511) HT_ ?_
 refine pV_ 9 62 (mB 13 1023) HT_ ?_
 refine pV_ 10 63 (mB 13 2047) HT_ ?_
 obtain ⟨y1, y2⟩ := (cellA (MS.ce HM m0_ rfl D HD.out.1 (by dsimp only; rw [HNS.out]; exact HD.out.2)) ED.out)
 refine pV_ 11 64 (mB 13 4095) HT_ ?_
 have kgc := MS.c3 HM m0_; have kgr := MS.c3 HM m1_; have kgo := MS.c3 HM m2_
 refine la_ 12 (mB 13 8191) HT_ (fun K hK => ?_)
 refine skip_ (w1 := ?_) (by rfl) rfl ?_ ?_
 rotate_left
 ·
  go_simp
  rfl
 refine hK.out _ _ ?_
 clear hK K
 refine dn_ HT_ ?_
 clear HT_ HW_ hHeld
 clear hu_ f1 p1 p2 y1 y2
 replace HM : Aside0 (MS w [⟨Pv, pv, some ⟨bm, 0, none⟩, qm, X.v, M1.set D.toNat uD, false⟩] [(gc, .cells #[.slice Pv X.v.length pv, .slice (some ⟨bm, 0, none⟩) NN qm, .bool false] 25 (0, 0)), (gr, zeroO), (go, X.cells)] _) := ⟨HM.out.poke rfl (by dsimp only; rw [HNS.out]; exact HP0.out) D uD⟩
 generalize World.setCell _ _ _ = wk at HM ⊢
 have HNT : Aside0 ((M1.set D.toNat uD).length = NN) := ⟨by rw [List.length_set]; exact HNS.out⟩
 have EF : Aside0 (M1.set D.toNat uD = lst n (fixM A p s)) := ⟨by rw [← EM1.out, EM.out, ← HVU.out, ← HVD.out]; exact fix_set A HIX.out.1 HIX.out.2.1 HIX.out.2.2.1 HIX.out.2.2.2⟩
 generalize M1.set D.toNat uD = M2 at HM HNT EF
 replace kgc := MS.c3 HM m0_; replace kgr := MS.c3 HM m1_
 go_wp2_with (first | (go_at_call 38; (with_reducible refine (rclose_n (MS.oc HM m0_) (MS.bel HM) (by show (X.v, M2, false) = _; rw [EF.out]) HF.out HR.out HNT.out).mono ?_); rintro e wk ⟨z, rfl, hz, ho, hb⟩; replace HM := MS.cl HM hb ho; clear ho hb; replace kgc := MS.c3 HM m0_; replace kgr := MS.c3 HM m1_))
 replace HM := MS.po1 z HM
 generalize World.setCell _ _ _ = wk at HM ⊢
 refine MS.rt HM m1_ ?_
 exact ⟨z, rfl, hz, HM.out.S.own _ m0_, HM.out.S.below⟩
end Go.Proofs.Ytphfchbggechhaa.QO
end
end
section
namespace Go.Proofs.Ytphfchbggechhaa.HasEq
open Go.RowKit Ytphfchbggechhaa.QO YtphfchbggechhaaW.PrintWords YtphfchbggechhaaW.PrintLast YtphfchbggechhaaW.PrintMore
theorem value_sgn {v : List Int} {i : Int} (h0 : 0 ≤ i) (h1 : i < 16) (h2 : i / 2 < v.length) (h3 : -4611686018427387904 < rd v (i / 2) ∧ rd v (i / 2) < 4611686018427387904) : gimbalref11_value.f v i = some (sgn v i) := by
 have d1 : i.tdiv 2 = i / 2 := Int.tdiv_eq_ediv_of_nonneg h0
 have d2 : i.tmod 2 = i % 2 := Int.tmod_eq_emod_of_nonneg h0
 have d3 : wrap64 (i / 2) = i / 2 := by unfold wrap64; omega
 have d4 : wrap64 (-(rd v (i / 2))) = -(rd v (i / 2)) := by unfold wrap64; omega
 unfold gimbalref11_value.f sgn
 rw [d1, d2, d3, d4]
 have z : 0 ≤ i / 2 := by omega
 by_cases e : i % 2 = 0
 ·
  rw [if_pos e, if_pos z, if_pos h2, if_neg (by omega)]
 ·
  rw [if_neg e, if_pos z, if_pos h2, if_pos (by omega)]
def PP (n2 : Int) (m v : List Int) (i j : Int) : Prop := rd m (i * n2 + j) = 4611686018427387904 ∨ sgn v j - sgn v i ≤ rd m (i * n2 + j)
theorem sgn_fin {v : List Int} {i : Int} (h3 : -4611686018427387904 < rd v (i / 2) ∧ rd v (i / 2) < 4611686018427387904) : -4611686018427387904 < sgn v i ∧ sgn v i < 4611686018427387904 := by
 unfold sgn; split <;> omega
theorem l2_step {l v m : List Int} {e : Bool} {i j n2 : Int} (hn : n2 ≤ 16) (hl : (v.length : Int) * 2 = n2) (hm : (m.length : Int) = n2 * n2) (i0 : 0 ≤ i) (i1 : i < n2) (j0 : 0 ≤ j) (j1 : j < n2)
 (hf : ∀ k : Int, 0 ≤ k → k < v.length → -4611686018427387904 < rd v k ∧ rd v k < 4611686018427387904)
 (hr : -9223372036854775808 ≤ rd m (i * n2 + j) ∧ rd m (i * n2 + j) ≤ 9223372036854775807) (k : Nat) :
 (PP n2 m v i j → gimbalref11_Has.l2 (k + 1) v n2 i j l m e = gimbalref11_Has.l2 k v n2 i (j + 1) l m e) ∧ (¬ PP n2 m v i j → gimbalref11_Has.l2 (k + 1) v n2 i j l m e = some false) := by
 have p1 : 0 ≤ i * n2 := Int.mul_nonneg i0 (by omega)
 have p2 : (i + 1) * n2 ≤ n2 * n2 := Int.mul_le_mul_of_nonneg_right (by omega) (by omega)
 have p3 : n2 * n2 ≤ 16 * 16 := Int.mul_le_mul hn hn (by omega) (by decide)
 rw [Int.add_mul, Int.one_mul] at p2
 have w1 : wrap64 (i * n2) = i * n2 := by unfold wrap64; omega
 have w2 : wrap64 (i * n2 + j) = i * n2 + j := by unfold wrap64; omega
 have w3 : wrap64 (j + 1) = j + 1 := by unfold wrap64; omega
 have fi := hf (i / 2) (by omega) (by omega)
 have fj := hf (j / 2) (by omega) (by omega)
 have gi := sgn_fin fi
 have gj := sgn_fin fj
 have vi := value_sgn (v := v) (i := i) i0 (by omega) (by omega) fi
 have vj := value_sgn (v := v) (i := j) j0 (by omega) (by omega) fj
 have hb : gimbalref11_beyond.f (sgn v i) (sgn v j) (rd m (i * n2 + j)) = some (decide (sgn v j - sgn v i > rd m (i * n2 + j))) := by
  unfold gimbalref11_beyond.f; rw [if_pos ⟨⟨by omega, by omega⟩, ⟨by omega, by omega⟩, hr⟩]
 rw [show gimbalref11_Has.l2 (k + 1) v n2 i j l m e = _ from by rw [gimbalref11_Has.l2]]
 rw [w1, w2, w3, if_pos j1, if_pos (by omega), if_pos (by omega)]
 by_cases he : rd m (i * n2 + j) = 4611686018427387904
 ·
  rw [if_pos he]; exact ⟨fun _ => rfl, fun h => absurd (.inl he) h⟩
 ·
  rw [if_neg he, vi, vj]
  simp only [Option.bind_some]
  rw [hb]
  simp only [Option.bind_some, decide_eq_true_eq]
  unfold PP
  by_cases hd : sgn v j - sgn v i > rd m (i * n2 + j)
  ·
   rw [if_pos hd]; exact ⟨fun h => by rcases h with h | h <;> omega, fun _ => rfl⟩
  ·
   rw [if_neg hd]; exact ⟨fun _ => rfl, fun h => absurd (.inr (by omega)) h⟩
theorem l2_all {l v m : List Int} {e : Bool} {i n2 : Int} (hn : n2 ≤ 16) (hl : (v.length : Int) * 2 = n2) (hm : (m.length : Int) = n2 * n2) (i0 : 0 ≤ i) (i1 : i < n2)
 (hf : ∀ k : Int, 0 ≤ k → k < v.length → -4611686018427387904 < rd v k ∧ rd v k < 4611686018427387904)
 (hr : ∀ j, 0 ≤ j → j < n2 → -9223372036854775808 ≤ rd m (i * n2 + j) ∧ rd m (i * n2 + j) ≤ 9223372036854775807) (d : Nat) : ∀ j : Int, 0 ≤ j → n2 - j = (d : Int) →
 ((∀ j', j ≤ j' → j' < n2 → PP n2 m v i j') → ∀ k, gimbalref11_Has.l2 (k + d + 1) v n2 i j l m e = gimbalref11_Has.l1 k v n2 (wrap64 (i + 1)) l m e) ∧
 ((∃ j', j ≤ j' ∧ j' < n2 ∧ ¬ PP n2 m v i j') → ∀ k, gimbalref11_Has.l2 (k + d + 1) v n2 i j l m e = some false) := by
 induction d with
 | zero =>
  intro j j0 hd
  refine ⟨fun _ k => ?_, fun ⟨j', h1, h2, _⟩ => by omega⟩
  rw [show gimbalref11_Has.l2 (k + 0 + 1) v n2 i j l m e = _ from by rw [gimbalref11_Has.l2]]
  rw [if_neg (by omega)]
 | succ d ih =>
  intro j j0 hd
  have j1 : j < n2 := by omega
  obtain ⟨a1, a2⟩ := ih (j + 1) (by omega) (by omega)
  refine ⟨fun h k => ?_, fun ⟨j', h1, h2, h3⟩ k => ?_⟩
  ·
   have s := (l2_step (l := l) (e := e) hn hl hm i0 i1 j0 j1 hf (hr j j0 j1) (k + d + 1)).1 (h j (by omega) j1)
   rw [show k + (d + 1) + 1 = k + d + 1 + 1 from rfl, s]
   exact a1 (fun j' h1 h2 => h j' (by omega) h2) k
  ·
   have s := l2_step (l := l) (e := e) hn hl hm i0 i1 j0 j1 hf (hr j j0 j1) (k + d + 1)
   rw [show k + (d + 1) + 1 = k + d + 1 + 1 from rfl]
   by_cases hp : PP n2 m v i j
   ·
    rw [s.1 hp]
    refine a2 ⟨j', ?_, h2, h3⟩ k
    rcases Int.lt_or_eq_of_le h1 with h | h
    ·
     omega
    ·
     subst h; exact absurd hp h3
   ·
    exact s.2 hp
theorem l1_all {l v m : List Int} {e : Bool} {n2 : Int} (hn : n2 ≤ 16) (hl : (v.length : Int) * 2 = n2) (hm : (m.length : Int) = n2 * n2)
 (hf : ∀ k : Int, 0 ≤ k → k < v.length → -4611686018427387904 < rd v k ∧ rd v k < 4611686018427387904)
 (hr : ∀ i j, 0 ≤ i → i < n2 → 0 ≤ j → j < n2 → -9223372036854775808 ≤ rd m (i * n2 + j) ∧ rd m (i * n2 + j) ≤ 9223372036854775807) (d : Nat) : ∀ i : Int, 0 ≤ i → n2 - i = (d : Int) →
 ∃ K, ∀ k, K ≤ k → (((∀ i' j', i ≤ i' → i' < n2 → 0 ≤ j' → j' < n2 → PP n2 m v i' j') → gimbalref11_Has.l1 k v n2 i l m e = some true) ∧
  ((∃ i' j', i ≤ i' ∧ i' < n2 ∧ 0 ≤ j' ∧ j' < n2 ∧ ¬ PP n2 m v i' j') → gimbalref11_Has.l1 k v n2 i l m e = some false)) := by
 induction d with
 | zero =>
  intro i i0 hd
  refine ⟨1, fun k hk => ?_⟩
  obtain ⟨k, rfl⟩ : ∃ m, k = m + 1 := ⟨k - 1, by omega⟩
  refine ⟨fun _ => ?_, fun ⟨i', j', h1, h2, _⟩ => by omega⟩
  rw [gimbalref11_Has.l1, if_neg (by omega)]
 | succ d ih =>
  intro i i0 hd
  have i1 : i < n2 := by omega
  have w1 : wrap64 (i + 1) = i + 1 := by unfold wrap64; omega
  obtain ⟨K, hK⟩ := ih (i + 1) (by omega) (by omega)
  obtain ⟨c1, c2⟩ := l2_all (l := l) (e := e) hn hl hm i0 i1 hf (fun j a b => hr i j i0 i1 a b) n2.toNat 0 (by omega) (by omega)
  refine ⟨K + n2.toNat + 3, fun k hk => ?_⟩
  obtain ⟨k, rfl⟩ : ∃ q, k = q + n2.toNat + 1 + 1 := ⟨k - n2.toNat - 2, by omega⟩
  rw [gimbalref11_Has.l1, if_pos i1]
  obtain ⟨b1, b2⟩ := hK k (by omega)
  refine ⟨fun h => ?_, fun ⟨i', j', h1, h2, h3, h4, h5⟩ => ?_⟩
  ·
   rw [c1 (fun j' a b => h i j' (by omega) i1 a b) k, w1]
   exact b1 (fun i' j' h1 h2 h3 h4 => h i' j' (by omega) h2 h3 h4)
  ·
   by_cases hp : ∃ j', 0 ≤ j' ∧ j' < n2 ∧ ¬ PP n2 m v i j'
   ·
    exact c2 hp k
   ·
    have hp' : ∀ j', 0 ≤ j' → j' < n2 → PP n2 m v i j' := fun j' a b => Classical.byContradiction fun h => hp ⟨j', a, b, h⟩
    rw [c1 hp' k, w1]
    refine b2 ⟨i', j', ?_, h2, h3, h4, h5⟩
    rcases Int.lt_or_eq_of_le h1 with h | h
    ·
     omega
    ·
     subst h; exact absurd (hp' j' h3 h4) h5
theorem l0_fin {l v m : List Int} {e : Bool} {n2 : Int} (hv : v.length ≤ 8)
 (hf : ∀ k : Int, 0 ≤ k → k < v.length → -4611686018427387904 < rd v k ∧ rd v k < 4611686018427387904) (d : Nat) : ∀ i : Int, 0 ≤ i → (v.length : Int) - i = (d : Int) →
 ∀ k, gimbalref11_Has.l0 (k + d + 1) v n2 v (v.length : Int) i l m e = gimbalref11_Has.l1 k v n2 0 l m e := by
 induction d with
 | zero => intro i i0 hd k; rw [show k + 0 + 1 = k + 1 from rfl, gimbalref11_Has.l0, if_neg (by omega)]
 | succ d ih =>
  intro i i0 hd k
  have h := hf i i0 (by omega)
  have w1 : wrap64 (i + 1) = i + 1 := by unfold wrap64; omega
  rw [show k + (d + 1) + 1 = k + d + 1 + 1 from rfl, gimbalref11_Has.l0, if_pos (by omega), if_pos i0, if_pos (by omega), if_neg (by omega), if_neg (by omega), w1]
  exact ih (i + 1) (by omega) (by omega) k
theorem has_eq {l v m : List Int} {e : Bool} (h : OFit l m e) (hl : v.length = l.length)
 (hf : ∀ k : Int, 0 ≤ k → k < v.length → -4611686018427387904 < rd v k ∧ rd v k < 4611686018427387904) :
 ∃ b K, ∀ k, K ≤ k → oct_Has.f l m e v = some b ∧ gimbalref11_Has.f k l m e v = some b := by
 have h8 : l.length ≤ 8 := h.1.1
 have ho : oct_Has.f l m e v = some (hasB l m e v) := by unfold oct_Has.f; rw [if_pos (by omega)]
 refine ⟨hasB l m e v, ?_⟩
 by_cases he : e = true
 ·
  refine ⟨1, fun k hk => ⟨ho, ?_⟩⟩
  obtain ⟨k, rfl⟩ : ∃ q, k = q + 1 := ⟨k - 1, by omega⟩
  rw [hasB_false.2 (fun H => by rw [he] at H; exact absurd H.1 (by decide))]
  unfold gimbalref11_Has.f
  rw [if_pos he, gimbalref11_Has.j0, if_pos rfl]
 ·
  have he' : e = false := by simpa using he
  subst he'
  obtain ⟨hm, hE⟩ := h.2.2 rfl
  obtain ⟨K, hK⟩ := l1_all (l := l) (m := m) (e := false) (n2 := 2 * (l.length : Int)) (by omega) (by omega) hm hf (fun i j a b c d => by
   have := (hE i j a b c d).1; omega) (2 * l.length) 0 (by omega) (by omega)
  have w1 : wrap64 (2 * (l.length : Int)) = 2 * (l.length : Int) := by unfold wrap64; omega
  refine ⟨K + v.length + 3, fun k hk => ⟨ho, ?_⟩⟩
  obtain ⟨k, rfl⟩ : ∃ q, k = q + v.length + 1 + 1 := ⟨k - v.length - 2, by omega⟩
  obtain ⟨b1, b2⟩ := hK k (by omega)
  unfold gimbalref11_Has.f
  rw [if_neg he, gimbalref11_Has.j0, if_neg (by simp [hl]), w1, l0_fin (by omega) hf v.length 0 (by omega) (by omega)]
  by_cases hp : HasP l m false v
  ·
   rw [hasB_true.2 hp]; exact b1 (fun i j _ a b c => hp.2.2.2.2 i j (by omega) a b c)
  ·
   rw [hasB_false.2 hp]
   refine b2 (Classical.byContradiction fun hn => hp ⟨rfl, h, hl, hf, fun i j a b c d => ?_⟩)
   exact Classical.byContradiction fun hx => hn ⟨i, j, a, b, c, d, hx⟩
end Go.Proofs.Ytphfchbggechhaa.HasEq
end
