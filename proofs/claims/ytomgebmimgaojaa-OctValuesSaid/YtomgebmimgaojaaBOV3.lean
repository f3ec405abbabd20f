/- Own texts of this claim, joined: Ev, Holds, QOx1049, QOx1053, QOx1019, QOx1032, Two, QOx1048, QOx1013, QOx1020, Awake, OL, OvMath, WalkOctValues, Open -/
import Derived.Test.YtomgebmimgaojaaBOV0
import Derived.Test.YtomgebmimgaojaaBOV1
import Derived.Test.YtomgebmimgaojaaBOV2
import Derived.ChangeArms
import Derived.SizedLaws
section
/- With enough rounds: the answer of a function that counts its rounds. -/
noncomputable section
namespace Go.Proofs.Ytomgebmimgaojaa.Pure
open Go.RowKit Go.Proofs.Ytomgebmimgaojaa.QO Go.Proofs.YtomgebmimgaojaaW.PrintWords Go.Proofs.YtomgebmimgaojaaW.PrintLast Go.Proofs.YtomgebmimgaojaaW.PrintMore
/-- with enough rounds the answer is v -/
def Ev {α : Type} (g : Nat → Option α) (v : α) : Prop := ∃ K, ∀ k, K ≤ k → g k = some v
theorem Ev.step {α : Type} {g h : Nat → Option α} {v : α} (e : ∀ k, g (k + 1) = h k) (hh : Ev h v) : Ev g v := by
  obtain ⟨K, hK⟩ := hh
  refine ⟨K + 1, fun k hk => ?_⟩
  obtain ⟨k, rfl⟩ : ∃ j, k = j + 1 := ⟨k - 1, by omega⟩
  rw [e]; exact hK k (by omega)
theorem Ev.of {α : Type} (v : α) : Ev (fun _ => some v) v := ⟨0, fun _ _ => rfl⟩
theorem Ev.bind {α β : Type} {f : Nat → Option α} {g : Nat → α → Option β} {a : α} {v : β} (hf : Ev f a) (hg : Ev (fun k => g k a) v) : Ev (fun k => (f k).bind (g k)) v := by
  obtain ⟨K, hK⟩ := hf
  obtain ⟨L, hL⟩ := hg
  refine ⟨K + L, fun k hk => ?_⟩
  show (f k).bind (g k) = some v
  rw [hK k (by omega)]; exact hL k (by omega)
theorem Ev.congr {α : Type} {g h : Nat → Option α} {v : α} (e : ∀ k, g k = h k) (hh : Ev h v) : Ev g v := by
  obtain ⟨K, hK⟩ := hh
  exact ⟨K, fun k hk => (e k).trans (hK k hk)⟩
theorem bsome {α β : Type} (a : α) (f : α → Option β) : (some a).bind f = f a := by rw [Option.bind_some]
namespace Octs
theorem grow {α : Type} {g : Nat → Option α} (m : ∀ k, LeO (g k) (g (k + 1))) {n : Nat} {v : α} (h : g n = some v) : ∀ k, n ≤ k → g k = some v := by
  intro k hk
  induction k with
  | zero => rw [← h]; congr 1; omega
  | succ k ih =>
    by_cases e : n = k + 1
    · rw [← e]; exact h
    · exact m k _ (ih (by omega))
end Octs
end Go.Proofs.Ytomgebmimgaojaa.Pure
end
end
section
/- The law's own look at values, bound by bound, and at the size of entries. -/
noncomputable section
namespace Go.Proofs.Ytomgebmimgaojaa.Pure
open Go.RowKit Go.Proofs.Ytomgebmimgaojaa.QO Go.Proofs.YtomgebmimgaojaaW.PrintWords Go.Proofs.YtomgebmimgaojaaW.PrintLast Go.Proofs.YtomgebmimgaojaaW.PrintMore
namespace Holds
theorem value_f {n : Nat} {v : List Int} (h : Small n v) (hn : n ≤ 8) {i : Int} (h0 : 0 ≤ i) (h1 : i < 2 * (n : Int)) : gimballaw11_value.f v i = some (sgn v i) := by
  have d1 : i.tdiv 2 = i / 2 := Int.tdiv_eq_ediv_of_nonneg h0
  have d2 : i.tmod 2 = i % 2 := Int.tmod_eq_emod_of_nonneg h0
  have h2 : i / 2 < v.length := by have := h.1; omega
  have h3 := h.2 (i / 2) (by omega) (by omega)
  have d3 : wrap64 (i / 2) = i / 2 := by unfold wrap64; omega
  have d4 : wrap64 (-(rd v (i / 2))) = -(rd v (i / 2)) := by unfold wrap64; omega
  unfold gimballaw11_value.f sgn
  rw [d1, d2, d3, d4]
  have z : 0 ≤ i / 2 := by omega
  by_cases e : i % 2 = 0
  · rw [if_pos e, if_pos z, if_pos h2, if_neg (by omega)]
  · rw [if_neg e, if_pos z, if_pos h2, if_pos (by omega)]
def PP (n2 : Int) (m v : List Int) (i j : Int) : Prop := rd m (i * n2 + j) = 4611686018427387904 ∨ sgn v j - sgn v i ≤ rd m (i * n2 + j)
theorem sgn_int {n : Nat} {v : List Int} (h : Small n v) {i : Int} (h0 : 0 ≤ i) (h1 : i < 2 * (n : Int)) : -274877906944 < sgn v i ∧ sgn v i < 274877906944 := by
  have := h.2 (i / 2) (by omega) (by omega)
  unfold sgn; split <;> omega
section
variable {l v m : List Int} {n : Nat}
theorem step {b : Bool} (h : Small n v) (hn : n ≤ 8) (hm : (m.length : Int) = (2 * (n : Int)) * (2 * (n : Int))) {i j : Int} (i0 : 0 ≤ i) (i1 : i < 2 * (n : Int)) (j0 : 0 ≤ j) (j1 : j < 2 * (n : Int)) :
    (PP (2 * (n : Int)) m v i j → Ev (fun k => gimballaw11_holds.l1 k v (2 * (n : Int)) i (j + 1) l m false) b → Ev (fun k => gimballaw11_holds.l1 k v (2 * (n : Int)) i j l m false) b) ∧
    (¬ PP (2 * (n : Int)) m v i j → Ev (fun k => gimballaw11_holds.l1 k v (2 * (n : Int)) i j l m false) false) := by
  obtain ⟨n2, hn2⟩ : ∃ n2 : Int, 2 * (n : Int) = n2 := ⟨_, rfl⟩
  have p1 : 0 ≤ i * n2 := Int.mul_nonneg i0 (by omega)
  have p2 : (i + 1) * n2 ≤ n2 * n2 := Int.mul_le_mul_of_nonneg_right (by omega) (by omega)
  have p3 : n2 * n2 ≤ 16 * 16 := Int.mul_le_mul (by omega) (by omega) (by omega) (by decide)
  rw [Int.add_mul, Int.one_mul] at p2
  have vi := value_f h hn i0 i1
  have vj := value_f h hn j0 j1
  have gi := sgn_int h i0 i1
  have gj := sgn_int h j0 j1
  rw [hn2] at hm i1 j1 ⊢
  have w1 : wrap64 (i * n2) = i * n2 := by unfold wrap64; omega
  have w2 : wrap64 (i * n2 + j) = i * n2 + j := by unfold wrap64; omega
  have w3 : wrap64 (j + 1) = j + 1 := by unfold wrap64; omega
  have w4 : wrap64 (sgn v j - sgn v i) = sgn v j - sgn v i := by unfold wrap64; omega
  have e : ∀ k, gimballaw11_holds.l1 (k + 1) v n2 i j l m false = if rd m (i * n2 + j) = 4611686018427387904 then gimballaw11_holds.l1 k v n2 i (j + 1) l m false else if sgn v j - sgn v i > rd m (i * n2 + j) then some false else gimballaw11_holds.l1 k v n2 i (j + 1) l m false := by
    intro k
    rw [gimballaw11_holds.l1, if_pos j1, w1, w2, w3, if_pos (by omega), if_pos (by omega), vi, vj]
    simp only [Option.bind_some]
    rw [w4]
  constructor
  · intro hp hE
    refine Ev.step e (Ev.congr (fun k => ?_) hE)
    by_cases he : rd m (i * n2 + j) = 4611686018427387904
    · rw [if_pos he]
    · rw [if_neg he, if_neg (by rcases hp with h | h <;> omega)]
  · intro hp
    refine Ev.step e (Ev.congr (fun k => ?_) (Ev.of false))
    rw [if_neg (fun h => hp (.inl h)), if_pos (by have : ¬ sgn v j - sgn v i ≤ rd m (i * n2 + j) := fun h => hp (.inr h); omega)]
theorem cols (h : Small n v) (hn : n ≤ 8) (hm : (m.length : Int) = (2 * (n : Int)) * (2 * (n : Int))) {i : Int} (i0 : 0 ≤ i) (i1 : i < 2 * (n : Int)) {b : Bool} (hE : Ev (fun k => gimballaw11_holds.l0 k v (2 * (n : Int)) (wrap64 (i + 1)) l m false) b) : ∀ (d : Nat) (j : Int), 0 ≤ j → 2 * (n : Int) - j = (d : Int) →
    ((∀ j', j ≤ j' → j' < 2 * (n : Int) → PP (2 * (n : Int)) m v i j') → Ev (fun k => gimballaw11_holds.l1 k v (2 * (n : Int)) i j l m false) b) ∧
    ((∃ j', j ≤ j' ∧ j' < 2 * (n : Int) ∧ ¬ PP (2 * (n : Int)) m v i j') → Ev (fun k => gimballaw11_holds.l1 k v (2 * (n : Int)) i j l m false) false) := by
  intro d
  induction d with
  | zero =>
    intro j j0 hd
    exact ⟨fun _ => Ev.step (fun k => by rw [gimballaw11_holds.l1, if_neg (by omega)]) hE, fun ⟨j', h1, h2, _⟩ => by omega⟩
  | succ d ih =>
    intro j j0 hd
    obtain ⟨a1, a2⟩ := ih (j + 1) (by omega) (by omega)
    refine ⟨fun hp => (step h hn hm i0 i1 j0 (by omega)).1 (hp j (by omega) (by omega)) (a1 (fun j' h1 h2 => hp j' (by omega) h2)), fun ⟨j', h1, h2, h3⟩ => ?_⟩
    by_cases hq : PP (2 * (n : Int)) m v i j
    · refine (step h hn hm i0 i1 j0 (by omega)).1 hq (a2 ⟨j', ?_, h2, h3⟩)
      rcases Int.lt_or_eq_of_le h1 with q | q
      · omega
      · subst q; exact absurd hq h3
    · exact (step (b := b) h hn hm i0 i1 j0 (by omega)).2 hq
theorem rows (h : Small n v) (hn : n ≤ 8) (hm : (m.length : Int) = (2 * (n : Int)) * (2 * (n : Int))) : ∀ (d : Nat) (i : Int), 0 ≤ i → 2 * (n : Int) - i = (d : Int) →
    ((∀ i' j', i ≤ i' → i' < 2 * (n : Int) → 0 ≤ j' → j' < 2 * (n : Int) → PP (2 * (n : Int)) m v i' j') → Ev (fun k => gimballaw11_holds.l0 k v (2 * (n : Int)) i l m false) true) ∧
    ((∃ i' j', i ≤ i' ∧ i' < 2 * (n : Int) ∧ 0 ≤ j' ∧ j' < 2 * (n : Int) ∧ ¬ PP (2 * (n : Int)) m v i' j') → Ev (fun k => gimballaw11_holds.l0 k v (2 * (n : Int)) i l m false) false) := by
  intro d
  induction d with
  | zero =>
    intro i i0 hd
    exact ⟨fun _ => Ev.step (fun k => by rw [gimballaw11_holds.l0, if_neg (by omega)]) (Ev.of true), fun ⟨i', j', h1, h2, _⟩ => by omega⟩
  | succ d ih =>
    intro i i0 hd
    have i1 : i < 2 * (n : Int) := by omega
    have w1 : wrap64 (i + 1) = i + 1 := by unfold wrap64; omega
    obtain ⟨a1, a2⟩ := ih (i + 1) (by omega) (by omega)
    refine ⟨fun hp => ?_, fun ⟨i', j', h1, h2, h3, h4, h5⟩ => ?_⟩
    · exact Ev.step (fun k => by rw [gimballaw11_holds.l0, if_pos i1]) ((cols h hn hm i0 i1 (by rw [w1]; exact a1 (fun i' j' h1 h2 h3 h4 => hp i' j' (by omega) h2 h3 h4)) (2 * n) 0 (by omega) (by omega)).1 (fun j' h1 h2 => hp i j' (by omega) i1 h1 h2))
    · refine Ev.step (fun k => by rw [gimballaw11_holds.l0, if_pos i1]) ?_
      by_cases hq : ∃ j', 0 ≤ j' ∧ j' < 2 * (n : Int) ∧ ¬ PP (2 * (n : Int)) m v i j'
      · by_cases hr : ∀ i' j', i + 1 ≤ i' → i' < 2 * (n : Int) → 0 ≤ j' → j' < 2 * (n : Int) → PP (2 * (n : Int)) m v i' j'
        · exact (cols h hn hm i0 i1 (b := true) (by rw [w1]; exact a1 hr) (2 * n) 0 (by omega) (by omega)).2 hq
        · exact (cols h hn hm i0 i1 (b := false) (by rw [w1]; exact a2 (Classical.byContradiction fun hx => hr (fun i' j' q1 q2 q3 q4 => Classical.byContradiction fun hy => hx ⟨i', j', q1, q2, q3, q4, hy⟩))) (2 * n) 0 (by omega) (by omega)).2 hq
      · have hq' : ∀ j', 0 ≤ j' → j' < 2 * (n : Int) → PP (2 * (n : Int)) m v i j' := fun j' a c => Classical.byContradiction fun hx => hq ⟨j', a, c, hx⟩
        refine (cols h hn hm i0 i1 (b := false) ?_ (2 * n) 0 (by omega) (by omega)).1 hq'
        rw [w1]
        refine a2 ⟨i', j', ?_, h2, h3, h4, h5⟩
        rcases Int.lt_or_eq_of_le h1 with q | q
        · omega
        · subst q; exact absurd (hq' j' h3 h4) h5
end
/-- bound by bound: just what Has tells -/
theorem holds_ev {l v m : List Int} {e : Bool} (h : OFit l m e) (hs : Small l.length v) : Ev (fun k => gimballaw11_holds.f k l m e v) (hasB l m e v) := by
  have h8 := h.1.1
  cases e with
  | true => rw [has_empty]; exact Ev.congr (fun k => by unfold gimballaw11_holds.f; rw [if_pos rfl]) (Ev.of false)
  | false =>
    have hm := (h.2.2 rfl).1
    have w : wrap64 (2 * (l.length : Int)) = 2 * (l.length : Int) := by unfold wrap64; omega
    obtain ⟨r1, r2⟩ := rows (l := l) (m := m) hs h8 hm (2 * l.length) 0 (by omega) (by omega)
    refine Ev.congr (h := fun k => gimballaw11_holds.l0 k v (2 * (l.length : Int)) 0 l m false) (fun k => by unfold gimballaw11_holds.f; rw [if_neg (by decide), w]) ?_
    by_cases hp : ∀ i' j' : Int, 0 ≤ i' → i' < 2 * (l.length : Int) → 0 ≤ j' → j' < 2 * (l.length : Int) → PP (2 * (l.length : Int)) m v i' j'
    · have hb : hasB l m false v = true := hasB_true.2 ⟨rfl, h, hs.1, fun k h0 h1 => by have := hs.2 k h0 (by have := hs.1; omega); omega, fun i j a b c d => hp i j a b c d⟩
      rw [hb]; exact r1 hp
    · have hb : hasB l m false v = false := hasB_false.2 (fun H => hp (fun i j a b c d => H.2.2.2.2 i j a b c d))
      rw [hb]
      exact r2 (Classical.byContradiction fun hx => hp (fun i' j' a b c d => Classical.byContradiction fun hy => hx ⟨i', j', a, b, c, d, hy⟩))
theorem small_l0 {m : List Int} {b : Int} (hb : wrap64 (-b) = -b) (hl : m.length < 4611686018427387904) : ∀ (d i : Nat), i + d = m.length →
    ∃ r, Ev (fun k => gimballaw11_small.l0 k b m (m.length : Int) (i : Int)) r ∧ (r = true → ∀ j : Nat, i ≤ j → j < m.length → rd m (j : Int) = 4611686018427387904 ∨ (-b ≤ rd m (j : Int) ∧ rd m (j : Int) ≤ b)) := by
  intro d
  induction d with
  | zero => intro i h; exact ⟨true, Ev.step (fun k => by rw [gimballaw11_small.l0, if_neg (by omega)]) (Ev.of true), fun _ j h1 h2 => by omega⟩
  | succ d ih =>
    intro i h
    have w1 : wrap64 ((i : Int) + 1) = ((i + 1 : Nat) : Int) := by unfold wrap64; omega
    obtain ⟨r, h1, h2⟩ := ih (i + 1) (by omega)
    have e : ∀ k, gimballaw11_small.l0 (k + 1) b m (m.length : Int) (i : Int) = if rd m (i : Int) = 4611686018427387904 then gimballaw11_small.l0 k b m (m.length : Int) ((i + 1 : Nat) : Int) else if rd m (i : Int) < -b then some false else if rd m (i : Int) > b then some false else gimballaw11_small.l0 k b m (m.length : Int) ((i + 1 : Nat) : Int) := by
      intro k; rw [gimballaw11_small.l0, if_pos (by omega), if_pos (by omega), if_pos (by omega), hb, w1]
    have go : ∀ j : Nat, i ≤ j → (j = i → rd m (i : Int) = 4611686018427387904 ∨ (-b ≤ rd m (i : Int) ∧ rd m (i : Int) ≤ b)) → r = true → j < m.length → rd m (j : Int) = 4611686018427387904 ∨ (-b ≤ rd m (j : Int) ∧ rd m (j : Int) ≤ b) := by
      intro j q1 q2 q3 q4
      by_cases ej : j = i
      · subst ej; exact q2 rfl
      · exact h2 q3 j (by omega) q4
    by_cases c1 : rd m (i : Int) = 4611686018427387904
    · exact ⟨r, Ev.step e (Ev.congr (fun k => if_pos c1) h1), fun hr j q1 q2 => go j q1 (fun _ => .inl c1) hr q2⟩
    · by_cases c2 : rd m (i : Int) < -b
      · exact ⟨false, Ev.step e (Ev.congr (fun k => (if_neg c1).trans (if_pos c2)) (Ev.of false)), fun h => by cases h⟩
      · by_cases c3 : rd m (i : Int) > b
        · exact ⟨false, Ev.step e (Ev.congr (fun k => (if_neg c1).trans ((if_neg c2).trans (if_pos c3))) (Ev.of false)), fun h => by cases h⟩
        · exact ⟨r, Ev.step e (Ev.congr (fun k => (if_neg c1).trans ((if_neg c2).trans (if_neg c3))) h1), fun hr j q1 q2 => go j q1 (fun _ => .inr (by omega)) hr q2⟩
theorem small_ev (l m : List Int) (e : Bool) {b : Int} (hb : wrap64 (-b) = -b) (hl : m.length < 4611686018427387904) :
    ∃ r, Ev (fun k => gimballaw11_small.f k l m e b) r ∧ (r = true → ∀ j : Nat, j < m.length → rd m (j : Int) = 4611686018427387904 ∨ (-b ≤ rd m (j : Int) ∧ rd m (j : Int) ≤ b)) := by
  obtain ⟨r, h1, h2⟩ := small_l0 (m := m) hb hl m.length 0 (by omega)
  exact ⟨r, h1, fun h j hj => h2 h j (by omega) hj⟩
end Holds
end Go.Proofs.Ytomgebmimgaojaa.Pure
end
end
section
/- Written by a program of this session out of the translation. -/
namespace Go.Proofs.Ytomgebmimgaojaa.QO
open Go.RowKit Go.Proofs.YtomgebmimgaojaaW.PrintWords Go.Proofs.YtomgebmimgaojaaW.PrintLast
set_option linter.unusedVariables false
set_option linter.unusedSimpArgs false
/-! ### gimbalref11_VarsFit: function 49 -/
noncomputable def gimbalref11_VarsFit.f (l0 : List Int) : Option Bool := some (varsB l0)
set_option maxHeartbeats 8000000 in
set_option maxRecDepth 100000 in
theorem gimbalref11_VarsFit.calls (A0 : Option Addr) (c0 : Nat) (l0 : List Int) (r : Bool) (w : World) (hr0 : Kd.C (Kd.int .i64) w A0 l0.length l0) (hc0 : l0.length ≤ c0) (h : gimbalref11_VarsFit.f l0 = some r) :
 Calls Try.prog 49 #[.slice A0 l0.length c0] w fun e w' => e = .returned (.bool r) ∧ Drawn0 w w' := by
 have HR0 := Aside0.mk hr0
 have HV := Aside0.mk (Option.some.inj h)
 clear hr0 hc0 h
 by_cases c1 : (8 : Int) < (l0.length : Int)
 ·
  have f1 : decide ((8 : Int) < (l0.length : Int)) = true := decide_eq_true c1
  have f2 : decide (8 < l0.length) = true := decide_eq_true (by omega)
  have HC := Aside0.mk c1
  clear c1
  go_enter Try.func49, Try.ntmps49
  go_wp2
  go_ret
  refine ⟨?_, Drawn0.refl _⟩
  rw [← HV.out, varsB_false.2 (fun h => by have := h.1; have := HC.out; omega)]
  rfl
 ·
  have f1 : decide ((8 : Int) < (l0.length : Int)) = false := decide_eq_false c1
  have f2 : decide (8 < l0.length) = false := decide_eq_false (by omega)
  have HC := Aside0.mk c1
  clear c1
  go_enter Try.func49, Try.ntmps49
  go_wp2
  go_loopg [3, 4, 10] l0.length (fun gg _ _ s10 wr => ∃ i : Int, s10 = .int .i64 i ∧ Aside0 (0 ≤ i ∧ i ≤ l0.length ∧ l0.length - i.toNat ≤ gg) ∧ Aside0 (∀ j : Int, 0 ≤ j → j < i → 0 ≤ rd l0 j ∧ (0 < j → rd l0 (j - 1) < rd l0 j)) ∧ Drawn0 w wr)
  case atStart => exact ⟨0, rfl, ⟨by omega, by omega, by omega⟩, ⟨fun j h0 h1 => absurd h1 (by omega)⟩, Drawn0.refl _⟩
  case round =>
   obtain ⟨i, rfl, HI, HA, ⟨m1, rfl⟩⟩ := hrel
   by_cases hlt : i < (l0.length : Int)
   ·
    have p0 : 0 ≤ i := HI.out.1
    have hC : Kd.C (Kd.int .i64) (w.drewN m1) A0 l0.length l0 := Kd.C_drewN HR0.out _
    obtain ⟨ad, e0, hx⟩ := Kd.at_int hC i p0 hlt
    cases e0
    clear hC
    have HL := Aside0.mk hlt
    have c6b0 : decide (i < (l0.length : Int)) = true := decide_eq_true hlt
    by_cases c3 : rd l0 i < 0
    ·
     have f3 : decide (rd l0 i < 0) = true := decide_eq_true c3
     have H3 := Aside0.mk c3
     clear c3
     replace p0 := eq_true p0
     replace hlt := eq_true hlt
     go_wp2
     go_ret
     refine ⟨?_, by repeat (first | exact Drawn0.refl _ | apply Drawn0.step)⟩
     have h1 := HI.out; have h2 := HL.out; have h3 := H3.out
     rw [← HV.out, varsB_false.2 (fun h => by have := (h.2 i h1.1 h2).1; omega)]
     rfl
    ·
     have f3 : decide (rd l0 i < 0) = false := decide_eq_false c3
     have H3 := Aside0.mk c3
     clear c3
     by_cases c4 : 0 < i
     ·
      have f4 : decide (0 < i) = true := decide_eq_true c4
      have hm1 : wrap64 (i - 1) = i - 1 := by have := HC.out; unfold wrap64; omega
      obtain ⟨j, hj⟩ : ∃ j : Int, i - 1 = j := ⟨_, rfl⟩
      have q0 : 0 ≤ j := by omega
      have q1 : j < (l0.length : Int) := by omega
      obtain ⟨ad', e0, hy⟩ := Kd.at_int (Kd.C_drewN HR0.out m1) j q0 q1
      cases e0
      rw [hj] at hm1
      have hm2 : IntKind.i64.wrap (i - 1) = j := by rw [IntKind.wrap_i64, ← hj]; unfold wrap64 at hm1; omega
      have HJ := Aside0.mk hj
      have H4 := Aside0.mk c4
      by_cases c5 : rd l0 i ≤ rd l0 j
      ·
       have f5 : decide (rd l0 i ≤ rd l0 j) = true := decide_eq_true c5
       have H5 := Aside0.mk c5
       clear c5 c4
       replace p0 := eq_true p0
       replace hlt := eq_true hlt
       replace q0 := eq_true q0
       replace q1 := eq_true q1
       go_wp2
       go_ret
       refine ⟨?_, by repeat (first | exact Drawn0.refl _ | apply Drawn0.step)⟩
       have h1 := HI.out; have h2 := HL.out; have h5 := H5.out; have h4 := H4.out
       rw [← HV.out, varsB_false.2 (fun h => by have := (h.2 i h1.1 h2).2 h4; rw [HJ.out] at this; omega)]
       rfl
      ·
       have f5 : decide (rd l0 i ≤ rd l0 j) = false := decide_eq_false c5
       have H5 := Aside0.mk c5
       clear c5 c4
       replace p0 := eq_true p0
       replace hlt := eq_true hlt
       replace q0 := eq_true q0
       replace q1 := eq_true q1
       go_wp2
       go_roundg (l0.length - (i.toNat + 1))
       case measure => have h1 := HI.out; have h2 := HL.out; omega
       case rel =>
        have h1 := HI.out; have h2 := HL.out; have h3 := H3.out; have h4 := HC.out; have h5 := H5.out; have hj := HJ.out
        have hw : wrap64 (i + 1) = i + 1 := by unfold wrap64; omega
        refine ⟨wrap64 (i + 1), rfl, ⟨by omega, by omega, by omega⟩, ⟨fun k k0 k1 => ?_⟩, by repeat (first | exact Drawn0.refl _ | apply Drawn0.step)⟩
        by_cases e : k = i
        ·
         subst e; exact ⟨by omega, fun _ => by rw [hj]; omega⟩
        ·
         exact HA.out k k0 (by omega)
     ·
      have f4 : decide (0 < i) = false := decide_eq_false c4
      have H4 := Aside0.mk c4
      clear c4
      replace p0 := eq_true p0
      replace hlt := eq_true hlt
      go_wp2
      go_roundg (l0.length - (i.toNat + 1))
      case measure => have h1 := HI.out; have h2 := HL.out; omega
      case rel =>
       have h1 := HI.out; have h2 := HL.out; have h3 := H3.out; have h4 := HC.out; have h5 := H4.out
       have hw : wrap64 (i + 1) = i + 1 := by unfold wrap64; omega
       refine ⟨wrap64 (i + 1), rfl, ⟨by omega, by omega, by omega⟩, ⟨fun k k0 k1 => ?_⟩, by repeat (first | exact Drawn0.refl _ | apply Drawn0.step)⟩
       by_cases e : k = i
       ·
        subst e; exact ⟨by omega, fun h => absurd h (by omega)⟩
       ·
        exact HA.out k k0 (by omega)
   ·
    have c6b0 : decide (i < (l0.length : Int)) = false := decide_eq_false hlt
    have HL := Aside0.mk hlt
    clear hlt
    go_wp2
    go_ret
    have h1 := HI.out; have h2 := HL.out; have h4 := HC.out
    refine ⟨?_, by repeat (first | exact Drawn0.refl _ | apply Drawn0.step)⟩
    rw [← HV.out, varsB_true.2 ⟨by omega, fun k k0 k1 => HA.out k k0 (by omega)⟩]
    rfl
end Go.Proofs.Ytomgebmimgaojaa.QO
end
section
/- Written by a program of this session out of the translation. -/
noncomputable section
namespace Go.Proofs.Ytomgebmimgaojaa.QO
open Go.RowKit Go.Proofs.YtomgebmimgaojaaW.PrintWords Go.Proofs.YtomgebmimgaojaaW.PrintLast
set_option linter.unusedVariables false
set_option linter.unusedSimpArgs false
/-! ### gimbalref11_bar: function 53 -/
def gimbalref11_bar.f (a0 : Int) : Option Int := if 0 ≤ a0 ∧ a0 < 16 then some (nbar a0) else none
set_option maxHeartbeats 8000000 in
set_option maxRecDepth 100000 in
theorem gimbalref11_bar.calls (a0 : Int) (r : Int) (w : World) (h : gimbalref11_bar.f a0 = some r) :
 Calls Try.prog 53 #[.int .i64 a0] w fun e w' => e = .returned (.int .i64 r) ∧ Drawn0 w w' := by
 have hr : r = Go.bits .xor .i64 a0 1 := by
  unfold gimbalref11_bar.f at h; split at h
  ·
   rename_i hc; rw [xor_one a0 hc.1 hc.2]; exact (Option.some.inj h).symm
  ·
   cases h
 subst hr
 clear h
 go_enter Try.func53, Try.ntmps53
 go_wp2
 go_ret
 exact ⟨rfl, Drawn0.refl _⟩
set_option maxHeartbeats 8000000 in
set_option maxRecDepth 100000 in
theorem gimbalref11_bar_still (a0 : Int) (r : Int) (w : World) (h : gimbalref11_bar.f a0 = some r) :
 Calls Try.prog 53 #[.int .i64 a0] w fun e w' => e = .returned (.int .i64 r) ∧ w' = w := by
 have hr : r = Go.bits .xor .i64 a0 1 := by
  unfold gimbalref11_bar.f at h; split at h
  ·
   rename_i hc; rw [xor_one a0 hc.1 hc.2]; exact (Option.some.inj h).symm
  ·
   cases h
 subst hr
 clear h
 go_enter Try.func53, Try.ntmps53
 go_wp2
 go_ret
 exact ⟨rfl, rfl⟩
end Go.Proofs.Ytomgebmimgaojaa.QO
end
end
section
/- Written by a program of this session out of the translation. -/
namespace Go.Proofs.Ytomgebmimgaojaa.QO
open Go.RowKit Go.Proofs.YtomgebmimgaojaaW.PrintWords Go.Proofs.YtomgebmimgaojaaW.PrintLast
set_option linter.unusedVariables false
set_option linter.unusedSimpArgs false
/-! ### gimbalref11_Fit: function 19 -/
noncomputable def gimbalref11_Fit.f (l0_0 : List Int) (l0_1 : List Int) (a0_2 : Bool) : Option Bool := if l0_0.length ≤ 17592186044416 then some (ofitB l0_0 l0_1 a0_2) else none
theorem Box1.three {w W : World} {g : Nat} {a b c : Value} {t : Nat} (h : Box1 w g #[a, b, c] t W) : W.cell? ⟨g, 0, none⟩ = some a ∧ W.cell? ⟨g, 1, none⟩ = some b ∧ W.cell? ⟨g, 2, none⟩ = some c := ⟨(blk_cell h.box 0).trans rfl, (blk_cell h.box 1).trans rfl, (blk_cell h.box 2).trans rfl⟩
set_option maxHeartbeats 8000000 in
set_option maxRecDepth 100000 in
theorem gimbalref11_Fit.calls (A0_0 : Option Addr) (c0_0 : Nat) (l0_0 : List Int) (A0_1 : Option Addr) (c0_1 : Nat) (l0_1 : List Int) (a0_2 : Bool) (r : Bool) (w : World) (hr0_0 : Kd.C (Kd.int .i64) w A0_0 l0_0.length l0_0) (hc0_0 : l0_0.length ≤ c0_0) (hr0_1 : Kd.C (Kd.int .i64) w A0_1 l0_1.length l0_1) (hc0_1 : l0_1.length ≤ c0_1) (h : gimbalref11_Fit.f l0_0 l0_1 a0_2 = some r) :
 Calls Try.prog 19 #[.agg #[.slice A0_0 l0_0.length c0_0, .slice A0_1 l0_1.length c0_1, .bool a0_2]] w fun e w' => e = .returned (.bool r) ∧ Below w.heap.size w w' := by
 have hu25 := Try.underlying25
 have HR0 := Aside0.mk hr0_0
 have HR1 := Aside0.mk hr0_1
 have HC0 := Aside0.mk hc0_0
 have HC1 := Aside0.mk hc0_1
 clear hr0_0 hr0_1 hc0_0 hc0_1
 unfold gimbalref11_Fit.f at h
 by_cases hlen : l0_0.length ≤ 17592186044416
 ·
  rw [if_pos hlen] at h
  have HV := Aside0.mk (Option.some.inj h)
  clear h
  have e1 : wrap64 (2 * (l0_0.length : Int)) = 2 * (l0_0.length : Int) := by unfold wrap64; omega
  have e2 : IntKind.i64.wrap (2 * (l0_0.length : Int)) = 2 * (l0_0.length : Int) := by rw [IntKind.wrap_i64]; omega
  cases hv : varsB l0_0 with
  | false =>
   have HM := fun W (hW : Kd.C (Kd.int .i64) W A0_0 l0_0.length l0_0) => gimbalref11_VarsFit.calls A0_0 c0_0 l0_0 false W hW HC0.out (by unfold gimbalref11_VarsFit.f; rw [hv])
   replace HM := Aside0.mk HM
   have HF := Aside0.mk (varsB_false.1 hv)
   clear hv hlen
   go_enter Try.func19, Try.ntmps19
   go_wp2_with (go_at_call 49; (with_reducible refine (HM.out _ ?side1).mono ?_); (case side1 => repeat (first | exact HR0.out | (with_reducible refine Kd.C_alloc ?_ _) | (with_reducible refine Kd.C_drewN ?_ _) | (with_reducible refine Kd.C_drew ?_))); rintro e w1 ⟨rfl, ⟨nd, rfl⟩⟩)
   go_ret
   refine ⟨?_, by repeat (first | exact Below.refl _ _ | (with_reducible apply below_alloc) | (with_reducible apply pw_below_drewN) | (with_reducible apply below_drew))⟩
   rw [← HV.out, ofitB_false.2 (fun h => HF.out h.1)]
   rfl
  | true =>
   have HM := fun W (hW : Kd.C (Kd.int .i64) W A0_0 l0_0.length l0_0) => gimbalref11_VarsFit.calls A0_0 c0_0 l0_0 true W hW HC0.out (by unfold gimbalref11_VarsFit.f; rw [hv])
   replace HM := Aside0.mk HM
   have HT := Aside0.mk (varsB_true.1 hv)
   clear hv hlen
   cases a0_2 with
   | true =>
    by_cases hz : l0_1.length = 0
    ·
     have f1 : ((l0_1.length : Int) == 0) = true := by rw [hz]; rfl
     have f2 : (l0_1.length == 0) = true := by rw [hz]; rfl
     have HZ := Aside0.mk hz
     clear hz
     go_enter Try.func19, Try.ntmps19
     go_wp2_with (go_at_call 49; (with_reducible refine (HM.out _ ?side1).mono ?_); (case side1 => repeat (first | exact HR0.out | (with_reducible refine Kd.C_alloc ?_ _) | (with_reducible refine Kd.C_drewN ?_ _) | (with_reducible refine Kd.C_drew ?_))); rintro e w1 ⟨rfl, ⟨nd, rfl⟩⟩)
     go_ret
     refine ⟨?_, by repeat (first | exact Below.refl _ _ | (with_reducible apply below_alloc) | (with_reducible apply pw_below_drewN) | (with_reducible apply below_drew))⟩
     rw [← HV.out, ofitB_true.2 ⟨HT.out, fun _ => List.eq_nil_of_length_eq_zero HZ.out, fun h => by cases h⟩]
     rfl
    ·
     have f1 : ((l0_1.length : Int) == 0) = false := by simpa using (by omega : ¬ ((l0_1.length : Int) = 0))
     have f2 : (l0_1.length == 0) = false := by simpa using hz
     have HZ := Aside0.mk hz
     clear hz
     go_enter Try.func19, Try.ntmps19
     go_wp2_with (go_at_call 49; (with_reducible refine (HM.out _ ?side1).mono ?_); (case side1 => repeat (first | exact HR0.out | (with_reducible refine Kd.C_alloc ?_ _) | (with_reducible refine Kd.C_drewN ?_ _) | (with_reducible refine Kd.C_drew ?_))); rintro e w1 ⟨rfl, ⟨nd, rfl⟩⟩)
     go_ret
     refine ⟨?_, by repeat (first | exact Below.refl _ _ | (with_reducible apply below_alloc) | (with_reducible apply pw_below_drewN) | (with_reducible apply below_drew))⟩
     rw [← HV.out, ofitB_false.2 (fun h => HZ.out (by rw [h.2.1 rfl]; rfl))]
     rfl
   | false =>
    obtain ⟨n2, hn2⟩ : ∃ n2 : Int, 2 * (l0_0.length : Int) = n2 := ⟨_, rfl⟩
    replace e1 : wrap64 (2 * (l0_0.length : Int)) = n2 := e1.trans hn2
    replace e2 : IntKind.i64.wrap (2 * (l0_0.length : Int)) = n2 := e2.trans hn2
    have hl8 := HT.out.1
    obtain ⟨nn, hnn⟩ : ∃ nn : Int, n2 * n2 = nn := ⟨_, rfl⟩
    have hnn2 : 0 ≤ nn ∧ nn ≤ 256 := by rw [← hnn]; exact mul_in (a := n2) (b := n2) (by omega) (by omega) (by omega) (by omega)
    have e3 : wrap64 (n2 * n2) = nn := by rw [hnn]; unfold wrap64; omega
    have e4 : IntKind.i64.wrap (n2 * n2) = nn := by rw [hnn, IntKind.wrap_i64]; omega
    by_cases hz : (l0_1.length : Int) = nn
    ·
     have f1 : ((l0_1.length : Int) != nn) = false := by rw [hz]; simp
     have HZ := Aside0.mk hz
     have HN := Aside0.mk hn2
     have HNN := Aside0.mk hnn
     clear hz hn2 hnn hnn2 hl8
     go_enter Try.func19, Try.ntmps19
     go_wp2_with (go_at_call 49; (with_reducible refine (HM.out _ ?side1).mono ?_); (case side1 => repeat (first | exact HR0.out | (with_reducible refine Kd.C_alloc ?_ _) | (with_reducible refine Kd.C_drewN ?_ _) | (with_reducible refine Kd.C_drew ?_))); rintro e w1 ⟨rfl, ⟨nd, rfl⟩⟩)
     go_loopg [4, 5, 6] n2.toNat (fun gg s4 _ _ wr => ∃ i : Int, s4 = .int .i64 i ∧ Aside0 (0 ≤ i ∧ i ≤ n2 ∧ n2.toNat - i.toNat ≤ gg) ∧ Aside0 (Box1 w w.heap.size #[.slice A0_0 l0_0.length c0_0, .slice A0_1 l0_1.length c0_1, .bool false] 25 wr) ∧ Aside0 (∀ a b : Int, 0 ≤ a → a < i → 0 ≤ b → b < n2 → EntryOk n2 l0_1 a b))
     case atStart => exact ⟨0, rfl, ⟨by have := HN.out; omega, by have := HN.out; omega, by omega⟩, ⟨by repeat (first | exact box1_new (Below.refl _ _) rfl | (with_reducible apply Box1.drewN) | (with_reducible apply Box1.drew))⟩, ⟨fun a b h0 h1 => absurd h1 (by omega)⟩⟩
     case round =>
      obtain ⟨i, rfl, HI, HX, HA⟩ := hrel
      by_cases hlt : i < n2
      ·
       have f2 : decide (i < n2) = true := decide_eq_true hlt
       have HL := Aside0.mk hlt
       clear hlt
       go_wp2
       obtain ⟨wo, rfl⟩ : ∃ wo : World, wo = wr := ⟨_, rfl⟩
       go_loopg [5, 6] n2.toNat (fun hh s5 _ wr => ∃ j : Int, s5 = .int .i64 j ∧ Aside0 (0 ≤ j ∧ j ≤ n2 ∧ n2.toNat - j.toNat ≤ hh) ∧ Aside0 (Box1 w w.heap.size #[.slice A0_0 l0_0.length c0_0, .slice A0_1 l0_1.length c0_1, .bool false] 25 wr) ∧ Aside0 (∀ b : Int, 0 ≤ b → b < j → EntryOk n2 l0_1 i b))
       case atStart => exact ⟨0, rfl, ⟨by have := HN.out; omega, by have := HN.out; omega, by omega⟩, ⟨HX.out⟩, ⟨fun b h0 h1 => absurd h1 (by omega)⟩⟩
       case round =>
        clear HX
        obtain ⟨j, rfl, HJ, HX, HE⟩ := hrel
        by_cases hlt : j < n2
        ·
         have f3 : decide (j < n2) = true := decide_eq_true hlt
         have HK := Aside0.mk hlt
         clear hlt
         have hi := HI.out; have hj := HJ.out; have hil := HL.out; have hjl := HK.out
         have h8 := HT.out.1
         have hm : (l0_1.length : Int) = n2 * n2 := by rw [HNN.out]; exact HZ.out
         have nj := nbar_in (i := j) (n := l0_0.length) hj.1 (by rw [HN.out]; exact hjl)
         have ni := nbar_in (i := i) (n := l0_0.length) hi.1 (by rw [HN.out]; exact hil)
         rw [HN.out] at nj ni
         have hn16 : n2 ≤ 16 := by have := HN.out; omega
         have b1 : gimbalref11_bar.f j = some (nbar j) := by unfold gimbalref11_bar.f; rw [if_pos ⟨hj.1, by have := HN.out; omega⟩]
         have b2 : gimbalref11_bar.f i = some (nbar i) := by unfold gimbalref11_bar.f; rw [if_pos ⟨hi.1, by have := HN.out; omega⟩]
         have pl1 := place_in (n := n2) hi.1 hil hj.1 hjl
         have pl2 := place_in (n := n2) nj.1 nj.2 ni.1 ni.2
         obtain ⟨p, hp⟩ : ∃ p, nbar j = p := ⟨_, rfl⟩
         obtain ⟨q, hq⟩ : ∃ q, nbar i = q := ⟨_, rfl⟩
         rw [hp] at nj pl2 b1
         rw [hq] at ni pl2 b2
         have mi1 := mul_in (a := n2) (b := i) (by omega) (by have := HN.out; omega) (by omega) (by have := HN.out; omega)
         have mi2 := mul_in (a := n2) (b := p) (by omega) (by have := HN.out; omega) (by omega) (by have := HN.out; omega)
         obtain ⟨s, hs⟩ : ∃ s, i * n2 = s := ⟨_, rfl⟩
         obtain ⟨u, hu⟩ : ∃ u, s + j = u := ⟨_, rfl⟩
         obtain ⟨v, hv⟩ : ∃ v, p * n2 = v := ⟨_, rfl⟩
         obtain ⟨z, hz⟩ : ∃ z, v + q = z := ⟨_, rfl⟩
         rw [hs] at pl1 mi1
         rw [hu] at pl1
         rw [hv] at pl2 mi2
         rw [hz] at pl2
         rw [← hm] at pl1 pl2
         obtain ⟨ad, e0, hx⟩ := Kd.at_int (Kd.C_below HR1.out HX.out.below) u pl1.1 pl1.2
         obtain ⟨ad', e9, hy⟩ := Kd.at_int (Kd.C_below HR1.out HX.out.below) z pl2.1 pl2.2
         cases e0
         cases e9
         obtain ⟨x, hxx⟩ : ∃ x, rd l0_1 u = x := ⟨_, rfl⟩
         obtain ⟨y, hyy⟩ : ∃ y, rd l0_1 z = y := ⟨_, rfl⟩
         rw [hxx] at hx
         rw [hyy] at hy
         have g1 : wrap64 (i * n2) = s := by rw [hs]; unfold wrap64; omega
         have g2 : IntKind.i64.wrap (i * n2) = s := by rw [hs, IntKind.wrap_i64]; omega
         have g3 : wrap64 (s + j) = u := by rw [hu]; unfold wrap64; omega
         have g4 : IntKind.i64.wrap (s + j) = u := by rw [hu, IntKind.wrap_i64]; omega
         have g5 : wrap64 (p * n2) = v := by rw [hv]; unfold wrap64; omega
         have g6 : IntKind.i64.wrap (p * n2) = v := by rw [hv, IntKind.wrap_i64]; omega
         have g7 : wrap64 (v + q) = z := by rw [hz]; unfold wrap64; omega
         have g8 : IntKind.i64.wrap (v + q) = z := by rw [hz, IntKind.wrap_i64]; omega
         have k1 := eq_true pl1.1
         have k2 := eq_true pl1.2
         have k3 := eq_true pl2.1
         have k4 := eq_true pl2.2
         have B1 := Aside0.mk (fun W => gimbalref11_bar_still j p W b1)
         have B2 := Aside0.mk (fun W => gimbalref11_bar_still i q W b2)
         have HXY : Aside0 (EntryOk n2 l0_1 i j ↔ (x = 4611686018427387904 ∨ (-1099511627776 ≤ x ∧ x ≤ 1099511627776)) ∧ (i = j → x = 0) ∧ x = y) := ⟨by unfold EntryOk; rw [hp, hq, hs, hu, hv, hz, hxx, hyy]⟩
         clear hi hj hil hjl h8 hn16 hm nj ni b1 b2 hp hq hs hu hv hz hxx hyy pl1 pl2 mi1 mi2
         obtain ⟨hx0, hx1, hx2⟩ := HX.out.three
         go_upto_region 15 with fail
         go_cut [80] (fun s80 wx => ∃ b : Bool, s80 = .bool b ∧ (b = false ↔ (x = 4611686018427387904 ∨ (-1099511627776 ≤ x ∧ x ≤ 1099511627776)) ∧ (i = j → x = 0) ∧ x = y) ∧ Box1 w w.heap.size #[.slice A0_0 l0_0.length c0_0, .slice (some ad) l0_1.length c0_1, .bool false] 25 wx)
         case first =>
          by_cases c1 : x = 4611686018427387904
          ·
           have f1 : (x != 4611686018427387904) = false := by rw [c1]; rfl
           by_cases c4 : i = j
           ·
            have f4 : (i == j) = true := by simpa using c4
            by_cases c5 : x = 0
            ·
             have f5 : (x != 0) = false := by rw [c5]; rfl
             by_cases c6 : x = y
             ·
              have f6 : (x != y) = false := by rw [c6]; simp
              have HB : Aside0 (false = false ↔ (x = 4611686018427387904 ∨ (-1099511627776 ≤ x ∧ x ≤ 1099511627776)) ∧ (i = j → x = 0) ∧ x = y) := ⟨by constructor; (intro _; exact ⟨by omega, by omega, by omega⟩); intro _; rfl⟩
              clear c1 c4 c5 c6
              go_quiet ((first | (go_at_call 53; exact Calls.quiet_of_same (B1.out _)) | (go_at_call 53; exact Calls.quiet_of_same (B2.out _))))
              go_wp2_with fail
              go_meet
              exact ⟨false, rfl, (by have h := HB.out; first | exact h | simpa using h), (by repeat (first | exact HX.out | (with_reducible apply Box1.drewN) | (with_reducible apply Box1.drew)))⟩
             ·
              have f6 : (x != y) = true := by simpa using c6
              have HB : Aside0 (true = false ↔ (x = 4611686018427387904 ∨ (-1099511627776 ≤ x ∧ x ≤ 1099511627776)) ∧ (i = j → x = 0) ∧ x = y) := ⟨by constructor; (intro h; cases h); intro h; exfalso; omega⟩
              clear c1 c4 c5 c6
              go_quiet ((first | (go_at_call 53; exact Calls.quiet_of_same (B1.out _)) | (go_at_call 53; exact Calls.quiet_of_same (B2.out _))))
              go_wp2_with fail
              go_meet
              exact ⟨true, rfl, (by have h := HB.out; first | exact h | simpa using h), (by repeat (first | exact HX.out | (with_reducible apply Box1.drewN) | (with_reducible apply Box1.drew)))⟩
            ·
             have f5 : (x != 0) = true := by simpa using c5
             have HB : Aside0 (true = false ↔ (x = 4611686018427387904 ∨ (-1099511627776 ≤ x ∧ x ≤ 1099511627776)) ∧ (i = j → x = 0) ∧ x = y) := ⟨by constructor; (intro h; cases h); intro h; exfalso; omega⟩
             clear c1 c4 c5
             go_quiet ((first | (go_at_call 53; exact Calls.quiet_of_same (B1.out _)) | (go_at_call 53; exact Calls.quiet_of_same (B2.out _))))
             go_wp2_with fail
             go_meet
             exact ⟨true, rfl, (by have h := HB.out; first | exact h | simpa using h), (by repeat (first | exact HX.out | (with_reducible apply Box1.drewN) | (with_reducible apply Box1.drew)))⟩
           ·
            have f4 : (i == j) = false := by simpa using c4
            by_cases c6 : x = y
            ·
             have f6 : (x != y) = false := by rw [c6]; simp
             have HB : Aside0 (false = false ↔ (x = 4611686018427387904 ∨ (-1099511627776 ≤ x ∧ x ≤ 1099511627776)) ∧ (i = j → x = 0) ∧ x = y) := ⟨by constructor; (intro _; exact ⟨by omega, by omega, by omega⟩); intro _; rfl⟩
             clear c1 c4 c6
             go_quiet ((first | (go_at_call 53; exact Calls.quiet_of_same (B1.out _)) | (go_at_call 53; exact Calls.quiet_of_same (B2.out _))))
             go_wp2_with fail
             go_meet
             exact ⟨false, rfl, (by have h := HB.out; first | exact h | simpa using h), (by repeat (first | exact HX.out | (with_reducible apply Box1.drewN) | (with_reducible apply Box1.drew)))⟩
            ·
             have f6 : (x != y) = true := by simpa using c6
             have HB : Aside0 (true = false ↔ (x = 4611686018427387904 ∨ (-1099511627776 ≤ x ∧ x ≤ 1099511627776)) ∧ (i = j → x = 0) ∧ x = y) := ⟨by constructor; (intro h; cases h); intro h; exfalso; omega⟩
             clear c1 c4 c6
             go_quiet ((first | (go_at_call 53; exact Calls.quiet_of_same (B1.out _)) | (go_at_call 53; exact Calls.quiet_of_same (B2.out _))))
             go_wp2_with fail
             go_meet
             exact ⟨true, rfl, (by have h := HB.out; first | exact h | simpa using h), (by repeat (first | exact HX.out | (with_reducible apply Box1.drewN) | (with_reducible apply Box1.drew)))⟩
          ·
           have f1 : (x != 4611686018427387904) = true := by simpa using c1
           by_cases c2 : x < -1099511627776
           ·
            have f2 : decide (x < -1099511627776) = true := decide_eq_true c2
            have HB : Aside0 (true = false ↔ (x = 4611686018427387904 ∨ (-1099511627776 ≤ x ∧ x ≤ 1099511627776)) ∧ (i = j → x = 0) ∧ x = y) := ⟨by constructor; (intro h; cases h); intro h; exfalso; omega⟩
            clear c1 c2
            go_quiet ((first | (go_at_call 53; exact Calls.quiet_of_same (B1.out _)) | (go_at_call 53; exact Calls.quiet_of_same (B2.out _))))
            go_wp2_with fail
            go_meet
            exact ⟨true, rfl, (by have h := HB.out; first | exact h | simpa using h), (by repeat (first | exact HX.out | (with_reducible apply Box1.drewN) | (with_reducible apply Box1.drew)))⟩
           ·
            have f2 : decide (x < -1099511627776) = false := decide_eq_false c2
            by_cases c3 : 1099511627776 < x
            ·
             have f3 : decide (1099511627776 < x) = true := decide_eq_true c3
             have HB : Aside0 (true = false ↔ (x = 4611686018427387904 ∨ (-1099511627776 ≤ x ∧ x ≤ 1099511627776)) ∧ (i = j → x = 0) ∧ x = y) := ⟨by constructor; (intro h; cases h); intro h; exfalso; omega⟩
             clear c1 c2 c3
             go_quiet ((first | (go_at_call 53; exact Calls.quiet_of_same (B1.out _)) | (go_at_call 53; exact Calls.quiet_of_same (B2.out _))))
             go_wp2_with fail
             go_meet
             exact ⟨true, rfl, (by have h := HB.out; first | exact h | simpa using h), (by repeat (first | exact HX.out | (with_reducible apply Box1.drewN) | (with_reducible apply Box1.drew)))⟩
            ·
             have f3 : decide (1099511627776 < x) = false := decide_eq_false c3
             by_cases c4 : i = j
             ·
              have f4 : (i == j) = true := by simpa using c4
              by_cases c5 : x = 0
              ·
               have f5 : (x != 0) = false := by rw [c5]; rfl
               by_cases c6 : x = y
               ·
                have f6 : (x != y) = false := by rw [c6]; simp
                have HB : Aside0 (false = false ↔ (x = 4611686018427387904 ∨ (-1099511627776 ≤ x ∧ x ≤ 1099511627776)) ∧ (i = j → x = 0) ∧ x = y) := ⟨by constructor; (intro _; exact ⟨by omega, by omega, by omega⟩); intro _; rfl⟩
                clear c1 c2 c3 c4 c5 c6
                go_quiet ((first | (go_at_call 53; exact Calls.quiet_of_same (B1.out _)) | (go_at_call 53; exact Calls.quiet_of_same (B2.out _))))
                go_wp2_with fail
                go_meet
                exact ⟨false, rfl, (by have h := HB.out; first | exact h | simpa using h), (by repeat (first | exact HX.out | (with_reducible apply Box1.drewN) | (with_reducible apply Box1.drew)))⟩
               ·
                have f6 : (x != y) = true := by simpa using c6
                have HB : Aside0 (true = false ↔ (x = 4611686018427387904 ∨ (-1099511627776 ≤ x ∧ x ≤ 1099511627776)) ∧ (i = j → x = 0) ∧ x = y) := ⟨by constructor; (intro h; cases h); intro h; exfalso; omega⟩
                clear c1 c2 c3 c4 c5 c6
                go_quiet ((first | (go_at_call 53; exact Calls.quiet_of_same (B1.out _)) | (go_at_call 53; exact Calls.quiet_of_same (B2.out _))))
                go_wp2_with fail
                go_meet
                exact ⟨true, rfl, (by have h := HB.out; first | exact h | simpa using h), (by repeat (first | exact HX.out | (with_reducible apply Box1.drewN) | (with_reducible apply Box1.drew)))⟩
              ·
               have f5 : (x != 0) = true := by simpa using c5
               have HB : Aside0 (true = false ↔ (x = 4611686018427387904 ∨ (-1099511627776 ≤ x ∧ x ≤ 1099511627776)) ∧ (i = j → x = 0) ∧ x = y) := ⟨by constructor; (intro h; cases h); intro h; exfalso; omega⟩
               clear c1 c2 c3 c4 c5
               go_quiet ((first | (go_at_call 53; exact Calls.quiet_of_same (B1.out _)) | (go_at_call 53; exact Calls.quiet_of_same (B2.out _))))
               go_wp2_with fail
               go_meet
               exact ⟨true, rfl, (by have h := HB.out; first | exact h | simpa using h), (by repeat (first | exact HX.out | (with_reducible apply Box1.drewN) | (with_reducible apply Box1.drew)))⟩
             ·
              have f4 : (i == j) = false := by simpa using c4
              by_cases c6 : x = y
              ·
               have f6 : (x != y) = false := by rw [c6]; simp
               have HB : Aside0 (false = false ↔ (x = 4611686018427387904 ∨ (-1099511627776 ≤ x ∧ x ≤ 1099511627776)) ∧ (i = j → x = 0) ∧ x = y) := ⟨by constructor; (intro _; exact ⟨by omega, by omega, by omega⟩); intro _; rfl⟩
               clear c1 c2 c3 c4 c6
               go_quiet ((first | (go_at_call 53; exact Calls.quiet_of_same (B1.out _)) | (go_at_call 53; exact Calls.quiet_of_same (B2.out _))))
               go_wp2_with fail
               go_meet
               exact ⟨false, rfl, (by have h := HB.out; first | exact h | simpa using h), (by repeat (first | exact HX.out | (with_reducible apply Box1.drewN) | (with_reducible apply Box1.drew)))⟩
              ·
               have f6 : (x != y) = true := by simpa using c6
               have HB : Aside0 (true = false ↔ (x = 4611686018427387904 ∨ (-1099511627776 ≤ x ∧ x ≤ 1099511627776)) ∧ (i = j → x = 0) ∧ x = y) := ⟨by constructor; (intro h; cases h); intro h; exfalso; omega⟩
               clear c1 c2 c3 c4 c6
               go_quiet ((first | (go_at_call 53; exact Calls.quiet_of_same (B1.out _)) | (go_at_call 53; exact Calls.quiet_of_same (B2.out _))))
               go_wp2_with fail
               go_meet
               exact ⟨true, rfl, (by have h := HB.out; first | exact h | simpa using h), (by repeat (first | exact HX.out | (with_reducible apply Box1.drewN) | (with_reducible apply Box1.drew)))⟩
         case rest =>
          obtain ⟨b, rfl, hb, hX⟩ := hcut
          clear HX hx0 hx1 hx2 hx hy B1 B2 g1 g2 g3 g4 g5 g6 g7 g8 k1 k2 k3 k4
          have HX := Aside0.mk hX
          have HB := Aside0.mk (hb.trans HXY.out.symm)
          clear hX hb HXY
          cases b with
          | true =>
           go_wp2
           go_ret
           refine ⟨?_, HX.out.below⟩
           have h1 := HI.out; have h2 := HL.out; have h3 := HJ.out; have h4 := HK.out
           rw [← HV.out, ofitB_false.2 (fun h => by have := (h.2.2 rfl).2 i j h1.1 (by rw [HN.out]; exact h2) h3.1 (by rw [HN.out]; exact h4); rw [HN.out] at this; exact absurd (HB.out.2 this) (by simp))]
           rfl
          | false =>
           go_wp2
           go_roundg (n2.toNat - (j.toNat + 1))
           case measure => have h1 := HJ.out; have h2 := HK.out; omega
           case rel =>
            have h1 := HJ.out; have h2 := HK.out; have h3 := HT.out.1; have h4 := HN.out
            have hw : wrap64 (j + 1) = j + 1 := by unfold wrap64; omega
            refine ⟨wrap64 (j + 1), rfl, ⟨by omega, by omega, by omega⟩, ⟨HX.out⟩, ⟨fun b b0 b1 => ?_⟩⟩
            by_cases e : b = j
            ·
             subst e; exact HB.out.1 (by first | rfl | trivial)
            ·
             exact HE.out b b0 (by omega)
        ·
         have f3 : decide (j < n2) = false := decide_eq_false hlt
         have HK := Aside0.mk hlt
         clear hlt
         go_wp2
         go_roundg (n2.toNat - (i.toNat + 1))
         case measure => have h1 := HI.out; have h2 := HL.out; omega
         case rel =>
          have h1 := HI.out; have h2 := HL.out; have h3 := HT.out.1; have h4 := HN.out; have h5 := HK.out; have h6 := HJ.out
          have hw : wrap64 (i + 1) = i + 1 := by unfold wrap64; omega
          refine ⟨wrap64 (i + 1), rfl, ⟨by omega, by omega, by omega⟩, ⟨HX.out⟩, ⟨fun a b a0 a1 b0 b1 => ?_⟩⟩
          by_cases e : a = i
          ·
           subst e; exact HE.out b b0 (by omega)
          ·
           exact HA.out a b a0 (by omega) b0 b1
      ·
       have f2 : decide (i < n2) = false := decide_eq_false hlt
       have HL := Aside0.mk hlt
       clear hlt
       go_wp2
       go_ret
       have h1 := HI.out; have h2 := HL.out
       refine ⟨?_, HX.out.below⟩
       rw [← HV.out, ofitB_true.2 ⟨HT.out, fun h => (by cases h), fun _ => ⟨by rw [HN.out, HNN.out]; exact HZ.out, fun a b a0 a1 b0 b1 => by rw [HN.out] at a1 b1 ⊢; exact HA.out a b a0 (by omega) b0 b1⟩⟩]
       rfl
    ·
     have f1 : ((l0_1.length : Int) != nn) = true := by simpa using hz
     have HZ := Aside0.mk hz
     have HN := Aside0.mk hn2
     have HNN := Aside0.mk hnn
     clear hz hn2 hnn hnn2 hl8
     go_enter Try.func19, Try.ntmps19
     go_wp2_with (go_at_call 49; (with_reducible refine (HM.out _ ?side1).mono ?_); (case side1 => repeat (first | exact HR0.out | (with_reducible refine Kd.C_alloc ?_ _) | (with_reducible refine Kd.C_drewN ?_ _) | (with_reducible refine Kd.C_drew ?_))); rintro e w1 ⟨rfl, ⟨nd, rfl⟩⟩)
     go_ret
     refine ⟨?_, by repeat (first | exact Below.refl _ _ | (with_reducible apply below_alloc) | (with_reducible apply pw_below_drewN) | (with_reducible apply below_drew))⟩
     rw [← HV.out, ofitB_false.2 (fun h => HZ.out (by rw [(h.2.2 rfl).1, HN.out, HNN.out]))]
     rfl
 ·
  rw [if_neg hlen] at h
  cases h
end Go.Proofs.Ytomgebmimgaojaa.QO
end
section
/- Written by a program of this session out of the translation. -/
noncomputable section
namespace Go.Proofs.Ytomgebmimgaojaa.QO
open Go.RowKit Go.Proofs.YtomgebmimgaojaaW.PrintWords Go.Proofs.YtomgebmimgaojaaW.PrintLast
set_option linter.unusedVariables false
set_option linter.unusedSimpArgs false
/-! ### gimballaw11_two: function 32 -/
mutual
def gimballaw11_two.j0 : Nat → Bool → List Int → List Int → Bool → List Int → List Int → Bool → Option (Bool)
  | 0, _, _, _, _, _, _, _ => none
  | k + 1, x22, x392000, x392001, x392002, x393000, x393001, x393002 => if x22 = true then (some false) else (gimballaw11_two.l0 k (x392000.length : Int) 0 x392000 x392001 x392002 x393000 x393001 x393002)
def gimballaw11_two.l0 : Nat → Int → Int → List Int → List Int → Bool → List Int → List Int → Bool → Option (Bool)
  | 0, _, _, _, _, _, _, _, _ => none
  | k + 1, x25, x26, x392000, x392001, x392002, x393000, x393001, x393002 => if x26 < x25 then (if 0 ≤ x26 then (if x26 < (x392000.length : Int) then (if x26 < (x393000.length : Int) then (if (rd x392000 x26) = (rd x393000 x26) then (gimballaw11_two.l0 k x25 (wrap64 (x26 + 1)) x392000 x392001 x392002 x393000 x393001 x393002) else (some false)) else (none)) else (none)) else (none)) else (some true)
end
def gimballaw11_two.f (k : Nat) (l0_0 : List Int) (l0_1 : List Int) (a0_2 : Bool) (l1_0 : List Int) (l1_1 : List Int) (a1_2 : Bool) : Option (Bool) := (gimbalref11_Fit.f l0_0 l0_1 a0_2).bind fun t393 => (if t393 = true then ((gimbalref11_Fit.f l1_0 l1_1 a1_2).bind fun t394 => (if t394 = true then (gimballaw11_two.j0 k ((l0_0.length : Int) != (l1_0.length : Int)) l0_0 l0_1 a0_2 l1_0 l1_1 a1_2) else (gimballaw11_two.j0 k true l0_0 l0_1 a0_2 l1_0 l1_1 a1_2))) else (gimballaw11_two.j0 k true l0_0 l0_1 a0_2 l1_0 l1_1 a1_2))
theorem gimballaw11_two.mono_l : ∀ k, (∀ y0 y1 y2 y3 y4 y5 y6, LeO (gimballaw11_two.j0 k y0 y1 y2 y3 y4 y5 y6) (gimballaw11_two.j0 (k + 1) y0 y1 y2 y3 y4 y5 y6)) ∧ (∀ y0 y1 y2 y3 y4 y5 y6 y7, LeO (gimballaw11_two.l0 k y0 y1 y2 y3 y4 y5 y6 y7) (gimballaw11_two.l0 (k + 1) y0 y1 y2 y3 y4 y5 y6 y7))
  | 0 => ⟨fun _ _ _ _ _ _ _ r h => by simp [gimballaw11_two.j0] at h, fun _ _ _ _ _ _ _ _ r h => by simp [gimballaw11_two.l0] at h⟩
  | k + 1 => by
    obtain ⟨ih0, ih1⟩ := gimballaw11_two.mono_l k
    refine ⟨?_, ?_⟩
    · intro y0 y1 y2 y3 y4 y5 y6
      unfold gimballaw11_two.j0
      repeat' first
      | (with_reducible exact ih0 _ _ _ _ _ _ _)
      | (with_reducible exact ih1 _ _ _ _ _ _ _ _)
      | (with_reducible exact LeO.refl _)
      | (with_reducible exact LeO.none _)
      | (with_reducible refine LeO.ite ?_ ?_)
      | (with_reducible refine LeO.bind ?_ (fun _ => ?_))
      | exact ih0 _ _ _ _ _ _ _
      | exact ih1 _ _ _ _ _ _ _ _
      | exact LeO.none _
      | refine LeO.ite ?_ ?_
      | refine LeO.bind ?_ (fun _ => ?_)
    · intro y0 y1 y2 y3 y4 y5 y6 y7
      unfold gimballaw11_two.l0
      repeat' first
      | (with_reducible exact ih0 _ _ _ _ _ _ _)
      | (with_reducible exact ih1 _ _ _ _ _ _ _ _)
      | (with_reducible exact LeO.refl _)
      | (with_reducible exact LeO.none _)
      | (with_reducible refine LeO.ite ?_ ?_)
      | (with_reducible refine LeO.bind ?_ (fun _ => ?_))
      | exact ih0 _ _ _ _ _ _ _
      | exact ih1 _ _ _ _ _ _ _ _
      | exact LeO.none _
      | refine LeO.ite ?_ ?_
      | refine LeO.bind ?_ (fun _ => ?_)
theorem gimballaw11_two.mono : ∀ a0 a1 a2 a3 a4 a5 k, LeO (gimballaw11_two.f k a0 a1 a2 a3 a4 a5) (gimballaw11_two.f (k + 1) a0 a1 a2 a3 a4 a5) := by
  intro a0 a1 a2 a3 a4 a5 k
  obtain ⟨ih0, ih1⟩ := gimballaw11_two.mono_l k
  unfold gimballaw11_two.f
  repeat' first
      | (with_reducible exact ih0 _ _ _ _ _ _ _)
      | (with_reducible exact ih1 _ _ _ _ _ _ _ _)
      | (with_reducible exact LeO.refl _)
      | (with_reducible exact LeO.none _)
      | (with_reducible refine LeO.ite ?_ ?_)
      | (with_reducible refine LeO.bind ?_ (fun _ => ?_))
      | exact ih0 _ _ _ _ _ _ _
      | exact ih1 _ _ _ _ _ _ _ _
      | exact LeO.none _
      | refine LeO.ite ?_ ?_
      | refine LeO.bind ?_ (fun _ => ?_)
set_option maxHeartbeats 8000000 in
set_option maxRecDepth 100000 in
theorem gimballaw11_two.calls (k : Nat) (A0_0 : Option Addr) (c0_0 : Nat) (l0_0 : List Int) (A0_1 : Option Addr) (c0_1 : Nat) (l0_1 : List Int) (a0_2 : Bool) (A1_0 : Option Addr) (c1_0 : Nat) (l1_0 : List Int) (A1_1 : Option Addr) (c1_1 : Nat) (l1_1 : List Int) (a1_2 : Bool) (r : Bool) (w : World) (hr0_0 : Kd.C (Kd.int .i64) w A0_0 l0_0.length l0_0) (hc0_0 : l0_0.length ≤ c0_0) (hr0_1 : Kd.C (Kd.int .i64) w A0_1 l0_1.length l0_1) (hc0_1 : l0_1.length ≤ c0_1) (hr1_0 : Kd.C (Kd.int .i64) w A1_0 l1_0.length l1_0) (hc1_0 : l1_0.length ≤ c1_0) (hr1_1 : Kd.C (Kd.int .i64) w A1_1 l1_1.length l1_1) (hc1_1 : l1_1.length ≤ c1_1) (h : gimballaw11_two.f k l0_0 l0_1 a0_2 l1_0 l1_1 a1_2 = some r) :
    Calls Try.prog 32 #[.agg #[.slice A0_0 l0_0.length c0_0, .slice A0_1 l0_1.length c0_1, .bool a0_2], .agg #[.slice A1_0 l1_0.length c1_0, .slice A1_1 l1_1.length c1_1, .bool a1_2]] w fun e w' => e = .returned (.bool r) ∧ Below w.heap.size w w' := by
  have hu25 := Try.underlying25
  have HR0_0 := Aside0.mk hr0_0
  have HC0_0 := Aside0.mk hc0_0
  clear hr0_0 hc0_0
  have HR0_1 := Aside0.mk hr0_1
  have HC0_1 := Aside0.mk hc0_1
  clear hr0_1 hc0_1
  have HR1_0 := Aside0.mk hr1_0
  have HC1_0 := Aside0.mk hc1_0
  clear hr1_0 hc1_0
  have HR1_1 := Aside0.mk hr1_1
  have HC1_1 := Aside0.mk hc1_1
  clear hr1_1 hc1_1
  have HB := Aside0.mk (Below.refl w.heap.size w)
  have H : ((gimbalref11_Fit.f l0_0 l0_1 a0_2).bind fun t393 => (if t393 = true then ((gimbalref11_Fit.f l1_0 l1_1 a1_2).bind fun t394 => (if t394 = true then (gimballaw11_two.j0 k ((l0_0.length : Int) != (l1_0.length : Int)) l0_0 l0_1 a0_2 l1_0 l1_1 a1_2) else (gimballaw11_two.j0 k true l0_0 l0_1 a0_2 l1_0 l1_1 a1_2))) else (gimballaw11_two.j0 k true l0_0 l0_1 a0_2 l1_0 l1_1 a1_2))) = some r := h
  clear h
  have HC3 := Aside0.mk H
  clear H
  go_enter Try.func32, Try.ntmps32
  go_upto_region 1 with (first | ((with_reducible refine gate_dst (N := 2) rfl ?_); (try (refine gate_guard (by rfl) ?_; dsimp only)); refine box_event ?hg (N := 2) ?hd (cs := #[.slice A0_0 l0_0.length c0_0, .slice A0_1 l0_1.length c0_1, .bool a0_2]) (t := 25) ?hr ?_; (case hd => rfl); (case hg => rfl); (case hr => first | (go_simp; done) | (go_simp; rfl)); intro gb391 hg w4 hbox hb; have n0_ := Aside0.mk (below_step (by repeat (first | (with_reducible first | exact HB.out | apply below_alloc | apply pw_below_drewN | apply below_drew1) | exact HB.out)) hb); have n1_ := Aside0.mk (hbox); have n2_ := Aside0.mk ((by rw [hg]; exact (below_size (by repeat (first | (with_reducible first | exact HB.out | apply below_alloc | apply pw_below_drewN | apply below_drew1) | exact HB.out))) : w.heap.size ≤ gb391)); have n3_ := Aside0.mk ((by rw [hg]; exact (below_size (by repeat (first | (with_reducible first | exact HB.out | apply below_alloc | apply pw_below_drewN | apply below_drew1) | exact HB.out))) : w.heap.size ≤ gb391)); clear HB; have HB := n0_; have BK391 := n1_; have GW391 := n2_; have GE391 := n3_; clear n0_ n1_ n2_ n3_; clear hb hbox hg) | ((with_reducible refine gate_dst (N := 3) rfl ?_); (try (refine gate_guard (by rfl) ?_; dsimp only)); refine box_event ?hg (N := 3) ?hd (cs := #[.slice A1_0 l1_0.length c1_0, .slice A1_1 l1_1.length c1_1, .bool a1_2]) (t := 25) ?hr ?_; (case hd => rfl); (case hg => rfl); (case hr => first | (go_simp; done) | (go_simp; rfl)); intro gb392 hg w5 hbox hb; have n0_ := Aside0.mk (blk_below (g := gb391) (o := .cells #[.slice A0_0 l0_0.length c0_0, .slice A0_1 l0_1.length c0_1, .bool a0_2] 25 (0, 0)) (by (with_reducible repeat (first | refine blk_drewN ?_ _ | refine blk_drew ?_ | refine blk_alloc ?_ _)); exact BK391.out) hb); have n1_ := Aside0.mk (below_step (by repeat (first | (with_reducible first | exact HB.out | apply below_alloc | apply pw_below_drewN | apply below_drew1 | refine below_set ?_ GE391.out) | exact HB.out)) hb); have n2_ := Aside0.mk (hbox); have n3_ := Aside0.mk ((by rw [hg]; exact (below_size (by repeat (first | (with_reducible first | exact HB.out | apply below_alloc | apply pw_below_drewN | apply below_drew1 | refine below_set ?_ GE391.out) | exact HB.out))) : w.heap.size ≤ gb392)); have n4_ := Aside0.mk ((by rw [hg]; exact (below_size (by repeat (first | (with_reducible first | exact HB.out | apply below_alloc | apply pw_below_drewN | apply below_drew1 | refine below_set ?_ GE391.out) | exact HB.out))) : w.heap.size ≤ gb392)); have n5_ := Aside0.mk ((by rw [hg]; exact Nat.ne_of_lt (blk_lt (g := gb391) (o := .cells #[.slice A0_0 l0_0.length c0_0, .slice A0_1 l0_1.length c0_1, .bool a0_2] 25 (0, 0)) (by (with_reducible repeat (first | refine blk_drewN ?_ _ | refine blk_drew ?_ | refine blk_alloc ?_ _)); exact BK391.out)) : gb391 ≠ gb392)); have n6_ := Aside0.mk ((by rw [hg]; exact Nat.ne_of_gt (blk_lt (g := gb391) (o := .cells #[.slice A0_0 l0_0.length c0_0, .slice A0_1 l0_1.length c0_1, .bool a0_2] 25 (0, 0)) (by (with_reducible repeat (first | refine blk_drewN ?_ _ | refine blk_drew ?_ | refine blk_alloc ?_ _)); exact BK391.out)) : gb392 ≠ gb391)); clear BK391; clear HB; have BK391 := n0_; have HB := n1_; have BK392 := n2_; have GW392 := n3_; have GE392 := n4_; have NB391_392 := n5_; have NB392_391 := n6_; clear n0_ n1_ n2_ n3_ n4_ n5_ n6_; clear hb hbox hg))
  repeat (go_quiet (first | ((with_reducible refine gate_dst (N := 2) rfl ?_); (try (refine gate_guard (by rfl) ?_; dsimp only)); refine box_event ?hg (N := 2) ?hd (cs := #[.slice A0_0 l0_0.length c0_0, .slice A0_1 l0_1.length c0_1, .bool a0_2]) (t := 25) ?hr ?_; (case hd => rfl); (case hg => rfl); (case hr => first | (go_simp; done) | (go_simp; rfl)); intro gb391 hg w4 hbox hb; have n0_ := Aside0.mk (below_step (by repeat (first | (with_reducible first | exact HB.out | apply below_alloc | apply pw_below_drewN | apply below_drew1) | exact HB.out)) hb); have n1_ := Aside0.mk (hbox); have n2_ := Aside0.mk ((by rw [hg]; exact (below_size (by repeat (first | (with_reducible first | exact HB.out | apply below_alloc | apply pw_below_drewN | apply below_drew1) | exact HB.out))) : w.heap.size ≤ gb391)); have n3_ := Aside0.mk ((by rw [hg]; exact (below_size (by repeat (first | (with_reducible first | exact HB.out | apply below_alloc | apply pw_below_drewN | apply below_drew1) | exact HB.out))) : w.heap.size ≤ gb391)); clear HB; have HB := n0_; have BK391 := n1_; have GW391 := n2_; have GE391 := n3_; clear n0_ n1_ n2_ n3_; clear hb hbox hg) | ((with_reducible refine gate_dst (N := 3) rfl ?_); (try (refine gate_guard (by rfl) ?_; dsimp only)); refine box_event ?hg (N := 3) ?hd (cs := #[.slice A1_0 l1_0.length c1_0, .slice A1_1 l1_1.length c1_1, .bool a1_2]) (t := 25) ?hr ?_; (case hd => rfl); (case hg => rfl); (case hr => first | (go_simp; done) | (go_simp; rfl)); intro gb392 hg w5 hbox hb; have n0_ := Aside0.mk (blk_below (g := gb391) (o := .cells #[.slice A0_0 l0_0.length c0_0, .slice A0_1 l0_1.length c0_1, .bool a0_2] 25 (0, 0)) (by (with_reducible repeat (first | refine blk_drewN ?_ _ | refine blk_drew ?_ | refine blk_alloc ?_ _)); exact BK391.out) hb); have n1_ := Aside0.mk (below_step (by repeat (first | (with_reducible first | exact HB.out | apply below_alloc | apply pw_below_drewN | apply below_drew1 | refine below_set ?_ GE391.out) | exact HB.out)) hb); have n2_ := Aside0.mk (hbox); have n3_ := Aside0.mk ((by rw [hg]; exact (below_size (by repeat (first | (with_reducible first | exact HB.out | apply below_alloc | apply pw_below_drewN | apply below_drew1 | refine below_set ?_ GE391.out) | exact HB.out))) : w.heap.size ≤ gb392)); have n4_ := Aside0.mk ((by rw [hg]; exact (below_size (by repeat (first | (with_reducible first | exact HB.out | apply below_alloc | apply pw_below_drewN | apply below_drew1 | refine below_set ?_ GE391.out) | exact HB.out))) : w.heap.size ≤ gb392)); have n5_ := Aside0.mk ((by rw [hg]; exact Nat.ne_of_lt (blk_lt (g := gb391) (o := .cells #[.slice A0_0 l0_0.length c0_0, .slice A0_1 l0_1.length c0_1, .bool a0_2] 25 (0, 0)) (by (with_reducible repeat (first | refine blk_drewN ?_ _ | refine blk_drew ?_ | refine blk_alloc ?_ _)); exact BK391.out)) : gb391 ≠ gb392)); have n6_ := Aside0.mk ((by rw [hg]; exact Nat.ne_of_gt (blk_lt (g := gb391) (o := .cells #[.slice A0_0 l0_0.length c0_0, .slice A0_1 l0_1.length c0_1, .bool a0_2] 25 (0, 0)) (by (with_reducible repeat (first | refine blk_drewN ?_ _ | refine blk_drew ?_ | refine blk_alloc ?_ _)); exact BK391.out)) : gb392 ≠ gb391)); clear BK391; clear HB; have BK391 := n0_; have HB := n1_; have BK392 := n2_; have GW392 := n3_; have GE392 := n4_; have NB391_392 := n5_; have NB392_391 := n6_; clear n0_ n1_ n2_ n3_ n4_ n5_ n6_; clear hb hbox hg)); go_upto_region 1 with (first | ((with_reducible refine gate_dst (N := 2) rfl ?_); (try (refine gate_guard (by rfl) ?_; dsimp only)); refine box_event ?hg (N := 2) ?hd (cs := #[.slice A0_0 l0_0.length c0_0, .slice A0_1 l0_1.length c0_1, .bool a0_2]) (t := 25) ?hr ?_; (case hd => rfl); (case hg => rfl); (case hr => first | (go_simp; done) | (go_simp; rfl)); intro gb391 hg w4 hbox hb; have n0_ := Aside0.mk (below_step (by repeat (first | (with_reducible first | exact HB.out | apply below_alloc | apply pw_below_drewN | apply below_drew1) | exact HB.out)) hb); have n1_ := Aside0.mk (hbox); have n2_ := Aside0.mk ((by rw [hg]; exact (below_size (by repeat (first | (with_reducible first | exact HB.out | apply below_alloc | apply pw_below_drewN | apply below_drew1) | exact HB.out))) : w.heap.size ≤ gb391)); have n3_ := Aside0.mk ((by rw [hg]; exact (below_size (by repeat (first | (with_reducible first | exact HB.out | apply below_alloc | apply pw_below_drewN | apply below_drew1) | exact HB.out))) : w.heap.size ≤ gb391)); clear HB; have HB := n0_; have BK391 := n1_; have GW391 := n2_; have GE391 := n3_; clear n0_ n1_ n2_ n3_; clear hb hbox hg) | ((with_reducible refine gate_dst (N := 3) rfl ?_); (try (refine gate_guard (by rfl) ?_; dsimp only)); refine box_event ?hg (N := 3) ?hd (cs := #[.slice A1_0 l1_0.length c1_0, .slice A1_1 l1_1.length c1_1, .bool a1_2]) (t := 25) ?hr ?_; (case hd => rfl); (case hg => rfl); (case hr => first | (go_simp; done) | (go_simp; rfl)); intro gb392 hg w5 hbox hb; have n0_ := Aside0.mk (blk_below (g := gb391) (o := .cells #[.slice A0_0 l0_0.length c0_0, .slice A0_1 l0_1.length c0_1, .bool a0_2] 25 (0, 0)) (by (with_reducible repeat (first | refine blk_drewN ?_ _ | refine blk_drew ?_ | refine blk_alloc ?_ _)); exact BK391.out) hb); have n1_ := Aside0.mk (below_step (by repeat (first | (with_reducible first | exact HB.out | apply below_alloc | apply pw_below_drewN | apply below_drew1 | refine below_set ?_ GE391.out) | exact HB.out)) hb); have n2_ := Aside0.mk (hbox); have n3_ := Aside0.mk ((by rw [hg]; exact (below_size (by repeat (first | (with_reducible first | exact HB.out | apply below_alloc | apply pw_below_drewN | apply below_drew1 | refine below_set ?_ GE391.out) | exact HB.out))) : w.heap.size ≤ gb392)); have n4_ := Aside0.mk ((by rw [hg]; exact (below_size (by repeat (first | (with_reducible first | exact HB.out | apply below_alloc | apply pw_below_drewN | apply below_drew1 | refine below_set ?_ GE391.out) | exact HB.out))) : w.heap.size ≤ gb392)); have n5_ := Aside0.mk ((by rw [hg]; exact Nat.ne_of_lt (blk_lt (g := gb391) (o := .cells #[.slice A0_0 l0_0.length c0_0, .slice A0_1 l0_1.length c0_1, .bool a0_2] 25 (0, 0)) (by (with_reducible repeat (first | refine blk_drewN ?_ _ | refine blk_drew ?_ | refine blk_alloc ?_ _)); exact BK391.out)) : gb391 ≠ gb392)); have n6_ := Aside0.mk ((by rw [hg]; exact Nat.ne_of_gt (blk_lt (g := gb391) (o := .cells #[.slice A0_0 l0_0.length c0_0, .slice A0_1 l0_1.length c0_1, .bool a0_2] 25 (0, 0)) (by (with_reducible repeat (first | refine blk_drewN ?_ _ | refine blk_drew ?_ | refine blk_alloc ?_ _)); exact BK391.out)) : gb392 ≠ gb391)); clear BK391; clear HB; have BK391 := n0_; have HB := n1_; have BK392 := n2_; have GW392 := n3_; have GE392 := n4_; have NB391_392 := n5_; have NB392_391 := n6_; clear n0_ n1_ n2_ n3_ n4_ n5_ n6_; clear hb hbox hg)))
  (try simp only [Act.put, List.setIfInBounds_toArray, List.set_cons_zero, List.set_cons_succ])
  go_cut [22] (fun v22 wc => ∃ (kq : Nat) (x22_2 : Bool), v22 = .bool x22_2 ∧ Aside0 (gimballaw11_two.j0 kq x22_2 l0_0 l0_1 a0_2 l1_0 l1_1 a1_2 = some r) ∧ Aside0 (kq ≤ k) ∧ Aside0 (wc.heap[gb391]? = some (.cells #[(.slice A0_0 l0_0.length c0_0), (.slice A0_1 l0_1.length c0_1), .bool a0_2] 25 (0, 0))) ∧ Aside0 (wc.heap[gb392]? = some (.cells #[(.slice A1_0 l1_0.length c1_0), (.slice A1_1 l1_1.length c1_1), .bool a1_2] 25 (0, 0))) ∧ Aside0 (Below w.heap.size w wc))
  case first =>
    have H := HC3.out
    clear HC3
    replace H := Option.bind_eq_some_iff.mp H
    obtain ⟨t393, A60, H⟩ := H
    replace H : (if t393 = true then ((gimbalref11_Fit.f l1_0 l1_1 a1_2).bind fun t394 => (if t394 = true then (gimballaw11_two.j0 k ((l0_0.length : Int) != (l1_0.length : Int)) l0_0 l0_1 a0_2 l1_0 l1_1 a1_2) else (gimballaw11_two.j0 k true l0_0 l0_1 a0_2 l1_0 l1_1 a1_2))) else (gimballaw11_two.j0 k true l0_0 l0_1 a0_2 l1_0 l1_1 a1_2)) = some r := H
    have A6 := Aside0.mk A60
    clear A60
    by_cases c7 : t393 = true
    · subst c7
      have H1 : ((gimbalref11_Fit.f l1_0 l1_1 a1_2).bind fun t394 => (if t394 = true then (gimballaw11_two.j0 k ((l0_0.length : Int) != (l1_0.length : Int)) l0_0 l0_1 a0_2 l1_0 l1_1 a1_2) else (gimballaw11_two.j0 k true l0_0 l0_1 a0_2 l1_0 l1_1 a1_2))) = some r := by rw [if_pos rfl] at H; exact H
      clear H
      have H := H1
      clear H1
      replace H := Option.bind_eq_some_iff.mp H
      obtain ⟨t394, A80, H⟩ := H
      replace H : (if t394 = true then (gimballaw11_two.j0 k ((l0_0.length : Int) != (l1_0.length : Int)) l0_0 l0_1 a0_2 l1_0 l1_1 a1_2) else (gimballaw11_two.j0 k true l0_0 l0_1 a0_2 l1_0 l1_1 a1_2)) = some r := H
      have A8 := Aside0.mk A80
      clear A80
      by_cases c9 : t394 = true
      · subst c9
        have H1 : (gimballaw11_two.j0 k ((l0_0.length : Int) != (l1_0.length : Int)) l0_0 l0_1 a0_2 l1_0 l1_1 a1_2) = some r := by rw [if_pos rfl] at H; exact H
        clear H
        have H := H1
        clear H1
        have H' := Aside0.mk H
        clear H
        have hnb10 := NB391_392.out
        have hnc10 := NB392_391.out
        have hcz11_0 : w5.cell? ⟨gb391, 0, none⟩ = some (.slice A0_0 l0_0.length c0_0) := (blk_cell BK391.out 0).trans rfl
        have hcz11_1 : w5.cell? ⟨gb391, 1, none⟩ = some (.slice A0_1 l0_1.length c0_1) := (blk_cell BK391.out 1).trans rfl
        have hcz11_2 : w5.cell? ⟨gb391, 2, none⟩ = some (.bool a0_2) := (blk_cell BK391.out 2).trans rfl
        have hfz11_0 := blk_frozen BK391.out 0
        have hfz11_1 := blk_frozen BK391.out 1
        have hfz11_2 := blk_frozen BK391.out 2
        go_wp2_with (first | (go_at_call 19; (with_reducible refine (gimbalref11_Fit.calls _ _ l0_0 _ _ l0_1 a0_2 true _ ?side1 ?side2 ?side3 ?side4 A6.out).mono ?_); (case side1 => repeat (first | exact (Kd.C_below HR0_0.out HB.out) | (with_reducible refine Kd.C_alloc ?_ _) | (with_reducible refine Kd.C_drewN ?_ _) | (with_reducible refine Kd.C_drew ?_))); (case side2 => exact HC0_0.out); (case side3 => repeat (first | exact (Kd.C_below HR0_1.out HB.out) | (with_reducible refine Kd.C_alloc ?_ _) | (with_reducible refine Kd.C_drewN ?_ _) | (with_reducible refine Kd.C_drew ?_))); (case side4 => exact HC0_1.out); rintro e w12 ⟨rfl, hb⟩; have n0_ := Aside0.mk (blk_below (g := gb391) (o := .cells #[.slice A0_0 l0_0.length c0_0, .slice A0_1 l0_1.length c0_1, .bool a0_2] 25 (0, 0)) (by (with_reducible repeat (first | refine blk_drewN ?_ _ | refine blk_drew ?_ | refine blk_alloc ?_ _)); exact BK391.out) hb); have n1_ := Aside0.mk (blk_below (g := gb392) (o := .cells #[.slice A1_0 l1_0.length c1_0, .slice A1_1 l1_1.length c1_1, .bool a1_2] 25 (0, 0)) (by (with_reducible repeat (first | refine blk_drewN ?_ _ | refine blk_drew ?_ | refine blk_alloc ?_ _)); exact BK392.out) hb); have n2_ := Aside0.mk (below_step (by repeat (first | (with_reducible first | exact HB.out | apply below_alloc | apply pw_below_drewN | apply below_drew1 | refine below_set ?_ GE391.out | refine below_set ?_ GE392.out) | exact HB.out)) hb); clear BK391; clear BK392; clear HB; have BK391 := n0_; have BK392 := n1_; have HB := n2_; clear n0_ n1_ n2_; (try clear hb); (try clear hb2); (try clear hk); (try clear hi); have hcz13_0 : w12.cell? ⟨gb392, 0, none⟩ = some (.slice A1_0 l1_0.length c1_0) := (blk_cell BK392.out 0).trans rfl; have hcz13_1 : w12.cell? ⟨gb392, 1, none⟩ = some (.slice A1_1 l1_1.length c1_1) := (blk_cell BK392.out 1).trans rfl; have hcz13_2 : w12.cell? ⟨gb392, 2, none⟩ = some (.bool a1_2) := (blk_cell BK392.out 2).trans rfl; have hfz13_0 := blk_frozen BK392.out 0; have hfz13_1 := blk_frozen BK392.out 1; have hfz13_2 := blk_frozen BK392.out 2) | (go_at_call 19; (with_reducible refine (gimbalref11_Fit.calls _ _ l1_0 _ _ l1_1 a1_2 true _ ?side1 ?side2 ?side3 ?side4 A8.out).mono ?_); (case side1 => repeat (first | exact (Kd.C_below HR1_0.out HB.out) | (with_reducible refine Kd.C_alloc ?_ _) | (with_reducible refine Kd.C_drewN ?_ _) | (with_reducible refine Kd.C_drew ?_))); (case side2 => exact HC1_0.out); (case side3 => repeat (first | exact (Kd.C_below HR1_1.out HB.out) | (with_reducible refine Kd.C_alloc ?_ _) | (with_reducible refine Kd.C_drewN ?_ _) | (with_reducible refine Kd.C_drew ?_))); (case side4 => exact HC1_1.out); rintro e w14 ⟨rfl, hb⟩; have n0_ := Aside0.mk (blk_below (g := gb391) (o := .cells #[.slice A0_0 l0_0.length c0_0, .slice A0_1 l0_1.length c0_1, .bool a0_2] 25 (0, 0)) (by (with_reducible repeat (first | refine blk_drewN ?_ _ | refine blk_drew ?_ | refine blk_alloc ?_ _)); exact BK391.out) hb); have n1_ := Aside0.mk (blk_below (g := gb392) (o := .cells #[.slice A1_0 l1_0.length c1_0, .slice A1_1 l1_1.length c1_1, .bool a1_2] 25 (0, 0)) (by (with_reducible repeat (first | refine blk_drewN ?_ _ | refine blk_drew ?_ | refine blk_alloc ?_ _)); exact BK392.out) hb); have n2_ := Aside0.mk (below_step (by repeat (first | (with_reducible first | exact HB.out | apply below_alloc | apply pw_below_drewN | apply below_drew1 | refine below_set ?_ GE391.out | refine below_set ?_ GE392.out) | exact HB.out)) hb); clear BK391; clear BK392; clear HB; have BK391 := n0_; have BK392 := n1_; have HB := n2_; clear n0_ n1_ n2_; (try clear hb); (try clear hb2); (try clear hk); (try clear hi); have hcz15_0 : w14.cell? ⟨gb391, 0, none⟩ = some (.slice A0_0 l0_0.length c0_0) := (blk_cell BK391.out 0).trans rfl; have hcz15_1 : w14.cell? ⟨gb391, 1, none⟩ = some (.slice A0_1 l0_1.length c0_1) := (blk_cell BK391.out 1).trans rfl; have hcz15_2 : w14.cell? ⟨gb391, 2, none⟩ = some (.bool a0_2) := (blk_cell BK391.out 2).trans rfl; have hfz15_0 := blk_frozen BK391.out 0; have hfz15_1 := blk_frozen BK391.out 1; have hfz15_2 := blk_frozen BK391.out 2; have hcz16_0 : w14.cell? ⟨gb392, 0, none⟩ = some (.slice A1_0 l1_0.length c1_0) := (blk_cell BK392.out 0).trans rfl; have hcz16_1 : w14.cell? ⟨gb392, 1, none⟩ = some (.slice A1_1 l1_1.length c1_1) := (blk_cell BK392.out 1).trans rfl; have hcz16_2 : w14.cell? ⟨gb392, 2, none⟩ = some (.bool a1_2) := (blk_cell BK392.out 2).trans rfl; have hfz16_0 := blk_frozen BK392.out 0; have hfz16_1 := blk_frozen BK392.out 1; have hfz16_2 := blk_frozen BK392.out 2))
        repeat (go_quiet (first | (go_at_call 19; (with_reducible refine (gimbalref11_Fit.calls _ _ l0_0 _ _ l0_1 a0_2 true _ ?side1 ?side2 ?side3 ?side4 A6.out).mono ?_); (case side1 => repeat (first | exact (Kd.C_below HR0_0.out HB.out) | (with_reducible refine Kd.C_alloc ?_ _) | (with_reducible refine Kd.C_drewN ?_ _) | (with_reducible refine Kd.C_drew ?_))); (case side2 => exact HC0_0.out); (case side3 => repeat (first | exact (Kd.C_below HR0_1.out HB.out) | (with_reducible refine Kd.C_alloc ?_ _) | (with_reducible refine Kd.C_drewN ?_ _) | (with_reducible refine Kd.C_drew ?_))); (case side4 => exact HC0_1.out); rintro e w12 ⟨rfl, hb⟩; have n0_ := Aside0.mk (blk_below (g := gb391) (o := .cells #[.slice A0_0 l0_0.length c0_0, .slice A0_1 l0_1.length c0_1, .bool a0_2] 25 (0, 0)) (by (with_reducible repeat (first | refine blk_drewN ?_ _ | refine blk_drew ?_ | refine blk_alloc ?_ _)); exact BK391.out) hb); have n1_ := Aside0.mk (blk_below (g := gb392) (o := .cells #[.slice A1_0 l1_0.length c1_0, .slice A1_1 l1_1.length c1_1, .bool a1_2] 25 (0, 0)) (by (with_reducible repeat (first | refine blk_drewN ?_ _ | refine blk_drew ?_ | refine blk_alloc ?_ _)); exact BK392.out) hb); have n2_ := Aside0.mk (below_step (by repeat (first | (with_reducible first | exact HB.out | apply below_alloc | apply pw_below_drewN | apply below_drew1 | refine below_set ?_ GE391.out | refine below_set ?_ GE392.out) | exact HB.out)) hb); clear BK391; clear BK392; clear HB; have BK391 := n0_; have BK392 := n1_; have HB := n2_; clear n0_ n1_ n2_; (try clear hb); (try clear hb2); (try clear hk); (try clear hi); have hcz13_0 : w12.cell? ⟨gb392, 0, none⟩ = some (.slice A1_0 l1_0.length c1_0) := (blk_cell BK392.out 0).trans rfl; have hcz13_1 : w12.cell? ⟨gb392, 1, none⟩ = some (.slice A1_1 l1_1.length c1_1) := (blk_cell BK392.out 1).trans rfl; have hcz13_2 : w12.cell? ⟨gb392, 2, none⟩ = some (.bool a1_2) := (blk_cell BK392.out 2).trans rfl; have hfz13_0 := blk_frozen BK392.out 0; have hfz13_1 := blk_frozen BK392.out 1; have hfz13_2 := blk_frozen BK392.out 2) | (go_at_call 19; (with_reducible refine (gimbalref11_Fit.calls _ _ l1_0 _ _ l1_1 a1_2 true _ ?side1 ?side2 ?side3 ?side4 A8.out).mono ?_); (case side1 => repeat (first | exact (Kd.C_below HR1_0.out HB.out) | (with_reducible refine Kd.C_alloc ?_ _) | (with_reducible refine Kd.C_drewN ?_ _) | (with_reducible refine Kd.C_drew ?_))); (case side2 => exact HC1_0.out); (case side3 => repeat (first | exact (Kd.C_below HR1_1.out HB.out) | (with_reducible refine Kd.C_alloc ?_ _) | (with_reducible refine Kd.C_drewN ?_ _) | (with_reducible refine Kd.C_drew ?_))); (case side4 => exact HC1_1.out); rintro e w14 ⟨rfl, hb⟩; have n0_ := Aside0.mk (blk_below (g := gb391) (o := .cells #[.slice A0_0 l0_0.length c0_0, .slice A0_1 l0_1.length c0_1, .bool a0_2] 25 (0, 0)) (by (with_reducible repeat (first | refine blk_drewN ?_ _ | refine blk_drew ?_ | refine blk_alloc ?_ _)); exact BK391.out) hb); have n1_ := Aside0.mk (blk_below (g := gb392) (o := .cells #[.slice A1_0 l1_0.length c1_0, .slice A1_1 l1_1.length c1_1, .bool a1_2] 25 (0, 0)) (by (with_reducible repeat (first | refine blk_drewN ?_ _ | refine blk_drew ?_ | refine blk_alloc ?_ _)); exact BK392.out) hb); have n2_ := Aside0.mk (below_step (by repeat (first | (with_reducible first | exact HB.out | apply below_alloc | apply pw_below_drewN | apply below_drew1 | refine below_set ?_ GE391.out | refine below_set ?_ GE392.out) | exact HB.out)) hb); clear BK391; clear BK392; clear HB; have BK391 := n0_; have BK392 := n1_; have HB := n2_; clear n0_ n1_ n2_; (try clear hb); (try clear hb2); (try clear hk); (try clear hi); have hcz15_0 : w14.cell? ⟨gb391, 0, none⟩ = some (.slice A0_0 l0_0.length c0_0) := (blk_cell BK391.out 0).trans rfl; have hcz15_1 : w14.cell? ⟨gb391, 1, none⟩ = some (.slice A0_1 l0_1.length c0_1) := (blk_cell BK391.out 1).trans rfl; have hcz15_2 : w14.cell? ⟨gb391, 2, none⟩ = some (.bool a0_2) := (blk_cell BK391.out 2).trans rfl; have hfz15_0 := blk_frozen BK391.out 0; have hfz15_1 := blk_frozen BK391.out 1; have hfz15_2 := blk_frozen BK391.out 2; have hcz16_0 : w14.cell? ⟨gb392, 0, none⟩ = some (.slice A1_0 l1_0.length c1_0) := (blk_cell BK392.out 0).trans rfl; have hcz16_1 : w14.cell? ⟨gb392, 1, none⟩ = some (.slice A1_1 l1_1.length c1_1) := (blk_cell BK392.out 1).trans rfl; have hcz16_2 : w14.cell? ⟨gb392, 2, none⟩ = some (.bool a1_2) := (blk_cell BK392.out 2).trans rfl; have hfz16_0 := blk_frozen BK392.out 0; have hfz16_1 := blk_frozen BK392.out 1; have hfz16_2 := blk_frozen BK392.out 2)); try go_wp2_with (first | (go_at_call 19; (with_reducible refine (gimbalref11_Fit.calls _ _ l0_0 _ _ l0_1 a0_2 true _ ?side1 ?side2 ?side3 ?side4 A6.out).mono ?_); (case side1 => repeat (first | exact (Kd.C_below HR0_0.out HB.out) | (with_reducible refine Kd.C_alloc ?_ _) | (with_reducible refine Kd.C_drewN ?_ _) | (with_reducible refine Kd.C_drew ?_))); (case side2 => exact HC0_0.out); (case side3 => repeat (first | exact (Kd.C_below HR0_1.out HB.out) | (with_reducible refine Kd.C_alloc ?_ _) | (with_reducible refine Kd.C_drewN ?_ _) | (with_reducible refine Kd.C_drew ?_))); (case side4 => exact HC0_1.out); rintro e w12 ⟨rfl, hb⟩; have n0_ := Aside0.mk (blk_below (g := gb391) (o := .cells #[.slice A0_0 l0_0.length c0_0, .slice A0_1 l0_1.length c0_1, .bool a0_2] 25 (0, 0)) (by (with_reducible repeat (first | refine blk_drewN ?_ _ | refine blk_drew ?_ | refine blk_alloc ?_ _)); exact BK391.out) hb); have n1_ := Aside0.mk (blk_below (g := gb392) (o := .cells #[.slice A1_0 l1_0.length c1_0, .slice A1_1 l1_1.length c1_1, .bool a1_2] 25 (0, 0)) (by (with_reducible repeat (first | refine blk_drewN ?_ _ | refine blk_drew ?_ | refine blk_alloc ?_ _)); exact BK392.out) hb); have n2_ := Aside0.mk (below_step (by repeat (first | (with_reducible first | exact HB.out | apply below_alloc | apply pw_below_drewN | apply below_drew1 | refine below_set ?_ GE391.out | refine below_set ?_ GE392.out) | exact HB.out)) hb); clear BK391; clear BK392; clear HB; have BK391 := n0_; have BK392 := n1_; have HB := n2_; clear n0_ n1_ n2_; (try clear hb); (try clear hb2); (try clear hk); (try clear hi); have hcz13_0 : w12.cell? ⟨gb392, 0, none⟩ = some (.slice A1_0 l1_0.length c1_0) := (blk_cell BK392.out 0).trans rfl; have hcz13_1 : w12.cell? ⟨gb392, 1, none⟩ = some (.slice A1_1 l1_1.length c1_1) := (blk_cell BK392.out 1).trans rfl; have hcz13_2 : w12.cell? ⟨gb392, 2, none⟩ = some (.bool a1_2) := (blk_cell BK392.out 2).trans rfl; have hfz13_0 := blk_frozen BK392.out 0; have hfz13_1 := blk_frozen BK392.out 1; have hfz13_2 := blk_frozen BK392.out 2) | (go_at_call 19; (with_reducible refine (gimbalref11_Fit.calls _ _ l1_0 _ _ l1_1 a1_2 true _ ?side1 ?side2 ?side3 ?side4 A8.out).mono ?_); (case side1 => repeat (first | exact (Kd.C_below HR1_0.out HB.out) | (with_reducible refine Kd.C_alloc ?_ _) | (with_reducible refine Kd.C_drewN ?_ _) | (with_reducible refine Kd.C_drew ?_))); (case side2 => exact HC1_0.out); (case side3 => repeat (first | exact (Kd.C_below HR1_1.out HB.out) | (with_reducible refine Kd.C_alloc ?_ _) | (with_reducible refine Kd.C_drewN ?_ _) | (with_reducible refine Kd.C_drew ?_))); (case side4 => exact HC1_1.out); rintro e w14 ⟨rfl, hb⟩; have n0_ := Aside0.mk (blk_below (g := gb391) (o := .cells #[.slice A0_0 l0_0.length c0_0, .slice A0_1 l0_1.length c0_1, .bool a0_2] 25 (0, 0)) (by (with_reducible repeat (first | refine blk_drewN ?_ _ | refine blk_drew ?_ | refine blk_alloc ?_ _)); exact BK391.out) hb); have n1_ := Aside0.mk (blk_below (g := gb392) (o := .cells #[.slice A1_0 l1_0.length c1_0, .slice A1_1 l1_1.length c1_1, .bool a1_2] 25 (0, 0)) (by (with_reducible repeat (first | refine blk_drewN ?_ _ | refine blk_drew ?_ | refine blk_alloc ?_ _)); exact BK392.out) hb); have n2_ := Aside0.mk (below_step (by repeat (first | (with_reducible first | exact HB.out | apply below_alloc | apply pw_below_drewN | apply below_drew1 | refine below_set ?_ GE391.out | refine below_set ?_ GE392.out) | exact HB.out)) hb); clear BK391; clear BK392; clear HB; have BK391 := n0_; have BK392 := n1_; have HB := n2_; clear n0_ n1_ n2_; (try clear hb); (try clear hb2); (try clear hk); (try clear hi); have hcz15_0 : w14.cell? ⟨gb391, 0, none⟩ = some (.slice A0_0 l0_0.length c0_0) := (blk_cell BK391.out 0).trans rfl; have hcz15_1 : w14.cell? ⟨gb391, 1, none⟩ = some (.slice A0_1 l0_1.length c0_1) := (blk_cell BK391.out 1).trans rfl; have hcz15_2 : w14.cell? ⟨gb391, 2, none⟩ = some (.bool a0_2) := (blk_cell BK391.out 2).trans rfl; have hfz15_0 := blk_frozen BK391.out 0; have hfz15_1 := blk_frozen BK391.out 1; have hfz15_2 := blk_frozen BK391.out 2; have hcz16_0 : w14.cell? ⟨gb392, 0, none⟩ = some (.slice A1_0 l1_0.length c1_0) := (blk_cell BK392.out 0).trans rfl; have hcz16_1 : w14.cell? ⟨gb392, 1, none⟩ = some (.slice A1_1 l1_1.length c1_1) := (blk_cell BK392.out 1).trans rfl; have hcz16_2 : w14.cell? ⟨gb392, 2, none⟩ = some (.bool a1_2) := (blk_cell BK392.out 2).trans rfl; have hfz16_0 := blk_frozen BK392.out 0; have hfz16_1 := blk_frozen BK392.out 1; have hfz16_2 := blk_frozen BK392.out 2)))
        go_meet
        case rel => exact ⟨_, (((l0_0.length : Int) != (l1_0.length : Int))), (by first | rfl | (simp; done) | (simp [*]; done)), H', ⟨by first | omega | exact Nat.le_refl _⟩, ⟨by (with_reducible repeat (first | refine blk_drewN ?_ _ | refine blk_drew ?_ | refine blk_alloc ?_ _)); exact BK391.out⟩, ⟨by (with_reducible repeat (first | refine blk_drewN ?_ _ | refine blk_drew ?_ | refine blk_alloc ?_ _)); exact BK392.out⟩, ⟨by repeat (first | (with_reducible first | exact HB.out | apply below_alloc | apply pw_below_drewN | apply below_drew1 | refine below_set ?_ GE391.out | refine below_set ?_ GE392.out) | exact HB.out)⟩⟩
      · replace c9 := Bool.eq_false_iff.mpr c9
        subst c9
        have H1 : (gimballaw11_two.j0 k true l0_0 l0_1 a0_2 l1_0 l1_1 a1_2) = some r := by rw [if_neg (show ¬ (false = true) by decide)] at H; exact H
        clear H
        have H := H1
        clear H1
        have H' := Aside0.mk H
        clear H
        have hnb17 := NB391_392.out
        have hnc17 := NB392_391.out
        have hcz18_0 : w5.cell? ⟨gb391, 0, none⟩ = some (.slice A0_0 l0_0.length c0_0) := (blk_cell BK391.out 0).trans rfl
        have hcz18_1 : w5.cell? ⟨gb391, 1, none⟩ = some (.slice A0_1 l0_1.length c0_1) := (blk_cell BK391.out 1).trans rfl
        have hcz18_2 : w5.cell? ⟨gb391, 2, none⟩ = some (.bool a0_2) := (blk_cell BK391.out 2).trans rfl
        have hfz18_0 := blk_frozen BK391.out 0
        have hfz18_1 := blk_frozen BK391.out 1
        have hfz18_2 := blk_frozen BK391.out 2
        go_wp2_with (first | (go_at_call 19; (with_reducible refine (gimbalref11_Fit.calls _ _ l0_0 _ _ l0_1 a0_2 true _ ?side1 ?side2 ?side3 ?side4 A6.out).mono ?_); (case side1 => repeat (first | exact (Kd.C_below HR0_0.out HB.out) | (with_reducible refine Kd.C_alloc ?_ _) | (with_reducible refine Kd.C_drewN ?_ _) | (with_reducible refine Kd.C_drew ?_))); (case side2 => exact HC0_0.out); (case side3 => repeat (first | exact (Kd.C_below HR0_1.out HB.out) | (with_reducible refine Kd.C_alloc ?_ _) | (with_reducible refine Kd.C_drewN ?_ _) | (with_reducible refine Kd.C_drew ?_))); (case side4 => exact HC0_1.out); rintro e w19 ⟨rfl, hb⟩; have n0_ := Aside0.mk (blk_below (g := gb391) (o := .cells #[.slice A0_0 l0_0.length c0_0, .slice A0_1 l0_1.length c0_1, .bool a0_2] 25 (0, 0)) (by (with_reducible repeat (first | refine blk_drewN ?_ _ | refine blk_drew ?_ | refine blk_alloc ?_ _)); exact BK391.out) hb); have n1_ := Aside0.mk (blk_below (g := gb392) (o := .cells #[.slice A1_0 l1_0.length c1_0, .slice A1_1 l1_1.length c1_1, .bool a1_2] 25 (0, 0)) (by (with_reducible repeat (first | refine blk_drewN ?_ _ | refine blk_drew ?_ | refine blk_alloc ?_ _)); exact BK392.out) hb); have n2_ := Aside0.mk (below_step (by repeat (first | (with_reducible first | exact HB.out | apply below_alloc | apply pw_below_drewN | apply below_drew1 | refine below_set ?_ GE391.out | refine below_set ?_ GE392.out) | exact HB.out)) hb); clear BK391; clear BK392; clear HB; have BK391 := n0_; have BK392 := n1_; have HB := n2_; clear n0_ n1_ n2_; (try clear hb); (try clear hb2); (try clear hk); (try clear hi); have hcz20_0 : w19.cell? ⟨gb392, 0, none⟩ = some (.slice A1_0 l1_0.length c1_0) := (blk_cell BK392.out 0).trans rfl; have hcz20_1 : w19.cell? ⟨gb392, 1, none⟩ = some (.slice A1_1 l1_1.length c1_1) := (blk_cell BK392.out 1).trans rfl; have hcz20_2 : w19.cell? ⟨gb392, 2, none⟩ = some (.bool a1_2) := (blk_cell BK392.out 2).trans rfl; have hfz20_0 := blk_frozen BK392.out 0; have hfz20_1 := blk_frozen BK392.out 1; have hfz20_2 := blk_frozen BK392.out 2) | (go_at_call 19; (with_reducible refine (gimbalref11_Fit.calls _ _ l1_0 _ _ l1_1 a1_2 false _ ?side1 ?side2 ?side3 ?side4 A8.out).mono ?_); (case side1 => repeat (first | exact (Kd.C_below HR1_0.out HB.out) | (with_reducible refine Kd.C_alloc ?_ _) | (with_reducible refine Kd.C_drewN ?_ _) | (with_reducible refine Kd.C_drew ?_))); (case side2 => exact HC1_0.out); (case side3 => repeat (first | exact (Kd.C_below HR1_1.out HB.out) | (with_reducible refine Kd.C_alloc ?_ _) | (with_reducible refine Kd.C_drewN ?_ _) | (with_reducible refine Kd.C_drew ?_))); (case side4 => exact HC1_1.out); rintro e w21 ⟨rfl, hb⟩; have n0_ := Aside0.mk (blk_below (g := gb391) (o := .cells #[.slice A0_0 l0_0.length c0_0, .slice A0_1 l0_1.length c0_1, .bool a0_2] 25 (0, 0)) (by (with_reducible repeat (first | refine blk_drewN ?_ _ | refine blk_drew ?_ | refine blk_alloc ?_ _)); exact BK391.out) hb); have n1_ := Aside0.mk (blk_below (g := gb392) (o := .cells #[.slice A1_0 l1_0.length c1_0, .slice A1_1 l1_1.length c1_1, .bool a1_2] 25 (0, 0)) (by (with_reducible repeat (first | refine blk_drewN ?_ _ | refine blk_drew ?_ | refine blk_alloc ?_ _)); exact BK392.out) hb); have n2_ := Aside0.mk (below_step (by repeat (first | (with_reducible first | exact HB.out | apply below_alloc | apply pw_below_drewN | apply below_drew1 | refine below_set ?_ GE391.out | refine below_set ?_ GE392.out) | exact HB.out)) hb); clear BK391; clear BK392; clear HB; have BK391 := n0_; have BK392 := n1_; have HB := n2_; clear n0_ n1_ n2_; (try clear hb); (try clear hb2); (try clear hk); (try clear hi)))
        repeat (go_quiet (first | (go_at_call 19; (with_reducible refine (gimbalref11_Fit.calls _ _ l0_0 _ _ l0_1 a0_2 true _ ?side1 ?side2 ?side3 ?side4 A6.out).mono ?_); (case side1 => repeat (first | exact (Kd.C_below HR0_0.out HB.out) | (with_reducible refine Kd.C_alloc ?_ _) | (with_reducible refine Kd.C_drewN ?_ _) | (with_reducible refine Kd.C_drew ?_))); (case side2 => exact HC0_0.out); (case side3 => repeat (first | exact (Kd.C_below HR0_1.out HB.out) | (with_reducible refine Kd.C_alloc ?_ _) | (with_reducible refine Kd.C_drewN ?_ _) | (with_reducible refine Kd.C_drew ?_))); (case side4 => exact HC0_1.out); rintro e w19 ⟨rfl, hb⟩; have n0_ := Aside0.mk (blk_below (g := gb391) (o := .cells #[.slice A0_0 l0_0.length c0_0, .slice A0_1 l0_1.length c0_1, .bool a0_2] 25 (0, 0)) (by (with_reducible repeat (first | refine blk_drewN ?_ _ | refine blk_drew ?_ | refine blk_alloc ?_ _)); exact BK391.out) hb); have n1_ := Aside0.mk (blk_below (g := gb392) (o := .cells #[.slice A1_0 l1_0.length c1_0, .slice A1_1 l1_1.length c1_1, .bool a1_2] 25 (0, 0)) (by (with_reducible repeat (first | refine blk_drewN ?_ _ | refine blk_drew ?_ | refine blk_alloc ?_ _)); exact BK392.out) hb); have n2_ := Aside0.mk (below_step (by repeat (first | (with_reducible first | exact HB.out | apply below_alloc | apply pw_below_drewN | apply below_drew1 | refine below_set ?_ GE391.out | refine below_set ?_ GE392.out) | exact HB.out)) hb); clear BK391; clear BK392; clear HB; have BK391 := n0_; have BK392 := n1_; have HB := n2_; clear n0_ n1_ n2_; (try clear hb); (try clear hb2); (try clear hk); (try clear hi); have hcz20_0 : w19.cell? ⟨gb392, 0, none⟩ = some (.slice A1_0 l1_0.length c1_0) := (blk_cell BK392.out 0).trans rfl; have hcz20_1 : w19.cell? ⟨gb392, 1, none⟩ = some (.slice A1_1 l1_1.length c1_1) := (blk_cell BK392.out 1).trans rfl; have hcz20_2 : w19.cell? ⟨gb392, 2, none⟩ = some (.bool a1_2) := (blk_cell BK392.out 2).trans rfl; have hfz20_0 := blk_frozen BK392.out 0; have hfz20_1 := blk_frozen BK392.out 1; have hfz20_2 := blk_frozen BK392.out 2) | (go_at_call 19; (with_reducible refine (gimbalref11_Fit.calls _ _ l1_0 _ _ l1_1 a1_2 false _ ?side1 ?side2 ?side3 ?side4 A8.out).mono ?_); (case side1 => repeat (first | exact (Kd.C_below HR1_0.out HB.out) | (with_reducible refine Kd.C_alloc ?_ _) | (with_reducible refine Kd.C_drewN ?_ _) | (with_reducible refine Kd.C_drew ?_))); (case side2 => exact HC1_0.out); (case side3 => repeat (first | exact (Kd.C_below HR1_1.out HB.out) | (with_reducible refine Kd.C_alloc ?_ _) | (with_reducible refine Kd.C_drewN ?_ _) | (with_reducible refine Kd.C_drew ?_))); (case side4 => exact HC1_1.out); rintro e w21 ⟨rfl, hb⟩; have n0_ := Aside0.mk (blk_below (g := gb391) (o := .cells #[.slice A0_0 l0_0.length c0_0, .slice A0_1 l0_1.length c0_1, .bool a0_2] 25 (0, 0)) (by (with_reducible repeat (first | refine blk_drewN ?_ _ | refine blk_drew ?_ | refine blk_alloc ?_ _)); exact BK391.out) hb); have n1_ := Aside0.mk (blk_below (g := gb392) (o := .cells #[.slice A1_0 l1_0.length c1_0, .slice A1_1 l1_1.length c1_1, .bool a1_2] 25 (0, 0)) (by (with_reducible repeat (first | refine blk_drewN ?_ _ | refine blk_drew ?_ | refine blk_alloc ?_ _)); exact BK392.out) hb); have n2_ := Aside0.mk (below_step (by repeat (first | (with_reducible first | exact HB.out | apply below_alloc | apply pw_below_drewN | apply below_drew1 | refine below_set ?_ GE391.out | refine below_set ?_ GE392.out) | exact HB.out)) hb); clear BK391; clear BK392; clear HB; have BK391 := n0_; have BK392 := n1_; have HB := n2_; clear n0_ n1_ n2_; (try clear hb); (try clear hb2); (try clear hk); (try clear hi))); try go_wp2_with (first | (go_at_call 19; (with_reducible refine (gimbalref11_Fit.calls _ _ l0_0 _ _ l0_1 a0_2 true _ ?side1 ?side2 ?side3 ?side4 A6.out).mono ?_); (case side1 => repeat (first | exact (Kd.C_below HR0_0.out HB.out) | (with_reducible refine Kd.C_alloc ?_ _) | (with_reducible refine Kd.C_drewN ?_ _) | (with_reducible refine Kd.C_drew ?_))); (case side2 => exact HC0_0.out); (case side3 => repeat (first | exact (Kd.C_below HR0_1.out HB.out) | (with_reducible refine Kd.C_alloc ?_ _) | (with_reducible refine Kd.C_drewN ?_ _) | (with_reducible refine Kd.C_drew ?_))); (case side4 => exact HC0_1.out); rintro e w19 ⟨rfl, hb⟩; have n0_ := Aside0.mk (blk_below (g := gb391) (o := .cells #[.slice A0_0 l0_0.length c0_0, .slice A0_1 l0_1.length c0_1, .bool a0_2] 25 (0, 0)) (by (with_reducible repeat (first | refine blk_drewN ?_ _ | refine blk_drew ?_ | refine blk_alloc ?_ _)); exact BK391.out) hb); have n1_ := Aside0.mk (blk_below (g := gb392) (o := .cells #[.slice A1_0 l1_0.length c1_0, .slice A1_1 l1_1.length c1_1, .bool a1_2] 25 (0, 0)) (by (with_reducible repeat (first | refine blk_drewN ?_ _ | refine blk_drew ?_ | refine blk_alloc ?_ _)); exact BK392.out) hb); have n2_ := Aside0.mk (below_step (by repeat (first | (with_reducible first | exact HB.out | apply below_alloc | apply pw_below_drewN | apply below_drew1 | refine below_set ?_ GE391.out | refine below_set ?_ GE392.out) | exact HB.out)) hb); clear BK391; clear BK392; clear HB; have BK391 := n0_; have BK392 := n1_; have HB := n2_; clear n0_ n1_ n2_; (try clear hb); (try clear hb2); (try clear hk); (try clear hi); have hcz20_0 : w19.cell? ⟨gb392, 0, none⟩ = some (.slice A1_0 l1_0.length c1_0) := (blk_cell BK392.out 0).trans rfl; have hcz20_1 : w19.cell? ⟨gb392, 1, none⟩ = some (.slice A1_1 l1_1.length c1_1) := (blk_cell BK392.out 1).trans rfl; have hcz20_2 : w19.cell? ⟨gb392, 2, none⟩ = some (.bool a1_2) := (blk_cell BK392.out 2).trans rfl; have hfz20_0 := blk_frozen BK392.out 0; have hfz20_1 := blk_frozen BK392.out 1; have hfz20_2 := blk_frozen BK392.out 2) | (go_at_call 19; (with_reducible refine (gimbalref11_Fit.calls _ _ l1_0 _ _ l1_1 a1_2 false _ ?side1 ?side2 ?side3 ?side4 A8.out).mono ?_); (case side1 => repeat (first | exact (Kd.C_below HR1_0.out HB.out) | (with_reducible refine Kd.C_alloc ?_ _) | (with_reducible refine Kd.C_drewN ?_ _) | (with_reducible refine Kd.C_drew ?_))); (case side2 => exact HC1_0.out); (case side3 => repeat (first | exact (Kd.C_below HR1_1.out HB.out) | (with_reducible refine Kd.C_alloc ?_ _) | (with_reducible refine Kd.C_drewN ?_ _) | (with_reducible refine Kd.C_drew ?_))); (case side4 => exact HC1_1.out); rintro e w21 ⟨rfl, hb⟩; have n0_ := Aside0.mk (blk_below (g := gb391) (o := .cells #[.slice A0_0 l0_0.length c0_0, .slice A0_1 l0_1.length c0_1, .bool a0_2] 25 (0, 0)) (by (with_reducible repeat (first | refine blk_drewN ?_ _ | refine blk_drew ?_ | refine blk_alloc ?_ _)); exact BK391.out) hb); have n1_ := Aside0.mk (blk_below (g := gb392) (o := .cells #[.slice A1_0 l1_0.length c1_0, .slice A1_1 l1_1.length c1_1, .bool a1_2] 25 (0, 0)) (by (with_reducible repeat (first | refine blk_drewN ?_ _ | refine blk_drew ?_ | refine blk_alloc ?_ _)); exact BK392.out) hb); have n2_ := Aside0.mk (below_step (by repeat (first | (with_reducible first | exact HB.out | apply below_alloc | apply pw_below_drewN | apply below_drew1 | refine below_set ?_ GE391.out | refine below_set ?_ GE392.out) | exact HB.out)) hb); clear BK391; clear BK392; clear HB; have BK391 := n0_; have BK392 := n1_; have HB := n2_; clear n0_ n1_ n2_; (try clear hb); (try clear hb2); (try clear hk); (try clear hi))))
        go_meet
        case rel => exact ⟨_, (true), (by first | rfl | (simp; done) | (simp [*]; done)), H', ⟨by first | omega | exact Nat.le_refl _⟩, ⟨by (with_reducible repeat (first | refine blk_drewN ?_ _ | refine blk_drew ?_ | refine blk_alloc ?_ _)); exact BK391.out⟩, ⟨by (with_reducible repeat (first | refine blk_drewN ?_ _ | refine blk_drew ?_ | refine blk_alloc ?_ _)); exact BK392.out⟩, ⟨by repeat (first | (with_reducible first | exact HB.out | apply below_alloc | apply pw_below_drewN | apply below_drew1 | refine below_set ?_ GE391.out | refine below_set ?_ GE392.out) | exact HB.out)⟩⟩
    · replace c7 := Bool.eq_false_iff.mpr c7
      subst c7
      have H1 : (gimballaw11_two.j0 k true l0_0 l0_1 a0_2 l1_0 l1_1 a1_2) = some r := by rw [if_neg (show ¬ (false = true) by decide)] at H; exact H
      clear H
      have H := H1
      clear H1
      have H' := Aside0.mk H
      clear H
      have hnb22 := NB391_392.out
      have hnc22 := NB392_391.out
      have hcz23_0 : w5.cell? ⟨gb391, 0, none⟩ = some (.slice A0_0 l0_0.length c0_0) := (blk_cell BK391.out 0).trans rfl
      have hcz23_1 : w5.cell? ⟨gb391, 1, none⟩ = some (.slice A0_1 l0_1.length c0_1) := (blk_cell BK391.out 1).trans rfl
      have hcz23_2 : w5.cell? ⟨gb391, 2, none⟩ = some (.bool a0_2) := (blk_cell BK391.out 2).trans rfl
      have hfz23_0 := blk_frozen BK391.out 0
      have hfz23_1 := blk_frozen BK391.out 1
      have hfz23_2 := blk_frozen BK391.out 2
      go_wp2_with (first | (go_at_call 19; (with_reducible refine (gimbalref11_Fit.calls _ _ l0_0 _ _ l0_1 a0_2 false _ ?side1 ?side2 ?side3 ?side4 A6.out).mono ?_); (case side1 => repeat (first | exact (Kd.C_below HR0_0.out HB.out) | (with_reducible refine Kd.C_alloc ?_ _) | (with_reducible refine Kd.C_drewN ?_ _) | (with_reducible refine Kd.C_drew ?_))); (case side2 => exact HC0_0.out); (case side3 => repeat (first | exact (Kd.C_below HR0_1.out HB.out) | (with_reducible refine Kd.C_alloc ?_ _) | (with_reducible refine Kd.C_drewN ?_ _) | (with_reducible refine Kd.C_drew ?_))); (case side4 => exact HC0_1.out); rintro e w24 ⟨rfl, hb⟩; have n0_ := Aside0.mk (blk_below (g := gb391) (o := .cells #[.slice A0_0 l0_0.length c0_0, .slice A0_1 l0_1.length c0_1, .bool a0_2] 25 (0, 0)) (by (with_reducible repeat (first | refine blk_drewN ?_ _ | refine blk_drew ?_ | refine blk_alloc ?_ _)); exact BK391.out) hb); have n1_ := Aside0.mk (blk_below (g := gb392) (o := .cells #[.slice A1_0 l1_0.length c1_0, .slice A1_1 l1_1.length c1_1, .bool a1_2] 25 (0, 0)) (by (with_reducible repeat (first | refine blk_drewN ?_ _ | refine blk_drew ?_ | refine blk_alloc ?_ _)); exact BK392.out) hb); have n2_ := Aside0.mk (below_step (by repeat (first | (with_reducible first | exact HB.out | apply below_alloc | apply pw_below_drewN | apply below_drew1 | refine below_set ?_ GE391.out | refine below_set ?_ GE392.out) | exact HB.out)) hb); clear BK391; clear BK392; clear HB; have BK391 := n0_; have BK392 := n1_; have HB := n2_; clear n0_ n1_ n2_; (try clear hb); (try clear hb2); (try clear hk); (try clear hi)))
      repeat (go_quiet (first | (go_at_call 19; (with_reducible refine (gimbalref11_Fit.calls _ _ l0_0 _ _ l0_1 a0_2 false _ ?side1 ?side2 ?side3 ?side4 A6.out).mono ?_); (case side1 => repeat (first | exact (Kd.C_below HR0_0.out HB.out) | (with_reducible refine Kd.C_alloc ?_ _) | (with_reducible refine Kd.C_drewN ?_ _) | (with_reducible refine Kd.C_drew ?_))); (case side2 => exact HC0_0.out); (case side3 => repeat (first | exact (Kd.C_below HR0_1.out HB.out) | (with_reducible refine Kd.C_alloc ?_ _) | (with_reducible refine Kd.C_drewN ?_ _) | (with_reducible refine Kd.C_drew ?_))); (case side4 => exact HC0_1.out); rintro e w24 ⟨rfl, hb⟩; have n0_ := Aside0.mk (blk_below (g := gb391) (o := .cells #[.slice A0_0 l0_0.length c0_0, .slice A0_1 l0_1.length c0_1, .bool a0_2] 25 (0, 0)) (by (with_reducible repeat (first | refine blk_drewN ?_ _ | refine blk_drew ?_ | refine blk_alloc ?_ _)); exact BK391.out) hb); have n1_ := Aside0.mk (blk_below (g := gb392) (o := .cells #[.slice A1_0 l1_0.length c1_0, .slice A1_1 l1_1.length c1_1, .bool a1_2] 25 (0, 0)) (by (with_reducible repeat (first | refine blk_drewN ?_ _ | refine blk_drew ?_ | refine blk_alloc ?_ _)); exact BK392.out) hb); have n2_ := Aside0.mk (below_step (by repeat (first | (with_reducible first | exact HB.out | apply below_alloc | apply pw_below_drewN | apply below_drew1 | refine below_set ?_ GE391.out | refine below_set ?_ GE392.out) | exact HB.out)) hb); clear BK391; clear BK392; clear HB; have BK391 := n0_; have BK392 := n1_; have HB := n2_; clear n0_ n1_ n2_; (try clear hb); (try clear hb2); (try clear hk); (try clear hi))); try go_wp2_with (first | (go_at_call 19; (with_reducible refine (gimbalref11_Fit.calls _ _ l0_0 _ _ l0_1 a0_2 false _ ?side1 ?side2 ?side3 ?side4 A6.out).mono ?_); (case side1 => repeat (first | exact (Kd.C_below HR0_0.out HB.out) | (with_reducible refine Kd.C_alloc ?_ _) | (with_reducible refine Kd.C_drewN ?_ _) | (with_reducible refine Kd.C_drew ?_))); (case side2 => exact HC0_0.out); (case side3 => repeat (first | exact (Kd.C_below HR0_1.out HB.out) | (with_reducible refine Kd.C_alloc ?_ _) | (with_reducible refine Kd.C_drewN ?_ _) | (with_reducible refine Kd.C_drew ?_))); (case side4 => exact HC0_1.out); rintro e w24 ⟨rfl, hb⟩; have n0_ := Aside0.mk (blk_below (g := gb391) (o := .cells #[.slice A0_0 l0_0.length c0_0, .slice A0_1 l0_1.length c0_1, .bool a0_2] 25 (0, 0)) (by (with_reducible repeat (first | refine blk_drewN ?_ _ | refine blk_drew ?_ | refine blk_alloc ?_ _)); exact BK391.out) hb); have n1_ := Aside0.mk (blk_below (g := gb392) (o := .cells #[.slice A1_0 l1_0.length c1_0, .slice A1_1 l1_1.length c1_1, .bool a1_2] 25 (0, 0)) (by (with_reducible repeat (first | refine blk_drewN ?_ _ | refine blk_drew ?_ | refine blk_alloc ?_ _)); exact BK392.out) hb); have n2_ := Aside0.mk (below_step (by repeat (first | (with_reducible first | exact HB.out | apply below_alloc | apply pw_below_drewN | apply below_drew1 | refine below_set ?_ GE391.out | refine below_set ?_ GE392.out) | exact HB.out)) hb); clear BK391; clear BK392; clear HB; have BK391 := n0_; have BK392 := n1_; have HB := n2_; clear n0_ n1_ n2_; (try clear hb); (try clear hb2); (try clear hk); (try clear hi))))
      go_meet
      case rel => exact ⟨_, (true), (by first | rfl | (simp; done) | (simp [*]; done)), H', ⟨by first | omega | exact Nat.le_refl _⟩, ⟨by (with_reducible repeat (first | refine blk_drewN ?_ _ | refine blk_drew ?_ | refine blk_alloc ?_ _)); exact BK391.out⟩, ⟨by (with_reducible repeat (first | refine blk_drewN ?_ _ | refine blk_drew ?_ | refine blk_alloc ?_ _)); exact BK392.out⟩, ⟨by repeat (first | (with_reducible first | exact HB.out | apply below_alloc | apply pw_below_drewN | apply below_drew1 | refine below_set ?_ GE391.out | refine below_set ?_ GE392.out) | exact HB.out)⟩⟩
  case rest =>
    clear HC3
    try clear c1
    try clear c2
    try clear p2
    try clear c3
    try clear c7
    try clear c9
    try clear c10
    try clear c17
    try clear c22
    try clear hcz11_0
    try clear hcz11_1
    try clear hcz11_2
    try clear hcz13_0
    try clear hcz13_1
    try clear hcz13_2
    try clear hcz15_0
    try clear hcz15_1
    try clear hcz15_2
    try clear hcz16_0
    try clear hcz16_1
    try clear hcz16_2
    try clear hcz18_0
    try clear hcz18_1
    try clear hcz18_2
    try clear hcz20_0
    try clear hcz20_1
    try clear hcz20_2
    try clear hcz23_0
    try clear hcz23_1
    try clear hcz23_2
    try clear hfz11_0
    try clear hfz11_1
    try clear hfz11_2
    try clear hfz13_0
    try clear hfz13_1
    try clear hfz13_2
    try clear hfz15_0
    try clear hfz15_1
    try clear hfz15_2
    try clear hfz16_0
    try clear hfz16_1
    try clear hfz16_2
    try clear hfz18_0
    try clear hfz18_1
    try clear hfz18_2
    try clear hfz20_0
    try clear hfz20_1
    try clear hfz20_2
    try clear hfz23_0
    try clear hfz23_1
    try clear hfz23_2
    obtain ⟨kq, x22_2, rfl, HA, HJ2, BK391, BK392, HB⟩ := hcut
    cases kq with
    | zero => exact absurd HA.out (by simp [gimballaw11_two.j0])
    | succ kj2 =>
      have H := HA.out
      clear HA
      simp only [gimballaw11_two.j0] at H
      by_cases c25 : x22_2 = true
      · subst c25
        have H1 : (some false) = some r := by rw [if_pos rfl] at H; exact H
        clear H
        have H := H1
        clear H1
        obtain rfl := Option.some.inj H
        go_wp2
        repeat (go_quiet (fail); try go_wp2)
        go_ret
        exact ⟨by first | rfl | (simp [errW_none, errW_some] <;> rfl) | (simp [*, errW_none, errW_some] <;> rfl) | (simp [wrap64]; done), by repeat (first | (with_reducible first | exact HB.out | apply below_alloc | apply pw_below_drewN | apply below_drew1 | refine below_set ?_ GE391.out | refine below_set ?_ GE392.out) | exact HB.out)⟩
      · replace c25 := Bool.eq_false_iff.mpr c25
        subst c25
        have H1 : (gimballaw11_two.l0 kj2 (l0_0.length : Int) 0 l0_0 l0_1 a0_2 l1_0 l1_1 a1_2) = some r := by rw [if_neg (show ¬ (false = true) by decide)] at H; exact H
        clear H
        have H := H1
        clear H1
        have H' := Aside0.mk H
        clear H
        have hnb26 := NB391_392.out
        have hnc26 := NB392_391.out
        have hcz27_0 : wc.cell? ⟨gb391, 0, none⟩ = some (.slice A0_0 l0_0.length c0_0) := (blk_cell BK391.out 0).trans rfl
        have hcz27_1 : wc.cell? ⟨gb391, 1, none⟩ = some (.slice A0_1 l0_1.length c0_1) := (blk_cell BK391.out 1).trans rfl
        have hcz27_2 : wc.cell? ⟨gb391, 2, none⟩ = some (.bool a0_2) := (blk_cell BK391.out 2).trans rfl
        have hfz27_0 := blk_frozen BK391.out 0
        have hfz27_1 := blk_frozen BK391.out 1
        have hfz27_2 := blk_frozen BK391.out 2
        go_wp2
        repeat (go_quiet (fail); try go_wp2)
        go_loopg [26] kj2 (fun kq v26 w' => ∃ (x26_2 : Int), v26 = .int .i64 x26_2 ∧ Aside0 (gimballaw11_two.l0 kq (l0_0.length : Int) x26_2 l0_0 l0_1 a0_2 l1_0 l1_1 a1_2 = some r) ∧ Aside0 (kq ≤ kj2) ∧ Aside0 (w'.heap[gb391]? = some (.cells #[(.slice A0_0 l0_0.length c0_0), (.slice A0_1 l0_1.length c0_1), .bool a0_2] 25 (0, 0))) ∧ Aside0 (w'.heap[gb392]? = some (.cells #[(.slice A1_0 l1_0.length c1_0), (.slice A1_1 l1_1.length c1_1), .bool a1_2] 25 (0, 0))) ∧ Aside0 (Below w.heap.size w w'))
        case atStart => exact ⟨(0), (by first | rfl | (simp; done) | (simp [*]; done)), H', ⟨Nat.le_refl _⟩, ⟨by (with_reducible repeat (first | refine blk_drewN ?_ _ | refine blk_drew ?_ | refine blk_alloc ?_ _)); exact BK391.out⟩, ⟨by (with_reducible repeat (first | refine blk_drewN ?_ _ | refine blk_drew ?_ | refine blk_alloc ?_ _)); exact BK392.out⟩, ⟨by repeat (first | (with_reducible first | exact HB.out | apply below_alloc | apply pw_below_drewN | apply below_drew1 | refine below_set ?_ GE391.out | refine below_set ?_ GE392.out) | exact HB.out)⟩⟩
        case round =>
          clear H'
          try clear c1
          try clear c2
          try clear p2
          try clear c3
          try clear p6
          try clear c7
          try clear c9
          try clear c10
          try clear c17
          try clear c22
          try clear c25
          try clear c26
          try clear hcz11_0
          try clear hcz11_1
          try clear hcz11_2
          try clear hcz13_0
          try clear hcz13_1
          try clear hcz13_2
          try clear hcz15_0
          try clear hcz15_1
          try clear hcz15_2
          try clear hcz16_0
          try clear hcz16_1
          try clear hcz16_2
          try clear hcz18_0
          try clear hcz18_1
          try clear hcz18_2
          try clear hcz20_0
          try clear hcz20_1
          try clear hcz20_2
          try clear hcz23_0
          try clear hcz23_1
          try clear hcz23_2
          try clear hcz27_0
          try clear hcz27_1
          try clear hcz27_2
          try clear hfz11_0
          try clear hfz11_1
          try clear hfz11_2
          try clear hfz13_0
          try clear hfz13_1
          try clear hfz13_2
          try clear hfz15_0
          try clear hfz15_1
          try clear hfz15_2
          try clear hfz16_0
          try clear hfz16_1
          try clear hfz16_2
          try clear hfz18_0
          try clear hfz18_1
          try clear hfz18_2
          try clear hfz20_0
          try clear hfz20_1
          try clear hfz20_2
          try clear hfz23_0
          try clear hfz23_1
          try clear hfz23_2
          try clear hfz27_0
          try clear hfz27_1
          try clear hfz27_2
          try clear p2
          obtain ⟨x26_2, rfl, HA, HK2, BK391, BK392, HB⟩ := hrel
          cases gk with
          | zero => exact absurd HA.out (by simp [gimballaw11_two.l0])
          | succ k2 =>
            have H := HA.out
            clear HA
            simp only [gimballaw11_two.l0] at H
            by_cases c28 : x26_2 < (l0_0.length : Int)
            · rw [if_pos c28] at H
              have c28b0 : decide (x26_2 < (l0_0.length : Int)) = true := decide_eq_true c28
              clear c28
              by_cases c29 : 0 ≤ x26_2
              · rw [if_pos c29] at H
                have c29b0 : decide (0 ≤ x26_2) = true := decide_eq_true c29
                clear c29
                by_cases c30 : x26_2 < (l0_0.length : Int)
                · rw [if_pos c30] at H
                  have c30b0 : decide (x26_2 < (l0_0.length : Int)) = true := decide_eq_true c30
                  clear c30
                  by_cases c31 : x26_2 < (l1_0.length : Int)
                  · rw [if_pos c31] at H
                    have c31b0 : decide (x26_2 < (l1_0.length : Int)) = true := decide_eq_true c31
                    clear c31
                    by_cases c32 : (rd l0_0 x26_2) = (rd l1_0 x26_2)
                    · rw [if_pos c32] at H
                      have c32b0 : ((rd l0_0 x26_2) == (rd l1_0 x26_2)) = true := beq_iff_eq.mpr c32
                      have c32b1 : ((rd l0_0 x26_2) != (rd l1_0 x26_2)) = false := bne_eq_false_iff_eq.mpr c32
                      clear c32
                      have H' := Aside0.mk H
                      clear H
                      have hnb33 := NB391_392.out
                      have hnc33 := NB392_391.out
                      have hcz34_0 : wr.cell? ⟨gb391, 0, none⟩ = some (.slice A0_0 l0_0.length c0_0) := (blk_cell BK391.out 0).trans rfl
                      have hcz34_1 : wr.cell? ⟨gb391, 1, none⟩ = some (.slice A0_1 l0_1.length c0_1) := (blk_cell BK391.out 1).trans rfl
                      have hcz34_2 : wr.cell? ⟨gb391, 2, none⟩ = some (.bool a0_2) := (blk_cell BK391.out 2).trans rfl
                      have hfz34_0 := blk_frozen BK391.out 0
                      have hfz34_1 := blk_frozen BK391.out 1
                      have hfz34_2 := blk_frozen BK391.out 2
                      have p395 : 0 ≤ (x26_2 : Int) := of_decide_eq_true (by first | (with_reducible assumption) | assumption)
                      have q395 : x26_2 < (l0_0.length : Int) := of_decide_eq_true (by first | (with_reducible assumption) | assumption)
                      obtain ⟨ad395, e395, hx395_0⟩ := Kd.at_int HR0_0.out x26_2 p395 q395
                      cases e395
                      replace hx395_0 := (HB.out.cell (World.block_lt_of_cell? w _ hx395_0)).trans hx395_0
                      replace p395 := eq_true p395
                      replace q395 := eq_true q395
                      have hcz35_0 : wr.cell? ⟨gb392, 0, none⟩ = some (.slice A1_0 l1_0.length c1_0) := (blk_cell BK392.out 0).trans rfl
                      have hcz35_1 : wr.cell? ⟨gb392, 1, none⟩ = some (.slice A1_1 l1_1.length c1_1) := (blk_cell BK392.out 1).trans rfl
                      have hcz35_2 : wr.cell? ⟨gb392, 2, none⟩ = some (.bool a1_2) := (blk_cell BK392.out 2).trans rfl
                      have hfz35_0 := blk_frozen BK392.out 0
                      have hfz35_1 := blk_frozen BK392.out 1
                      have hfz35_2 := blk_frozen BK392.out 2
                      have p396 : 0 ≤ (x26_2 : Int) := of_decide_eq_true (by first | (with_reducible assumption) | assumption)
                      have q396 : x26_2 < (l1_0.length : Int) := of_decide_eq_true (by first | (with_reducible assumption) | assumption)
                      obtain ⟨ad396, e396, hx396_0⟩ := Kd.at_int HR1_0.out x26_2 p396 q396
                      cases e396
                      replace hx396_0 := (HB.out.cell (World.block_lt_of_cell? w _ hx396_0)).trans hx396_0
                      replace p396 := eq_true p396
                      replace q396 := eq_true q396
                      go_wp2
                      repeat (go_quiet (fail); try go_wp2)
                      go_roundg k2
                      case measure => have := HJ2.out; have := HK2.out; omega
                      case rel => exact ⟨(wrap64 (x26_2 + 1)), (by first | rfl | (simp; done) | (simp [*]; done)), H', ⟨by have := HJ2.out; have := HK2.out; omega⟩, ⟨by (with_reducible repeat (first | refine blk_drewN ?_ _ | refine blk_drew ?_ | refine blk_alloc ?_ _)); exact BK391.out⟩, ⟨by (with_reducible repeat (first | refine blk_drewN ?_ _ | refine blk_drew ?_ | refine blk_alloc ?_ _)); exact BK392.out⟩, ⟨by repeat (first | (with_reducible first | exact HB.out | apply below_alloc | apply pw_below_drewN | apply below_drew1 | refine below_set ?_ GE391.out | refine below_set ?_ GE392.out) | exact HB.out)⟩⟩
                    · rw [if_neg c32] at H
                      have c32b0 : ((rd l0_0 x26_2) == (rd l1_0 x26_2)) = false := beq_eq_false_iff_ne.mpr c32
                      have c32b1 : ((rd l0_0 x26_2) != (rd l1_0 x26_2)) = true := bne_iff_ne.mpr c32
                      obtain rfl := Option.some.inj H
                      have hnb36 := NB391_392.out
                      have hnc36 := NB392_391.out
                      have hcz37_0 : wr.cell? ⟨gb391, 0, none⟩ = some (.slice A0_0 l0_0.length c0_0) := (blk_cell BK391.out 0).trans rfl
                      have hcz37_1 : wr.cell? ⟨gb391, 1, none⟩ = some (.slice A0_1 l0_1.length c0_1) := (blk_cell BK391.out 1).trans rfl
                      have hcz37_2 : wr.cell? ⟨gb391, 2, none⟩ = some (.bool a0_2) := (blk_cell BK391.out 2).trans rfl
                      have hfz37_0 := blk_frozen BK391.out 0
                      have hfz37_1 := blk_frozen BK391.out 1
                      have hfz37_2 := blk_frozen BK391.out 2
                      have p395 : 0 ≤ (x26_2 : Int) := of_decide_eq_true (by first | (with_reducible assumption) | assumption)
                      have q395 : x26_2 < (l0_0.length : Int) := of_decide_eq_true (by first | (with_reducible assumption) | assumption)
                      obtain ⟨ad395, e395, hx395_0⟩ := Kd.at_int HR0_0.out x26_2 p395 q395
                      cases e395
                      replace hx395_0 := (HB.out.cell (World.block_lt_of_cell? w _ hx395_0)).trans hx395_0
                      replace p395 := eq_true p395
                      replace q395 := eq_true q395
                      have hcz38_0 : wr.cell? ⟨gb392, 0, none⟩ = some (.slice A1_0 l1_0.length c1_0) := (blk_cell BK392.out 0).trans rfl
                      have hcz38_1 : wr.cell? ⟨gb392, 1, none⟩ = some (.slice A1_1 l1_1.length c1_1) := (blk_cell BK392.out 1).trans rfl
                      have hcz38_2 : wr.cell? ⟨gb392, 2, none⟩ = some (.bool a1_2) := (blk_cell BK392.out 2).trans rfl
                      have hfz38_0 := blk_frozen BK392.out 0
                      have hfz38_1 := blk_frozen BK392.out 1
                      have hfz38_2 := blk_frozen BK392.out 2
                      have p396 : 0 ≤ (x26_2 : Int) := of_decide_eq_true (by first | (with_reducible assumption) | assumption)
                      have q396 : x26_2 < (l1_0.length : Int) := of_decide_eq_true (by first | (with_reducible assumption) | assumption)
                      obtain ⟨ad396, e396, hx396_0⟩ := Kd.at_int HR1_0.out x26_2 p396 q396
                      cases e396
                      replace hx396_0 := (HB.out.cell (World.block_lt_of_cell? w _ hx396_0)).trans hx396_0
                      replace p396 := eq_true p396
                      replace q396 := eq_true q396
                      go_wp2
                      repeat (go_quiet (fail); try go_wp2)
                      go_ret
                      exact ⟨by first | rfl | (simp [errW_none, errW_some] <;> rfl) | (simp [*, errW_none, errW_some] <;> rfl) | (simp [wrap64]; done), by repeat (first | (with_reducible first | exact HB.out | apply below_alloc | apply pw_below_drewN | apply below_drew1 | refine below_set ?_ GE391.out | refine below_set ?_ GE392.out) | exact HB.out)⟩
                  · rw [if_neg c31] at H
                    exact absurd H (by simp)
                · rw [if_neg c30] at H
                  exact absurd H (by simp)
              · rw [if_neg c29] at H
                exact absurd H (by simp)
            · rw [if_neg c28] at H
              have c28b0 : decide (x26_2 < (l0_0.length : Int)) = false := decide_eq_false c28
              clear c28
              obtain rfl := Option.some.inj H
              go_wp2
              repeat (go_quiet (fail); try go_wp2)
              go_ret
              exact ⟨by first | rfl | (simp [errW_none, errW_some] <;> rfl) | (simp [*, errW_none, errW_some] <;> rfl) | (simp [wrap64]; done), by repeat (first | (with_reducible first | exact HB.out | apply below_alloc | apply pw_below_drewN | apply below_drew1 | refine below_set ?_ GE391.out | refine below_set ?_ GE392.out) | exact HB.out)⟩
end Go.Proofs.Ytomgebmimgaojaa.QO
end
end
section
/- Two octagons over the same scalars, told so. -/
noncomputable section
namespace Go.Proofs.Ytomgebmimgaojaa.Pure
open Go.RowKit Go.Proofs.Ytomgebmimgaojaa.QO Go.Proofs.YtomgebmimgaojaaW.PrintWords Go.Proofs.YtomgebmimgaojaaW.PrintLast Go.Proofs.YtomgebmimgaojaaW.PrintMore
namespace Two
theorem rd_ext {a b : List Int} (hl : a.length = b.length) (h : ∀ j : Nat, j < a.length → rd a (j : Int) = rd b (j : Int)) : b = a := by
  apply List.ext_getElem hl.symm
  intro j h1 h2
  have := h j h2
  unfold rd at this
  simpa [h1, h2] using this.symm
theorem l0_ev (v m : List Int) (e : Bool) (v' m' : List Int) (e' : Bool) (hl : v.length = v'.length) (hb : v.length < 4611686018427387904) : ∀ (d i : Nat), i + d = v.length → (∀ j : Nat, j < i → rd v (j : Int) = rd v' (j : Int)) →
    ∃ b, Ev (fun k => gimballaw11_two.l0 k (v.length : Int) (i : Int) v m e v' m' e') b ∧ (b = true → v' = v) := by
  intro d
  induction d with
  | zero =>
    intro i h hj
    refine ⟨true, Ev.step (fun k => by rw [gimballaw11_two.l0]) (Ev.congr (fun k => if_neg (by omega)) (Ev.of _)), fun _ => rd_ext hl (fun j h1 => hj j (by omega))⟩
  | succ d ih =>
    intro i h hj
    have w1 : wrap64 ((i : Int) + 1) = ((i + 1 : Nat) : Int) := by unfold wrap64; omega
    by_cases he : rd v (i : Int) = rd v' (i : Int)
    · obtain ⟨b, h1, h2⟩ := ih (i + 1) (by omega) (fun j h3 => by
        by_cases ej : j = i
        · subst ej; exact he
        · exact hj j (by omega))
      refine ⟨b, Ev.step (fun k => by rw [gimballaw11_two.l0]) (Ev.congr (fun k => (if_pos (by omega)).trans ((if_pos (by omega)).trans ((if_pos (by omega)).trans ((if_pos (by omega)).trans (if_pos he))))) ?_), h2⟩
      rw [w1]; exact h1
    · exact ⟨false, Ev.step (fun k => by rw [gimballaw11_two.l0]) (Ev.congr (fun k => (if_pos (by omega)).trans ((if_pos (by omega)).trans ((if_pos (by omega)).trans ((if_pos (by omega)).trans (if_neg he))))) (Ev.of _)), fun h => (by cases h)⟩
theorem two_ev (v m : List Int) (e : Bool) (v' m' : List Int) (e' : Bool) (hv : v.length ≤ 17592186044416) (hv' : v'.length ≤ 17592186044416) :
    ∃ b, Ev (fun k => gimballaw11_two.f k v m e v' m' e') b ∧ (b = true → OFit v m e ∧ OFit v' m' e' ∧ v' = v) := by
  have bad : Ev (fun k => gimballaw11_two.j0 k true v m e v' m' e') false := Ev.step (fun k => by rw [gimballaw11_two.j0]) (Ev.congr (fun k => if_pos rfl) (Ev.of _))
  cases hf : ofitB v m e with
  | false =>
    refine ⟨false, Ev.congr (fun k => ?_) bad, fun h => (by cases h)⟩
    unfold gimballaw11_two.f gimbalref11_Fit.f
    rw [hf, if_pos hv]; rfl
  | true =>
    cases hf' : ofitB v' m' e' with
    | false =>
      refine ⟨false, Ev.congr (fun k => ?_) bad, fun h => (by cases h)⟩
      unfold gimballaw11_two.f gimbalref11_Fit.f
      rw [hf, hf', if_pos hv, if_pos hv']; rfl
    | true =>
      by_cases hl : v.length = v'.length
      · obtain ⟨b, h1, h2⟩ := l0_ev v m e v' m' e' hl (by omega) v.length 0 (by omega) (fun j h => by omega)
        refine ⟨b, Ev.congr (h := fun k => gimballaw11_two.j0 k false v m e v' m' e') (fun k => ?_) (Ev.step (fun k => by rw [gimballaw11_two.j0, if_neg (by decide)]; rfl) h1), fun h => ⟨ofitB_true.1 hf, ofitB_true.1 hf', h2 h⟩⟩
        unfold gimballaw11_two.f gimbalref11_Fit.f
        rw [hf, hf', if_pos hv, if_pos hv', hl]; simp
      · refine ⟨false, Ev.congr (fun k => ?_) bad, fun h => (by cases h)⟩
        unfold gimballaw11_two.f gimbalref11_Fit.f
        rw [hf, hf', if_pos hv, if_pos hv']
        have : ((v.length : Int) != (v'.length : Int)) = true := bne_iff_ne.mpr (by omega)
        rw [this]; rfl
end Two
end Go.Proofs.Ytomgebmimgaojaa.Pure
end
end
section
/- Written by a program of this session out of the translation. -/
noncomputable section
namespace Go.Proofs.Ytomgebmimgaojaa.QO
open Go.RowKit Go.Proofs.YtomgebmimgaojaaW.PrintWords Go.Proofs.YtomgebmimgaojaaW.PrintLast
set_option linter.unusedVariables false
set_option linter.unusedSimpArgs false
/-! ### dbm_New: function 48 -/
mutual
def dbm_New.j0 : Nat → Int → Bool → Option (List Int)
 | 0, _, _ => none
 | k + 1, x0, x16 => if x16 = true then (some ([] : List Int)) else (if 0 ≤ (wrap64 (x0 * x0)) then (if (wrap64 (x0 * x0) : Int).toNat ≤ 35184372088832 then ((some (List.replicate (wrap64 (x0 * x0) : Int).toNat 0 : List Int)).bind fun y107 => (dbm_New.l0 k x0 y107 (y107.length : Int) 0)) else (none)) else (none))
def dbm_New.l0 : Nat → Int → List Int → Int → Int → Option (List Int)
 | 0, _, _, _, _ => none
 | k + 1, x0, x3, x22, x23 => if x23 < x22 then (if 0 ≤ x23 then (if x23 < (x3.length : Int) then (dbm_New.l0 k x0 (x3.set (x23 : Int).toNat 4611686018427387904) x22 (wrap64 (x23 + 1))) else (none)) else (none)) else (dbm_New.l1 k x0 x3 x0 0)
def dbm_New.l1 : Nat → Int → List Int → Int → Int → Option (List Int)
 | 0, _, _, _, _ => none
 | k + 1, x0, x3, x30, x31 => if x31 < x30 then (if 0 ≤ (wrap64 ((wrap64 (x31 * x0)) + x31)) then (if (wrap64 ((wrap64 (x31 * x0)) + x31)) < (x3.length : Int) then (dbm_New.l1 k x0 (x3.set ((wrap64 ((wrap64 (x31 * x0)) + x31)) : Int).toNat 0) x30 (wrap64 (x31 + 1))) else (none)) else (none)) else (some x3)
end
def dbm_New.f (k : Nat) (a0 : Int) : Option (List Int) := if a0 < 0 then (dbm_New.j0 k a0 true) else (if a0 > 16 then (dbm_New.j0 k a0 true) else (dbm_New.j0 k a0 ((Int.tmod a0 2) != 0)))
theorem dbm_New.mono_l : ∀ k, (∀ y0 y1, LeO (dbm_New.j0 k y0 y1) (dbm_New.j0 (k + 1) y0 y1)) ∧ (∀ y0 y1 y2 y3, LeO (dbm_New.l0 k y0 y1 y2 y3) (dbm_New.l0 (k + 1) y0 y1 y2 y3)) ∧ (∀ y0 y1 y2 y3, LeO (dbm_New.l1 k y0 y1 y2 y3) (dbm_New.l1 (k + 1) y0 y1 y2 y3))
 | 0 => ⟨fun _ _ r h => by simp [dbm_New.j0] at h, fun _ _ _ _ r h => by simp [dbm_New.l0] at h, fun _ _ _ _ r h => by simp [dbm_New.l1] at h⟩
 | k + 1 => by
  obtain ⟨ih0, ih1, ih2⟩ := dbm_New.mono_l k
  refine ⟨?_, ?_, ?_⟩
  ·
   intro y0 y1
   unfold dbm_New.j0
   repeat' first
   | (with_reducible exact ih0 _ _)
   | (with_reducible exact ih1 _ _ _ _)
   | (with_reducible exact ih2 _ _ _ _)
   | (with_reducible exact LeO.refl _)
   | (with_reducible exact LeO.none _)
   | (with_reducible refine LeO.ite ?_ ?_)
   | (with_reducible refine LeO.bind ?_ (fun _ => ?_))
   | exact ih0 _ _
   | exact ih1 _ _ _ _
   | exact ih2 _ _ _ _
   | exact LeO.none _
   | refine LeO.ite ?_ ?_
   | refine LeO.bind ?_ (fun _ => ?_)
  ·
   intro y0 y1 y2 y3
   unfold dbm_New.l0
   repeat' first
   | (with_reducible exact ih0 _ _)
   | (with_reducible exact ih1 _ _ _ _)
   | (with_reducible exact ih2 _ _ _ _)
   | (with_reducible exact LeO.refl _)
   | (with_reducible exact LeO.none _)
   | (with_reducible refine LeO.ite ?_ ?_)
   | (with_reducible refine LeO.bind ?_ (fun _ => ?_))
   | exact ih0 _ _
   | exact ih1 _ _ _ _
   | exact ih2 _ _ _ _
   | exact LeO.none _
   | refine LeO.ite ?_ ?_
   | refine LeO.bind ?_ (fun _ => ?_)
  ·
   intro y0 y1 y2 y3
   unfold dbm_New.l1
   repeat' first
   | (with_reducible exact ih0 _ _)
   | (with_reducible exact ih1 _ _ _ _)
   | (with_reducible exact ih2 _ _ _ _)
   | (with_reducible exact LeO.refl _)
   | (with_reducible exact LeO.none _)
   | (with_reducible refine LeO.ite ?_ ?_)
   | (with_reducible refine LeO.bind ?_ (fun _ => ?_))
   | exact ih0 _ _
   | exact ih1 _ _ _ _
   | exact ih2 _ _ _ _
   | exact LeO.none _
   | refine LeO.ite ?_ ?_
   | refine LeO.bind ?_ (fun _ => ?_)
theorem dbm_New.mono : ∀ a0 k, LeO (dbm_New.f k a0) (dbm_New.f (k + 1) a0) := by
 intro a0 k
 obtain ⟨ih0, ih1, ih2⟩ := dbm_New.mono_l k
 unfold dbm_New.f
 repeat' first
  | (with_reducible exact ih0 _ _)
  | (with_reducible exact ih1 _ _ _ _)
  | (with_reducible exact ih2 _ _ _ _)
  | (with_reducible exact LeO.refl _)
  | (with_reducible exact LeO.none _)
  | (with_reducible refine LeO.ite ?_ ?_)
  | (with_reducible refine LeO.bind ?_ (fun _ => ?_))
  | exact ih0 _ _
  | exact ih1 _ _ _ _
  | exact ih2 _ _ _ _
  | exact LeO.none _
  | refine LeO.ite ?_ ?_
  | refine LeO.bind ?_ (fun _ => ?_)
set_option maxHeartbeats 8000000 in
set_option maxRecDepth 100000 in
theorem dbm_New.calls (k : Nat) (a0 : Int) (r : List Int) (w : World) (h : dbm_New.f k a0 = some r) :
 Calls Try.prog 48 #[.int .i64 a0] w fun e w' => ∃ v0_ : Value, e = .returned (v0_) ∧ Kd.R (Kd.int .i64) 2 w' w.heap.size (fun _ => True) v0_ r ∧ Below w.heap.size w w' := by
 have HB := Aside0.mk (Below.refl w.heap.size w)
 have H : (if a0 < 0 then (dbm_New.j0 k a0 true) else (if a0 > 16 then (dbm_New.j0 k a0 true) else (dbm_New.j0 k a0 ((Int.tmod a0 2) != 0)))) = some r := h
 clear h
 have HC2 := Aside0.mk H
 clear H
 go_enter Try.func48, Try.ntmps48
 go_upto_region 1 with (fail)
 go_cut [16] (fun v16 wc => ∃ (kq : Nat) (x16_1 : Bool), v16 = .bool x16_1 ∧ Aside0 (dbm_New.j0 kq a0 x16_1 = some r) ∧ Aside0 (kq ≤ k) ∧ Aside0 (Below w.heap.size w wc))
 case first =>
  have H := HC2.out
  clear HC2
  by_cases c3 : a0 < 0
  ·
   rw [if_pos c3] at H
   have c3b0 : decide (a0 < 0) = true := decide_eq_true c3
   clear c3
   (first | rw [c3b0] | (simp only [i64_w, i32_w]; rw [c3b0]) | skip)
   have H' := Aside0.mk H
   clear H
   go_wp2
   go_meet
   case rel => exact ⟨_, (true), (by first | rfl | (simp; done) | (simp [*]; done)), H', ⟨by first | omega | exact Nat.le_refl _⟩, ⟨vW HB.out⟩⟩
  ·
   rw [if_neg c3] at H
   have c3b0 : decide (a0 < 0) = false := decide_eq_false c3
   clear c3
   (first | rw [c3b0] | (simp only [i64_w, i32_w]; rw [c3b0]) | skip)
   by_cases c4 : a0 > 16
   ·
    rw [if_pos c4] at H
    have c4b0 : decide (16 < a0) = true := decide_eq_true c4
    clear c4
    have H' := Aside0.mk H
    clear H
    go_wp2
    go_meet
    case rel => exact ⟨_, (true), (by first | rfl | (simp; done) | (simp [*]; done)), H', ⟨by first | omega | exact Nat.le_refl _⟩, ⟨vW HB.out⟩⟩
   ·
    rw [if_neg c4] at H
    have c4b0 : decide (16 < a0) = false := decide_eq_false c4
    clear c4
    have H' := Aside0.mk H
    clear H
    go_wp2
    go_meet
    case rel => exact ⟨_, (((Int.tmod a0 2) != 0)), (by first | rfl | (simp; done) | (simp [*]; done)), H', ⟨by first | omega | exact Nat.le_refl _⟩, ⟨vW HB.out⟩⟩
 case rest =>
  clear HC2
  try clear p2
  try clear c3
  try clear c3b0
  try clear c4
  try clear c4b0
  obtain ⟨kq, x16_1, rfl, HA, HJ1, HB⟩ := hcut
  cases kq with
  | zero => exact absurd HA.out (by simp [dbm_New.j0])
  | succ kj1 =>
   have H := HA.out
   clear HA
   simp only [dbm_New.j0] at H
   by_cases c5 : x16_1 = true
   ·
    subst c5
    have H1 : (some ([] : List Int)) = some r := by rw [if_pos rfl] at H; exact H
    clear H
    have H := H1
    clear H1
    obtain rfl := Option.some.inj H
    go_wp2
    go_ret
    exact ⟨_, by first | rfl | (simp [errW_none, errW_some] <;> rfl) | (simp [*, errW_none, errW_some] <;> rfl) | (simp [wrap64]; done), by first | exact Kd.R_nil _ _ _ _ _ | exact Kd.N_nil _ _ _ _ _ | exact Kd.V_nil _ _ _ _ _ | exact Kd.Q_nil _ _ _ _ _ | exact Kd.S_nil _ _ _ _ _, vW HB.out⟩
   ·
    replace c5 := Bool.eq_false_iff.mpr c5
    subst c5
    have H1 : (if 0 ≤ (wrap64 (a0 * a0)) then (if (wrap64 (a0 * a0) : Int).toNat ≤ 35184372088832 then ((some (List.replicate (wrap64 (a0 * a0) : Int).toNat 0 : List Int)).bind fun y107 => (dbm_New.l0 kj1 a0 y107 (y107.length : Int) 0)) else (none)) else (none)) = some r := by rw [if_neg (show ¬ (false = true) by decide)] at H; exact H
    clear H
    have H := H1
    clear H1
    obtain ⟨ji6, hji6⟩ : ∃ j_ : Int, (wrap64 (a0 * a0)) = j_ := ⟨_, rfl⟩
    replace H : (if 0 ≤ (ji6) then (if (ji6 : Int).toNat ≤ 35184372088832 then ((some (List.replicate (ji6 : Int).toNat 0 : List Int)).bind fun y107 => (dbm_New.l0 kj1 a0 y107 (y107.length : Int) 0)) else (none)) else (none)) = some r := by first | (rw [hji6] at H; exact H) | (simp only [hji6] at H ⊢; exact H)
    have hji6w : (IntKind.i64.wrap (a0 * a0)) = ji6 := (i64_w _).trans hji6
    by_cases c7 : 0 ≤ (ji6)
    ·
     rw [if_pos c7] at H
     have c7b0 := eq_true c7
     have c7b1 : decide (0 ≤ (ji6)) = true := decide_eq_true c7
     clear c7
     by_cases c8 : (ji6 : Int).toNat ≤ 35184372088832
     ·
      rw [if_pos c8] at H
      have c8b0 := eq_true c8
      have c8b1 : decide ((ji6 : Int).toNat ≤ 35184372088832) = true := decide_eq_true c8
      clear c8
      obtain ⟨y107, hy107⟩ : ∃ y_ : List Int, y_ = (List.replicate (ji6 : Int).toNat 0) := ⟨_, rfl⟩
      replace H : (dbm_New.l0 kj1 a0 y107 (y107.length : Int) 0) = some r := by first | (rw [hy107]; with_reducible exact H) | (have H2_ := (Option.bind_some _ _).symm.trans H; rw [hy107]; with_reducible exact H2_) | (have H2_ := (Option.bind_some _ _).symm.trans H; with_reducible exact H2_) | with_reducible exact H | (rw [hy107]; exact H) | exact H
      have Ny107 := Aside0.mk hy107
      clear hy107
      have H' := Aside0.mk H
      clear H
      go_wp2_with (first | ((with_reducible refine gate_dst (N := 20) rfl ?_); refine Kd.R_make (Kd.int .i64) _ 2 rfl (N := 20) rfl 23 _ _ rfl ji6 rfl rfl Try.underlying23 (.int .i64 0) 8 info2 rfl (by decide) (by omega) 0 (ok := fun _ => True) (okp := fun _ => True) rfl (fun _ hk => hk) trivial (of_decide_eq_true (by first | (with_reducible assumption) | assumption)) (Nat.le_trans (Nat.mul_le_mul_right _ (of_decide_eq_true (by first | (with_reducible assumption) | assumption) : ji6.toNat ≤ 35184372088832)) (by omega)) (Below.refl _ _) (Nat.le_refl _) ?_; intro v108 w9 ho10 hb hg_ hnew_; clear hg_ hnew_; (first | rw [← Ny107.out] at ho10 | (simp only [Int.reduceToNat] at ho10; rw [← Ny107.out] at ho10)); have HO109 := Aside0.mk (Kd.R_lower ho10 (below_size (vW HB.out))); replace HB := vWs HB hb; clear hb ho10; obtain ⟨Ao11, co11, eo11⟩ := Kd.R_slice HO109.out; subst eo11))
      go_loopg [23] kj1 (fun kq v23 w' => ∃ (x3_2 : List Int) (x23_2 : Int), v23 = .int .i64 x23_2 ∧ Aside0 (dbm_New.l0 kq a0 x3_2 (y107.length : Int) x23_2 = some r) ∧ Aside0 (kq ≤ kj1) ∧ Aside0 (Kd.R (Kd.int .i64) 2 w' w.heap.size (fun _ => True) (.slice Ao11 y107.length co11) x3_2) ∧ Aside0 (Below w.heap.size w w'))
      case atStart => exact ⟨(y107), (0), (by first | rfl | (simp; done) | (simp [*]; done)), H', ⟨Nat.le_refl _⟩, ⟨vR HO109.out⟩, ⟨vW HB.out⟩⟩
      case round =>
       clear H'
       try clear p2
       try clear c3
       try clear c3b0
       try clear c4
       try clear c4b0
       try clear c5
       try clear p6
       try clear c7
       try clear c7b0
       try clear c7b1
       try clear c8
       try clear c8b0
       try clear c8b1
       try clear p2
       obtain ⟨x3_2, x23_2, rfl, HA, HK2, HO_3, HB⟩ := hrel
       have hl3_2 := (Kd.R_reads' HO_3.out).1
       rw [hl3_2] at HO_3
       (try simp only [hl3_2])
       cases gk with
       | zero => exact absurd HA.out (by simp [dbm_New.l0])
       | succ k2 =>
        have H := HA.out
        clear HA
        simp only [dbm_New.l0] at H
        by_cases c12 : x23_2 < (y107.length : Int)
        ·
         rw [if_pos c12] at H
         have c12b0 : decide (x23_2 < (y107.length : Int)) = true := decide_eq_true c12
         clear c12
         by_cases c13 : 0 ≤ x23_2
         ·
          rw [if_pos c13] at H
          have c13b0 : decide (0 ≤ x23_2) = true := decide_eq_true c13
          clear c13
          by_cases c14 : x23_2 < (x3_2.length : Int)
          ·
           rw [if_pos c14] at H
           have c14b0 : decide (x23_2 < (x3_2.length : Int)) = true := decide_eq_true c14
           clear c14
           obtain ⟨y110, hy110⟩ : ∃ y_ : List Int, y_ = (x3_2.set (x23_2 : Int).toNat 4611686018427387904) := ⟨_, rfl⟩
           replace H : (dbm_New.l0 k2 a0 y110 (y107.length : Int) (wrap64 (x23_2 + 1))) = some r := by first | (rw [hy110]; with_reducible exact H) | (have H2_ := (Option.bind_some _ _).symm.trans H; rw [hy110]; with_reducible exact H2_) | (have H2_ := (Option.bind_some _ _).symm.trans H; with_reducible exact H2_) | with_reducible exact H | (rw [hy110]; exact H) | exact H
           have Ny110 := Aside0.mk hy110
           clear hy110
           have H' := Aside0.mk H
           clear H
           have p15 : 0 ≤ (x23_2 : Int) := of_decide_eq_true (by first | (with_reducible assumption) | assumption)
           have q15 : (x23_2 : Int) < ((x3_2.length : Int) : Int) := of_decide_eq_true (by first | (with_reducible assumption) | assumption)
           obtain ⟨go15, co15, eo15, gb15, gl15, cl15, HG15⟩ := Kd.R_form HO_3.out (by omega)
           (first | cases eo15 | (injection eo15 with ea_ en_ ec_; (first | subst ea_ | (injection ea_ with ea_; subst ea_)); subst ec_; clear en_))
           have GB15 := Aside0.mk gb15
           have GG15 := Aside0.mk HG15
           clear gb15 gl15 HG15
           obtain ⟨hx15_0, hf15_0⟩ := Kd.R_celln 0 HO_3.out (x23_2 : Int) p15 q15
           replace p15 := eq_true p15
           replace q15 := eq_true q15
           have HP16 := Kd.R_putg HO_3.out (x23_2 : Int) 4611686018427387904
           go_wp2_with (first | ((with_reducible refine gate_store (t := 2) (p := 28) rfl ?_); refine store_event (t := 2) (p := 28) (v := ?vo_w17) (w1 := (wr.setCell ⟨go15, (x23_2 : Int).toNat, none⟩ (.int .i64 4611686018427387904))) ?hg ?ho ?hn ?hr ?_; (case ho => rfl); (case hg => rfl); (case hn => rfl); (case hr => first | (go_simp; done) | (go_simp; rfl)); intro w17 hw; have hg : wr.grownBy w17 (some go15) := (by rw [hw]; exact HP16.2); have hp_ : Kd.R (Kd.int .i64) 2 w17 w.heap.size (fun _ => True) (.slice (some ⟨go15, 0, none⟩) x3_2.length co11) y110 := (by rw [hw, Ny110.out]; exact HP16.1); clear HP16; replace HO_3 := Aside0.mk (hp_); replace HB := Aside0.mk ((by rw [hw]; exact below_set (HB.out) GB15.out : Below w.heap.size w w17)); clear hg hw hp_))
           (try simp only [← hl3_2])
           go_roundg k2
           case measure => have := HJ1.out; have := HK2.out; omega
           case rel => exact ⟨(y110), (wrap64 (x23_2 + 1)), (by first | rfl | (simp; done) | (simp [*]; done)), H', ⟨by have := HJ1.out; have := HK2.out; omega⟩, ⟨by (try simp only [hl3_2]); (with_reducible repeat (first | apply Kd.R_alloc | apply Kd.R_drewN | apply Kd.R_drew)); exact HO_3.out⟩, ⟨vW HB.out⟩⟩
          ·
           rw [if_neg c14] at H
           exact absurd H (by simp)
         ·
          rw [if_neg c13] at H
          exact absurd H (by simp)
        ·
         rw [if_neg c12] at H
         have c12b0 : decide (x23_2 < (y107.length : Int)) = false := decide_eq_false c12
         try (have c12b1 := c12b0; simp only [hl3_2] at c12b1)
         clear c12
         have H' := Aside0.mk H
         clear H
         go_wp2
         go_loopg [31] k2 (fun kq v31 w' => ∃ (x3_3 : List Int) (x31_3 : Int), v31 = .int .i64 x31_3 ∧ Aside0 (dbm_New.l1 kq a0 x3_3 a0 x31_3 = some r) ∧ Aside0 (kq ≤ k2) ∧ Aside0 (Kd.R (Kd.int .i64) 2 w' w.heap.size (fun _ => True) (.slice Ao11 x3_2.length co11) x3_3) ∧ Aside0 (Below w.heap.size w w'))
         case atStart => exact ⟨(x3_2), (0), (by first | rfl | (simp; done) | (simp [*]; done)), H', ⟨Nat.le_refl _⟩, ⟨by (try simp only [hl3_2]); (with_reducible repeat (first | apply Kd.R_alloc | apply Kd.R_drewN | apply Kd.R_drew)); exact HO_3.out⟩, ⟨vW HB.out⟩⟩
         case round =>
          clear H'
          try clear c1
          try clear p1
          try clear q1
          try clear hx1
          try clear hf1
          try clear p2
          try clear c3
          try clear c3b0
          try clear c4
          try clear c4b0
          try clear c5
          try clear p6
          try clear c7
          try clear c7b0
          try clear c7b1
          try clear c8
          try clear c8b0
          try clear c8b1
          try clear c12
          try clear c12b0
          try clear c13
          try clear c13b0
          try clear c14
          try clear c14b0
          try clear p15
          try clear q15
          try clear hx15
          try clear hf15
          try clear hx15_0
          try clear p15
          try clear p2
          try clear p6
          try clear q15
          obtain ⟨x3_3, x31_3, rfl, HA, HK3, HO_3, HB⟩ := hrel
          have hl3_3 := (Kd.R_reads' HO_3.out).1
          rw [hl3_3] at HO_3
          (try simp only [hl3_3])
          cases gk with
          | zero => exact absurd HA.out (by simp [dbm_New.l1])
          | succ k3 =>
           have H := HA.out
           clear HA
           simp only [dbm_New.l1] at H
           by_cases c18 : x31_3 < a0
           ·
            rw [if_pos c18] at H
            have c18b0 : decide (x31_3 < a0) = true := decide_eq_true c18
            clear c18
            obtain ⟨ji19, hji19⟩ : ∃ j_ : Int, (wrap64 ((wrap64 (x31_3 * a0)) + x31_3)) = j_ := ⟨_, rfl⟩
            replace H : (if 0 ≤ (ji19) then (if (ji19) < (x3_3.length : Int) then (dbm_New.l1 k3 a0 (x3_3.set ((ji19) : Int).toNat 0) a0 (wrap64 (x31_3 + 1))) else (none)) else (none)) = some r := by first | (rw [hji19] at H; exact H) | (simp only [hji19] at H ⊢; exact H)
            have hji19w : (IntKind.i64.wrap ((wrap64 (x31_3 * a0)) + x31_3)) = ji19 := (i64_w _).trans hji19
            by_cases c20 : 0 ≤ (ji19)
            ·
             rw [if_pos c20] at H
             have c20b0 : decide (0 ≤ (ji19)) = true := decide_eq_true c20
             clear c20
             by_cases c21 : (ji19) < (x3_3.length : Int)
             ·
              rw [if_pos c21] at H
              have c21b0 : decide ((ji19) < (x3_3.length : Int)) = true := decide_eq_true c21
              clear c21
              obtain ⟨y111, hy111⟩ : ∃ y_ : List Int, y_ = (x3_3.set ((ji19) : Int).toNat 0) := ⟨_, rfl⟩
              replace H : (dbm_New.l1 k3 a0 y111 a0 (wrap64 (x31_3 + 1))) = some r := by first | (rw [hy111]; with_reducible exact H) | (have H2_ := (Option.bind_some _ _).symm.trans H; rw [hy111]; with_reducible exact H2_) | (have H2_ := (Option.bind_some _ _).symm.trans H; with_reducible exact H2_) | with_reducible exact H | (rw [hy111]; exact H) | exact H
              have Ny111 := Aside0.mk hy111
              clear hy111
              have H' := Aside0.mk H
              clear H
              have p22 : 0 ≤ ((ji19) : Int) := of_decide_eq_true (by first | (with_reducible assumption) | assumption)
              have q22 : ((ji19) : Int) < ((x3_3.length : Int) : Int) := of_decide_eq_true (by first | (with_reducible assumption) | assumption)
              obtain ⟨go22, co22, eo22, gb22, gl22, cl22, HG22⟩ := Kd.R_form HO_3.out (by omega)
              (first | cases eo22 | (injection eo22 with ea_ en_ ec_; (first | subst ea_ | (injection ea_ with ea_; subst ea_)); subst ec_; clear en_))
              have GB22 := Aside0.mk gb22
              have GG22 := Aside0.mk HG22
              clear gb22 gl22 HG22
              obtain ⟨hx22_0, hf22_0⟩ := Kd.R_celln 0 HO_3.out ((ji19) : Int) p22 q22
              replace p22 := eq_true p22
              replace q22 := eq_true q22
              have HP23 := Kd.R_putg HO_3.out ((ji19) : Int) 0
              go_wp2_with (first | ((with_reducible refine gate_store (t := 2) (p := 40) rfl ?_); refine store_event (t := 2) (p := 40) (v := ?vo_w24) (w1 := (wr.setCell ⟨go22, ((ji19) : Int).toNat, none⟩ (.int .i64 0))) ?hg ?ho ?hn ?hr ?_; (case ho => rfl); (case hg => rfl); (case hn => rfl); (case hr => first | (go_simp; done) | (go_simp; rfl)); intro w24 hw; have hg : wr.grownBy w24 (some go22) := (by rw [hw]; exact HP23.2); have hp_ : Kd.R (Kd.int .i64) 2 w24 w.heap.size (fun _ => True) (.slice (some ⟨go22, 0, none⟩) x3_3.length co11) y111 := (by rw [hw, Ny111.out]; exact HP23.1); clear HP23; replace HO_3 := Aside0.mk (hp_); replace HB := Aside0.mk ((by rw [hw]; exact below_set (HB.out) GB22.out : Below w.heap.size w w24)); clear hg hw hp_))
              (try simp only [← hl3_3])
              go_roundg k3
              case measure => have := HJ1.out; have := HK2.out; have := HK3.out; omega
              case rel => exact ⟨(y111), (wrap64 (x31_3 + 1)), (by first | rfl | (simp; done) | (simp [*]; done)), H', ⟨by have := HJ1.out; have := HK2.out; have := HK3.out; omega⟩, ⟨by (try simp only [hl3_2]); (try simp only [hl3_3]); (with_reducible repeat (first | apply Kd.R_alloc | apply Kd.R_drewN | apply Kd.R_drew)); exact HO_3.out⟩, ⟨vW HB.out⟩⟩
             ·
              rw [if_neg c21] at H
              exact absurd H (by simp)
            ·
             rw [if_neg c20] at H
             exact absurd H (by simp)
           ·
            rw [if_neg c18] at H
            have c18b0 : decide (x31_3 < a0) = false := decide_eq_false c18
            clear c18
            obtain rfl := Option.some.inj H
            go_wp2
            go_ret
            exact ⟨_, by first | rfl | (simp [errW_none, errW_some] <;> rfl) | (simp only [← hji6]; first | rfl | (simp [errW_none, errW_some] <;> rfl)) | (simp [*, errW_none, errW_some] <;> rfl) | (simp [wrap64]; done), by (with_reducible repeat (first | apply Kd.R_alloc | apply Kd.R_drewN | apply Kd.R_drew)); exact HO_3.out, vW HB.out⟩
     ·
      rw [if_neg c8] at H
      exact absurd H (by simp)
    ·
     rw [if_neg c7] at H
     exact absurd H (by simp)
end Go.Proofs.Ytomgebmimgaojaa.QO
end
end
section
/- Written by a program of this session out of the translation. -/
noncomputable section
namespace Go.Proofs.Ytomgebmimgaojaa.QO
open Go.RowKit Go.Proofs.YtomgebmimgaojaaW.PrintWords Go.Proofs.YtomgebmimgaojaaW.PrintLast
set_option linter.unusedVariables false
set_option linter.unusedSimpArgs false
/-! ### oct_Top: function 13 -/
def oct_Top.f (k : Nat) (l0 : List Int) : Option (List Int × List Int × Bool) := (oct_may.f l0).bind fun t113 => (if t113 = true then ((slices_Clone_int_int.f l0).bind fun t114 => ((dbm_New.f k (wrap64 (2 * (l0.length : Int)))).bind fun t117 => (some (t114, t117, false)))) else (some (([] : List Int), ([] : List Int), false)))
theorem oct_Top.mono : ∀ a0 k, LeO (oct_Top.f k a0) (oct_Top.f (k + 1) a0) := by
 intro a0 k
 unfold oct_Top.f
 repeat' first
  | (with_reducible exact dbm_New.mono _ _)
  | (with_reducible exact LeO.refl _)
  | (with_reducible exact LeO.none _)
  | (with_reducible refine LeO.ite ?_ ?_)
  | (with_reducible refine LeO.bind ?_ (fun _ => ?_))
  | exact dbm_New.mono _ _
  | exact LeO.none _
  | refine LeO.ite ?_ ?_
  | refine LeO.bind ?_ (fun _ => ?_)
set_option maxHeartbeats 8000000 in
set_option maxRecDepth 100000 in
theorem oct_Top.calls (k : Nat) (A0 : Option Addr) (c0 : Nat) (l0 : List Int) (r1 : List Int) (r2 : List Int) (r3 : Bool) (w : World) (hr0 : Kd.C (Kd.int .i64) w A0 l0.length l0) (hc0 : l0.length ≤ c0) (h : oct_Top.f k l0 = some (r1, r2, r3)) :
 Calls Try.prog 13 #[.slice A0 l0.length c0] w fun e w' => ∃ v0_ v1_ : Value, e = .returned (.agg #[v0_, v1_, .bool r3]) ∧ Kd.R (Kd.int .i64) 3 w' w.heap.size (fun _ => True) v0_ r1 ∧ Kd.R (Kd.int .i64) 2 w' w.heap.size (fun _ => True) v1_ r2 ∧ Below w.heap.size w w' := by
 have hu25 := Try.underlying25
 have HR0 := Aside0.mk hr0
 have HC0 := Aside0.mk hc0
 clear hr0 hc0
 have HB := Aside0.mk (Below.refl w.heap.size w)
 have H : ((oct_may.f l0).bind fun t113 => (if t113 = true then ((slices_Clone_int_int.f l0).bind fun t114 => ((dbm_New.f k (wrap64 (2 * (l0.length : Int)))).bind fun t117 => (some (t114, t117, false)))) else (some (([] : List Int), ([] : List Int), false)))) = some (r1, r2, r3) := h
 clear h
 replace H := Option.bind_eq_some_iff.mp H
 obtain ⟨t113, A20, H⟩ := H
 replace H : (if t113 = true then ((slices_Clone_int_int.f l0).bind fun t114 => ((dbm_New.f k (wrap64 (2 * (l0.length : Int)))).bind fun t117 => (some (t114, t117, false)))) else (some (([] : List Int), ([] : List Int), false))) = some (r1, r2, r3) := H
 have A2 := Aside0.mk A20
 clear A20
 by_cases c3 : t113 = true
 ·
  subst c3
  have H1 : ((slices_Clone_int_int.f l0).bind fun t114 => ((dbm_New.f k (wrap64 (2 * (l0.length : Int)))).bind fun t117 => (some (t114, t117, false)))) = some (r1, r2, r3) := by rw [if_pos rfl] at H; exact H
  clear H
  have H := H1
  clear H1
  replace H := Option.bind_eq_some_iff.mp H
  obtain ⟨t114, A40, H⟩ := H
  replace H : ((dbm_New.f k (wrap64 (2 * (l0.length : Int)))).bind fun t117 => (some (t114, t117, false))) = some (r1, r2, r3) := H
  have A4 := Aside0.mk A40
  clear A40
  replace H := Option.bind_eq_some_iff.mp H
  obtain ⟨t117, A50, H⟩ := H
  replace H : (some (t114, t117, false)) = some (r1, r2, r3) := H
  have A5 := Aside0.mk A50
  clear A50
  simp only [Option.some.injEq, Prod.mk.injEq] at H
  obtain ⟨rfl, rfl, rfl⟩ := H
  go_enter Try.func13, Try.ntmps13
  go_wp2_with (first | ((with_reducible refine gate_dst (N := 2) rfl ?_); refine box_event ?hg (N := 2) ?hd (cs := #[.slice none 0 0, .slice none 0 0, .bool false]) (t := 25) ?hr ?_; (case hd => rfl); (case hg => rfl); (case hr => first | (go_simp; done) | (go_simp; rfl)); intro gb112 hg w6 hbox hb; have BK112 := Aside0.mk (hbox); have GW112 := vS hg HB; have GE112 := vS hg HB; replace HB := vWs HB hb; clear hb hbox hg) | ((with_reducible refine gate_callee (f := 46) rfl ?_); refine goesL_ (some 4) rfl rfl Try.func46 (by kernel_rfl) rfl #[.slice A0 l0.length c0] rfl vL ?_; (with_reducible refine (oct_may.calls _ _ l0 true _ ?side1 ?side2 A2.out).mono ?_); (case side1 => exact vC (Kd.C_below HR0.out HB.out)); (case side2 => exact HC0.out); rintro e w' ⟨rfl, ⟨nd, rfl⟩⟩; refine ⟨_, rfl, ?_⟩; (try (rw [drewN_self w6]; generalize hq_ : World.drewN w6 _ = w6; have n0_ : Aside0 (w6.heap[gb112]? = some (.cells #[.slice none 0 0, .slice none 0 0, .bool false] 25 (0, 0))) := ⟨by rw [← hq_]; exact (vB BK112.out)⟩; have n1_ : Aside0 (Below w.heap.size w w6) := ⟨by rw [← hq_]; exact (vW HB.out)⟩; clear BK112 HB hq_; have BK112 := n0_; have HB := n1_; clear n0_ n1_))) | ((with_reducible refine gate_callee (f := 47) rfl ?_); refine goesL_ (some 8) rfl rfl Try.func47 (by kernel_rfl) rfl #[.slice A0 l0.length c0] rfl vL ?_; (with_reducible refine (slices_Clone_int_int.calls _ _ l0 t114 _ ?side1 ?side2 A4.out).mono ?_); (case side1 => exact vC (Kd.C_below HR0.out HB.out)); (case side2 => exact HC0.out); rintro e w7 ⟨v115, rfl, ho0, hb⟩; refine ⟨_, rfl, ?_⟩; have HO116 := Aside0.mk (Kd.R_lower ho0 (below_size (vW HB.out))); replace BK112 := vBb BK112 hb; replace HB := vWs HB hb; (try clear hb); (try clear hb2); (try clear hk); (try clear hi); (try clear ho0)) | ((with_reducible refine gate_callee (f := 48) rfl ?_); refine goesL_ (some 12) rfl rfl Try.func48 (by kernel_rfl) rfl #[.int .i64 (wrap64 (2 * (l0.length : Int)))] rfl vL ?_; (with_reducible refine (dbm_New.calls k (wrap64 (2 * (l0.length : Int))) t117 _ A5.out).mono ?_); rintro e w8 ⟨v118, rfl, ho0, hb⟩; refine ⟨_, rfl, ?_⟩; replace HO116 := vRb HO116 hb; have HO119 := Aside0.mk (Kd.R_lower ho0 (below_size (vW HB.out))); replace BK112 := vBb BK112 hb; replace HB := vWs HB hb; (try clear hb); (try clear hb2); (try clear hk); (try clear hi); (try clear ho0); obtain ⟨Ao9, co9, eo9⟩ := Kd.R_slice HO119.out; subst eo9; obtain ⟨Ao10, co10, eo10⟩ := Kd.R_slice HO116.out; subst eo10; obtain ⟨hcz11_0, hcz11_1, hcz11_2, hfz11_0, hfz11_1, hfz11_2⟩ := vF3 BK112.out))
  refine bodyPost_ret (results_cell_row rfl _ _ gb112 25 #[.slice Ao10 t114.length co10, .slice Ao9 t117.length co9, .bool false] (0, 0) _ rfl (by (with_reducible repeat (first | refine blk_drewN ?_ _ | refine blk_drew ?_ | refine blk_alloc ?_ _)); refine blk_put (cs := #[.slice Ao10 t114.length co10, .slice Ao9 t117.length co9, .bool false]) ?_ 2 _ rfl; (with_reducible repeat (first | refine blk_drewN ?_ _ | refine blk_drew ?_ | refine blk_alloc ?_ _)); refine blk_put (cs := #[.slice Ao10 t114.length co10, .slice none 0 0, .bool false]) ?_ 1 _ rfl; (with_reducible repeat (first | refine blk_drewN ?_ _ | refine blk_drew ?_ | refine blk_alloc ?_ _)); refine blk_put (cs := #[.slice none 0 0, .slice none 0 0, .bool false]) ?_ 0 _ rfl; (with_reducible repeat (first | refine blk_drewN ?_ _ | refine blk_drew ?_ | refine blk_alloc ?_ _)); exact BK112.out) Try.underlying25 rfl (by kernel_rfl)) rfl ?_
  exact ⟨_, _, by first | rfl | (simp [errW_none, errW_some] <;> rfl) | (simp [*, errW_none, errW_some] <;> rfl) | (simp [wrap64]; done), by (with_reducible repeat (first | apply Kd.R_alloc | apply Kd.R_drewN | apply Kd.R_drew)); exact Kd.R_mono (Kd.R_far (p := ⟨gb112, 2, none⟩) (Kd.R_far (p := ⟨gb112, 1, none⟩) (Kd.R_far (p := ⟨gb112, 0, none⟩) (Kd.R_types HO116.out BK112.out (by decide)) (fun _ hk => hk.2) (.slice Ao10 t114.length co10)) (fun _ hk => hk.2) (.slice Ao9 t117.length co9)) (fun _ hk => hk.2) (.bool false)) (fun _ hk => trivial), by (with_reducible repeat (first | apply Kd.R_alloc | apply Kd.R_drewN | apply Kd.R_drew)); exact Kd.R_mono (Kd.R_far (p := ⟨gb112, 2, none⟩) (Kd.R_far (p := ⟨gb112, 1, none⟩) (Kd.R_far (p := ⟨gb112, 0, none⟩) (Kd.R_types HO119.out BK112.out (by decide)) (fun _ hk => hk.2) (.slice Ao10 t114.length co10)) (fun _ hk => hk.2) (.slice Ao9 t117.length co9)) (fun _ hk => hk.2) (.bool false)) (fun _ hk => trivial), vW HB.out⟩
 ·
  replace c3 := Bool.eq_false_iff.mpr c3
  subst c3
  have H1 : (some (([] : List Int), ([] : List Int), false)) = some (r1, r2, r3) := by rw [if_neg (show ¬ (false = true) by decide)] at H; exact H
  clear H
  have H := H1
  clear H1
  simp only [Option.some.injEq, Prod.mk.injEq] at H
  obtain ⟨rfl, rfl, rfl⟩ := H
  go_enter Try.func13, Try.ntmps13
  go_wp2_with (first | ((with_reducible refine gate_dst (N := 2) rfl ?_); refine box_event ?hg (N := 2) ?hd (cs := #[.slice none 0 0, .slice none 0 0, .bool false]) (t := 25) ?hr ?_; (case hd => rfl); (case hg => rfl); (case hr => first | (go_simp; done) | (go_simp; rfl)); intro gb112 hg w12 hbox hb; have BK112 := Aside0.mk (hbox); have GW112 := vS hg HB; have GE112 := vS hg HB; replace HB := vWs HB hb; clear hb hbox hg) | ((with_reducible refine gate_callee (f := 46) rfl ?_); refine goesL_ (some 4) rfl rfl Try.func46 (by kernel_rfl) rfl #[.slice A0 l0.length c0] rfl vL ?_; (with_reducible refine (oct_may.calls _ _ l0 false _ ?side1 ?side2 A2.out).mono ?_); (case side1 => exact vC (Kd.C_below HR0.out HB.out)); (case side2 => exact HC0.out); rintro e w' ⟨rfl, ⟨nd, rfl⟩⟩; refine ⟨_, rfl, ?_⟩; (try (rw [drewN_self w12]; generalize hq_ : World.drewN w12 _ = w12; have n0_ : Aside0 (w12.heap[gb112]? = some (.cells #[.slice none 0 0, .slice none 0 0, .bool false] 25 (0, 0))) := ⟨by rw [← hq_]; exact (vB BK112.out)⟩; have n1_ : Aside0 (Below w.heap.size w w12) := ⟨by rw [← hq_]; exact (vW HB.out)⟩; clear BK112 HB hq_; have BK112 := n0_; have HB := n1_; clear n0_ n1_)); obtain ⟨hcz13_0, hcz13_1, hcz13_2, hfz13_0, hfz13_1, hfz13_2⟩ := vF3 BK112.out))
  refine bodyPost_ret (results_cell_row rfl _ _ gb112 25 #[.slice none 0 0, .slice none 0 0, .bool false] (0, 0) _ rfl (by (with_reducible repeat (first | refine blk_drewN ?_ _ | refine blk_drew ?_ | refine blk_alloc ?_ _)); refine blk_put (cs := #[.slice none 0 0, .slice none 0 0, .bool false]) ?_ 2 _ rfl; (with_reducible repeat (first | refine blk_drewN ?_ _ | refine blk_drew ?_ | refine blk_alloc ?_ _)); refine blk_put (cs := #[.slice none 0 0, .slice none 0 0, .bool false]) ?_ 1 _ rfl; (with_reducible repeat (first | refine blk_drewN ?_ _ | refine blk_drew ?_ | refine blk_alloc ?_ _)); refine blk_put (cs := #[.slice none 0 0, .slice none 0 0, .bool false]) ?_ 0 _ rfl; (with_reducible repeat (first | refine blk_drewN ?_ _ | refine blk_drew ?_ | refine blk_alloc ?_ _)); exact BK112.out) Try.underlying25 rfl (by kernel_rfl)) rfl ?_
  exact ⟨_, _, by first | rfl | (simp [errW_none, errW_some] <;> rfl) | (simp [*, errW_none, errW_some] <;> rfl) | (simp [wrap64]; done), by first | exact Kd.R_nil _ _ _ _ _ | exact Kd.N_nil _ _ _ _ _ | exact Kd.V_nil _ _ _ _ _ | exact Kd.Q_nil _ _ _ _ _ | exact Kd.S_nil _ _ _ _ _, by first | exact Kd.R_nil _ _ _ _ _ | exact Kd.N_nil _ _ _ _ _ | exact Kd.V_nil _ _ _ _ _ | exact Kd.Q_nil _ _ _ _ _ | exact Kd.S_nil _ _ _ _ _, vW HB.out⟩
end Go.Proofs.Ytomgebmimgaojaa.QO
end
end
section
/- Written by a program of this session out of the translation. -/
noncomputable section
namespace Go.Proofs.Ytomgebmimgaojaa.QO
open Go.RowKit Go.Proofs.YtomgebmimgaojaaW.PrintWords Go.Proofs.YtomgebmimgaojaaW.PrintLast
set_option linter.unusedVariables false
set_option linter.unusedSimpArgs false
/-! ### gimballaw11_awake: function 20 -/
def gimballaw11_awake.f (k : Nat)  : Option (Bool) := (oct_Top.f k (([3] : List Int))).bind fun bt123 => (if (bt123.2.1.length : Int) = 4 then (if 0 < (bt123.2.1.length : Int) then (if (rd bt123.2.1 0) = 0 then (if 1 < (bt123.2.1.length : Int) then (if (rd bt123.2.1 1) = 4611686018427387904 then ((oct_Has.f bt123.1 bt123.2.1 bt123.2.2 (([9] : List Int))).bind fun t136 => (some t136)) else (some false)) else (none)) else (some false)) else (none)) else (some false))
theorem gimballaw11_awake.mono : ∀ k, LeO (gimballaw11_awake.f k ) (gimballaw11_awake.f (k + 1) ) := by
 intro  k
 unfold gimballaw11_awake.f
 repeat' first
  | (with_reducible exact oct_Top.mono _ _)
  | (with_reducible exact LeO.refl _)
  | (with_reducible exact LeO.none _)
  | (with_reducible refine LeO.ite ?_ ?_)
  | (with_reducible refine LeO.bind ?_ (fun _ => ?_))
  | exact oct_Top.mono _ _
  | exact LeO.none _
  | refine LeO.ite ?_ ?_
  | refine LeO.bind ?_ (fun _ => ?_)
set_option maxHeartbeats 8000000 in
set_option maxRecDepth 100000 in
theorem gimballaw11_awake.calls (k : Nat)  (r : Bool) (w : World) (h : gimballaw11_awake.f k  = some r) :
 Calls Try.prog 20 #[] w fun e w' => e = .returned (.bool r) ∧ Below w.heap.size w w' := by
 have hu25 := Try.underlying25
 have HB := Aside0.mk (Below.refl w.heap.size w)
 have H : ((oct_Top.f k (([3] : List Int))).bind fun bt123 => (if (bt123.2.1.length : Int) = 4 then (if 0 < (bt123.2.1.length : Int) then (if (rd bt123.2.1 0) = 0 then (if 1 < (bt123.2.1.length : Int) then (if (rd bt123.2.1 1) = 4611686018427387904 then ((oct_Has.f bt123.1 bt123.2.1 bt123.2.2 (([9] : List Int))).bind fun t136 => (some t136)) else (some false)) else (none)) else (some false)) else (none)) else (some false))) = some r := h
 clear h
 obtain ⟨y120, hy120⟩ : ∃ y_ : List Int, y_ = (([3] : List Int)) := ⟨_, rfl⟩
 replace H : ((oct_Top.f k y120).bind fun bt123 => (if (bt123.2.1.length : Int) = 4 then (if 0 < (bt123.2.1.length : Int) then (if (rd bt123.2.1 0) = 0 then (if 1 < (bt123.2.1.length : Int) then (if (rd bt123.2.1 1) = 4611686018427387904 then ((oct_Has.f bt123.1 bt123.2.1 bt123.2.2 (([9] : List Int))).bind fun t136 => (some t136)) else (some false)) else (none)) else (some false)) else (none)) else (some false))) = some r := by first | (rw [hy120]; with_reducible exact H) | (have H2_ := (Option.bind_some _ _).symm.trans H; rw [hy120]; with_reducible exact H2_) | (have H2_ := (Option.bind_some _ _).symm.trans H; with_reducible exact H2_) | with_reducible exact H | (rw [hy120]; exact H) | exact H
 have Ny120 := Aside0.mk hy120
 clear hy120
 replace H := Option.bind_eq_some_iff.mp H
 obtain ⟨⟨t123, t126, t129⟩, A10, H⟩ := H
 replace H : (if (t126.length : Int) = 4 then (if 0 < (t126.length : Int) then (if (rd t126 0) = 0 then (if 1 < (t126.length : Int) then (if (rd t126 1) = 4611686018427387904 then ((oct_Has.f t123 t126 t129 (([9] : List Int))).bind fun t136 => (some t136)) else (some false)) else (none)) else (some false)) else (none)) else (some false)) = some r := H
 have A1 := Aside0.mk A10
 clear A10
 by_cases c2 : (t126.length : Int) = 4
 ·
  rw [if_pos c2] at H
  have c2b0 : ((t126.length : Int) == 4) = true := beq_iff_eq.mpr c2
  have c2b1 : ((t126.length : Int) != 4) = false := bne_eq_false_iff_eq.mpr c2
  clear c2
  by_cases c3 : 0 < (t126.length : Int)
  ·
   rw [if_pos c3] at H
   have c3b0 : decide (0 < (t126.length : Int)) = true := decide_eq_true c3
   have c3b1 : decide (0 < t126.length) = true := decide_eq_true (by omega)
   clear c3
   by_cases c4 : (rd t126 0) = 0
   ·
    rw [if_pos c4] at H
    have c4b0 : ((rd t126 0) == 0) = true := beq_iff_eq.mpr c4
    have c4b1 : ((rd t126 0) != 0) = false := bne_eq_false_iff_eq.mpr c4
    clear c4
    by_cases c5 : 1 < (t126.length : Int)
    ·
     rw [if_pos c5] at H
     have c5b0 : decide (1 < (t126.length : Int)) = true := decide_eq_true c5
     have c5b1 : decide (1 < t126.length) = true := decide_eq_true (by omega)
     clear c5
     by_cases c6 : (rd t126 1) = 4611686018427387904
     ·
      rw [if_pos c6] at H
      have c6b0 : ((rd t126 1) == 4611686018427387904) = true := beq_iff_eq.mpr c6
      have c6b1 : ((rd t126 1) != 4611686018427387904) = false := bne_eq_false_iff_eq.mpr c6
      clear c6
      obtain ⟨y133, hy133⟩ : ∃ y_ : List Int, y_ = (([9] : List Int)) := ⟨_, rfl⟩
      replace H : ((oct_Has.f t123 t126 t129 y133).bind fun t136 => (some t136)) = some r := by first | (rw [hy133]; with_reducible exact H) | (have H2_ := (Option.bind_some _ _).symm.trans H; rw [hy133]; with_reducible exact H2_) | (have H2_ := (Option.bind_some _ _).symm.trans H; with_reducible exact H2_) | with_reducible exact H | (rw [hy133]; exact H) | exact H
      have Ny133 := Aside0.mk hy133
      clear hy133
      replace H := Option.bind_eq_some_iff.mp H
      obtain ⟨t136, A70, H⟩ := H
      replace H : (some t136) = some r := H
      have A7 := Aside0.mk A70
      clear A70
      obtain rfl := Option.some.inj H
      go_enter Try.func20, Try.ntmps20
      go_wp2_with (first | ((with_reducible refine gate_dst (N := 2) rfl ?_); (try (refine gate_guard (by rfl) ?_; dsimp only)); refine Kd.R_lit (Kd.int .i64) _ 3 ?hg (N := 2) ?hd (xs := ([3] : List Int)) (inner := [.int .i64 3]) (ok := fun _ => True) (okp := fun _ => True) ?hr ?hp (fun _ hk => hk) trivial (Below.refl _ _) (Nat.le_refl _) (by simp) ?_; (case hd => rfl); (case hg => rfl); (case hr => first | (go_simp; done) | (go_simp; rfl)); (case hp => exact (Reps.one (show Kd.M (Kd.int .i64) _ _ _ 3 [.int .i64 3] from rfl) (Reps.none _ _))); intro v121 w8 ho9 hb hg_ hnew_; clear hg_ hnew_; (first | rw [← Ny120.out] at ho9 | (simp only [Int.reduceToNat] at ho9; rw [← Ny120.out] at ho9)); have HO122 := Aside0.mk (Kd.R_lower ho9 (below_size (vW HB.out))); replace HB := vWs HB hb; clear hb ho9; obtain ⟨Ao10, co10, eo10⟩ := Kd.R_slice HO122.out; subst eo10) | ((with_reducible refine gate_callee (f := 13) rfl ?_); refine goesL_ (some 3) rfl rfl Try.func13 (by kernel_rfl) rfl #[.slice Ao10 y120.length co10] rfl vL ?_; (with_reducible refine (oct_Top.calls k _ _ y120 t123 t126 t129 _ ?side1 ?side2 A1.out).mono ?_); (case side1 => repeat (first | exact (Kd.R_reads' HO122.out).2.2 | (with_reducible refine Kd.C_alloc ?_ _) | (with_reducible refine Kd.C_drewN ?_ _) | (with_reducible refine Kd.C_drew ?_))); (case side2 => exact (Kd.R_reads' HO122.out).2.1); rintro e w11 ⟨v124, v127, rfl, ho0, ho1, hb⟩; refine ⟨_, rfl, ?_⟩; have HO125 := Aside0.mk (Kd.R_lower (Kd.R_new' ho0 (Kd.R_lt (vR HO122.out))) (below_size (vW HB.out))); replace HO122 := Aside0.mk (Kd.R_elder' (vR HO122.out) (Kd.R_base ho0) hb); have HO128 := Aside0.mk (Kd.R_lower ho1 (below_size (vW HB.out))); replace HB := vWs HB hb; (try clear hb); (try clear hb2); (try clear hk); (try clear hi); (try clear ho0); (try clear ho1)) | ((with_reducible refine gate_dst (N := 1) rfl ?_); (try (refine gate_guard (by rfl) ?_; dsimp only)); refine box_event ?hg (N := 1) ?hd (cs := #[.slice none 0 0, .slice none 0 0, .bool false]) (t := 25) ?hr ?_; (case hd => rfl); (case hg => rfl); (case hr => first | (go_simp; done) | (go_simp; rfl)); intro gb130 hg w12 hbox hb; replace HO122 := vRb HO122 hb; replace HO125 := vRb HO125 hb; replace HO128 := vRb HO128 hb; have BK130 := Aside0.mk (hbox); have GW130 := vS hg HB; have GE130 := vS hg HB; replace HB := vWs HB hb; clear hb hbox hg; obtain ⟨Ao13, co13, eo13⟩ := Kd.R_slice HO125.out; subst eo13; obtain ⟨hcz14_0, hcz14_1, hcz14_2, hfz14_0, hfz14_1, hfz14_2⟩ := vF3 BK130.out; obtain ⟨Ao15, co15, eo15⟩ := Kd.R_slice HO128.out; subst eo15; have p131 : 0 ≤ (0 : Int) := (by omega); have q131 : 0 < (t126.length : Int) := of_decide_eq_true (by first | (with_reducible assumption) | assumption); obtain ⟨ad131, e131, hx131_0⟩ := Kd.at_int (Kd.R_reads' HO128.out).2.2 0 p131 q131; cases e131; have qi131 : (0 < t126.length) = True := eq_true (by omega); (try rw [show ((0 : Int)).toNat = 0 from rfl] at hx131_0); (try rw [Addr.add_zero'] at hx131_0); have hn131_0 : ad131.block ≠ gb130 := Kd.own_blk (Kd.R_ne HO128.out BK130.out (by decide)); have hn131_1 : ad131.block ≠ gb130 := Kd.own_blk (Kd.R_ne HO128.out BK130.out (by decide)); have hn131_2 : ad131.block ≠ gb130 := Kd.own_blk (Kd.R_ne HO128.out BK130.out (by decide)); replace hx131_0 := (cell_far (p := ⟨gb130, 0, none⟩) (by first | (rw [add_block]; exact hn131_0) | (show (Addr.add _ _).block ≠ _; rw [add_block]; exact hn131_0) | exact hn131_0) (.slice Ao13 t123.length co13)).trans hx131_0; replace hx131_0 := (cell_far (p := ⟨gb130, 1, none⟩) (by first | (rw [add_block]; exact hn131_1) | (show (Addr.add _ _).block ≠ _; rw [add_block]; exact hn131_1) | exact hn131_1) (.slice (some ad131) t126.length co15)).trans hx131_0; replace hx131_0 := (cell_far (p := ⟨gb130, 2, none⟩) (by first | (rw [add_block]; exact hn131_2) | (show (Addr.add _ _).block ≠ _; rw [add_block]; exact hn131_2) | exact hn131_2) (.bool t129)).trans hx131_0; clear hn131_0; clear hn131_1; clear hn131_2; replace p131 := eq_true p131; replace q131 := eq_true q131; have p132 : 0 ≤ (1 : Int) := (by omega); have q132 : 1 < (t126.length : Int) := of_decide_eq_true (by first | (with_reducible assumption) | assumption); obtain ⟨ad132, e132, hx132_0⟩ := Kd.at_int (Kd.R_reads' HO128.out).2.2 1 p132 q132; obtain rfl : ad131 = ad132 := (by injection e132); (try simp only [show (1 : Int).toNat = 1 from rfl, Nat.reduceMul, Nat.reduceEqDiff, Go.Addr.add, ↓reduceIte] at hx132_0); have qi132 : (1 < t126.length) = True := eq_true (by omega); (try rw [show ((1 : Int)).toNat = 1 from rfl] at hx132_0); have hn132_0 : ad131.block ≠ gb130 := Kd.own_blk (Kd.R_ne HO128.out BK130.out (by decide)); have hn132_1 : ad131.block ≠ gb130 := Kd.own_blk (Kd.R_ne HO128.out BK130.out (by decide)); have hn132_2 : ad131.block ≠ gb130 := Kd.own_blk (Kd.R_ne HO128.out BK130.out (by decide)); replace hx132_0 := (cell_far (p := ⟨gb130, 0, none⟩) (by first | (rw [add_block]; exact hn132_0) | (show (Addr.add _ _).block ≠ _; rw [add_block]; exact hn132_0) | exact hn132_0) (.slice Ao13 t123.length co13)).trans hx132_0; replace hx132_0 := (cell_far (p := ⟨gb130, 1, none⟩) (by first | (rw [add_block]; exact hn132_1) | (show (Addr.add _ _).block ≠ _; rw [add_block]; exact hn132_1) | exact hn132_1) (.slice (some ad131) t126.length co15)).trans hx132_0; replace hx132_0 := (cell_far (p := ⟨gb130, 2, none⟩) (by first | (rw [add_block]; exact hn132_2) | (show (Addr.add _ _).block ≠ _; rw [add_block]; exact hn132_2) | exact hn132_2) (.bool t129)).trans hx132_0; clear hn132_0; clear hn132_1; clear hn132_2; replace p132 := eq_true p132; replace q132 := eq_true q132) | ((with_reducible refine gate_dst (N := 24) rfl ?_); (try (refine gate_guard (by rfl) ?_; dsimp only)); refine Kd.R_lit (Kd.int .i64) _ 2 ?hg (N := 24) ?hd (xs := ([9] : List Int)) (inner := [.int .i64 9]) (ok := fun _ => True) (okp := fun _ => True) ?hr ?hp (fun _ hk => hk) trivial (Below.refl _ _) (Nat.le_refl _) (by simp) ?_; (case hd => rfl); (case hg => rfl); (case hr => first | (go_simp; done) | (go_simp; rfl)); (case hp => exact (Reps.one (show Kd.M (Kd.int .i64) _ _ _ 9 [.int .i64 9] from rfl) (Reps.none _ _))); intro v134 w16 ho17 hb hg_ hnew_; clear hg_ hnew_; (first | rw [← Ny133.out] at ho17 | (simp only [Int.reduceToNat] at ho17; rw [← Ny133.out] at ho17)); replace HO122 := vTb HO122 BK130 hb; replace HO125 := vTb HO125 BK130 hb; have HO135 := Aside0.mk (Kd.R_lower (Kd.R_new' ho17 (Kd.R_lt (vT HO128.out BK130.out))) (below_size (vW HB.out))); replace HO128 := Aside0.mk (Kd.R_elder' (vT HO128.out BK130.out) (Kd.R_base ho17) hb); replace BK130 := Aside0.mk (blk_below (g := gb130) (o := .cells #[.slice Ao13 t123.length co13, .slice (some ad131) t126.length co15, .bool t129] 25 (0, 0)) (by (with_reducible repeat (first | refine blk_drewN ?_ _ | refine blk_drew ?_ | refine blk_alloc ?_ _)); refine blk_put (cs := #[.slice Ao13 t123.length co13, .slice (some ad131) t126.length co15, .bool false]) ?_ 2 _ rfl; (with_reducible repeat (first | refine blk_drewN ?_ _ | refine blk_drew ?_ | refine blk_alloc ?_ _)); refine blk_put (cs := #[.slice Ao13 t123.length co13, .slice none 0 0, .bool false]) ?_ 1 _ rfl; (with_reducible repeat (first | refine blk_drewN ?_ _ | refine blk_drew ?_ | refine blk_alloc ?_ _)); refine blk_put (cs := #[.slice none 0 0, .slice none 0 0, .bool false]) ?_ 0 _ rfl; (with_reducible repeat (first | refine blk_drewN ?_ _ | refine blk_drew ?_ | refine blk_alloc ?_ _)); exact BK130.out) hb); replace HB := vWs HB hb; clear hb ho17; obtain ⟨Ao18, co18, eo18⟩ := Kd.R_slice HO135.out; subst eo18) | (go_at_call 34; (with_reducible refine (oct_Has.calls _ _ t123 _ _ t126 t129 _ _ y133 t136 _ ?side1 ?side2 ?side3 ?side4 ?side5 ?side6 A7.out).mono ?_); (case side1 => repeat (first | exact (Kd.R_reads' HO125.out).2.2 | (with_reducible refine Kd.C_alloc ?_ _) | (with_reducible refine Kd.C_drewN ?_ _) | (with_reducible refine Kd.C_drew ?_))); (case side2 => exact (Kd.R_reads' HO125.out).2.1); (case side3 => repeat (first | exact (Kd.R_reads' HO128.out).2.2 | (with_reducible refine Kd.C_alloc ?_ _) | (with_reducible refine Kd.C_drewN ?_ _) | (with_reducible refine Kd.C_drew ?_))); (case side4 => exact (Kd.R_reads' HO128.out).2.1); (case side5 => repeat (first | exact (Kd.R_reads' HO135.out).2.2 | (with_reducible refine Kd.C_alloc ?_ _) | (with_reducible refine Kd.C_drewN ?_ _) | (with_reducible refine Kd.C_drew ?_))); (case side6 => exact (Kd.R_reads' HO135.out).2.1); rintro e w19 ⟨rfl, hb⟩; replace HO122 := vRb HO122 hb; replace HO125 := vRb HO125 hb; replace HO128 := vRb HO128 hb; replace HO135 := vRb HO135 hb; replace BK130 := vBb BK130 hb; replace HB := vWs HB hb; (try clear hb); (try clear hb2); (try clear hk); (try clear hi)))
      go_ret
      exact ⟨by first | rfl | (simp [errW_none, errW_some] <;> rfl) | (simp [*, errW_none, errW_some] <;> rfl) | (simp [wrap64]; done), vW HB.out⟩
     ·
      rw [if_neg c6] at H
      have c6b0 : ((rd t126 1) == 4611686018427387904) = false := beq_eq_false_iff_ne.mpr c6
      have c6b1 : ((rd t126 1) != 4611686018427387904) = true := bne_iff_ne.mpr c6
      obtain rfl := Option.some.inj H
      go_enter Try.func20, Try.ntmps20
      go_wp2_with (first | ((with_reducible refine gate_dst (N := 2) rfl ?_); (try (refine gate_guard (by rfl) ?_; dsimp only)); refine Kd.R_lit (Kd.int .i64) _ 3 ?hg (N := 2) ?hd (xs := ([3] : List Int)) (inner := [.int .i64 3]) (ok := fun _ => True) (okp := fun _ => True) ?hr ?hp (fun _ hk => hk) trivial (Below.refl _ _) (Nat.le_refl _) (by simp) ?_; (case hd => rfl); (case hg => rfl); (case hr => first | (go_simp; done) | (go_simp; rfl)); (case hp => exact (Reps.one (show Kd.M (Kd.int .i64) _ _ _ 3 [.int .i64 3] from rfl) (Reps.none _ _))); intro v121 w20 ho21 hb hg_ hnew_; clear hg_ hnew_; (first | rw [← Ny120.out] at ho21 | (simp only [Int.reduceToNat] at ho21; rw [← Ny120.out] at ho21)); have HO122 := Aside0.mk (Kd.R_lower ho21 (below_size (vW HB.out))); replace HB := vWs HB hb; clear hb ho21; obtain ⟨Ao22, co22, eo22⟩ := Kd.R_slice HO122.out; subst eo22) | ((with_reducible refine gate_callee (f := 13) rfl ?_); refine goesL_ (some 3) rfl rfl Try.func13 (by kernel_rfl) rfl #[.slice Ao22 y120.length co22] rfl vL ?_; (with_reducible refine (oct_Top.calls k _ _ y120 t123 t126 t129 _ ?side1 ?side2 A1.out).mono ?_); (case side1 => repeat (first | exact (Kd.R_reads' HO122.out).2.2 | (with_reducible refine Kd.C_alloc ?_ _) | (with_reducible refine Kd.C_drewN ?_ _) | (with_reducible refine Kd.C_drew ?_))); (case side2 => exact (Kd.R_reads' HO122.out).2.1); rintro e w23 ⟨v124, v127, rfl, ho0, ho1, hb⟩; refine ⟨_, rfl, ?_⟩; have HO125 := Aside0.mk (Kd.R_lower (Kd.R_new' ho0 (Kd.R_lt (vR HO122.out))) (below_size (vW HB.out))); replace HO122 := Aside0.mk (Kd.R_elder' (vR HO122.out) (Kd.R_base ho0) hb); have HO128 := Aside0.mk (Kd.R_lower ho1 (below_size (vW HB.out))); replace HB := vWs HB hb; (try clear hb); (try clear hb2); (try clear hk); (try clear hi); (try clear ho0); (try clear ho1)) | ((with_reducible refine gate_dst (N := 1) rfl ?_); (try (refine gate_guard (by rfl) ?_; dsimp only)); refine box_event ?hg (N := 1) ?hd (cs := #[.slice none 0 0, .slice none 0 0, .bool false]) (t := 25) ?hr ?_; (case hd => rfl); (case hg => rfl); (case hr => first | (go_simp; done) | (go_simp; rfl)); intro gb130 hg w24 hbox hb; replace HO122 := vRb HO122 hb; replace HO125 := vRb HO125 hb; replace HO128 := vRb HO128 hb; have BK130 := Aside0.mk (hbox); have GW130 := vS hg HB; have GE130 := vS hg HB; replace HB := vWs HB hb; clear hb hbox hg; obtain ⟨Ao25, co25, eo25⟩ := Kd.R_slice HO125.out; subst eo25; obtain ⟨hcz26_0, hcz26_1, hcz26_2, hfz26_0, hfz26_1, hfz26_2⟩ := vF3 BK130.out; obtain ⟨Ao27, co27, eo27⟩ := Kd.R_slice HO128.out; subst eo27; have p131 : 0 ≤ (0 : Int) := (by omega); have q131 : 0 < (t126.length : Int) := of_decide_eq_true (by first | (with_reducible assumption) | assumption); obtain ⟨ad131, e131, hx131_0⟩ := Kd.at_int (Kd.R_reads' HO128.out).2.2 0 p131 q131; cases e131; have qi131 : (0 < t126.length) = True := eq_true (by omega); (try rw [show ((0 : Int)).toNat = 0 from rfl] at hx131_0); (try rw [Addr.add_zero'] at hx131_0); have hn131_0 : ad131.block ≠ gb130 := Kd.own_blk (Kd.R_ne HO128.out BK130.out (by decide)); have hn131_1 : ad131.block ≠ gb130 := Kd.own_blk (Kd.R_ne HO128.out BK130.out (by decide)); have hn131_2 : ad131.block ≠ gb130 := Kd.own_blk (Kd.R_ne HO128.out BK130.out (by decide)); replace hx131_0 := (cell_far (p := ⟨gb130, 0, none⟩) (by first | (rw [add_block]; exact hn131_0) | (show (Addr.add _ _).block ≠ _; rw [add_block]; exact hn131_0) | exact hn131_0) (.slice Ao25 t123.length co25)).trans hx131_0; replace hx131_0 := (cell_far (p := ⟨gb130, 1, none⟩) (by first | (rw [add_block]; exact hn131_1) | (show (Addr.add _ _).block ≠ _; rw [add_block]; exact hn131_1) | exact hn131_1) (.slice (some ad131) t126.length co27)).trans hx131_0; replace hx131_0 := (cell_far (p := ⟨gb130, 2, none⟩) (by first | (rw [add_block]; exact hn131_2) | (show (Addr.add _ _).block ≠ _; rw [add_block]; exact hn131_2) | exact hn131_2) (.bool t129)).trans hx131_0; clear hn131_0; clear hn131_1; clear hn131_2; replace p131 := eq_true p131; replace q131 := eq_true q131; have p132 : 0 ≤ (1 : Int) := (by omega); have q132 : 1 < (t126.length : Int) := of_decide_eq_true (by first | (with_reducible assumption) | assumption); obtain ⟨ad132, e132, hx132_0⟩ := Kd.at_int (Kd.R_reads' HO128.out).2.2 1 p132 q132; obtain rfl : ad131 = ad132 := (by injection e132); (try simp only [show (1 : Int).toNat = 1 from rfl, Nat.reduceMul, Nat.reduceEqDiff, Go.Addr.add, ↓reduceIte] at hx132_0); have qi132 : (1 < t126.length) = True := eq_true (by omega); (try rw [show ((1 : Int)).toNat = 1 from rfl] at hx132_0); have hn132_0 : ad131.block ≠ gb130 := Kd.own_blk (Kd.R_ne HO128.out BK130.out (by decide)); have hn132_1 : ad131.block ≠ gb130 := Kd.own_blk (Kd.R_ne HO128.out BK130.out (by decide)); have hn132_2 : ad131.block ≠ gb130 := Kd.own_blk (Kd.R_ne HO128.out BK130.out (by decide)); replace hx132_0 := (cell_far (p := ⟨gb130, 0, none⟩) (by first | (rw [add_block]; exact hn132_0) | (show (Addr.add _ _).block ≠ _; rw [add_block]; exact hn132_0) | exact hn132_0) (.slice Ao25 t123.length co25)).trans hx132_0; replace hx132_0 := (cell_far (p := ⟨gb130, 1, none⟩) (by first | (rw [add_block]; exact hn132_1) | (show (Addr.add _ _).block ≠ _; rw [add_block]; exact hn132_1) | exact hn132_1) (.slice (some ad131) t126.length co27)).trans hx132_0; replace hx132_0 := (cell_far (p := ⟨gb130, 2, none⟩) (by first | (rw [add_block]; exact hn132_2) | (show (Addr.add _ _).block ≠ _; rw [add_block]; exact hn132_2) | exact hn132_2) (.bool t129)).trans hx132_0; clear hn132_0; clear hn132_1; clear hn132_2; replace p132 := eq_true p132; replace q132 := eq_true q132))
      go_ret
      exact ⟨by first | rfl | (simp [errW_none, errW_some] <;> rfl) | (simp [*, errW_none, errW_some] <;> rfl) | (simp [wrap64]; done), vW HB.out⟩
    ·
     rw [if_neg c5] at H
     exact absurd H (by simp)
   ·
    rw [if_neg c4] at H
    have c4b0 : ((rd t126 0) == 0) = false := beq_eq_false_iff_ne.mpr c4
    have c4b1 : ((rd t126 0) != 0) = true := bne_iff_ne.mpr c4
    obtain rfl := Option.some.inj H
    go_enter Try.func20, Try.ntmps20
    go_wp2_with (first | ((with_reducible refine gate_dst (N := 2) rfl ?_); (try (refine gate_guard (by rfl) ?_; dsimp only)); refine Kd.R_lit (Kd.int .i64) _ 3 ?hg (N := 2) ?hd (xs := ([3] : List Int)) (inner := [.int .i64 3]) (ok := fun _ => True) (okp := fun _ => True) ?hr ?hp (fun _ hk => hk) trivial (Below.refl _ _) (Nat.le_refl _) (by simp) ?_; (case hd => rfl); (case hg => rfl); (case hr => first | (go_simp; done) | (go_simp; rfl)); (case hp => exact (Reps.one (show Kd.M (Kd.int .i64) _ _ _ 3 [.int .i64 3] from rfl) (Reps.none _ _))); intro v121 w28 ho29 hb hg_ hnew_; clear hg_ hnew_; (first | rw [← Ny120.out] at ho29 | (simp only [Int.reduceToNat] at ho29; rw [← Ny120.out] at ho29)); have HO122 := Aside0.mk (Kd.R_lower ho29 (below_size (vW HB.out))); replace HB := vWs HB hb; clear hb ho29; obtain ⟨Ao30, co30, eo30⟩ := Kd.R_slice HO122.out; subst eo30) | ((with_reducible refine gate_callee (f := 13) rfl ?_); refine goesL_ (some 3) rfl rfl Try.func13 (by kernel_rfl) rfl #[.slice Ao30 y120.length co30] rfl vL ?_; (with_reducible refine (oct_Top.calls k _ _ y120 t123 t126 t129 _ ?side1 ?side2 A1.out).mono ?_); (case side1 => repeat (first | exact (Kd.R_reads' HO122.out).2.2 | (with_reducible refine Kd.C_alloc ?_ _) | (with_reducible refine Kd.C_drewN ?_ _) | (with_reducible refine Kd.C_drew ?_))); (case side2 => exact (Kd.R_reads' HO122.out).2.1); rintro e w31 ⟨v124, v127, rfl, ho0, ho1, hb⟩; refine ⟨_, rfl, ?_⟩; have HO125 := Aside0.mk (Kd.R_lower (Kd.R_new' ho0 (Kd.R_lt (vR HO122.out))) (below_size (vW HB.out))); replace HO122 := Aside0.mk (Kd.R_elder' (vR HO122.out) (Kd.R_base ho0) hb); have HO128 := Aside0.mk (Kd.R_lower ho1 (below_size (vW HB.out))); replace HB := vWs HB hb; (try clear hb); (try clear hb2); (try clear hk); (try clear hi); (try clear ho0); (try clear ho1)) | ((with_reducible refine gate_dst (N := 1) rfl ?_); (try (refine gate_guard (by rfl) ?_; dsimp only)); refine box_event ?hg (N := 1) ?hd (cs := #[.slice none 0 0, .slice none 0 0, .bool false]) (t := 25) ?hr ?_; (case hd => rfl); (case hg => rfl); (case hr => first | (go_simp; done) | (go_simp; rfl)); intro gb130 hg w32 hbox hb; replace HO122 := vRb HO122 hb; replace HO125 := vRb HO125 hb; replace HO128 := vRb HO128 hb; have BK130 := Aside0.mk (hbox); have GW130 := vS hg HB; have GE130 := vS hg HB; replace HB := vWs HB hb; clear hb hbox hg; obtain ⟨Ao33, co33, eo33⟩ := Kd.R_slice HO125.out; subst eo33; obtain ⟨hcz34_0, hcz34_1, hcz34_2, hfz34_0, hfz34_1, hfz34_2⟩ := vF3 BK130.out; obtain ⟨Ao35, co35, eo35⟩ := Kd.R_slice HO128.out; subst eo35; have p131 : 0 ≤ (0 : Int) := (by omega); have q131 : 0 < (t126.length : Int) := of_decide_eq_true (by first | (with_reducible assumption) | assumption); obtain ⟨ad131, e131, hx131_0⟩ := Kd.at_int (Kd.R_reads' HO128.out).2.2 0 p131 q131; cases e131; have qi131 : (0 < t126.length) = True := eq_true (by omega); (try rw [show ((0 : Int)).toNat = 0 from rfl] at hx131_0); (try rw [Addr.add_zero'] at hx131_0); have hn131_0 : ad131.block ≠ gb130 := Kd.own_blk (Kd.R_ne HO128.out BK130.out (by decide)); have hn131_1 : ad131.block ≠ gb130 := Kd.own_blk (Kd.R_ne HO128.out BK130.out (by decide)); have hn131_2 : ad131.block ≠ gb130 := Kd.own_blk (Kd.R_ne HO128.out BK130.out (by decide)); replace hx131_0 := (cell_far (p := ⟨gb130, 0, none⟩) (by first | (rw [add_block]; exact hn131_0) | (show (Addr.add _ _).block ≠ _; rw [add_block]; exact hn131_0) | exact hn131_0) (.slice Ao33 t123.length co33)).trans hx131_0; replace hx131_0 := (cell_far (p := ⟨gb130, 1, none⟩) (by first | (rw [add_block]; exact hn131_1) | (show (Addr.add _ _).block ≠ _; rw [add_block]; exact hn131_1) | exact hn131_1) (.slice (some ad131) t126.length co35)).trans hx131_0; replace hx131_0 := (cell_far (p := ⟨gb130, 2, none⟩) (by first | (rw [add_block]; exact hn131_2) | (show (Addr.add _ _).block ≠ _; rw [add_block]; exact hn131_2) | exact hn131_2) (.bool t129)).trans hx131_0; clear hn131_0; clear hn131_1; clear hn131_2; replace p131 := eq_true p131; replace q131 := eq_true q131))
    go_ret
    exact ⟨by first | rfl | (simp [errW_none, errW_some] <;> rfl) | (simp [*, errW_none, errW_some] <;> rfl) | (simp [wrap64]; done), vW HB.out⟩
  ·
   rw [if_neg c3] at H
   exact absurd H (by simp)
 ·
  rw [if_neg c2] at H
  have c2b0 : ((t126.length : Int) == 4) = false := beq_eq_false_iff_ne.mpr c2
  have c2b1 : ((t126.length : Int) != 4) = true := bne_iff_ne.mpr c2
  obtain rfl := Option.some.inj H
  go_enter Try.func20, Try.ntmps20
  go_wp2_with (first | ((with_reducible refine gate_dst (N := 2) rfl ?_); (try (refine gate_guard (by rfl) ?_; dsimp only)); refine Kd.R_lit (Kd.int .i64) _ 3 ?hg (N := 2) ?hd (xs := ([3] : List Int)) (inner := [.int .i64 3]) (ok := fun _ => True) (okp := fun _ => True) ?hr ?hp (fun _ hk => hk) trivial (Below.refl _ _) (Nat.le_refl _) (by simp) ?_; (case hd => rfl); (case hg => rfl); (case hr => first | (go_simp; done) | (go_simp; rfl)); (case hp => exact (Reps.one (show Kd.M (Kd.int .i64) _ _ _ 3 [.int .i64 3] from rfl) (Reps.none _ _))); intro v121 w36 ho37 hb hg_ hnew_; clear hg_ hnew_; (first | rw [← Ny120.out] at ho37 | (simp only [Int.reduceToNat] at ho37; rw [← Ny120.out] at ho37)); have HO122 := Aside0.mk (Kd.R_lower ho37 (below_size (vW HB.out))); replace HB := vWs HB hb; clear hb ho37; obtain ⟨Ao38, co38, eo38⟩ := Kd.R_slice HO122.out; subst eo38) | ((with_reducible refine gate_callee (f := 13) rfl ?_); refine goesL_ (some 3) rfl rfl Try.func13 (by kernel_rfl) rfl #[.slice Ao38 y120.length co38] rfl vL ?_; (with_reducible refine (oct_Top.calls k _ _ y120 t123 t126 t129 _ ?side1 ?side2 A1.out).mono ?_); (case side1 => repeat (first | exact (Kd.R_reads' HO122.out).2.2 | (with_reducible refine Kd.C_alloc ?_ _) | (with_reducible refine Kd.C_drewN ?_ _) | (with_reducible refine Kd.C_drew ?_))); (case side2 => exact (Kd.R_reads' HO122.out).2.1); rintro e w39 ⟨v124, v127, rfl, ho0, ho1, hb⟩; refine ⟨_, rfl, ?_⟩; have HO125 := Aside0.mk (Kd.R_lower (Kd.R_new' ho0 (Kd.R_lt (vR HO122.out))) (below_size (vW HB.out))); replace HO122 := Aside0.mk (Kd.R_elder' (vR HO122.out) (Kd.R_base ho0) hb); have HO128 := Aside0.mk (Kd.R_lower ho1 (below_size (vW HB.out))); replace HB := vWs HB hb; (try clear hb); (try clear hb2); (try clear hk); (try clear hi); (try clear ho0); (try clear ho1)) | ((with_reducible refine gate_dst (N := 1) rfl ?_); (try (refine gate_guard (by rfl) ?_; dsimp only)); refine box_event ?hg (N := 1) ?hd (cs := #[.slice none 0 0, .slice none 0 0, .bool false]) (t := 25) ?hr ?_; (case hd => rfl); (case hg => rfl); (case hr => first | (go_simp; done) | (go_simp; rfl)); intro gb130 hg w40 hbox hb; replace HO122 := vRb HO122 hb; replace HO125 := vRb HO125 hb; replace HO128 := vRb HO128 hb; have BK130 := Aside0.mk (hbox); have GW130 := vS hg HB; have GE130 := vS hg HB; replace HB := vWs HB hb; clear hb hbox hg; obtain ⟨Ao41, co41, eo41⟩ := Kd.R_slice HO125.out; subst eo41; obtain ⟨hcz42_0, hcz42_1, hcz42_2, hfz42_0, hfz42_1, hfz42_2⟩ := vF3 BK130.out; obtain ⟨Ao43, co43, eo43⟩ := Kd.R_slice HO128.out; subst eo43))
  go_ret
  exact ⟨by first | rfl | (simp [errW_none, errW_some] <;> rfl) | (simp [*, errW_none, errW_some] <;> rfl) | (simp [wrap64]; done), vW HB.out⟩
end Go.Proofs.Ytomgebmimgaojaa.QO
end
end
section
/- The probe that the program is awake holds. -/
noncomputable section
namespace Go.Proofs.Ytomgebmimgaojaa.Pure
open Go.RowKit Go.Proofs.Ytomgebmimgaojaa.QO Go.Proofs.YtomgebmimgaojaaW.PrintWords Go.Proofs.YtomgebmimgaojaaW.PrintLast Go.Proofs.YtomgebmimgaojaaW.PrintMore
namespace Octs
def M (n : Nat) : List Int := (List.range (4 * n * n)).map fun p => if p % (2 * n + 1) = 0 then 0 else 4611686018427387904
theorem news : ∀ n : Nat, n < 9 → dbm_New.f 300 (2 * (n : Int)) = some (M n) := by decide +kernel
theorem new_at (n : Nat) (h : n < 9) (k : Nat) (hk : 300 ≤ k) : dbm_New.f k (2 * (n : Int)) = some (M n) := grow (g := fun k => dbm_New.f k (2 * (n : Int))) (dbm_New.mono _) (news n h) k hk
theorem v3 : VarsOk [3] := ⟨by decide, fun i h0 h1 => by
  have : i = 0 := by simp at h1; omega
  subst this; exact ⟨by decide, fun h => absurd h (by decide)⟩⟩
theorem top_v3 (k : Nat) (hk : 300 ≤ k) : oct_Top.f k [3] = some ([3], M ([3] : List Int).length, false) := by
  have h := v3
  have h8 := h.1
  have hw : wrap64 (2 * (([3] : List Int).length : Int)) = 2 * (([3] : List Int).length : Int) := by unfold wrap64; omega
  have hc : slices_Clone_int_int.f [3] = some [3] := by unfold slices_Clone_int_int.f; rw [if_pos (by decide)]
  unfold oct_Top.f oct_may.f; rw [varsB_true.2 h, Option.bind_some, if_pos rfl, hc, Option.bind_some, hw, new_at _ (by decide) k (by omega)]; rfl
theorem two {p : Int → Int → Prop} (h : ∀ a, a < 2 → ∀ b, b < 2 → p ((a : Nat) : Int) ((b : Nat) : Int)) (i j : Int) (h0 : 0 ≤ i) (h1 : i < 2) (h2 : 0 ≤ j) (h3 : j < 2) : p i j := by
  have := h i.toNat (by omega) j.toNat (by omega)
  rwa [Int.toNat_of_nonneg h0, Int.toNat_of_nonneg h2] at this
theorem has9 : HasP [3] (M 1) false [9] := by
  refine ⟨rfl, ⟨v3, fun h => (by cases h), fun _ => ⟨by decide +kernel, fun i j h0 h1 h2 h3 => ?_⟩⟩, rfl, fun k h0 h1 => ?_, fun i j h0 h1 h2 h3 => ?_⟩
  · refine two (p := fun i j => EntryOk (2 * (([3] : List Int).length : Int)) (M 1) i j) ?_ i j h0 (by simpa using h1) h2 (by simpa using h3)
    unfold EntryOk; decide +kernel
  · have : k = 0 := by simp at h1; omega
    subst this; decide +kernel
  · refine two (p := fun i j => rd (M 1) (i * (2 * (([3] : List Int).length : Int)) + j) = 4611686018427387904 ∨ sgn [9] j - sgn [9] i ≤ rd (M 1) (i * (2 * (([3] : List Int).length : Int)) + j)) ?_ i j h0 (by simpa using h1) h2 (by simpa using h3)
    decide +kernel
theorem awake_true (k : Nat) (hk : 400 ≤ k) : gimballaw11_awake.f k = some true := by
  unfold gimballaw11_awake.f
  rw [top_v3 k (by omega), Option.bind_some]
  have e : (M ([3] : List Int).length) = [0, 4611686018427387904, 4611686018427387904, 0] := by decide +kernel
  have hh : oct_Has.f [3] (M ([3] : List Int).length) false [9] = some true := by
    unfold oct_Has.f; rw [if_pos ⟨by decide, by decide⟩]; exact congrArg some (hasB_true.2 has9)
  show (if ((M ([3] : List Int).length).length : Int) = 4 then _ else _) = _
  simp only [hh]
  rw [e]
  rfl
theorem awake_ev : Ev (fun k => gimballaw11_awake.f k) true := ⟨400, awake_true⟩
end Octs
end Go.Proofs.Ytomgebmimgaojaa.Pure
end
end
section
/- What the laws' own words answer to octagons that are held. -/
noncomputable section
namespace Go.Proofs.Ytomgebmimgaojaa.QO
open Go.RowKit Go.Shelf Go.Proofs.YtomgebmimgaojaaW.PrintWords Go.Proofs.YtomgebmimgaojaaW.PrintLast Go.Proofs.YtomgebmimgaojaaW.PrintMore
open Go.Proofs.Ytomgebmimgaojaa.Pure Octs Holds Two
set_option linter.unusedVariables false
abbrev OV.val (x : OV) : Value := .agg #[.slice x.P x.v.length x.p, .slice x.Q x.m.length x.q, .bool x.e]
section
variable {w W W0 : World} {x y : OV} {vars : List Int} {bs : List (Nat × OV)} {vs : List OV} {es : List Nat} {g : Nat}
/-- a call that answers and leaves all that is -/
abbrev Says (f : Nat) (args : Array Value) (W : World) (v : Value) : Prop := Calls Try.prog f args W fun e w' => e = .returned v ∧ Below W.heap.size W w'
theorem awake_o : Says 20 #[] W (.bool true) := by
  obtain ⟨K, hK⟩ := awake_ev
  exact gimballaw11_awake.calls K true W (hK K (Nat.le_refl _))
theorem two_o (hx : Oc w W x) (hy : Oc w W y) (hb : Below w.heap.size w W) (lx : x.v.length ≤ 17592186044416) (ly : y.v.length ≤ 17592186044416) : ∃ b, (b = true → OkV x.v x ∧ OkV x.v y) ∧ (∀ {w W : World}, Oc w W x → Oc w W y → Below w.heap.size w W → Says 32 #[x.val, y.val] W (.bool b)) := by
  obtain ⟨b, ⟨K, hK⟩, h⟩ := two_ev x.v x.m x.e y.v y.m y.e lx ly
  refine ⟨b, fun e => ⟨⟨(h e).1, rfl⟩, ⟨(h e).2.1, (h e).2.2⟩⟩, fun hx hy hb => ?_⟩
  exact gimballaw11_two.calls K x.P x.p x.v x.Q x.q x.m x.e y.P y.p y.v y.Q y.q y.m y.e b _ (hx.r0.reads hb) hx.r0.le (hx.r1.reads hb) hx.r1.le (hy.r0.reads hb) hy.r0.le (hy.r1.reads hb) hy.r1.le (hK K (Nat.le_refl _))
theorem holds_o {A : Option Addr} {c : Nat} {v : List Int} (hx : Oc w W x) (hb : Below w.heap.size w W) (hv : Kd.C (Kd.int .i64) W A v.length v) (hc : v.length ≤ c) (fx : OkV vars x) (hs : Small vars.length v) :
    Says 33 #[x.val, .slice A v.length c] W (.bool (hasB x.v x.m x.e v)) := by
  obtain ⟨K, hK⟩ := holds_ev fx.1 (by rw [fx.2]; exact hs)
  exact gimballaw11_holds.calls K x.P x.p x.v x.Q x.q x.m x.e A c v _ W (hx.r0.reads hb) hx.r0.le (hx.r1.reads hb) hx.r1.le hv hc (hK K (Nat.le_refl _))
theorem has_o {A : Option Addr} {c : Nat} {v : List Int} (hx : Oc w W x) (hb : Below w.heap.size w W) (hv : Kd.C (Kd.int .i64) W A v.length v) (hc : v.length ≤ c) (h1 : x.v.length ≤ 17592186044416) (h2 : v.length ≤ 17592186044416) :
    Says 34 #[x.val, .slice A v.length c] W (.bool (hasB x.v x.m x.e v)) :=
  oct_Has.calls x.P x.p x.v x.Q x.q x.m x.e A c v _ W (hx.r0.reads hb) hx.r0.le (hx.r1.reads hb) hx.r1.le hv hc (by unfold oct_Has.f; rw [if_pos ⟨h1, h2⟩])
theorem small_o {b : Int} (hx : Oc w W x) (hb : Below w.heap.size w W) (h1 : wrap64 (-b) = -b) (hl : x.m.length < 4611686018427387904) :
    ∃ r, (r = true → ∀ j : Nat, j < x.m.length → rd x.m (j : Int) = 4611686018427387904 ∨ (-b ≤ rd x.m (j : Int) ∧ rd x.m (j : Int) ≤ b)) ∧ Says 35 #[x.val, .int .i64 b] W (.bool r) := by
  obtain ⟨r, ⟨K, hK⟩, h⟩ := small_ev x.v x.m x.e h1 hl
  exact ⟨r, h, gimballaw11_small.calls K x.P x.p x.v x.Q x.q x.m x.e b r W (hx.r0.reads hb) hx.r0.le (hx.r1.reads hb) hx.r1.le (hK K (Nat.le_refl _))⟩
theorem m0_ {α : Type} {a : α} {l : List α} : a ∈ a :: l := List.mem_cons_self
theorem m1_ {α : Type} {a b : α} {l : List α} : a ∈ b :: a :: l := List.mem_cons_of_mem _ m0_
theorem m2_ {α : Type} {a b c : α} {l : List α} : a ∈ b :: c :: a :: l := List.mem_cons_of_mem _ m1_
theorem m3_ {α : Type} {a b c d : α} {l : List α} : a ∈ b :: c :: d :: a :: l := List.mem_cons_of_mem _ m2_
theorem m4_ {α : Type} {a b c d e : α} {l : List α} : a ∈ b :: c :: d :: e :: a :: l := List.mem_cons_of_mem _ m3_
/-- what is known of one world, of one that came of it -/
theorem LS.to (h : Aside0 (LS w bs vs es W0)) (f : LS w bs vs es W0 → LS w bs vs es W := by intro h_; (with_reducible repeat (first | exact h_ | refine LS.next ?_ (below_alloc (Below.refl _ _) _) | refine LS.next ?_ (below_drew (Below.refl _ _)) | refine LS.next ?_ (pw_below_drewN (Below.refl _ _) _)))) : LS w bs vs es W := f h.out
theorem LS.cells (h : Aside0 (LS w bs vs es W)) (hb : (g, x) ∈ bs) : (W.cell? ⟨g, 0, none⟩ = some (.slice x.P x.v.length x.p) ∧ W.cell? ⟨g, 1, none⟩ = some (.slice x.Q x.m.length x.q) ∧ W.cell? ⟨g, 2, none⟩ = some (.bool x.e)) ∧ W.frozen? ⟨g, 0, none⟩ = false ∧ W.frozen? ⟨g, 1, none⟩ = false ∧ W.frozen? ⟨g, 2, none⟩ = false :=
  have q := (h.out.box _ hb).1
  ⟨h.out.cell hb, blk_frozen q 0, blk_frozen q 1, blk_frozen q 2⟩
theorem LS.oc (h : Aside0 (LS w bs vs es W0)) (hb : (g, x) ∈ bs) (f : LS w bs vs es W0 → LS w bs vs es W := by intro h_; (with_reducible repeat (first | exact h_ | refine LS.next ?_ (below_alloc (Below.refl _ _) _) | refine LS.next ?_ (below_drew (Below.refl _ _)) | refine LS.next ?_ (pw_below_drewN (Below.refl _ _) _)))) : Oc w W x := ((f h.out).box _ hb).2.2
theorem LS.ov (h : Aside0 (LS w bs vs es W0)) (hb : x ∈ vs) (f : LS w bs vs es W0 → LS w bs vs es W := by intro h_; (with_reducible repeat (first | exact h_ | refine LS.next ?_ (below_alloc (Below.refl _ _) _) | refine LS.next ?_ (below_drew (Below.refl _ _)) | refine LS.next ?_ (pw_below_drewN (Below.refl _ _) _)))) : Oc w W x := (f h.out).val _ hb
theorem LS.bel (h : Aside0 (LS w bs vs es W0)) (f : LS w bs vs es W0 → LS w bs vs es W := by intro h_; (with_reducible repeat (first | exact h_ | refine LS.next ?_ (below_alloc (Below.refl _ _) _) | refine LS.next ?_ (below_drew (Below.refl _ _)) | refine LS.next ?_ (pw_below_drewN (Below.refl _ _) _)))) : Below w.heap.size w W := (f h.out).below
/-- the arguments, boxed -/
theorem LS.two (X Y : OV) (hX : Oc w w X) (hY : Oc w w Y) : LS w [(w.heap.size, X), (w.heap.size + 1, Y)] [] [] ((w.alloc X.cells).alloc Y.cells) := by
  have hb : Below w.heap.size w ((w.alloc X.cells).alloc Y.cells) := below_alloc (below_alloc (Below.refl _ _) _) _
  refine ⟨hb, fun b h => ?_, fun _ h => (by cases h), fun _ h => (by cases h), by simp⟩
  cases h with
  | head => exact ⟨blk_alloc (blk_new _ _) _, Nat.le_refl _, hX.next hb⟩
  | tail _ h =>
    cases h with
    | head => exact ⟨by have h := blk_new (w.alloc X.cells) Y.cells; simpa using h, Nat.le_succ _, hY.next hb⟩
    | tail _ h => cases h
theorem LS.three (X Y Z : OV) (hX : Oc w w X) (hY : Oc w w Y) (hZ : Oc w w Z) : LS w [(w.heap.size, X), (w.heap.size + 1, Y), (w.heap.size + 1 + 1, Z)] [] [] (((w.alloc X.cells).alloc Y.cells).alloc Z.cells) := by
  have hb : Below w.heap.size w (((w.alloc X.cells).alloc Y.cells).alloc Z.cells) := below_alloc (below_alloc (below_alloc (Below.refl _ _) _) _) _
  refine ⟨hb, fun b h => ?_, fun _ h => (by cases h), fun _ h => (by cases h), by simp; omega⟩
  cases h with
  | head => exact ⟨blk_alloc (blk_alloc (blk_new _ _) _) _, Nat.le_refl _, hX.next hb⟩
  | tail _ h =>
    cases h with
    | head => exact ⟨blk_alloc (by have h := blk_new (w.alloc X.cells) Y.cells; simpa using h) _, Nat.le_succ _, hY.next hb⟩
    | tail _ h =>
      cases h with
      | head => exact ⟨by have h := blk_new ((w.alloc X.cells).alloc Y.cells) Z.cells; simpa using h, by omega, hZ.next hb⟩
      | tail _ h => cases h
end
end Go.Proofs.Ytomgebmimgaojaa.QO
end
end
section
/- Values of octagons: what Close, Join, Meet and Leq say of them. -/
noncomputable section
namespace Go.Proofs.Ytomgebmimgaojaa.Pure
open Go.RowKit Go.Proofs.Ytomgebmimgaojaa.QO Go.Proofs.YtomgebmimgaojaaW.PrintWords Go.Proofs.YtomgebmimgaojaaW.PrintLast Go.Proofs.YtomgebmimgaojaaW.PrintMore
open OctMath (Le)
open Octs Holds Two
namespace OVal
section
variable {vars m m' v : List Int} {e e' : Bool}
abbrev has3 (c : List Int × List Int × Bool) (v : List Int) : Bool := hasB c.1 c.2.1 c.2.2 v
theorem L1 (h : OFit vars m e) (hs : Small vars.length v) (hx : hasB vars m e v = true) : has3 (closeF vars m e) v = true := by
  obtain ⟨he, hc, hl⟩ := has_close h hs hx
  subst he
  rcases close_cases h with ⟨h1, h2⟩ | ⟨_, _, h3⟩
  · rcases h2 with h2 | h2
    · cases h2
    · exact absurd hc h2
  · unfold has3; rw [h3]; exact (has_lst h.1 (snd_close (snd_of_fit h) hc) hs).2 hl
theorem L2 (h : OFit vars m e) (hs : Small vars.length v) (hx : has3 (closeF vars m e) v = true)
    (hb : ∀ j : Nat, j < (closeF vars m e).2.1.length → rd (closeF vars m e).2.1 (j : Int) = 4611686018427387904 ∨ (-1099511627775 ≤ rd (closeF vars m e).2.1 (j : Int) ∧ rd (closeF vars m e).2.1 (j : Int) ≤ 1099511627775)) : hasB vars m e v = true := by
  rcases close_cases h with ⟨h1, h2⟩ | ⟨he, hc, h3⟩
  · unfold has3 at hx; rw [h1, has_empty] at hx; cases hx
  · subst he
    unfold has3 at hx
    rw [h3] at hx hb
    have hl := (has_lst h.1 (snd_close (snd_of_fit h) hc) hs).1 hx
    refine close_has h hs hc hl (fun i j hi hj => ?_)
    have h5 := hb (i * (2 * vars.length) + j) (by rw [lst_length]; exact ij_lt hi hj)
    rw [lst_rd hi hj rfl] at h5
    omega
theorem le_mx (a b : Int) : a ≤ mx a b ∧ b ≤ mx a b := by unfold mx; split <;> omega
theorem L3 (h : OFit vars m e) (h' : OFit vars m' e') (hs : Small vars.length v) (hx : hasB vars m e v = true ∨ hasB vars m' e' v = true) : has3 (joinF vars m e m' e') v = true := by
  unfold joinF
  rcases close_cases h with ⟨h1, h2⟩ | ⟨he, hc, h3⟩
  · have hn : ¬ hasB vars m e v = true := fun q => by have := L1 h hs q; unfold has3 at this; rw [h1, has_empty] at this; cases this
    have hy : hasB vars m' e' v = true := hx.resolve_left hn
    rw [h1, if_pos rfl]; exact L1 h' hs hy
  · rcases close_cases h' with ⟨h1', h2'⟩ | ⟨he', hc', h3'⟩
    · have hn : ¬ hasB vars m' e' v = true := fun q => by have := L1 h' hs q; unfold has3 at this; rw [h1', has_empty] at this; cases this
      have hy : hasB vars m e v = true := hx.resolve_right hn
      have := L1 h hs hy
      rw [h3] at this ⊢
      rw [if_neg (by simp), h1', if_pos rfl]; exact this
    · subst he he'
      have s1 := snd_close (snd_of_fit h) hc
      have s2 := snd_close (snd_of_fit h') hc'
      rw [h3, h3', if_neg (by simp), if_neg (by simp)]
      unfold has3
      show hasB vars (mixL mx (2 * vars.length) _ _) false v = true
      rw [mixL_lst2 mx h.1 s1 s2]
      refine (has_lst h.1 (snd_mx s1 s2) hs).2 (fun i j hi hj => ?_)
      rcases hx with hx | hx
      · exact Int.le_trans ((has_close h hs hx).2.2 i j hi hj) (le_mx _ _).1
      · exact Int.le_trans ((has_close h' hs hx).2.2 i j hi hj) (le_mx _ _).2
theorem L4 (h : OFit vars m e) (h' : OFit vars m' e') (hs : Small vars.length v) (hx : hasB vars m e v = true) (hy : hasB vars m' e' v = true) : has3 (meetF vars m e m' e') v = true := by
  have he := (hasB_true.1 hx).1
  have he' := (hasB_true.1 hy).1
  subst he he'
  unfold meetF
  rw [if_neg (by simp)]
  refine L1 (min_fit h h') hs ?_
  rw [mixL_lst]
  refine (has_lst h.1 (snd_mn (snd_of_fit h) (snd_of_fit h')) hs).2 (fun i j hi hj => ?_)
  have q1 := (has_iff h hs).1 hx i j hi hj
  have q2 := (has_iff h' hs).1 hy i j hi hj
  show _ ≤ mn _ _
  unfold mn; split <;> assumption
theorem L5 (h : OFit vars m e) (h' : OFit vars m' e') (hs : Small vars.length v) (hx : hasB vars m e v = true) (hl : leqF vars m e m' e' = true) : has3 (closeF vars m' e') v = true := by
  obtain ⟨he, hc, hle⟩ := has_close h hs hx
  subst he
  unfold leqF at hl
  rcases close_cases h with ⟨_, h2⟩ | ⟨_, _, h3⟩
  · rcases h2 with h2 | h2
    · cases h2
    · exact absurd hc h2
  · rcases close_cases h' with ⟨h1', _⟩ | ⟨he', hc', h3'⟩
    · rw [h3, h1', if_pos (.inr rfl)] at hl; cases hl
    · subst he'
      have s1 := snd_close (snd_of_fit h) hc
      have s2 := snd_close (snd_of_fit h') hc'
      rw [h3, h3', if_neg (by simp), leqL_iff h.1 s1 s2] at hl
      unfold has3
      rw [h3']
      exact (has_lst h.1 s2 hs).2 (fun i j hi hj => Int.le_trans (hle i j hi hj) (hl i j hi hj))
theorem close_fst (vars m : List Int) (e : Bool) : (closeF vars m e).1 = vars := by unfold closeF; split <;> rfl
theorem close_small (h : OFit vars m e) : (closeF vars m e).2.1.length < 4611686018427387904 := by
  have h8 := h.1.1
  rcases close_cases h with ⟨q, _⟩ | ⟨_, _, q⟩
  · rw [q]; simp
  · rw [q]; show (lst _ _).length < _; rw [lst_length]; exact Nat.lt_of_le_of_lt (Nat.mul_le_mul (show 2 * vars.length ≤ 16 by omega) (show 2 * vars.length ≤ 16 by omega)) (by decide)
theorem join_fst (vars m m' : List Int) (e e' : Bool) : (joinF vars m e m' e').1 = vars := by
  unfold joinF; split
  · exact close_fst _ _ _
  · split
    · exact close_fst _ _ _
    · rfl
theorem meet_fst (vars m m' : List Int) (e e' : Bool) : (meetF vars m e m' e').1 = vars := by
  unfold meetF; split
  · rfl
  · exact close_fst _ _ _
theorem has_f (c : List Int × List Int × Bool) (v : List Int) (h1 : c.1.length ≤ 17592186044416) (h2 : v.length ≤ 17592186044416) : oct_Has.f c.1 c.2.1 c.2.2 v = some (has3 c v) := by
  unfold oct_Has.f; rw [if_pos ⟨h1, h2⟩]
end
end OVal
end Go.Proofs.Ytomgebmimgaojaa.Pure
end
end
section
/- The law OctValues walked: it answers true. Printed by gen_ov.py. -/
noncomputable section
namespace Go.Proofs.Ytomgebmimgaojaa.QO
open Go.RowKit Go.Shelf Go.Proofs.YtomgebmimgaojaaW.PrintWords Go.Proofs.YtomgebmimgaojaaW.PrintLast Go.Proofs.YtomgebmimgaojaaW.PrintMore
open Go.Proofs.Ytomgebmimgaojaa.Pure Octs Holds Two
attribute [local go_sem] Oper.semAt_some
attribute [local go_sem ↓] Go.wp_at_zero Go.wp_at_succ
set_option linter.unusedVariables false
set_option linter.unusedSimpArgs false
def octValues_T : Bool × List (List Nat × List Nat) := (true, [([], []), ([], []), ([0, 1], [0, 1]), ([], []), ([], []), ([3, 4, 2], [3, 4]), ([2, 5, 0, 1, 2], [2]), ([5, 6, 0, 1, 2, 3, 4, 5, 6], [5])])
def octValues_B : List Nat := [0, 0, 3, 0, 0, 31, 63, 127]
theorem octValues_tab : rtab .any (opsOf Try.f8 9) = octValues_T := by kernel_rfl
theorem octValues_bits : waitsOk octValues_T.2 octValues_B = true := by kernel_rfl
section
variable {w W : World} {x y : OV} {vars : List Int}
theorem has_is {A : Option Addr} {c : Nat} {v : List Int} {C : List Int × List Int × Bool} {t : Bool} (hx : Oc w W x) (hb : Below w.heap.size w W) (hv : Kd.C (Kd.int .i64) W A v.length v) (hc : v.length ≤ c) (h1 : x.v.length ≤ 17592186044416) (h2 : v.length ≤ 17592186044416) (hz : x.o = C) (ht : hasB C.1 C.2.1 C.2.2 v = t) :
    Says 34 #[x.val, .slice A v.length c] W (.bool t) := by
  subst hz ht; exact has_o hx hb hv hc h1 h2
theorem wmax_ : wrap64 (-1099511627775) = -1099511627775 := by unfold wrap64; omega
theorem has_len {C : List Int × List Int × Bool} {v : List Int} (hz : x.o = C) (h : C.1 = v) (hv : v.length ≤ 17592186044416) : x.v.length ≤ 17592186044416 := by
  subst hz; rw [show x.v = v from h]; exact hv
theorem small_not {b : Int} {C : List Int × List Int × Bool} (hx : Oc w W x) (hb : Below w.heap.size w W) (h1 : wrap64 (-b) = -b) (hz : x.o = C) (hl : C.2.1.length < 4611686018427387904)
    (hn : ¬ ∀ j : Nat, j < C.2.1.length → rd C.2.1 (j : Int) = 4611686018427387904 ∨ (-b ≤ rd C.2.1 (j : Int) ∧ rd C.2.1 (j : Int) ≤ b)) : Says 35 #[x.val, .int .i64 b] W (.bool false) := by
  subst hz
  obtain ⟨r, hr, hs⟩ := small_o hx hb h1 hl
  cases r with
  | true => exact absurd (hr rfl) hn
  | false => exact hs
theorem holds_is {A : Option Addr} {c : Nat} {v : List Int} {t : Bool} (hx : Oc w W x) (hb : Below w.heap.size w W) (hv : Kd.C (Kd.int .i64) W A v.length v) (hc : v.length ≤ c) (fx : OkV vars x) (hs : Small vars.length v) (ht : hasB x.v x.m x.e v = t) :
    Says 33 #[x.val, .slice A v.length c] W (.bool t) := by
  subst ht; exact holds_o hx hb hv hc fx hs
theorem leq_is {t : Bool} (hx : Oc w W x) (hy : Oc w W y) (hb : Below w.heap.size w W) (fx : OkV vars x) (fy : OkV vars y) (ht : leqF x.v x.m x.e y.m y.e = t) : Says 38 #[x.val, y.val] W (.bool t) := by
  subst ht; exact leq_o hx hy hb fx fy
end
set_option maxHeartbeats 16000000 in
set_option maxRecDepth 100000 in
theorem octValues_walk (X Y : OV) (A : Option Addr) (c : Nat) (l : List Int) (w : World) (hX : Oc w w X) (hY : Oc w w Y) (hl : Kd.C (Kd.int .i64) w A l.length l) (hc : l.length ≤ c)
    (lx : X.v.length ≤ 17592186044416) (ly : Y.v.length ≤ 17592186044416) (ll : l.length ≤ 17592186044416) : Says 8 #[X.val, Y.val, .slice A l.length c] w (.bool true) := by
  have hu25 := Try.underlying25
  have HL := Aside0.mk hl
  have HC := Aside0.mk hc
  have HN := Aside0.mk (And.intro lx (And.intro ly ll))
  obtain ⟨b, b1, b2⟩ := two_o hX hY (Below.refl _ _) lx ly
  have B1 := Aside0.mk b1
  have B2 := Aside0.mk @b2
  have HS := Aside0.mk (LS.two X Y hX hY)
  clear hl hc hX hY b1 b2 lx ly ll
  go_enter Try.func8, Try.ntmps8
  go_upto_region 1 with fail
  generalize hW2 : ((w.alloc X.cells).alloc Y.cells) = W2 at HS ⊢
  generalize hgb : w.heap.size + 1 = gb at HS ⊢
  generalize hga : w.heap.size = ga at HS ⊢
  clear hW2 hgb hga
  obtain ⟨⟨ka0, ka1, ka2⟩, fa0, fa1, fa2⟩ := LS.cells HS m0_; obtain ⟨⟨kb0, kb1, kb2⟩, fb0, fb1, fb2⟩ := LS.cells HS m1_
  cases b with
  | false =>
    go_wp2_with (first | (go_at_call 32; (with_reducible refine (B2.out (LS.oc HS m0_) (LS.oc HS m1_) (LS.bel HS)).mono ?_); rintro e wk ⟨rfl, hb⟩; have n_ := Aside0.mk ((LS.to HS).next hb); clear HS; have HS := n_; clear n_ hb; clear ka0 ka1 ka2 fa0 fa1 fa2; obtain ⟨⟨ka0, ka1, ka2⟩, fa0, fa1, fa2⟩ := LS.cells HS m0_; clear kb0 kb1 kb2 fb0 fb1 fb2; obtain ⟨⟨kb0, kb1, kb2⟩, fb0, fb1, fb2⟩ := LS.cells HS m1_) | (go_at_call 20; (with_reducible refine (awake_o).mono ?_); rintro e wk ⟨rfl, hb⟩; have n_ := Aside0.mk ((LS.to HS).next hb); clear HS; have HS := n_; clear n_ hb; clear ka0 ka1 ka2 fa0 fa1 fa2; obtain ⟨⟨ka0, ka1, ka2⟩, fa0, fa1, fa2⟩ := LS.cells HS m0_; clear kb0 kb1 kb2 fb0 fb1 fb2; obtain ⟨⟨kb0, kb1, kb2⟩, fb0, fb1, fb2⟩ := LS.cells HS m1_))
    go_ret
    exact ⟨rfl, LS.bel HS⟩
  | true =>
    obtain ⟨ox, oy⟩ := B1.out rfl
    have OX := Aside0.mk ox
    have OY := Aside0.mk oy
    clear ox oy
    by_cases hlen : l.length = X.v.length
    · have HLE := Aside0.mk hlen
      have c1 : (decide ((l.length : Int) = (X.v.length : Int))) = true := decide_eq_true (by omega)
      have c1' : ((l.length : Int) != (X.v.length : Int)) = false := by rw [hlen]; simp
      clear hlen
      go_wp2_with (first | (go_at_call 32; (with_reducible refine (B2.out (LS.oc HS m0_) (LS.oc HS m1_) (LS.bel HS)).mono ?_); rintro e wk ⟨rfl, hb⟩; have n_ := Aside0.mk ((LS.to HS).next hb); clear HS; have HS := n_; clear n_ hb; clear ka0 ka1 ka2 fa0 fa1 fa2; obtain ⟨⟨ka0, ka1, ka2⟩, fa0, fa1, fa2⟩ := LS.cells HS m0_; clear kb0 kb1 kb2 fb0 fb1 fb2; obtain ⟨⟨kb0, kb1, kb2⟩, fb0, fb1, fb2⟩ := LS.cells HS m1_) | (go_at_call 20; (with_reducible refine (awake_o).mono ?_); rintro e wk ⟨rfl, hb⟩; have n_ := Aside0.mk ((LS.to HS).next hb); clear HS; have HS := n_; clear n_ hb; clear ka0 ka1 ka2 fa0 fa1 fa2; obtain ⟨⟨ka0, ka1, ka2⟩, fa0, fa1, fa2⟩ := LS.cells HS m0_; clear kb0 kb1 kb2 fb0 fb1 fb2; obtain ⟨⟨kb0, kb1, kb2⟩, fb0, fb1, fb2⟩ := LS.cells HS m1_))
      go_loopg [30] l.length (fun kq v30 w' => ∃ (i : Int), v30 = .int .i64 i ∧ Aside0 (0 ≤ i ∧ i + (kq : Int) = (l.length : Int)) ∧ Aside0 (∀ j : Nat, (j : Int) < i → -274877906944 < rd l (j : Int) ∧ rd l (j : Int) < 274877906944) ∧ Aside0 (LS w [(ga, X), (gb, Y)] [] [] w'))
      case atStart => exact ⟨0, by rfl, ⟨by omega⟩, ⟨fun j h => absurd h (by omega)⟩, ⟨LS.to HS⟩⟩
      case round =>
        clear HS ka0 ka1 ka2 fa0 fa1 fa2 kb0 kb1 kb2 fb0 fb1 fb2
        obtain ⟨i, rfl, HI, HJ, HS⟩ := hrel
        cases gk with
        | succ k =>
          have q1 : (decide (i < (l.length : Int))) = true := decide_eq_true (by have := HI.out; omega)
          have p2 : 0 ≤ i := HI.out.1
          have q2 : i < (l.length : Int) := by have := HI.out; omega
          obtain ⟨ad, ea, hx0⟩ := Kd.at_int HL.out i p2 q2
          cases ea
          replace hx0 := (HS.out.below.cell (World.block_lt_of_cell? w _ hx0)).trans hx0
          replace p2 := eq_true p2
          replace q2 := eq_true q2
          by_cases d1 : rd l i ≤ -274877906944
          · have d1' := decide_eq_true d1
            clear d1
            go_wp2
            go_ret
            exact ⟨rfl, LS.bel HS⟩
          · have HD1 := Aside0.mk d1
            have d1' := decide_eq_false d1
            clear d1
            by_cases d2 : 274877906944 ≤ rd l i
            · have d2' := decide_eq_true d2
              clear d2
              go_wp2
              go_ret
              exact ⟨rfl, LS.bel HS⟩
            · have HD2 := Aside0.mk d2
              have d2' := decide_eq_false d2
              clear d2
              go_wp2
              go_roundg k
              case measure => exact Nat.lt_succ_self k
              case rel => 
                have hw : wrap64 (i + 1) = i + 1 := by have := HI.out; have := HN.out.2.2; unfold wrap64; omega
                exact ⟨wrap64 (i + 1), rfl, ⟨by rw [hw]; have := HI.out; omega⟩, ⟨by
                  rw [hw]
                  intro j hj
                  have h1 := HD1.out; have h2 := HD2.out
                  by_cases e : (j : Int) = i
                  · rw [e]; omega
                  · exact HJ.out j (by omega)⟩, ⟨LS.to HS⟩⟩
        | zero =>
          have q1 : (decide (i < (l.length : Int))) = false := decide_eq_false (by have := HI.out; omega)
          have SML : Aside0 (Small X.v.length l) := ⟨⟨HLE.out, fun k h0 h1 => by
            have := HJ.out k.toNat (by have := HI.out; have := HLE.out; omega)
            rwa [Int.toNat_of_nonneg h0] at this⟩⟩
          clear HI HJ
          obtain ⟨xx, hxx⟩ : ∃ b, hasB X.v X.m X.e l = b := ⟨_, rfl⟩
          obtain ⟨yy, hyy⟩ : ∃ b, hasB Y.v Y.m Y.e l = b := ⟨_, rfl⟩
          have HHX := Aside0.mk hxx
          have HHY := Aside0.mk hyy
          clear hxx hyy
          go_wp2
          have n_ := Aside0.mk HS.out.drew
          clear HS
          have HS := n_
          clear n_
          refine start_ (n := 8) (S := fun w' => (w'.cell? ⟨ga, 0, none⟩ = some (.slice X.P X.v.length X.p) ∧ w'.cell? ⟨ga, 1, none⟩ = some (.slice X.Q X.m.length X.q) ∧ w'.cell? ⟨ga, 2, none⟩ = some (.bool X.e)) ∧ (w'.cell? ⟨gb, 0, none⟩ = some (.slice Y.P Y.v.length Y.p) ∧ w'.cell? ⟨gb, 1, none⟩ = some (.slice Y.Q Y.m.length Y.q) ∧ w'.cell? ⟨gb, 2, none⟩ = some (.bool Y.e))) (ds := []) (mB 8 0) (by kernel_rfl) rfl (by kernel_rfl) ⟨HS.out.cell m0_, HS.out.cell m1_⟩ (fun hHeld => ?_)
          refine with_tabW octValues_tab octValues_bits (fun HT_ HW_ => ?_)
          generalize hWd : World.drew _ = Wd at HS hHeld ⊢
          clear hWd
          refine pV_ 1 42 (mB 8 2) HT_ ?_
          refine pV_ 4 45 (mB 8 18) HT_ ?_
          refine tV_ 0 41 (mB 8 19) HT_ HW_ hHeld ?_
          refine tV_ 3 44 (mB 8 27) HT_ HW_ hHeld ?_
          refine one_ (i := 2) (N := some 43) (mB 8 31) rfl rfl (one_of HT_.out (by kernel_rfl)) (by decide) (fun K hK => ?_)
          refine goes_ Try.func33 (by kernel_rfl) rfl #[X.val, .slice A l.length c] (by rfl) rfl rfl vL ?_
          with_reducible refine (holds_is (LS.oc HS m0_) (LS.bel HS) (Kd.C_below HL.out (LS.bel HS)) HC.out OX.out SML.out HHX.out).mono ?_
          rintro e wk ⟨rfl, hb⟩; refine ⟨_, rfl, ?_⟩
          have n_ := Aside0.mk (HS.out.next hb); clear HS; have HS := n_; clear n_ hb
          refine hK.out _ _ ⟨HS.out.cell m0_, HS.out.cell m1_⟩ (fun hHeld => ?_)
          clear hK K
          refine nO_ 43 ?_
          refine one_ (i := 5) (N := some 46) (mB 8 63) rfl rfl (one_of HT_.out (by kernel_rfl)) (by decide) (fun K hK => ?_)
          refine goes_ Try.func33 (by kernel_rfl) rfl #[Y.val, .slice A l.length c] (by rfl) rfl rfl vL ?_
          with_reducible refine (holds_is (LS.oc HS m1_) (LS.bel HS) (Kd.C_below HL.out (LS.bel HS)) HC.out OY.out SML.out HHY.out).mono ?_
          rintro e wk2 ⟨rfl, hb⟩; refine ⟨_, rfl, ?_⟩
          have n_ := Aside0.mk (HS.out.next hb); clear HS; have HS := n_; clear n_ hb
          refine hK.out _ _ ⟨HS.out.cell m0_, HS.out.cell m1_⟩ (fun hHeld => ?_)
          clear hK K
          refine nO_ 46 ?_
          refine pV_ 6 9 (mB 8 127) HT_ ?_
          refine pV_ 7 10 (mB 8 255) HT_ ?_
          refine done_ (done_of HT_.out (by kernel_rfl)) ?_
          clear HT_ HW_ hHeld
          go_upto_region 10 with fail
          obtain ⟨⟨ka0, ka1, ka2⟩, fa0, fa1, fa2⟩ := LS.cells HS m0_; obtain ⟨⟨kb0, kb1, kb2⟩, fb0, fb1, fb2⟩ := LS.cells HS m1_
          obtain ⟨hc, hhc⟩ : ∃ b, hasB (closeF X.v X.m X.e).1 (closeF X.v X.m X.e).2.1 (closeF X.v X.m X.e).2.2 l = b := ⟨_, rfl⟩
          have HHC := Aside0.mk hhc
          obtain ⟨lq, hlq⟩ : ∃ b, leqF X.v X.m X.e Y.m Y.e = b := ⟨_, rfl⟩
          have HLQ := Aside0.mk hlq
          have G1 : Aside0 (xx = true → hc = true) := ⟨fun e => by rw [← HHC.out]; exact OVal.L1 OX.out.1 SML.out (by rw [HHX.out]; exact e)⟩
          have SM : Aside0 ((closeF X.v X.m X.e).2.1.length < 4611686018427387904 ∧ (xx = false → hc = true → ¬ ∀ j : Nat, j < (closeF X.v X.m X.e).2.1.length → rd (closeF X.v X.m X.e).2.1 (j : Int) = 4611686018427387904 ∨ (-1099511627775 ≤ rd (closeF X.v X.m X.e).2.1 (j : Int) ∧ rd (closeF X.v X.m X.e).2.1 (j : Int) ≤ 1099511627775))) :=
            ⟨OVal.close_small OX.out.1, fun e1 e2 hs => by
              have := OVal.L2 OX.out.1 SML.out (HHC.out.trans e2) hs
              rw [HHX.out, e1] at this; cases this⟩
          have HHJ : Aside0 (xx = true ∨ yy = true → hasB (joinF X.v X.m X.e Y.m Y.e).1 (joinF X.v X.m X.e Y.m Y.e).2.1 (joinF X.v X.m X.e Y.m Y.e).2.2 l = true) := ⟨fun e => OVal.L3 OX.out.1 (by have h := OY.out.1; rw [OY.out.2] at h; exact h) SML.out (e.imp (fun e => by rw [HHX.out]; exact e) (fun e => by have h := HHY.out; rw [OY.out.2] at h; rw [h]; exact e))⟩
          have HHM : Aside0 (xx = true → yy = true → hasB (meetF X.v X.m X.e Y.m Y.e).1 (meetF X.v X.m X.e Y.m Y.e).2.1 (meetF X.v X.m X.e Y.m Y.e).2.2 l = true) := ⟨fun e e' => OVal.L4 OX.out.1 (by have h := OY.out.1; rw [OY.out.2] at h; exact h) SML.out (by rw [HHX.out]; exact e) (by have h := HHY.out; rw [OY.out.2] at h; rw [h]; exact e')⟩
          have HHD : Aside0 (lq = true → xx = true → hasB (closeF Y.v Y.m Y.e).1 (closeF Y.v Y.m Y.e).2.1 (closeF Y.v Y.m Y.e).2.2 l = true) := ⟨fun e e' => by
            rw [OY.out.2]; exact OVal.L5 OX.out.1 (by have h := OY.out.1; rw [OY.out.2] at h; exact h) SML.out (by rw [HHX.out]; exact e') (by rw [HLQ.out]; exact e)⟩
          clear hhc hlq
          rcases xx with _ | _ <;> rcases hc with _ | _ <;> rcases yy with _ | _ <;> rcases lq with _ | _
          all_goals first
            | exact absurd (G1.out rfl) (by decide)
            | (go_wp2_with (first | (go_at_call 34; (with_reducible refine (has_is (LS.oc HS m0_) (LS.bel HS) (Kd.C_below HL.out (LS.bel HS)) HC.out HN.out.1 HN.out.2.2 rfl HHX.out).mono ?_); rintro e wk ⟨rfl, hb⟩; have n_ := Aside0.mk ((LS.to HS).next hb); clear HS; have HS := n_; clear n_ hb; clear ka0 ka1 ka2 fa0 fa1 fa2; obtain ⟨⟨ka0, ka1, ka2⟩, fa0, fa1, fa2⟩ := LS.cells HS m0_; clear kb0 kb1 kb2 fb0 fb1 fb2; obtain ⟨⟨kb0, kb1, kb2⟩, fb0, fb1, fb2⟩ := LS.cells HS m1_) | (go_at_call 22; (with_reducible refine (close_o (LS.oc HS m0_) (LS.bel HS) OX.out.1).mono ?_); rintro e wk ⟨z, rfl, hz, ho, hb⟩; have HZ := Aside0.mk hz; clear hz; have n_ := Aside0.mk ((LS.to HS).call hb ho); clear HS; have HS := n_; clear n_ hb ho; clear ka0 ka1 ka2 fa0 fa1 fa2; obtain ⟨⟨ka0, ka1, ka2⟩, fa0, fa1, fa2⟩ := LS.cells HS m0_; clear kb0 kb1 kb2 fb0 fb1 fb2; obtain ⟨⟨kb0, kb1, kb2⟩, fb0, fb1, fb2⟩ := LS.cells HS m1_) | (go_at_call 22; (with_reducible refine (close_o (LS.oc HS m1_) (LS.bel HS) OY.out.1).mono ?_); rintro e wk ⟨z, rfl, hz, ho, hb⟩; have HZ := Aside0.mk hz; clear hz; have n_ := Aside0.mk ((LS.to HS).call hb ho); clear HS; have HS := n_; clear n_ hb ho; clear ka0 ka1 ka2 fa0 fa1 fa2; obtain ⟨⟨ka0, ka1, ka2⟩, fa0, fa1, fa2⟩ := LS.cells HS m0_; clear kb0 kb1 kb2 fb0 fb1 fb2; obtain ⟨⟨kb0, kb1, kb2⟩, fb0, fb1, fb2⟩ := LS.cells HS m1_) | (go_at_call 36; (with_reducible refine (join_o (LS.oc HS m0_) (LS.oc HS m1_) (LS.bel HS) OX.out OY.out).mono ?_); rintro e wk ⟨z, rfl, hz, ho, hb⟩; have HZ := Aside0.mk hz; clear hz; have n_ := Aside0.mk ((LS.to HS).call hb ho); clear HS; have HS := n_; clear n_ hb ho; clear ka0 ka1 ka2 fa0 fa1 fa2; obtain ⟨⟨ka0, ka1, ka2⟩, fa0, fa1, fa2⟩ := LS.cells HS m0_; clear kb0 kb1 kb2 fb0 fb1 fb2; obtain ⟨⟨kb0, kb1, kb2⟩, fb0, fb1, fb2⟩ := LS.cells HS m1_) | (go_at_call 37; (with_reducible refine (meet_o (LS.oc HS m0_) (LS.oc HS m1_) (LS.bel HS) OX.out OY.out).mono ?_); rintro e wk ⟨z, rfl, hz, ho, hb⟩; have HZ := Aside0.mk hz; clear hz; have n_ := Aside0.mk ((LS.to HS).call hb ho); clear HS; have HS := n_; clear n_ hb ho; clear ka0 ka1 ka2 fa0 fa1 fa2; obtain ⟨⟨ka0, ka1, ka2⟩, fa0, fa1, fa2⟩ := LS.cells HS m0_; clear kb0 kb1 kb2 fb0 fb1 fb2; obtain ⟨⟨kb0, kb1, kb2⟩, fb0, fb1, fb2⟩ := LS.cells HS m1_) | (go_at_call 38; (with_reducible refine (leq_is (LS.oc HS m0_) (LS.oc HS m1_) (LS.bel HS) OX.out OY.out HLQ.out).mono ?_); rintro e wk ⟨rfl, hb⟩; have n_ := Aside0.mk ((LS.to HS).next hb); clear HS; have HS := n_; clear n_ hb; clear ka0 ka1 ka2 fa0 fa1 fa2; obtain ⟨⟨ka0, ka1, ka2⟩, fa0, fa1, fa2⟩ := LS.cells HS m0_; clear kb0 kb1 kb2 fb0 fb1 fb2; obtain ⟨⟨kb0, kb1, kb2⟩, fb0, fb1, fb2⟩ := LS.cells HS m1_) | (go_at_call 35; (with_reducible refine (small_not (LS.ov HS m0_) (LS.bel HS) wmax_ HZ.out SM.out.1 (SM.out.2 (by simp) (by simp))).mono ?_); rintro e wk ⟨rfl, hb⟩; have n_ := Aside0.mk ((LS.to HS).next hb); clear HS; have HS := n_; clear n_ hb; clear ka0 ka1 ka2 fa0 fa1 fa2; obtain ⟨⟨ka0, ka1, ka2⟩, fa0, fa1, fa2⟩ := LS.cells HS m0_; clear kb0 kb1 kb2 fb0 fb1 fb2; obtain ⟨⟨kb0, kb1, kb2⟩, fb0, fb1, fb2⟩ := LS.cells HS m1_) | (go_at_call 34; (with_reducible refine (has_is (LS.ov HS m0_) (LS.bel HS) (Kd.C_below HL.out (LS.bel HS)) HC.out (has_len HZ.out (OVal.close_fst _ _ _) HN.out.1) HN.out.2.2 HZ.out HHC.out).mono ?_); rintro e wk ⟨rfl, hb⟩; have n_ := Aside0.mk ((LS.to HS).next hb); clear HS; have HS := n_; clear n_ hb; clear ka0 ka1 ka2 fa0 fa1 fa2; obtain ⟨⟨ka0, ka1, ka2⟩, fa0, fa1, fa2⟩ := LS.cells HS m0_; clear kb0 kb1 kb2 fb0 fb1 fb2; obtain ⟨⟨kb0, kb1, kb2⟩, fb0, fb1, fb2⟩ := LS.cells HS m1_) | (go_at_call 34; (with_reducible refine (has_is (LS.ov HS m0_) (LS.bel HS) (Kd.C_below HL.out (LS.bel HS)) HC.out (has_len HZ.out (OVal.join_fst _ _ _ _ _) HN.out.1) HN.out.2.2 HZ.out (HHJ.out (by simp))).mono ?_); rintro e wk ⟨rfl, hb⟩; have n_ := Aside0.mk ((LS.to HS).next hb); clear HS; have HS := n_; clear n_ hb; clear ka0 ka1 ka2 fa0 fa1 fa2; obtain ⟨⟨ka0, ka1, ka2⟩, fa0, fa1, fa2⟩ := LS.cells HS m0_; clear kb0 kb1 kb2 fb0 fb1 fb2; obtain ⟨⟨kb0, kb1, kb2⟩, fb0, fb1, fb2⟩ := LS.cells HS m1_) | (go_at_call 34; (with_reducible refine (has_is (LS.ov HS m0_) (LS.bel HS) (Kd.C_below HL.out (LS.bel HS)) HC.out (has_len HZ.out (OVal.meet_fst _ _ _ _ _) HN.out.1) HN.out.2.2 HZ.out (HHM.out (by simp) (by simp))).mono ?_); rintro e wk ⟨rfl, hb⟩; have n_ := Aside0.mk ((LS.to HS).next hb); clear HS; have HS := n_; clear n_ hb; clear ka0 ka1 ka2 fa0 fa1 fa2; obtain ⟨⟨ka0, ka1, ka2⟩, fa0, fa1, fa2⟩ := LS.cells HS m0_; clear kb0 kb1 kb2 fb0 fb1 fb2; obtain ⟨⟨kb0, kb1, kb2⟩, fb0, fb1, fb2⟩ := LS.cells HS m1_) | (go_at_call 34; (with_reducible refine (has_is (LS.ov HS m0_) (LS.bel HS) (Kd.C_below HL.out (LS.bel HS)) HC.out (has_len HZ.out (OVal.close_fst _ _ _) HN.out.2.1) HN.out.2.2 HZ.out (HHD.out (by simp) (by simp))).mono ?_); rintro e wk ⟨rfl, hb⟩; have n_ := Aside0.mk ((LS.to HS).next hb); clear HS; have HS := n_; clear n_ hb; clear ka0 ka1 ka2 fa0 fa1 fa2; obtain ⟨⟨ka0, ka1, ka2⟩, fa0, fa1, fa2⟩ := LS.cells HS m0_; clear kb0 kb1 kb2 fb0 fb1 fb2; obtain ⟨⟨kb0, kb1, kb2⟩, fb0, fb1, fb2⟩ := LS.cells HS m1_))
               go_ret
               exact ⟨rfl, LS.bel HS⟩)
    · have c1 : (decide ((l.length : Int) = (X.v.length : Int))) = false := decide_eq_false (by omega)
      have c1' : ((l.length : Int) != (X.v.length : Int)) = true := by simp; omega
      clear hlen
      go_wp2_with (first | (go_at_call 32; (with_reducible refine (B2.out (LS.oc HS m0_) (LS.oc HS m1_) (LS.bel HS)).mono ?_); rintro e wk ⟨rfl, hb⟩; have n_ := Aside0.mk ((LS.to HS).next hb); clear HS; have HS := n_; clear n_ hb; clear ka0 ka1 ka2 fa0 fa1 fa2; obtain ⟨⟨ka0, ka1, ka2⟩, fa0, fa1, fa2⟩ := LS.cells HS m0_; clear kb0 kb1 kb2 fb0 fb1 fb2; obtain ⟨⟨kb0, kb1, kb2⟩, fb0, fb1, fb2⟩ := LS.cells HS m1_) | (go_at_call 20; (with_reducible refine (awake_o).mono ?_); rintro e wk ⟨rfl, hb⟩; have n_ := Aside0.mk ((LS.to HS).next hb); clear HS; have HS := n_; clear n_ hb; clear ka0 ka1 ka2 fa0 fa1 fa2; obtain ⟨⟨ka0, ka1, ka2⟩, fa0, fa1, fa2⟩ := LS.cells HS m0_; clear kb0 kb1 kb2 fb0 fb1 fb2; obtain ⟨⟨kb0, kb1, kb2⟩, fb0, fb1, fb2⟩ := LS.cells HS m1_))
      go_ret
      exact ⟨rfl, LS.bel HS⟩
end Go.Proofs.Ytomgebmimgaojaa.QO
end
end
section
/- What a reading of an argument tells of its cells, kind by kind: for the rows of laws over structs and nested slices. -/
namespace Go.Proofs.Ytomgebmimgaojaa.Open
open Go.RowKit Go.ChangeShapes Go.WideShapes Go.Proofs.YtomgebmimgaojaaW.PrintWords Go.Proofs.YtomgebmimgaojaaW.PrintMore
/-- every reading of type t tells of an a of which R and Q hold -/
def Opens {α : Type} (P : Program) (t : TypeId) (R : World → α → List Value → Prop) (Q : α → Prop) : Prop :=
  ∀ (H : Type) (enc : TypeId × Value → H) (w : World) (base : Nat) (spare : Nat → Bool) (held : Bool) (fuel : Nat) (cs : List Value) (x : DataW H × List MemPlace),
    DataW.trod enc P w base spare held fuel t cs = some x → (∀ n ∈ DataW.weights P t x.1, n ≤ 140737488351232) → ∃ a : α, R w a cs ∧ Q a
variable {P : Program} {t e : TypeId}
theorem opens_int {k : IntKind} (ht : P.underlying t = some (.int k)) : Opens P t (Kd.int k).K (fun n => (Lit.int k n).wf = true) := by
  intro H enc w base spare held fuel cs x h _
  obtain ⟨n, rfl, _, hw⟩ := DataW.trod_int ht h
  exact ⟨n, rfl, hw⟩
theorem opens_bool (ht : P.underlying t = some .bool) : Opens P t Kd.bool.K (fun _ => True) := by
  intro H enc w base spare held fuel cs x h _
  obtain ⟨n, rfl, _⟩ := DataW.trod_bool ht h
  exact ⟨n, rfl, trivial⟩
theorem opens_string (ht : P.underlying t = some .string) : Opens P t Kd.string.K (fun s => s.size ≤ 140737488351232) := by
  intro H enc w base spare held fuel cs x h hw
  obtain ⟨s, rfl, rfl, _⟩ := DataW.trod_string ht h
  refine ⟨s, rfl, ?_⟩
  have := hw s.data.toList.length (by simp [DataW.weights])
  simpa using this
theorem weightsAll_mem {H : Type} {l : List (DataW H)} {d : DataW H} (hd : d ∈ l) {n : Nat} (hn : n ∈ DataW.weights P e d) : n ∈ DataW.weightsAll P e l := by
  induction l with
  | nil => cases hd
  | cons y r ih =>
    unfold DataW.weightsAll
    rcases List.mem_cons.1 hd with rfl | h
    · exact List.mem_append_left _ hn
    · exact List.mem_append_right _ (ih h)
theorem weightsEach_mem {H : Type} : ∀ {ts : List TypeId} {l : List (DataW H)} {i : Nat} {t : TypeId} {d : DataW H}, ts[i]? = some t → l[i]? = some d → ∀ {n : Nat}, n ∈ DataW.weights P t d → n ∈ DataW.weightsEach P ts l
  | [], _, i, _, _, h, _, _, _ => by simp at h
  | _ :: _, [], i, _, _, _, h, _, _ => by simp at h
  | t' :: ts, d' :: l, 0, t, d, h1, h2, n, hn => by
    simp at h1 h2; subst h1; subst h2
    unfold DataW.weightsEach; exact List.mem_append_left _ hn
  | t' :: ts, d' :: l, i + 1, t, d, h1, h2, n, hn => by
    simp at h1 h2
    unfold DataW.weightsEach; exact List.mem_append_right _ (weightsEach_mem h1 h2 hn)
theorem all_some {α β : Type} {Q : Nat → α → β → Prop} : ∀ (xs : List β) (_ : ∀ i y, xs[i]? = some y → ∃ a, Q i a y), ∃ l : List α, l.length = xs.length ∧ ∀ i a, l[i]? = some a → ∃ y, xs[i]? = some y ∧ Q i a y
  | [], _ => ⟨[], rfl, fun i a h => by simp at h⟩
  | y :: r, h => by
    obtain ⟨a0, h0⟩ := h 0 y rfl
    obtain ⟨l, hl, hr⟩ := all_some (Q := fun i a y => Q (i + 1) a y) r (fun i y hy => h (i + 1) y (by simpa using hy))
    refine ⟨a0 :: l, by simp [hl], fun i a hi => ?_⟩
    cases i with
    | zero => simp at hi; subst hi; exact ⟨y, rfl, h0⟩
    | succ i => obtain ⟨z, hz, hq⟩ := hr i a (by simpa using hi); exact ⟨z, by simpa using hz, hq⟩
theorem opens_slice {α : Type} {d : Kd α} {Q : α → Prop} {B : Nat} (ht : P.underlying t = some (.slice e)) (hs : P.cellsOf e = d.sz) (hB : P.bytesOf e = B) (ho : Opens P e d.K Q) :
    Opens P t (Kd.slice e d).K (fun l => l.length * B ≤ 140737488351232 ∧ l.length ≤ maxLen ∧ ∀ x ∈ l, Q x) := by
  intro H enc w base spare held fuel cs x h hw
  rcases DataW.trod_slice ht h with ⟨rfl, _⟩ | ⟨a, len, cap, elems, rest, n, _, rfl, rfl, hb, hl, hc, hlen, hel, _, _⟩
  · exact ⟨[], ⟨none, 0, rfl, Nat.le_refl _, ⟨rfl, by simp, fun h => absurd h (by simp)⟩⟩, by simp, by simp, fun x hx => by cases hx⟩
  · have hwt : ∀ m ∈ DataW.weights P t (.slice (elems.map (·.1)) (rest.map (·.1))), m ≤ 140737488351232 := hw
    have each : ∀ i y, elems[i]? = some y → ∃ a' : α, (∃ c : List Value, c.length = d.sz ∧ d.K w a' c ∧ ∀ j u, c[j]? = some u → w.cell? (a.add (i * d.sz + j)) = some u) ∧ Q a' := by
      intro i y hy
      have hi : i < len := by rw [← hlen]; exact (List.getElem?_eq_some_iff.1 hy).1
      have h1 := hel i hi
      rw [hy] at h1
      obtain ⟨c, hc1, hc2⟩ := Option.bind_eq_some_iff.1 h1
      obtain ⟨a', hk, hq⟩ := ho H enc w base spare held n c y hc2 (fun m hm => hwt m (by
        simp only [DataW.weights, ht]
        exact List.mem_cons_of_mem _ (List.mem_append_left _ (weightsAll_mem (List.mem_map_of_mem (List.mem_of_getElem? hy)) hm))))
      refine ⟨a', ⟨c, d.K_len hk, hk, fun j u hj => ?_⟩, hq⟩
      unfold World.cells? at hc1
      split at hc1
      · have hlc := mapM_some_length hc1
        have hj' : j < P.cellsOf e := by have := (List.getElem?_eq_some_iff.1 hj).1; rw [List.length_range] at hlc; omega
        have := mapM_some_get hc1 j j (by simp [hj'])
        rw [hj] at this
        rw [← hs, ← Addr.add_add]
        exact this
      · cases hc1
    obtain ⟨l, hll, hlr⟩ := all_some elems each
    refine ⟨l, ⟨some a, cap, ?_, by omega, ⟨rfl, ?_, fun _ => ⟨a, rfl, fun j p hj => ?_⟩⟩⟩, ?_, by omega, fun x hx => ?_⟩
    · rw [hll, hlen]
    · unfold maxLen at hc; omega
    · obtain ⟨_, _, ⟨c, h1, h2, h3⟩, _⟩ := hlr j p hj
      exact ⟨c, h1, h2, h3⟩
    · have := hwt (((elems.map (·.1)).length + (rest.map (·.1)).length) * P.bytesOf e) (by simp only [DataW.weights, ht]; exact List.mem_cons_self ..)
      rw [hB] at this
      simp only [List.length_map] at this
      rw [hll]
      exact Nat.le_trans (Nat.mul_le_mul_right _ (by omega)) this
    · obtain ⟨i, hi⟩ := List.getElem?_of_mem hx
      obtain ⟨_, _, _, hq⟩ := hlr i x hi
      exact hq
/-- one field of a struct -/
theorem open_field {H : Type} {enc : TypeId × Value → H} {w : World} {base : Nat} {spare : Nat → Bool} {held : Bool} {fs : Array Field} {xs : List (DataW H × List MemPlace)} {n : Nat} {cs : List Value}
    (ht : P.underlying t = some (.struct fs)) (hw : ∀ m ∈ DataW.weights P t (.agg (xs.map (·.1))), m ≤ 140737488351232) (hx : xs.length = fs.size)
    (hf : ∀ (i : Nat) (f : Field), fs[i]? = some f → DataW.trod enc P w base spare held n f.type ((cs.drop f.offset).take (P.cellsOf f.type)) = xs[i]?)
    (i : Nat) (f : Field) (hi : fs[i]? = some f) (o s : Nat) (eo : f.offset = o) (es : P.cellsOf f.type = s) {α : Type} {R : World → α → List Value → Prop} {Q : α → Prop} (ho : Opens P f.type R Q) : ∃ a : α, R w a ((cs.drop o).take s) ∧ Q a := by
  have h1 := hf i f hi
  rw [eo, es] at h1
  have hlt : i < xs.length := by rw [hx]; exact (Array.getElem?_eq_some_iff.1 hi).1
  rw [List.getElem?_eq_getElem hlt] at h1
  refine ho H enc w base spare held n _ _ h1 (fun m hm => hw m ?_)
  simp only [DataW.weights, ht]
  refine weightsEach_mem (i := i) (t := f.type) (d := xs[i].1) ?_ ?_ hm
  · simp only [List.getElem?_map, Array.getElem?_toList, hi, Option.map_some]
  · simp only [List.getElem?_map, List.getElem?_eq_getElem hlt, Option.map_some]
/-- an argument's slice -/
theorem arg_slice {H : Type} {enc : TypeId × Value → H} {w : World} {base : Nat} {spare : Nat → Bool} {held : Bool} {v : Value} {dd : DataW H} {ps : List MemPlace} {α : Type} {d : Kd α} {Q : List α → Prop}
    (ho : Opens P t (Kd.slice e d).K Q) (h : DataW.Trod enc P w base spare held t v dd ps) (hw : ∀ m ∈ DataW.weights P t dd, m ≤ 140737488351232) (hv : ∃ a n c, v = .slice a n c) :
    ∃ A c l, v = .slice A l.length c ∧ l.length ≤ c ∧ Kd.C d w A l.length l ∧ Q l := by
  obtain ⟨fuel, hf⟩ := h
  obtain ⟨l, ⟨A, c, hc, hl, hr⟩, hq⟩ := ho H enc w base spare held fuel _ _ hf hw
  obtain ⟨a, n, c', rfl⟩ := hv
  simp [Value.cells] at hc
  obtain ⟨rfl, rfl, rfl⟩ := hc
  exact ⟨_, _, l, rfl, hl, hr, hq⟩
/-- a row's data bear their weights one by one -/
theorem weights_at {H : Type} {ts : List TypeId} {ds : List (DataW H)} (hsz : (DataW.weightsEach P ts ds).all (· ≤ reachBytes) = true) {j : Nat} {d : DataW H} (h1 : ts[j]? = some t) (h2 : ds[j]? = some d) : ∀ m ∈ DataW.weights P t d, m ≤ 140737488351232 := by
  intro m hm
  exact of_decide_eq_true (List.all_eq_true.1 hsz m (weightsEach_mem h1 h2 hm))
end Go.Proofs.Ytomgebmimgaojaa.Open
end
