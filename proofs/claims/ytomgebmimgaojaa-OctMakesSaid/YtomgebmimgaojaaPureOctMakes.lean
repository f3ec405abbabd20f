import Derived.Test.YtomgebmimgaojaaQOx1003
namespace Go.Proofs.Ytomgebmimgaojaa.Pure
open Go.RowKit Go.Proofs.Ytomgebmimgaojaa.QO Go.Proofs.YtomgebmimgaojaaW.PrintWords Go.Proofs.YtomgebmimgaojaaW.PrintLast Go.Proofs.YtomgebmimgaojaaW.PrintMore
namespace Makes
theorem grow {α : Type} {g : Nat → Option α} (m : ∀ k, LeO (g k) (g (k + 1))) {n : Nat} {v : α} (h : g n = some v) : ∀ k, n ≤ k → g k = some v := by
  intro k hk
  induction k with
  | zero => rw [← h]; congr 1; omega
  | succ k ih =>
    by_cases e : n = k + 1
    · rw [← e]; exact h
    · exact m k _ (ih (by omega))
def M (n : Nat) : List Int := (List.range (4 * n * n)).map fun p => if p % (2 * n + 1) = 0 then 0 else 4611686018427387904
theorem news : ∀ n : Nat, n < 9 → dbm_New.f 300 (2 * (n : Int)) = some (M n) := by decide +kernel
theorem new_at (n : Nat) (h : n < 9) (k : Nat) (hk : 300 ≤ k) : dbm_New.f k (2 * (n : Int)) = some (M n) := grow (g := fun k => dbm_New.f k (2 * (n : Int))) (dbm_New.mono _) (news n h) k hk
theorem tops (v : List Int) : ∀ n : Nat, n < 9 → gimbalref11_Top.l0 400 (2 * (n : Int)) 0 v [] false = some (v, M n, false)
  | 0, _ => by kernel_rfl
  | 1, _ => by kernel_rfl
  | 2, _ => by kernel_rfl
  | 3, _ => by kernel_rfl
  | 4, _ => by kernel_rfl
  | 5, _ => by kernel_rfl
  | 6, _ => by kernel_rfl
  | 7, _ => by kernel_rfl
  | 8, _ => by kernel_rfl
  | n + 9, h => absurd h (by omega)
theorem tops_at (v : List Int) (n : Nat) (h : n < 9) (k : Nat) (hk : 400 ≤ k) : gimbalref11_Top.l0 k (2 * (n : Int)) 0 v [] false = some (v, M n, false) := grow (g := fun k => gimbalref11_Top.l0 k (2 * (n : Int)) 0 v [] false) (fun k => (gimbalref11_Top.mono_l k).1 _ _ _ _ _) (tops v n h) k hk
theorem top_good {l : List Int} (h : VarsOk l) (k : Nat) (hk : 400 ≤ k) : oct_Top.f k l = some (l, M l.length, false) ∧ gimbalref11_Top.f k l = some (l, M l.length, false) ∧ oct_Bottom.f l = some (l, [], true) ∧ gimbalref11_Bottom.f l = some (l, [], true) := by
  have h8 := h.1
  have hw : wrap64 (2 * (l.length : Int)) = 2 * (l.length : Int) := by unfold wrap64; omega
  have hc : slices_Clone_int_int.f l = some l := by unfold slices_Clone_int_int.f; rw [if_pos (by omega)]
  have hd : gimbalref11_copied.f l = some l := by unfold gimbalref11_copied.f; rw [if_pos (by simp; omega)]; simp
  refine ⟨?_, ?_, ?_, ?_⟩
  · unfold oct_Top.f oct_may.f; rw [varsB_true.2 h, Option.bind_some, if_pos rfl, hc, Option.bind_some, hw, new_at _ (by omega) k (by omega)]; rfl
  · unfold gimbalref11_Top.f gimbalref11_VarsFit.f; rw [varsB_true.2 h, Option.bind_some, if_pos rfl, hd, Option.bind_some, hw, tops_at _ _ (by omega) k hk]
  · unfold oct_Bottom.f oct_may.f; rw [varsB_true.2 h, Option.bind_some, if_pos rfl, hc]; rfl
  · unfold gimbalref11_Bottom.f gimbalref11_VarsFit.f; rw [varsB_true.2 h, Option.bind_some, if_pos rfl, hd]; rfl
theorem top_bad {l : List Int} (h : ¬ VarsOk l) (k : Nat) : oct_Top.f k l = some ([], [], false) ∧ gimbalref11_Top.f k l = some ([], [], false) ∧ oct_Bottom.f l = some ([], [], false) ∧ gimbalref11_Bottom.f l = some ([], [], false) := by
  refine ⟨?_, ?_, ?_, ?_⟩
  · unfold oct_Top.f oct_may.f; rw [varsB_false.2 h]; rfl
  · unfold gimbalref11_Top.f gimbalref11_VarsFit.f; rw [varsB_false.2 h]; rfl
  · unfold oct_Bottom.f oct_may.f; rw [varsB_false.2 h]; rfl
  · unfold gimbalref11_Bottom.f gimbalref11_VarsFit.f; rw [varsB_false.2 h]; rfl
theorem eq_l1 (a b : List Int) (e : Bool) (hb : b.length < 4611686018427387904) : ∀ d k i : Nat, i + d = b.length → gimbalref11_Equal.l1 (k + d + 1) b.length i a b e a b e = some true := by
  intro d
  induction d with
  | zero => intro k i h; unfold gimbalref11_Equal.l1; rw [if_neg (by omega)]
  | succ d ih =>
    intro k i h
    have hw : wrap64 ((i : Int) + 1) = ((i + 1 : Nat) : Int) := by unfold wrap64; omega
    unfold gimbalref11_Equal.l1
    rw [if_pos (by omega), if_pos (by omega), if_pos (by omega), if_pos (by omega), if_pos rfl, hw]
    exact ih k (i + 1) (by omega)
theorem eq_l0 (a b : List Int) (e : Bool) (ha : a.length < 4611686018427387904) (hb : b.length < 4611686018427387904) : ∀ d k i : Nat, i + d = a.length → gimbalref11_Equal.l0 (k + b.length + 1 + d + 1) a.length i a b e a b e = some true := by
  intro d
  induction d with
  | zero => intro k i h; unfold gimbalref11_Equal.l0; rw [if_neg (by omega)]; exact eq_l1 a b e hb b.length k 0 (by omega)
  | succ d ih =>
    intro k i h
    have hw : wrap64 ((i : Int) + 1) = ((i + 1 : Nat) : Int) := by unfold wrap64; omega
    unfold gimbalref11_Equal.l0
    rw [if_pos (by omega), if_pos (by omega), if_pos (by omega), if_pos (by omega), if_pos rfl, hw]
    exact ih k (i + 1) (by omega)
theorem eq_self (a b : List Int) (e : Bool) (ha : a.length < 4611686018427387904) (hb : b.length < 4611686018427387904) (k : Nat) (hk : a.length + b.length + 3 ≤ k) : gimbalref11_Equal.f k a b e a b e = some true := by
  refine grow (g := fun k => gimbalref11_Equal.f k a b e a b e) (gimbalref11_Equal.mono _ _ _ _ _ _) (n := b.length + 1 + a.length + 1 + 1) ?_ k (by omega)
  show gimbalref11_Equal.f _ _ _ _ _ _ _ = _
  have := eq_l0 a b e ha hb a.length 0 0 (by omega)
  simp only [Nat.zero_add] at this
  unfold gimbalref11_Equal.f
  rw [if_pos rfl, if_pos rfl, gimbalref11_Equal.j0, if_neg (by simp)]
  exact this
theorem v3 : VarsOk [3] := ⟨by decide, fun i h0 h1 => by
  have : i = 0 := by simp at h1; omega
  subst this; exact ⟨by decide, fun h => absurd h (by decide)⟩⟩
theorem two {p : Int → Int → Prop} (h : ∀ a, a < 2 → ∀ b, b < 2 → p ((a : Nat) : Int) ((b : Nat) : Int)) (i j : Int) (h0 : 0 ≤ i) (h1 : i < 2) (h2 : 0 ≤ j) (h3 : j < 2) : p i j := by
  have := h i.toNat (by omega) j.toNat (by omega)
  rwa [Int.toNat_of_nonneg h0, Int.toNat_of_nonneg h2] at this
theorem has9 : HasP [3] (M 1) false [9] := by
  refine ⟨rfl, ⟨v3, fun h => (by cases h), fun _ => ⟨by decide +kernel, fun i j h0 h1 h2 h3 => ?_⟩⟩, rfl, fun k h0 h1 => ?_, fun i j h0 h1 h2 h3 => ?_⟩
  · refine two (p := fun i j => EntryOk (2 * (([3] : List Int).length : Int)) (M 1) i j) ?_ i j h0 (by simpa using h1) h2 (by simpa using h3)
    unfold EntryOk; decide +kernel
  · have : k = 0 := by simp at h1; omega
    subst this; decide +kernel
  · refine two (p := fun i j => rd (M 1) (i * (2 * (([3] : List Int).length : Int)) + j) = 4611686018427387904 ∨ sgn [9] j - sgn [9] i ≤ rd (M 1) (i * (2 * (([3] : List Int).length : Int)) + j)) ?_ i j h0 (by simpa using h1) h2 (by simpa using h3)
    decide +kernel
theorem awake_true (k : Nat) (hk : 400 ≤ k) : gimballaw11_awake.f k = some true := by
  unfold gimballaw11_awake.f
  rw [(top_good v3 k hk).1, Option.bind_some]
  have e : (M ([3] : List Int).length) = [0, 4611686018427387904, 4611686018427387904, 0] := by decide +kernel
  have hh : oct_Has.f [3] (M ([3] : List Int).length) false [9] = some true := by
    unfold oct_Has.f; rw [if_pos ⟨by decide, by decide⟩]; exact congrArg some (hasB_true.2 has9)
  show (if ((M ([3] : List Int).length).length : Int) = 4 then _ else _) = _
  simp only [hh]
  rw [e]
  rfl
theorem loop (x0 a b a' b' : List Int) (c c' : Bool) (k : Nat) (h1 : gimbalref11_Top.f k x0 = some (a, b, c)) (h2 : gimbalref11_Equal.f k a b c a b c = some true) (h3 : gimbalref11_Bottom.f x0 = some (a', b', c')) (h4 : gimbalref11_Equal.f k a' b' c' a' b' c' = some true) (h5 : gimballaw11_awake.f k = some true) :
    ∀ d i : Nat, ∀ x5 : List Int, i + d = x5.length → x5.length < 4611686018427387904 → gimballaw11_OctMakes.l0 (k + d + 1) x0 x5 x5.length i a b c a' b' c' = some true := by
  intro d
  induction d with
  | zero =>
    intro i x5 h hl; unfold gimballaw11_OctMakes.l0; rw [if_neg (by omega)]
    simp only [h1, Option.bind_some, h2, if_true, h3, h4, h5]
  | succ d ih =>
    intro i x5 h hl
    have hw : wrap64 ((i : Int) + 1) = ((i + 1 : Nat) : Int) := by unfold wrap64; omega
    unfold gimballaw11_OctMakes.l0
    rw [if_pos (by omega), if_pos (by omega), if_pos (by omega), hw]
    have := ih (i + 1) (x5.set (i : Int).toNat 99) (by rw [List.length_set]; omega) (by rw [List.length_set]; omega)
    rw [List.length_set] at this
    exact this
theorem all (l v m a' b' : List Int) (c c' e : Bool) (T : List Int) (M : List Int) (hl : l.length < 17592186044416) (hv : v.length ≤ 17592186044416)
    (ha : T.length < 4611686018427387904) (hb : M.length < 4611686018427387904) (ha' : a'.length < 4611686018427387904) (hb' : b'.length < 4611686018427387904)
    (t : ∀ k, 400 ≤ k → oct_Top.f k l = some (T, M, c) ∧ gimbalref11_Top.f k l = some (T, M, c) ∧ oct_Bottom.f l = some (a', b', c') ∧ gimbalref11_Bottom.f l = some (a', b', c')) :
    ∃ k, gimballaw11_OctMakes.f k l v m e = some true := by
  obtain ⟨K, hK⟩ : ∃ K, K = 400 + T.length + M.length + a'.length + b'.length := ⟨_, rfl⟩
  refine ⟨K + l.length + 1 + 1, ?_⟩
  have t1 := t (K + l.length + 1 + 1) (by omega)
  have t2 := t K (by omega)
  unfold gimballaw11_OctMakes.f
  rw [if_pos (by simp; omega)]
  simp only [List.nil_append, Option.bind_some, t1.1, t1.2.1, t1.2.2.1, t1.2.2.2]
  rw [eq_self T M c ha hb _ (by omega)]
  simp only [Option.bind_some, if_true]
  rw [eq_self a' b' c' ha' hb' _ (by omega)]
  simp only [Option.bind_some, if_true]
  unfold oct_Fit.f gimbalref11_Fit.f
  rw [if_pos hv]
  simp only [Option.bind_some]
  have hn : (ofitB v m e != ofitB v m e) = false := by simp
  rw [hn]
  rw [gimballaw11_OctMakes.j0]
  rw [if_neg (by simp)]
  exact loop l T M a' b' c c' K t2.2.1 (eq_self T M c ha hb _ (by omega)) t2.2.2.2 (eq_self a' b' c' ha' hb' _ (by omega)) (awake_true K (by omega)) l.length 0 l (by omega) (by omega)
theorem M_len (n : Nat) : (M n).length = 4 * n * n := by unfold M; simp
end Makes
open Makes
theorem OctMakes : gimballaw11_OctMakes.Pure := by
  intro l v m e hl hv hm
  by_cases h : VarsOk l
  · have h8 := h.1
    have hM : (M l.length).length < 4611686018427387904 := by
      rw [M_len]
      have : 4 * l.length * l.length ≤ 4 * 8 * 8 := Nat.mul_le_mul (Nat.mul_le_mul_left 4 h8) h8
      omega
    exact all l v m l [] false true e l (M l.length) (by omega) (by omega) (by omega) hM (by omega) (by simp) (fun k hk => top_good h k hk)
  · exact all l v m [] [] false false e [] [] (by omega) (by omega) (by simp) (by simp) (by simp) (by simp) (fun k _ => top_bad h k)
end Go.Proofs.Ytomgebmimgaojaa.Pure
