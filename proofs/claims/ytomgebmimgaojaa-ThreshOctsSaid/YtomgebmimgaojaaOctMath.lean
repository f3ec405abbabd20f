/- Plain mathematics of difference bounds: closures as greatest closed matrices below a given one. -/
namespace Go.Proofs.Ytomgebmimgaojaa.OctMath

/-- sum of bounds; 2^62 is infinity -/
def plus (a b : Int) : Int := if a = 4611686018427387904 ∨ b = 4611686018427387904 then 4611686018427387904 else a + b
/-- finite entries lie within B -/
def Fin' (B : Int) (a : Int) : Prop := a = 4611686018427387904 ∨ (-B ≤ a ∧ a ≤ B)
def Bd (n : Nat) (B : Int) (m : Nat → Nat → Int) : Prop := ∀ i j, i < n → j < n → Fin' B (m i j)
/-- closed: nothing on the diagonal, and no way over a third node is shorter -/
def Closed (n : Nat) (c : Nat → Nat → Int) : Prop := (∀ i, i < n → c i i = 0) ∧ ∀ i j k, i < n → j < n → k < n → c i j ≤ plus (c i k) (c k j)
def Le (n : Nat) (c m : Nat → Nat → Int) : Prop := ∀ i j, i < n → j < n → c i j ≤ m i j
def Top62 (n : Nat) (m : Nat → Nat → Int) : Prop := ∀ i j, i < n → j < n → m i j ≤ 4611686018427387904
/-- d is the greatest closed matrix below m; there is none, where ok is false -/
def IsClosure (n : Nat) (m : Nat → Nat → Int) (ok : Bool) (d : Nat → Nat → Int) : Prop :=
  (ok = true → Closed n d ∧ Le n d m ∧ ∀ c, Closed n c → Top62 n c → Le n c m → Le n c d) ∧ (ok = false → ∀ c, Closed n c → Top62 n c → ¬ Le n c m)

theorem plus_mono {a b c d : Int} (h : a ≤ c) (h' : b ≤ d) (hc : c ≤ 4611686018427387904) (hd : d ≤ 4611686018427387904) (hs : a + b ≤ 4611686018427387904) : plus a b ≤ plus c d := by
  unfold plus; split <;> split <;> omega
theorem plus_comm (a b : Int) : plus a b = plus b a := by unfold plus; split <;> split <;> omega
theorem plus_top (a b : Int) (h : a + b ≤ 4611686018427387904) : plus a b ≤ 4611686018427387904 := by unfold plus; split <;> omega

theorem closure_unique {n : Nat} {m d e : Nat → Nat → Int} {a b : Bool} (hd : IsClosure n m a d) (he : IsClosure n m b e)
    (td : a = true → Top62 n d) (te : b = true → Top62 n e) : a = b ∧ (a = true → ∀ i j, i < n → j < n → d i j = e i j) := by
  cases a <;> cases b
  · exact ⟨rfl, fun h => by cases h⟩
  · obtain ⟨c, l, _⟩ := he.1 rfl
    exact absurd l (hd.2 rfl e c (te rfl))
  · obtain ⟨c, l, _⟩ := hd.1 rfl
    exact absurd l (he.2 rfl d c (td rfl))
  · obtain ⟨c, l, g⟩ := hd.1 rfl
    obtain ⟨c', l', g'⟩ := he.1 rfl
    refine ⟨rfl, fun _ i j hi hj => Int.le_antisymm (g' d c (td rfl) l i j hi hj) (g e c' (te rfl) l' i j hi hj)⟩

/-! ### Floyd's way: over one node after the other -/
def over (m : Nat → Nat → Int) (k : Nat) : Nat → Nat → Int := fun i j => if plus (m i k) (m k j) < m i j then plus (m i k) (m k j) else m i j
def overs (m : Nat → Nat → Int) : Nat → Nat → Nat → Int
  | 0 => m
  | k + 1 => over (overs m k) k
theorem over_le (m : Nat → Nat → Int) (k i j : Nat) : over m k i j ≤ m i j := by unfold over; split <;> omega
theorem over_le' (m : Nat → Nat → Int) (k i j : Nat) : over m k i j ≤ plus (m i k) (m k j) := by unfold over; split <;> omega
theorem overs_le (m : Nat → Nat → Int) (k i j : Nat) : overs m k i j ≤ m i j := by
  induction k with
  | zero => exact Int.le_refl _
  | succ k ih => exact Int.le_trans (over_le _ _ _ _) ih
theorem over_low {n : Nat} {m c : Nat → Nat → Int} {k : Nat} (hk : k < n) (hc : Closed n c) (tc : Top62 n c) (hm : Top62 n m) (h : Le n c m) : Le n c (over m k) := by
  intro i j hi hj
  have h1 := hc.2 i j k hi hj hk
  have h2 := h i j hi hj
  have h3 := h i k hi hk; have h4 := h k j hk hj
  have h5 := hm i k hi hk; have h6 := hm k j hk hj
  have h7 := tc i j hi hj
  have h8 : c i j ≤ plus (m i k) (m k j) := by unfold plus at h1 ⊢; split at h1 <;> split <;> omega
  unfold over; split
  · exact h8
  · exact h2
theorem overs_low {n : Nat} {m c : Nat → Nat → Int} (hc : Closed n c) (tc : Top62 n c) (hm : Top62 n m) (h : Le n c m) : ∀ k, k ≤ n → Le n c (overs m k)
  | 0, _ => h
  | k + 1, hk => over_low (by omega) hc tc (fun i j hi hj => Int.le_trans (overs_le m k i j) (hm i j hi hj)) (overs_low hc tc hm h k (by omega))

/-- through the first k nodes nothing is shorter any more -/
def Thru (n : Nat) (k : Nat) (m : Nat → Nat → Int) : Prop := ∀ i j l, i < n → j < n → l < k → m i j ≤ plus (m i l) (m l j)
theorem fin_of_low {n : Nat} {B : Int} {m : Nat → Nat → Int} (h : Bd n B m) (hB : B < 4611686018427387904) : Top62 n m := by
  intro i j hi hj; rcases h i j hi hj with h | h <;> omega
theorem bd_over {n : Nat} {B : Int} {m : Nat → Nat → Int} (k : Nat) (hk : k < n) (h : Bd n B m) (hB : 0 ≤ B) (hB' : B + B < 4611686018427387904) : Bd n (B + B) (over m k) := by
  intro i j hi hj
  rcases h i j hi hj with h1 | h1 <;> rcases h i k hi hk with h2 | h2 <;> rcases h k j hk hj with h3 | h3 <;> unfold over plus Fin' <;> repeat' split
  all_goals omega
theorem thru_num {B ij ik kj kk il lj kl lk R oil olj : Int} (hB : 0 ≤ B) (hB' : B + B + B + B < 4611686018427387904) (bij0 : ij ≤ 4611686018427387904) (bik : Fin' B ik) (bkj : Fin' B kj) (bil : Fin' B il) (blj : Fin' B lj)
    (bkl : Fin' B kl) (blk : Fin' B lk) (dk : 0 ≤ kk) (t1 : ij ≤ plus il lj) (t2 : ik ≤ plus il lk) (t3 : kj ≤ plus kl lj) (t4 : kk ≤ plus kl lk) (o1 : R ≤ ij) (o2 : R ≤ plus ik kj)
    (b1 : oil = il ∨ oil = plus ik kl) (b2 : olj = lj ∨ olj = plus lk kj) : R ≤ plus oil olj := by
  have up : ∀ {a b c : Int}, Fin' B a → Fin' B b → c ≤ plus a b → (a = 4611686018427387904 ∨ b = 4611686018427387904) ∨ c ≤ a + b := by
    intro a b c _ _ h; unfold plus at h; split at h
    · left; assumption
    · right; exact h
  have pv : ∀ {a b : Int}, Fin' B a → Fin' B b → (plus a b = 4611686018427387904 ∧ (a = 4611686018427387904 ∨ b = 4611686018427387904)) ∨ (plus a b = a + b ∧ -B ≤ a ∧ a ≤ B ∧ -B ≤ b ∧ b ≤ B) := by
    intro a b ha hb; unfold plus; unfold Fin' at ha hb; split <;> omega
  have p1 := pv bil blj; have p2 := pv bil blk; have p3 := pv bkl blj; have p4 := pv bkl blk; have p5 := pv bik bkj; have p6 := pv bik bkl; have p7 := pv blk bkj
  have top : R ≤ 4611686018427387904 := by omega
  by_cases hx : oil = 4611686018427387904 ∨ olj = 4611686018427387904
  · unfold plus; rw [if_pos hx]; exact top
  · have e : plus oil olj = oil + olj := by unfold plus; rw [if_neg hx]
    rw [e]
    rcases b1 with b1 | b1 <;> rcases b2 with b2 | b2 <;> subst b1 <;> subst b2
    · omega
    · omega
    · omega
    · omega
theorem thru_over {n : Nat} {B : Int} {m : Nat → Nat → Int} {k : Nat} (hk : k < n) (h : Bd n B m) (hB : 0 ≤ B) (hB' : B + B + B + B < 4611686018427387904) (hd : ∀ i, i < n → 0 ≤ m i i)
    (hd' : 0 ≤ over m k k k) (ht : Thru n k m) : Thru n (k + 1) (over m k) := by
  intro i j l hi hj hl
  have bij := h i j hi hj; have bik := h i k hi hk; have bkj := h k j hk hj; have bkk := h k k hk hk
  have dk := hd k hk
  by_cases hlk : l = k
  · subst hlk
    have e1 : over m l i l = m i l := by
      unfold over; split
      · rename_i hh; unfold plus at hh; unfold Fin' at *; split at hh <;> omega
      · rfl
    have e2 : over m l l j = m l j := by
      unfold over; split
      · rename_i hh; unfold plus at hh; unfold Fin' at *; split at hh <;> omega
      · rfl
    rw [e1, e2]; exact over_le' m l i j
  · have hlk' : l < k := by omega
    have hln : l < n := by omega
    have t1 := ht i j l hi hj hlk'; have t2 := ht i k l hi hk hlk'; have t3 := ht k j l hk hj hlk'; have t4 := ht k k l hk hk hlk'
    have bil := h i l hi hln; have blj := h l j hln hj; have bkl := h k l hk hln; have blk := h l k hln hk
    have o1 := over_le m k i j; have o2 := over_le' m k i j
    have b1 : over m k i l = m i l ∨ over m k i l = plus (m i k) (m k l) := by unfold over; split <;> simp
    have b2 : over m k l j = m l j ∨ over m k l j = plus (m l k) (m k j) := by unfold over; split <;> simp
    generalize over m k i j = R at *
    generalize m i j = ij at *; generalize m i k = ik at *; generalize m k j = kj at *; generalize m k k = kk at *
    generalize m i l = il at *; generalize m l j = lj at *; generalize m k l = kl at *; generalize m l k = lk at *
    generalize over m k i l = oil at *; generalize over m k l j = olj at *
    clear hd' ht h hd
    exact thru_num hB hB' (by unfold Fin' at bij; omega) bik bkj bil blj bkl blk dk t1 t2 t3 t4 o1 o2 b1 b2

theorem fin_mono {B C a : Int} (h : Fin' B a) (hB : B ≤ C) : Fin' C a := by unfold Fin' at *; omega
theorem bd_overs {n : Nat} {B : Int} {m : Nat → Nat → Int} (h : Bd n B m) (hB : 0 ≤ B) : ∀ k, k ≤ n → B * 2 ^ k < 4611686018427387904 → Bd n (B * 2 ^ k) (overs m k)
  | 0, _, _ => by rw [Int.pow_zero, Int.mul_one]; exact h
  | k + 1, hk, hb => by
    have e : B * 2 ^ (k + 1) = B * 2 ^ k + B * 2 ^ k := by rw [Int.pow_succ, ← Int.mul_assoc]; omega
    have h0 : (0 : Int) ≤ B * 2 ^ k := Int.mul_nonneg hB (Int.pow_nonneg (by decide))
    rw [e] at hb ⊢
    exact bd_over k (by omega) (bd_overs h hB k (by omega) (by omega)) h0 hb
theorem thru_overs {n : Nat} {B : Int} {m : Nat → Nat → Int} (h : Bd n B m) (hB : 0 ≤ B) (hb : B * 2 ^ n * 4 < 4611686018427387904)
    (hd : ∀ k i, k ≤ n → i < n → 0 ≤ overs m k i i) : ∀ k, k ≤ n → Thru n k (overs m k)
  | 0, _ => fun _ _ _ _ _ hl => absurd hl (by omega)
  | k + 1, hk => by
    have ih := thru_overs h hB hb hd k (by omega)
    have hp : (2 : Int) ^ k ≤ 2 ^ n := by
      have := Nat.pow_le_pow_right (n := 2) (by decide) (show k ≤ n by omega)
      exact_mod_cast this
    have h1 : B * 2 ^ k ≤ B * 2 ^ n := Int.mul_le_mul_of_nonneg_left hp hB
    have h0 : (0 : Int) ≤ B * 2 ^ k := Int.mul_nonneg hB (Int.pow_nonneg (by decide))
    exact thru_over (by omega) (bd_overs h hB k (by omega) (by omega)) h0 (by omega) (fun i hi => hd k i (by omega) hi) (hd (k + 1) k hk (by omega)) ih
/-- Floyd's way comes to the greatest closed matrix -/
theorem overs_closure {n : Nat} {B : Int} {m : Nat → Nat → Int} (h : Bd n B m) (hB : 0 ≤ B) (hb : B * 2 ^ n * 4 < 4611686018427387904) (hm : ∀ i, i < n → m i i = 0)
    (hd : ∀ k i, k ≤ n → i < n → 0 ≤ overs m k i i) : IsClosure n m true (overs m n) := by
  have hB' : B < 4611686018427387904 := by
    have : (1 : Int) ≤ 2 ^ n := by have := Nat.one_le_two_pow (n := n); exact_mod_cast this
    have := Int.mul_le_mul_of_nonneg_left this hB; omega
  refine ⟨fun _ => ⟨⟨fun i hi => ?_, fun i j k hi hj hk => thru_overs h hB hb hd n (Nat.le_refl _) i j k hi hj hk⟩, fun i j _ _ => overs_le m n i j, fun c hc tc hl => overs_low hc tc (fin_of_low h hB') hl n (Nat.le_refl _)⟩, fun h => by cases h⟩
  have := overs_le m n i i; have := hd n i (Nat.le_refl _) hi; have := hm i hi; omega
theorem overs_none {n : Nat} {m d : Nat → Nat → Int} (ht : Top62 n m) {k i : Nat} (hk : k ≤ n) (hi : i < n) (hd : overs m k i i < 0) : IsClosure n m false d := by
  refine ⟨(fun h => by cases h), fun _ c hc tc hl => ?_⟩
  have := overs_low hc tc ht hl k hk i i hi hi
  have := hc.1 i hi; omega

/-! ### ways, doubled in length -/
/-- the least sum over the first k nodes -/
def least (a : Nat → Nat → Int) (i j : Nat) : Nat → Int
  | 0 => a i j
  | k + 1 => if plus (a i k) (a k j) < least a i j k then plus (a i k) (a k j) else least a i j k
def dbl (n : Nat) (a : Nat → Nat → Int) : Nat → Nat → Int := fun i j => least a i j n
def dbls (n : Nat) (m : Nat → Nat → Int) : Nat → Nat → Nat → Int
  | 0 => m
  | t + 1 => dbl n (dbls n m t)
theorem least_le (a : Nat → Nat → Int) (i j : Nat) : ∀ k, least a i j k ≤ a i j
  | 0 => Int.le_refl _
  | k + 1 => by have := least_le a i j k; unfold least; split <;> omega
theorem least_le' (a : Nat → Nat → Int) (i j l : Nat) : ∀ k, l < k → least a i j k ≤ plus (a i l) (a l j)
  | 0, h => by omega
  | k + 1, h => by
    unfold least
    by_cases e : l = k
    · subst e; split <;> omega
    · have := least_le' a i j l k (by omega); split <;> omega
theorem least_is (a : Nat → Nat → Int) (i j : Nat) : ∀ k, least a i j k = a i j ∨ ∃ l, l < k ∧ least a i j k = plus (a i l) (a l j)
  | 0 => .inl rfl
  | k + 1 => by
    unfold least; split
    · exact .inr ⟨k, by omega, rfl⟩
    · rcases least_is a i j k with h | ⟨l, h1, h2⟩
      · exact .inl h
      · exact .inr ⟨l, by omega, h2⟩
theorem dbl_le (n : Nat) (a : Nat → Nat → Int) (i j : Nat) : dbl n a i j ≤ a i j := least_le a i j n
theorem dbls_le (n : Nat) (m : Nat → Nat → Int) (t i j : Nat) : dbls n m t i j ≤ m i j := by
  induction t with
  | zero => exact Int.le_refl _
  | succ t ih => exact Int.le_trans (dbl_le n _ i j) ih
theorem dbl_low {n : Nat} {m c : Nat → Nat → Int} (hc : Closed n c) (tc : Top62 n c) (hm : Top62 n m) (h : Le n c m) : Le n c (dbl n m) := by
  intro i j hi hj
  unfold dbl
  rcases least_is m i j n with e | ⟨k, hk, e⟩ <;> rw [e]
  · exact h i j hi hj
  · have h1 := hc.2 i j k hi hj hk
    have h3 := h i k hi hk; have h4 := h k j hk hj
    have h5 := hm i k hi hk; have h6 := hm k j hk hj
    have h7 := tc i j hi hj
    unfold plus at h1 ⊢; split at h1 <;> split <;> omega
theorem dbls_low {n : Nat} {m c : Nat → Nat → Int} (hc : Closed n c) (tc : Top62 n c) (hm : Top62 n m) (h : Le n c m) : ∀ t, Le n c (dbls n m t)
  | 0 => h
  | t + 1 => dbl_low hc tc (fun i j hi hj => Int.le_trans (dbls_le n m t i j) (hm i j hi hj)) (dbls_low hc tc hm h t)
theorem bd_dbl {n : Nat} {B : Int} {m : Nat → Nat → Int} (h : Bd n B m) (hB : 0 ≤ B) (hB' : B + B < 4611686018427387904) : Bd n (B + B) (dbl n m) := by
  intro i j hi hj
  unfold dbl
  rcases least_is m i j n with e | ⟨k, hk, e⟩ <;> rw [e]
  · exact fin_mono (h i j hi hj) (by omega)
  · have h1 := h i k hi hk; have h2 := h k j hk hj
    unfold Fin' plus at *; split <;> omega
theorem bd_dbls {n : Nat} {B : Int} {m : Nat → Nat → Int} (h : Bd n B m) (hB : 0 ≤ B) : ∀ t, B * 2 ^ t < 4611686018427387904 → Bd n (B * 2 ^ t) (dbls n m t)
  | 0, _ => by rw [Int.pow_zero, Int.mul_one]; exact h
  | t + 1, hb => by
    have e : B * 2 ^ (t + 1) = B * 2 ^ t + B * 2 ^ t := by rw [Int.pow_succ, ← Int.mul_assoc]; omega
    have h0 : (0 : Int) ≤ B * 2 ^ t := Int.mul_nonneg hB (Int.pow_nonneg (by decide))
    rw [e] at hb ⊢
    exact bd_dbl (bd_dbls h hB t (by omega)) h0 hb

/-! ### walks over finite entries -/
/-- the plain sum along a walk -/
def fw (m : Nat → Nat → Int) : List Nat → Int
  | [] => 0
  | [_] => 0
  | x :: y :: r => m x y + fw m (y :: r)
/-- all nodes are there, all entries finite -/
def Wk (n : Nat) (m : Nat → Nat → Int) : List Nat → Prop
  | [] => True
  | [x] => x < n
  | x :: y :: r => x < n ∧ m x y ≠ 4611686018427387904 ∧ Wk n m (y :: r)
theorem fw_append (m : Nat → Nat → Int) (v : Nat) (q : List Nat) : ∀ p : List Nat, fw m (p ++ v :: q) = fw m (p ++ [v]) + fw m (v :: q)
  | [] => by simp [fw]
  | [x] => by simp [fw]
  | x :: y :: r => by
    have := fw_append m v q (y :: r)
    simp only [List.cons_append, fw] at this ⊢
    omega
theorem wk_append {n : Nat} {m : Nat → Nat → Int} {v : Nat} {q : List Nat} : ∀ {p : List Nat}, Wk n m (p ++ v :: q) ↔ Wk n m (p ++ [v]) ∧ Wk n m (v :: q)
  | [] => by
    cases q with
    | nil => simp [Wk]
    | cons a r => simp only [List.nil_append, Wk]; exact ⟨fun h => ⟨h.1, h⟩, fun h => h.2⟩
  | [x] => by
    simp only [List.cons_append, List.nil_append, Wk]
    cases q with
    | nil => simp only [Wk]; exact ⟨fun h => ⟨h, h.2.2⟩, fun h => h.1⟩
    | cons a r => simp only [Wk]; exact ⟨fun h => ⟨⟨h.1, h.2.1, h.2.2.1⟩, h.2.2⟩, fun h => ⟨h.1.1, h.1.2.1, h.2⟩⟩
  | x :: y :: r => by
    have ih := wk_append (n := n) (m := m) (v := v) (q := q) (p := y :: r)
    simp only [List.cons_append, Wk] at ih ⊢
    rw [ih]
    exact ⟨fun h => ⟨⟨h.1, h.2.1, h.2.2.1⟩, h.2.2.2⟩, fun h => ⟨h.1.1, h.1.2.1, h.1.2.2, h.2⟩⟩
theorem wk_node {n : Nat} {m : Nat → Nat → Int} : ∀ {p : List Nat}, Wk n m p → ∀ x ∈ p, x < n
  | [], _, x, h => by cases h
  | [y], hp, x, h => by simp at h; subst h; exact hp
  | y :: z :: r, hp, x, h => by
    rcases List.mem_cons.1 h with h | h
    · subst h; exact hp.1
    · exact wk_node hp.2.2 x h
theorem nodup_len : ∀ (n : Nat) (l : List Nat), l.Nodup → (∀ x ∈ l, x < n) → l.length ≤ n
  | 0, l, _, h => by
    cases l with
    | nil => simp
    | cons a r => exact absurd (h a (by simp)) (by omega)
  | n + 1, l, hd, h => by
    by_cases hm : n ∈ l
    · have h1 := nodup_len n (l.erase n) (hd.erase n) (fun x hx => by
        have h2 := (List.Nodup.mem_erase_iff hd).1 hx
        have := h x h2.2; omega)
      rw [List.length_erase_of_mem hm] at h1
      omega
    · have := nodup_len n l hd (fun x hx => by have h1 := h x hx; have : x ≠ n := fun e => hm (e ▸ hx); omega)
      omega
theorem dup_split : ∀ (l : List Nat), ¬ l.Nodup → ∃ a b c x, l = a ++ x :: (b ++ x :: c)
  | [], h => absurd List.nodup_nil h
  | y :: r, h => by
    by_cases hm : y ∈ r
    · obtain ⟨b, c, e⟩ := List.append_of_mem hm
      exact ⟨[], b, c, y, by rw [e]; rfl⟩
    · have : ¬ r.Nodup := fun hn => h (List.nodup_cons.2 ⟨hm, hn⟩)
      obtain ⟨a, b, c, x, e⟩ := dup_split r this
      exact ⟨y :: a, b, c, x, by rw [e]; rfl⟩
/-- a walk with more edges than nodes comes back somewhere -/
theorem comes_back {n : Nat} {m : Nat → Nat → Int} {p : List Nat} {j : Nat} (hw : Wk n m (p ++ [j])) (hl : n < p.length) : ∃ a b c x, p = a ++ x :: (b ++ x :: c) := by
  refine dup_split p fun hn => ?_
  have := nodup_len n p hn (fun x hx => wk_node hw x (by simp [hx]))
  omega

/-- short walks weigh no less than the doubled entries -/
theorem dbls_walk {n : Nat} {B : Int} {m : Nat → Nat → Int} (h : Bd n B m) (hB : 0 ≤ B) (hm : ∀ i, i < n → m i i = 0) : ∀ (t : Nat), B * 2 ^ t < 4611686018427387904 → ∀ (p : List Nat) (i j : Nat), Wk n m (i :: (p ++ [j])) → p.length + 1 ≤ 2 ^ t →
    dbls n m t i j ≠ 4611686018427387904 ∧ dbls n m t i j ≤ fw m (i :: (p ++ [j]))
  | 0, _, p, i, j, hw, hl => by
    have : p = [] := by cases p with
      | nil => rfl
      | cons a r => simp at hl
    subst this
    simp only [List.nil_append, Wk, fw, dbls] at hw ⊢
    exact ⟨hw.2.1, by omega⟩
  | t + 1, hb, p, i, j, hw, hl => by
    have e0 : (2 : Nat) ^ (t + 1) = 2 ^ t + 2 ^ t := by rw [Nat.pow_succ]; omega
    have h0 : (0 : Int) ≤ B * 2 ^ t := Int.mul_nonneg hB (Int.pow_nonneg (by decide))
    have eb : B * 2 ^ (t + 1) = B * 2 ^ t + B * 2 ^ t := by rw [Int.pow_succ, ← Int.mul_assoc]; omega
    have hi : i < n := wk_node hw i (by simp)
    have hj : j < n := wk_node hw j (by simp)
    have bd := bd_dbls h hB t (by omega)
    have up : ∀ k, k < n → dbls n m t i k ≠ 4611686018427387904 → dbls n m t k j ≠ 4611686018427387904 → dbls n m (t + 1) i j ≠ 4611686018427387904 ∧ dbls n m (t + 1) i j ≤ dbls n m t i k + dbls n m t k j := by
      intro k hk h1 h2
      have h3 : dbls n m (t + 1) i j ≤ plus (dbls n m t i k) (dbls n m t k j) := least_le' _ i j k n hk
      have h4 := bd i k hi hk; have h5 := bd k j hk hj
      unfold plus at h3; unfold Fin' at h4 h5
      rw [if_neg (by omega)] at h3
      exact ⟨by omega, h3⟩
    have dg : ∀ k, k < n → dbls n m t k k ≠ 4611686018427387904 ∧ dbls n m t k k ≤ 0 := by
      intro k hk
      have h1 := dbls_le n m t k k; have h2 := hm k hk
      exact ⟨by omega, by omega⟩
    by_cases hs : p.length + 1 ≤ 2 ^ t
    · have ih := dbls_walk h hB hm t (by omega) p i j hw hs
      have := up j hj ih.1 (dg j hj).1
      exact ⟨this.1, by have := (dg j hj).2; omega⟩
    · obtain ⟨q, v, r, e, hq⟩ : ∃ q v r, p = q ++ v :: r ∧ q.length + 1 = 2 ^ t := by
        refine ⟨p.take (2 ^ t - 1), p[2 ^ t - 1]'(by omega), p.drop (2 ^ t), ?_, ?_⟩
        · have h1 := List.take_append_drop (2 ^ t - 1) p
          have h2 := List.drop_eq_getElem_cons (l := p) (i := 2 ^ t - 1) (by omega)
          have h3 : 2 ^ t - 1 + 1 = 2 ^ t := by have := Nat.one_le_two_pow (n := t); omega
          rw [h3] at h2; rw [← h2]; exact h1.symm
        · rw [List.length_take]; have := Nat.one_le_two_pow (n := t); omega
      subst e
      have ew : i :: (q ++ v :: r ++ [j]) = (i :: q) ++ v :: (r ++ [j]) := by simp
      rw [ew] at hw ⊢
      have hw' := wk_append.1 hw
      rw [fw_append]
      simp only [List.length_append, List.length_cons] at hl
      have i1 := dbls_walk h hB hm t (by omega) q i v (by simpa using hw'.1) (by omega)
      have i2 := dbls_walk h hB hm t (by omega) r v j hw'.2 (by omega)
      have hv : v < n := wk_node hw'.2 v (by simp)
      have := up v hv i1.1 i2.1
      refine ⟨this.1, ?_⟩
      have e1 : i :: q ++ [v] = i :: (q ++ [v]) := rfl
      rw [e1]
      omega
/-- each finite doubled entry is the sum of a walk -/
theorem dbls_is {n : Nat} {m : Nat → Nat → Int} : ∀ (t : Nat) (i j : Nat), i < n → j < n → dbls n m t i j ≠ 4611686018427387904 → ∃ p, Wk n m (i :: (p ++ [j])) ∧ fw m (i :: (p ++ [j])) = dbls n m t i j
  | 0, i, j, hi, hj, h => ⟨[], by simp only [List.nil_append, Wk]; exact ⟨hi, h, hj⟩, by simp [fw, dbls]⟩
  | t + 1, i, j, hi, hj, h => by
    have e : dbls n m (t + 1) i j = least (dbls n m t) i j n := rfl
    rcases least_is (dbls n m t) i j n with h1 | ⟨k, hk, h1⟩
    · rw [e, h1] at h ⊢; exact dbls_is t i j hi hj h
    · rw [e, h1] at h ⊢
      unfold plus at h ⊢
      by_cases hx : dbls n m t i k = 4611686018427387904 ∨ dbls n m t k j = 4611686018427387904
      · rw [if_pos hx] at h; exact absurd rfl h
      · rw [if_neg hx]
        obtain ⟨p, hp, ep⟩ := dbls_is t i k hi hk (fun h => hx (.inl h))
        obtain ⟨q, hq, eq⟩ := dbls_is t k j hk hj (fun h => hx (.inr h))
        refine ⟨p ++ k :: q, ?_, ?_⟩
        · have : i :: (p ++ k :: q ++ [j]) = (i :: p) ++ k :: (q ++ [j]) := by simp
          rw [this, wk_append]; exact ⟨by simpa using hp, hq⟩
        · have : i :: (p ++ k :: q ++ [j]) = (i :: p) ++ k :: (q ++ [j]) := by simp
          rw [this, fw_append, ← ep, ← eq]; rfl
/-- where no doubled entry of the diagonal lies below 0, no walk back does -/
theorem back_pos {n : Nat} {B : Int} {m : Nat → Nat → Int} {t : Nat} (h : Bd n B m) (hB : 0 ≤ B) (hm : ∀ i, i < n → m i i = 0) (hb : B * 2 ^ t < 4611686018427387904) (ht : n ≤ 2 ^ t)
    (hd : ∀ i, i < n → 0 ≤ dbls n m t i i) : ∀ (N : Nat) (p : List Nat) (i : Nat), p.length ≤ N → Wk n m (i :: (p ++ [i])) → 0 ≤ fw m (i :: (p ++ [i]))
  | N, p, i, hN, hw => by
    have hi : i < n := wk_node hw i (by simp)
    by_cases hs : p.length + 1 ≤ 2 ^ t
    · have := (dbls_walk h hB hm t hb p i i hw hs).2
      have := hd i hi; omega
    · cases N with
      | zero => have := Nat.one_le_two_pow (n := t); omega
      | succ N =>
        obtain ⟨a, b, c, x, e⟩ := comes_back (p := i :: p) (j := i) hw (by simp; omega)
        have ew : i :: (p ++ [i]) = a ++ x :: (b ++ x :: (c ++ [i])) := by
          have : i :: (p ++ [i]) = (i :: p) ++ [i] := rfl
          rw [this, e]; simp
        have el : (i :: p).length = (a ++ x :: (b ++ x :: c)).length := by rw [e]
        simp only [List.length_cons, List.length_append] at el
        rw [ew] at hw ⊢
        have hw1 := wk_append.1 hw
        have hw2 := wk_append (p := x :: b).1 hw1.2
        have hx := back_pos h hB hm hb ht hd N b x (by omega) (by simpa using hw2.1)
        rw [fw_append]
        have ef : fw m (x :: (b ++ x :: (c ++ [i]))) = fw m (x :: (b ++ [x])) + fw m (x :: (c ++ [i])) := fw_append m x (c ++ [i]) (x :: b)
        rw [ef]
        have ho : 0 ≤ fw m (a ++ [x]) + fw m (x :: (c ++ [i])) := by
          rw [← fw_append]
          cases a with
          | nil =>
            simp only [List.nil_append, List.cons.injEq] at e
            rw [← e.1] at hw2 ⊢
            simp only [List.nil_append]
            exact back_pos h hB hm hb ht hd N c i (by omega) hw2.2
          | cons y a =>
            simp only [List.cons_append, List.cons.injEq] at e
            have hy := e.1
            subst hy
            have : i :: a ++ x :: (c ++ [i]) = i :: ((a ++ x :: c) ++ [i]) := by simp
            have hwo : Wk n m (i :: a ++ x :: (c ++ [i])) := wk_append.2 ⟨hw1.1, hw2.2⟩
            rw [this] at hwo ⊢
            simp only [List.length_cons] at el
            exact back_pos h hB hm hb ht hd N (a ++ x :: c) i (by simp; omega) hwo
        omega
/-- each walk weighs no less than a short one -/
theorem shorter {n : Nat} {m : Nat → Nat → Int} {L : Nat} (hL : n ≤ L) (hp : ∀ (p : List Nat) (i : Nat), Wk n m (i :: (p ++ [i])) → 0 ≤ fw m (i :: (p ++ [i]))) :
    ∀ (N : Nat) (p : List Nat) (i j : Nat), p.length ≤ N → Wk n m (i :: (p ++ [j])) → ∃ q, Wk n m (i :: (q ++ [j])) ∧ q.length + 1 ≤ L + 1 ∧ fw m (i :: (q ++ [j])) ≤ fw m (i :: (p ++ [j]))
  | N, p, i, j, hN, hw => by
    by_cases hs : p.length + 1 ≤ L + 1
    · exact ⟨p, hw, hs, Int.le_refl _⟩
    · cases N with
      | zero => omega
      | succ N =>
        have hw0 : Wk n m (i :: p ++ [j]) := hw
        have hwp : ∀ x ∈ p, x < n := fun x hx => wk_node hw x (by simp [hx])
        obtain ⟨a, b, c, x, e⟩ := dup_split p (fun hn => by have := nodup_len n p hn hwp; omega)
        subst e
        have ew : i :: ((a ++ x :: (b ++ x :: c)) ++ [j]) = (i :: a) ++ x :: (b ++ x :: (c ++ [j])) := by simp
        rw [ew] at hw ⊢
        have hw1 := wk_append.1 hw
        have hw2 := wk_append (p := x :: b).1 hw1.2
        have hx := hp b x (by simpa using hw2.1)
        have hwo : Wk n m ((i :: a) ++ x :: (c ++ [j])) := wk_append.2 ⟨hw1.1, hw2.2⟩
        have eo : (i :: a) ++ x :: (c ++ [j]) = i :: ((a ++ x :: c) ++ [j]) := by simp
        simp only [List.length_append, List.length_cons] at hN
        obtain ⟨q, h1, h2, h3⟩ := shorter hL hp N (a ++ x :: c) i j (by simp; omega) (eo ▸ hwo)
        refine ⟨q, h1, h2, Int.le_trans h3 ?_⟩
        rw [← eo, fw_append m x (c ++ [j]) (i :: a), fw_append m x (b ++ x :: (c ++ [j])) (i :: a)]
        have ef : fw m (x :: (b ++ x :: (c ++ [j]))) = fw m (x :: (b ++ [x])) + fw m (x :: (c ++ [j])) := fw_append m x (c ++ [j]) (x :: b)
        rw [ef]; omega
/-- ways doubled in length until they are longer than any simple one come to the greatest closed matrix -/
theorem dbls_closure {n : Nat} {B : Int} {m : Nat → Nat → Int} {t : Nat} (h : Bd n B m) (hB : 0 ≤ B) (hm : ∀ i, i < n → m i i = 0) (hb : B * 2 ^ t < 4611686018427387904) (ht : n + 1 ≤ 2 ^ t)
    (hd : ∀ i, i < n → 0 ≤ dbls n m t i i) : IsClosure n m true (dbls n m t) := by
  have hB' : B < 4611686018427387904 := by
    have : (1 : Int) ≤ 2 ^ t := by have := Nat.one_le_two_pow (n := t); exact_mod_cast this
    have := Int.mul_le_mul_of_nonneg_left this hB; omega
  have hp : ∀ (p : List Nat) (i : Nat), Wk n m (i :: (p ++ [i])) → 0 ≤ fw m (i :: (p ++ [i])) := fun p i hw => back_pos h hB hm hb (by omega) hd p.length p i (Nat.le_refl _) hw
  have hall : ∀ (p : List Nat) (i j : Nat), Wk n m (i :: (p ++ [j])) → dbls n m t i j ≤ fw m (i :: (p ++ [j])) := by
    intro p i j hw
    obtain ⟨q, h1, h2, h3⟩ := shorter (Nat.le_refl n) hp p.length p i j (Nat.le_refl _) hw
    exact Int.le_trans (dbls_walk h hB hm t hb q i j h1 (by omega)).2 h3
  refine ⟨fun _ => ⟨⟨fun i hi => ?_, fun i j k hi hj hk => ?_⟩, fun i j _ _ => dbls_le n m t i j, fun c hc tc hl => dbls_low hc tc (fin_of_low h hB') hl t⟩, fun h => by cases h⟩
  · have := dbls_le n m t i i; have := hd i hi; have := hm i hi; omega
  · have bd := bd_dbls h hB t hb
    unfold plus
    by_cases hx : dbls n m t i k = 4611686018427387904 ∨ dbls n m t k j = 4611686018427387904
    · rw [if_pos hx]; have := bd i j hi hj; unfold Fin' at this; omega
    · rw [if_neg hx]
      obtain ⟨p, hp1, ep⟩ := dbls_is t i k hi hk (fun h => hx (.inl h))
      obtain ⟨q, hq, eq⟩ := dbls_is t k j hk hj (fun h => hx (.inr h))
      have e : i :: (p ++ k :: q ++ [j]) = (i :: p) ++ k :: (q ++ [j]) := by simp
      have hw : Wk n m (i :: (p ++ k :: q ++ [j])) := by rw [e, wk_append]; exact ⟨by simpa using hp1, hq⟩
      have := hall _ i j hw
      rw [e, fw_append] at this
      have e1 : i :: p ++ [k] = i :: (p ++ [k]) := rfl
      rw [e1] at this
      omega
theorem dbls_none {n : Nat} {m d : Nat → Nat → Int} (ht : Top62 n m) {t i : Nat} (hi : i < n) (hd : dbls n m t i i < 0) : IsClosure n m false d := by
  refine ⟨(fun h => by cases h), fun _ c hc tc hl => ?_⟩
  have := dbls_low hc tc ht hl t i i hi hi
  have := hc.1 i hi; omega

end Go.Proofs.Ytomgebmimgaojaa.OctMath
