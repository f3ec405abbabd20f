/- The least sums along ways over a table: the entries are gathered by way of the iterator, then it goes over one node after the other. -/
import Derived.Test.YtomgebmimgaojaaIter
import Derived.Test.YtomgebmimgaojaaOctMath
noncomputable section
namespace Go.Proofs.Ytomgebmimgaojaa.QO
open Go.RowKit Go.Shelf Go.Proofs.YtomgebmimgaojaaW.PrintWords Go.Proofs.YtomgebmimgaojaaW.PrintLast Go.Proofs.YtomgebmimgaojaaW.PrintMore
attribute [local go_sem] Oper.semAt_some
set_option linter.unusedVariables false
set_option linter.unusedSimpArgs false

/-- what has been put by some rounds -/
def putAll (f : Nat → Int) {N : Nat} (l : List (Fin N)) (d : List Int) : List Int := l.foldl (fun d k => d.set k.1 (f k.1)) d
theorem putAll_snoc (f : Nat → Int) {N : Nat} (l : List (Fin N)) (x : Fin N) (d : List Int) : putAll f (l ++ [x]) d = (putAll f l d).set x.1 (f x.1) := by simp [putAll]
theorem putAll_length (f : Nat → Int) {N : Nat} (l : List (Fin N)) (d : List Int) : (putAll f l d).length = d.length := by
  induction l generalizing d with
  | nil => rfl
  | cons x l ih => simp only [putAll, List.foldl_cons] at ih ⊢; rw [ih]; simp
theorem putAll_take (f : Nat → Int) (N : Nat) : ∀ k, k ≤ N → putAll f ((List.finRange N).take k) (List.replicate N 0) = (List.range k).map f ++ List.replicate (N - k) 0
  | 0, _ => by simp [putAll]
  | k + 1, h => by
    rw [finRange_take_succ (by omega), putAll_snoc, putAll_take f N k (by omega)]
    apply List.ext_getElem
    · simp; omega
    · intro i h1 h2
      simp only [List.length_set, List.length_append, List.length_map, List.length_range, List.length_replicate] at h1
      rw [List.getElem_set]
      by_cases e : k = i
      · subst e; rw [if_pos rfl, List.getElem_append_left (by simp)]; simp
      · rw [if_neg e]
        by_cases hi : i < k
        · rw [List.getElem_append_left (by simpa using hi), List.getElem_append_left (by simp; omega)]; simp
        · rw [List.getElem_append_right (by simp; omega), List.getElem_append_right (by simp; omega)]; simp
theorem putAll_all (f : Nat → Int) (N : Nat) : putAll f (List.finRange N) (List.replicate N 0) = (List.range N).map f := by
  have := putAll_take f N N (Nat.le_refl _)
  rw [List.take_of_length_le (by simp)] at this
  rw [this]; simp

open OctMath (over overs plus Bd Fin' Top62)
/-- a matrix, row by row -/
def lst (n : Nat) (d : Nat → Nat → Int) : List Int := (List.range (n * n)).map (fun t => d (t / n) (t % n))
theorem lst_length (n : Nat) (d : Nat → Nat → Int) : (lst n d).length = n * n := by simp [lst]
theorem ij_lt {n i j : Nat} (hi : i < n) (hj : j < n) : i * n + j < n * n := by
  have : (i + 1) * n ≤ n * n := Nat.mul_le_mul_right _ hi
  rw [Nat.add_mul, Nat.one_mul] at this; omega
theorem ij_div {n i j : Nat} (hj : j < n) : (i * n + j) / n = i := by rw [Nat.mul_comm, Nat.mul_add_div (by omega), Nat.div_eq_of_lt hj, Nat.add_zero]
theorem ij_mod {n i j : Nat} (hj : j < n) : (i * n + j) % n = j := by rw [Nat.mul_comm, Nat.mul_add_mod, Nat.mod_eq_of_lt hj]
theorem lst_rd {n : Nat} {d : Nat → Nat → Int} {i j : Nat} {q : Int} (hi : i < n) (hj : j < n) (hq : q = ((i * n + j : Nat) : Int)) : rd (lst n d) q = d i j := by
  have h := ij_lt hi hj
  subst hq
  unfold rd
  rw [Int.toNat_natCast]
  simp [lst, h, ij_div hj, ij_mod hj]
theorem lst_set {n : Nat} {d : Nat → Nat → Int} {i j : Nat} {q v : Int} (hi : i < n) (hj : j < n) (hq : q = ((i * n + j : Nat) : Int)) : (lst n d).set q.toNat v = lst n (fun a b => if a = i ∧ b = j then v else d a b) := by
  subst hq
  apply List.ext_getElem
  · simp [lst]
  · intro t h1 h2
    simp only [lst, List.length_set, List.length_map, List.length_range] at h1
    rw [List.getElem_set]
    simp only [lst, List.getElem_map, List.getElem_range, Int.toNat_natCast]
    by_cases e : i * n + j = t
    · rw [if_pos e, if_pos]; subst e; exact ⟨ij_div hj, ij_mod hj⟩
    · rw [if_neg e, if_neg]
      rintro ⟨h3, h4⟩
      apply e; have := Nat.div_add_mod t n; rw [h3, h4, Nat.mul_comm] at this; exact this
theorem lst_congr {n : Nat} {d e : Nat → Nat → Int} (h : ∀ i j, i < n → j < n → d i j = e i j) : lst n d = lst n e := by
  unfold lst
  apply List.map_congr_left
  intro t ht
  have h1 : t < n * n := by simpa using ht
  have h0 : 0 < n := by by_cases e : n = 0; · subst e; omega
                        · omega
  exact h _ _ (Nat.div_lt_of_lt_mul h1) (Nat.mod_lt _ h0)

theorem up_plus {B x y : Int} (hB : 0 ≤ B) (hB' : B + B < 4611686018427387900) (hx : Fin' B x) (hy : Fin' B y) : bound_Up.f x y = some (plus x y) := by
  have h : ∀ {a}, Fin' B a → bfit a = a := by
    intro a ha; unfold Fin' at ha; unfold bfit; repeat' split
    all_goals omega
  unfold bound_Up.f bound_Fit.f
  rw [h hx, h hy]
  simp only [Option.bind_some]
  unfold plus
  by_cases e1 : x = 4611686018427387904
  · rw [if_pos e1, if_pos (.inl e1)]
  · rw [if_neg e1]
    by_cases e2 : y = 4611686018427387904
    · rw [if_pos e2, if_pos (.inr e2)]
    · rw [if_neg e2, if_neg (by rintro (h | h) <;> contradiction)]
      unfold Fin' at hx hy
      have : wrap64 (x + y) = x + y := by unfold wrap64; omega
      rw [this]; congr 1; unfold mn mx; split <;> split <;> omega
/-- the rows ahead of i, and of row i what is ahead of j, have gone over node k -/
def mix (d : Nat → Nat → Int) (k i j : Nat) : Nat → Nat → Int := fun a b => if a < i ∨ (a = i ∧ b < j) then over d k a b else d a b
theorem over_at_k {B : Int} {d : Nat → Nat → Int} {k a : Nat} (hB : 0 ≤ B) (hB' : B < 4611686018427387904) (hk : 0 ≤ d k k) (hk' : Fin' B (d k k)) (ha : Fin' B (d a k)) (ha' : Fin' B (d k a)) : over d k a k = d a k ∧ over d k k a = d k a := by
  unfold over plus Fin' at *
  constructor <;> split <;> split at * <;> omega
theorem mix_reads {B : Int} {d : Nat → Nat → Int} {k i j n : Nat} (hB : 0 ≤ B) (hB' : B < 4611686018427387904) (hd : Bd n B d) (hk : k < n) (hi : i < n) (hj : j < n) (hkk : 0 ≤ d k k) :
    mix d k i j i k = d i k ∧ mix d k i j k j = d k j ∧ mix d k i j i j = d i j := by
  have h1 := over_at_k hB hB' hkk (hd k k hk hk) (hd i k hi hk) (hd k i hk hi)
  have h2 := over_at_k hB hB' hkk (hd k k hk hk) (hd j k hj hk) (hd k j hk hj)
  refine ⟨?_, ?_, ?_⟩
  · unfold mix; split
    · exact h1.1
    · rfl
  · unfold mix; split
    · exact h2.2
    · rfl
  · unfold mix; rw [if_neg (by omega)]
/-- the entry at (i, j) goes over k -/
theorem mix_step {d : Nat → Nat → Int} {k i j : Nat} (a b : Nat) : mix d k i (j + 1) a b = if a = i ∧ b = j then over d k i j else mix d k i j a b := by
  unfold mix
  by_cases e : a = i ∧ b = j
  · rw [if_pos e, if_pos (by omega), e.1, e.2]
  · rw [if_neg e]
    by_cases h : a < i ∨ (a = i ∧ b < j)
    · rw [if_pos h, if_pos (by omega)]
    · rw [if_neg h, if_neg (by omega)]
theorem mix_row {d : Nat → Nat → Int} {k i n : Nat} (a b : Nat) (hb : b < n) : mix d k i n a b = mix d k (i + 1) 0 a b := by
  unfold mix
  by_cases h : a < i ∨ (a = i ∧ b < n)
  · rw [if_pos h, if_pos (by omega)]
  · rw [if_neg h, if_neg (by omega)]
theorem mix_zero {d : Nat → Nat → Int} {k : Nat} (a b : Nat) : mix d k 0 0 a b = d a b := by unfold mix; rw [if_neg (by omega)]
theorem mix_all {d : Nat → Nat → Int} {k n : Nat} (a b : Nat) (ha : a < n) : mix d k n 0 a b = over d k a b := by unfold mix; rw [if_pos (.inl ha)]
theorem over_le_of {d : Nat → Nat → Int} {k i j : Nat} (h : plus (d i k) (d k j) < d i j) : over d k i j = plus (d i k) (d k j) := by unfold over; rw [if_pos h]
theorem over_ge_of {d : Nat → Nat → Int} {k i j : Nat} (h : ¬ plus (d i k) (d k j) < d i j) : over d k i j = d i j := by unfold over; rw [if_neg h]

/-- the matrix of an octagon's table -/
def lowM (nv : Nat) (m : List Int) : Nat → Nat → Int := fun i j => lowAt (2 * (nv : Int)) m (i : Int) (j : Int)
/-- does nothing come back below 0? -/
def FloydOk (n : Nat) (d : Nat → Nat → Int) : Prop := ∀ t i, t ≤ n → i < n → 0 ≤ overs d t i i
noncomputable def floydB (n : Nat) (d : Nat → Nat → Int) : Bool := @decide (FloydOk n d) (Classical.propDecidable _)
theorem floydB_true {n : Nat} {d : Nat → Nat → Int} : floydB n d = true ↔ FloydOk n d := by unfold floydB; exact @decide_eq_true_iff _ (Classical.propDecidable _)
theorem floydB_false {n : Nat} {d : Nat → Nat → Int} : floydB n d = false ↔ ¬ FloydOk n d := by unfold floydB; exact @decide_eq_false_iff_not _ (Classical.propDecidable _)
noncomputable def floydL (n : Nat) (d : Nat → Nat → Int) : List Int := if floydB n d = true then lst n (overs d n) else []

/-- what the loops over the nodes know of a world -/
structure FS (w : World) (s : Nat) (A : Option Addr) (len cap D : Nat) (W : World) (row : List Int) : Prop where
  row : Kd.R (Kd.int .i64) 2 W w.heap.size (fun k => k < s) (.slice A len cap) row
  box : Boxed W s 23 (.slice A len cap)
  below : Below w.heap.size w W
  dfr : W.heap[D]? = some (.deferred (some []))
theorem FS.next {w : World} {s : Nat} {A : Option Addr} {len cap D : Nat} {W W' : World} {row : List Int} (h : FS w s A len cap D W row) (hb : Below W.heap.size W W') : FS w s A len cap D W' row :=
  ⟨Kd.R_below h.row hb, (hb.block _ h.box.lt).trans h.box, h.below.trans (hb.mono h.below.size), (hb.block _ (Array.getElem?_eq_some_iff.1 h.dfr).1).trans h.dfr⟩
theorem FS.put {w : World} {s g len cap D : Nat} {W : World} {row : List Int} (h : FS w s (some ⟨g, 0, none⟩) len cap D W row) (h1 : w.heap.size ≤ g) (h2 : g < s) (h3 : s ≤ D) (i v : Int) :
    FS w s (some ⟨g, 0, none⟩) len cap D (W.setCell ⟨g, i.toNat, none⟩ (.int .i64 v)) (row.set i.toNat v) := by
  have hp := Kd.R_putg h.row i v
  exact ⟨hp.1, h.box.kept hp.2 (by simp; omega), h.below.setCell (p := ⟨g, i.toNat, none⟩) h1 _, (hp.2.block D (Array.getElem?_eq_some_iff.1 h.dfr).1 (by simp; omega)).trans h.dfr⟩

theorem keepBoxes_of {n₀ B1 B2 : Nat} {W W' : World} (h : Below W.heap.size W W') (hn : n₀ ≤ W.heap.size) (h1 : B1 < W.heap.size) (h2 : B2 < W.heap.size) : KeepBoxes n₀ B1 B2 W W' :=
  ⟨h.mono hn, h.block _ h1, h.block _ h2⟩

set_option maxHeartbeats 16000000 in
set_option maxRecDepth 100000 in
theorem oct_ways_any (nv : Nat) (A : Option Addr) (c : Nat) (m : List Int) (w : World) (hr : Kd.C (Kd.int .i64) w A m.length m) (hc : m.length ≤ c) (hn : nv ≤ 8) (hm : (m.length : Int) = (2 * (nv : Int)) * (2 * (nv : Int)))
    (hbd : Bd (2 * nv) 1099511627776 (lowM nv m)) (hdg : ∀ i, i < 2 * nv → 0 ≤ lowM nv m i i) :
    Calls Try.prog 54 #[tableV (2 * (nv : Int)) A m.length c] w fun e w' => ∃ v0_ : Value, e = .returned (.tuple #[v0_, .bool (floydB (2 * nv) (lowM nv m))]) ∧ Kd.R (Kd.int .i64) 2 w' w.heap.size (fun _ => True) v0_ (floydL (2 * nv) (lowM nv m)) ∧ Below w.heap.size w w' := by
  unfold tableV
  have hms := meth_size
  have HR := Aside0.mk hr
  have HN := Aside0.mk hn
  obtain ⟨n2, hn2⟩ : ∃ n2, n2 = 2 * nv := ⟨_, rfl⟩
  rw [← hn2] at hbd hdg ⊢
  obtain ⟨M0, hM0⟩ : ∃ M0, lowM nv m = M0 := ⟨_, rfl⟩
  rw [hM0] at hbd hdg ⊢
  have HBD := Aside0.mk hbd
  have HDG := Aside0.mk hdg
  have HM0' := Aside0.mk hM0
  have HN2 := Aside0.mk hn2
  have h5 : n2 * n2 ≤ 256 := Nat.le_trans (Nat.mul_le_mul (show n2 ≤ 16 by omega) (show n2 ≤ 16 by omega)) (by omega)
  have h6 : (2 * (nv : Int)) * (2 * (nv : Int)) = ((n2 * n2 : Nat) : Int) := by rw [hn2]; push_cast; rfl
  obtain ⟨NN, hNN⟩ : ∃ NN, n2 * n2 = NN := ⟨_, rfl⟩
  rw [hNN] at h5 h6
  have hw2 : wrap64 ((2 * (nv : Int)) * (2 * (nv : Int))) = (NN : Int) := by rw [h6]; unfold wrap64; omega
  have hw3 : IntKind.i64.wrap ((2 * (nv : Int)) * (2 * (nv : Int))) = (NN : Int) := by rw [IntKind.wrap_i64, h6]; omega
  have HL := Aside0.mk h5
  have HNN := Aside0.mk hNN
  have H6 := Aside0.mk h6
  have HM := Aside0.mk hm
  have HC := Aside0.mk hc
  have OB := oct_both_in (2 * (nv : Int)) (2 * (nv : Int)) A A m.length c m.length c
  unfold tableV at OB
  have HOB := Aside0.mk OB
  clear hr hn hn2 hm OB hc h5 hNN h6 hbd hdg hM0
  refine (callsIn_wide (n := 6)).1 ?_
  refine callsIn_of_wp_marks Try.func54 rfl trivial ?_ rfl
  simp only [Try.ntmps54, List.size_toArray, List.length_cons, List.length_nil, Nat.reduceAdd, Nat.reduceSub, Array.replicate_succ, Array.replicate_zero, List.push_toArray, List.append_toArray, List.nil_append, List.cons_append]
  refine wpIn_wide.2 ?_
  go_wp2_with (first
    | (go_at_call 110; (with_reducible refine (oct_size_any _ _ _ _ _).mono ?_); rintro e w1 ⟨rfl, hb⟩; have HB1 := Aside0.mk hb; clear hb)
    | ((with_reducible refine gate_dst (N := 17) rfl ?_); refine Kd.R_make (Kd.int .i64) _ 2 rfl (N := 17) rfl 23 _ _ rfl (NN : Int) rfl rfl Try.underlying23 (.int .i64 0) 8 info2 rfl (by decide) (by omega) 0 (ok := fun _ => True) (okp := fun _ => True) rfl (fun _ hk => hk) trivial (by omega) (by have := HL.out; omega) (Below.refl _ _) (Nat.le_refl _) ?_; intro v102 w9 ho10 hb hg_ hnew_; have HO := Aside0.mk ho10; have HB2 := Aside0.mk hb; have HNEW := Aside0.mk hnew_; clear ho10 hb hg_ hnew_; obtain ⟨Ao, co, eo⟩ := Kd.R_slice HO.out; subst eo)
    | (go_at_call 73; (with_reducible refine (callsIn_wide.1 (HOB.out _)).mono ?_); rintro e w' ⟨rfl, rfl⟩))
  obtain ⟨s, hs⟩ : ∃ s, w9.heap.size = s := ⟨_, rfl⟩
  rw [hs]
  obtain ⟨W0, hW0⟩ : ∃ W0, (((w9.alloc (.cells #[.slice Ao NN co] 23)).alloc (.cells #[.iface 85 (.agg #[.int .i64 (2 * (nv : Int)), .slice A m.length c])] 64)).alloc (.cells #[.iface 85 (.agg #[.int .i64 (2 * (nv : Int)), .slice A m.length c])] 64)) = W0 := ⟨_, rfl⟩
  rw [hW0]
  have hNN : (List.replicate ((NN : Int)).toNat (0 : Int)).length = NN := by simp
  have hNi : ((NN : Int)).toNat = NN := by simp
  have hws : w.heap.size ≤ s := by have := HB1.out.size; have := HB2.out.size; omega
  have hS0 : Aside0 (W0.heap.size = s + 3) := ⟨by rw [← hW0]; simp [hs]⟩
  have hD0 : Boxed W0 s 23 (.slice Ao NN co) := by rw [← hW0, ← hs]; exact ((Boxed.new _ _ _).alloc _).alloc _
  have hT1 : TBox W0 (s + 1) (2 * (nv : Int)) A m.length c := by
    have := (Boxed.new (w9.alloc (.cells #[.slice Ao NN co] 23)) 64 (tableV (2 * (nv : Int)) A m.length c)).alloc (.cells #[tableV (2 * (nv : Int)) A m.length c] 64)
    rw [World.size_alloc, hs] at this; rw [← hW0]; exact this
  have hT2 : TBox W0 (s + 1 + 1) (2 * (nv : Int)) A m.length c := by
    have := Boxed.new ((w9.alloc (.cells #[.slice Ao NN co] 23)).alloc (.cells #[tableV (2 * (nv : Int)) A m.length c] 64)) 64 (tableV (2 * (nv : Int)) A m.length c)
    rw [World.size_alloc, World.size_alloc, hs] at this; rw [← hW0]; exact this
  have hBw : Below w.heap.size w W0 := by
    rw [← hW0]
    have h1 : Below w.heap.size w w9 := HB1.out.trans (HB2.out.mono HB1.out.size)
    exact ((h1.alloc (by omega) _).alloc (by simp; omega) _).alloc (by simp; omega) _
  have hBP : Aside0 (BP w w.heap.size (s + 1) (s + 1 + 1) (2 * (nv : Int)) A m.length c A m.length c W0) := ⟨⟨hBw, hT1, hT2⟩⟩
  have hR0 : Aside0 (Kd.R (Kd.int .i64) 2 W0 w.heap.size (fun k => k < s) (.slice Ao NN co) (putAll (fun k => (pairAt n2 m m k).2.1) (N := NN) [] (List.replicate NN 0))) := ⟨by
    have := Kd.R_lower (Kd.R_mono (Kd.R_bound HO.out) (fun k hk => (by have := hk.2.2.1; omega : k < s))) HB1.out.size
    rw [hNN, hNi] at this
    rw [← hW0]
    exact Kd.R_alloc (Kd.R_alloc (Kd.R_alloc this _) _) _⟩
  have hG : Aside0 (0 < NN → ∃ g, Ao = some ⟨g, 0, none⟩ ∧ w.heap.size ≤ g ∧ g < s) := ⟨fun hN0 => by
    obtain ⟨g, cap, e, h1, h2, _⟩ := Kd.R_form HO.out (by simpa using hN0)
    injection e with e1 e2 e3
    subst e1
    exact ⟨g, rfl, Nat.le_trans HB1.out.size h1, by omega⟩⟩
  clear hW0 HO HNEW HOB
  have ST := oct_both_stops (s + 1) (s + 1 + 1) A A c c m m nv n2 w W0 HN.out HN2.out HM.out HM.out HC.out HC.out HR.out HR.out hBP.out
  rw [HNN.out] at ST
  refine (wpIn_wide (n := 6)).1 ?_
  refine wpIn_rangeFunc_ownH rfl (by omega) (gf := 91) (lb := #[.pointer (some ⟨s + 1, 0, none⟩), .pointer (some ⟨s + 1 + 1, 0, none⟩)]) rfl trivial (enters_of Try.func91 (by kernel_rfl) rfl)
    ST KeepBoxes.trans (keepBoxes_b (w := W0) (by have := hS0.out; omega) (by have := hS0.out; omega) (by have := hS0.out; omega)) (Below.refl _ _) (fun _ => rfl)
    (fun pre W => Kd.R (Kd.int .i64) 2 W w.heap.size (fun k => k < s) (.slice Ao NN co) (putAll (fun k => (pairAt n2 m m k).2.1) pre (List.replicate NN 0)) ∧ Boxed W s 23 (.slice Ao NN co) ∧ BP w w.heap.size (s + 1) (s + 1 + 1) (2 * (nv : Int)) A m.length c A m.length c W)
    (fun _ _ _ => False)
    (fun pre X Y row hs' hg hr' => ⟨Kd.R_grown hs'.1 hg (fun k hk e => by have := (hr' k e.symm).1; have := hS0.out; omega), hs'.2.1.kept hg (fun e => by have := (hr' _ e.symm).1; have := hS0.out; omega),
      ⟨hs'.2.2.below.grown hg (by have := hs'.2.2.below.size; omega) (fun k e => by have := (hr' k e).1; have := hS0.out; omega), Boxed.kept hs'.2.2.box1 hg (fun e => by have := (hr' _ e.symm).1; have := hS0.out; omega), Boxed.kept hs'.2.2.box2 hg (fun e => by have := (hr' _ e.symm).1; have := hS0.out; omega)⟩⟩)
    (fun _ _ _ _ _ hs' _ _ => hs')
    ⟨hR0.out, hD0, hBP.out⟩
    (fun x a' W => ∃ Bx, s + 3 ≤ Bx ∧ W.heap[Bx]? = some (.cells #[.int .i64 (pairAt n2 m m x.1).2.1, .int .i64 (pairAt n2 m m x.1).2.2] 76 (0, 0)) ∧ a' = { tmps := #[(.iface 85 (.agg #[.int .i64 (2 * (nv : Int)), .slice A m.length c]) : Value), undef, .slice none 0 0, .bool false, .int .i64 (2 * (nv : Int)), .pointer (some ⟨s, 0, none⟩), .int .i64 (pairAt n2 m m x.1).1, .pointer (some ⟨Bx, 0, none⟩), undef, undef, undef, undef, (.iface 85 (.agg #[.int .i64 (2 * (nv : Int)), .slice A m.length c]) : Value), .int .i64 (2 * (nv : Int)), .int .i64 (2 * (nv : Int)), .int .i64 (2 * (nv : Int)), .int .i64 (NN : Int), .slice Ao NN co, (.iface 85 (.agg #[.int .i64 (2 * (nv : Int)), .slice A m.length c]) : Value), (.iface 85 (.agg #[.int .i64 (2 * (nv : Int)), .slice A m.length c]) : Value), .func (.func 91) #[] #[.pointer (some ⟨s + 1, 0, none⟩), .pointer (some ⟨s + 1 + 1, 0, none⟩)], .int .i64 (pairAt n2 m m x.1).1, .agg #[.int .i64 (pairAt n2 m m x.1).2.1, .int .i64 (pairAt n2 m m x.1).2.2], undef, undef, undef, undef, undef, undef, undef, undef, undef, undef, undef, undef, undef, undef, undef, undef, undef, undef, undef, undef, undef, undef, undef, undef, undef, undef, undef, undef, undef, undef, undef, undef, undef, undef, undef, undef, undef, undef, undef, undef, undef, undef, undef, undef, undef, undef, undef, undef, undef, undef, undef, undef, undef, undef, undef, undef, undef, undef, undef, undef, undef, undef, undef, undef, undef], defers := [] })
    (fun x a' _ X Y row hs' hg hr' => by obtain ⟨Bx, h1, h2, h3⟩ := hs'; exact ⟨Bx, h1, (hg.block Bx (Array.getElem?_eq_some_iff.1 h2).1 (fun e => by obtain ⟨_, o, ho, hc⟩ := hr' Bx e.symm; rw [h2] at ho; cases ho; cases hc)).trans h2, h3⟩)
    ?assign ?body ?done ?stop
  case assign =>
    rintro l pre x W K ⟨hI1, hI2, hI3⟩ hK
    have hu76 := Try.underlying76
    gi_wp2
    have hsz := hI3.below.size
    have l1 := Boxed.lt hI3.box1
    have l2 := Boxed.lt hI3.box2
    exact hK _ _ ((KeepsOthers.alloc _ _).from _) (keepBoxes_of (Below.refl _ _ |>.alloc (Nat.le_refl _) _) hsz l1 l2) ⟨Kd.R_alloc hI1 _, hI2.alloc _, hI3.next hsz ((Below.refl _ _).alloc (Nat.le_refl _) _)⟩ ⟨W.heap.size, by omega, World.alloc_heap_new W _, rfl⟩
  case body =>
    rintro l pre x a' W hl ⟨r, hr⟩ ⟨hI1, hI2, hI3⟩ ⟨Bx, hBx, bX, rfl⟩ hlt
    have hN0 : 0 < NN := by have := x.2; omega
    obtain ⟨g, rfl, hg1, hg2⟩ := hG.out hN0
    obtain ⟨i, hi⟩ : ∃ i : Int, (pairAt n2 m m x.1).1 = i := ⟨_, rfl⟩
    have hi' : i = (x.1 : Int) := hi.symm
    obtain ⟨y, hy⟩ : ∃ y : Int, (pairAt n2 m m x.1).2.1 = y := ⟨_, rfl⟩
    obtain ⟨z, hz⟩ : ∃ y : Int, (pairAt n2 m m x.1).2.2 = y := ⟨_, rfl⟩
    have p0 : 0 ≤ i := by omega
    have q0 : i < (NN : Int) := by have := x.2; omega
    obtain ⟨hc0, hf0⟩ := Kd.R_celln 0 hI1 i p0 q0
    have HP := Kd.R_putg hI1 i y
    have cD := hI2.cell
    rw [hy, hz] at bX
    have cX : W.cell? ⟨Bx, 0, none⟩ = some (.int .i64 y) := by simp [World.cell?, bX]
    have HI1 := Aside0.mk hI1
    have HI3 := Aside0.mk hI3
    have HPP := Aside0.mk HP
    have HX := Aside0.mk hi'
    have HBX := Aside0.mk hBx
    rw [hi, hy, hz]
    have HY := Aside0.mk hy
    clear hI1 hI3 HP hi' hi hy hz hBx bX hr
    replace p0 := eq_true p0
    replace q0 := eq_true q0
    gi_wp2
    have hsz := HI3.out.below.size
    have l1 := Boxed.lt HI3.out.box1
    refine ⟨(KeepsOthers.setCell _ _ _).from _, ⟨(Below.refl w.heap.size W).setCell (p := ⟨g, i.toNat, none⟩) hg1 _, Below.heap_setCell _ _ _ _ (by simp; omega), Below.heap_setCell _ _ _ _ (by simp; omega)⟩, ?_, ?_, ?_⟩
    · have h1 := HPP.out.1
      rw [putAll_snoc, HY.out, show x.1 = i.toNat by have := HX.out; omega]
      exact h1
    · exact hI2.kept HPP.out.2 (by simp; omega)
    · exact ⟨HI3.out.below.setCell (p := ⟨g, i.toNat, none⟩) hg1 _, Boxed.kept HI3.out.box1 HPP.out.2 (by simp; omega), Boxed.kept HI3.out.box2 HPP.out.2 (by simp; omega)⟩
  case done =>
    rintro D ys W hD rfl ⟨hI1, hI2, hI3⟩ hK
    rw [putAll_all] at hI1
    have HI1 := Aside0.mk hI1
    have HI3 := Aside0.mk hI3
    have HK := Aside0.mk hK
    have HD := Aside0.mk hD
    clear hI1 hI3 hK hD HR HM HC ST hT1 hT2 hD0 hBw hBP hR0 hms HB1 HB2 hNi
    have HM0 : Aside0 ((List.range NN).map (fun k => (pairAt n2 m m k).2.1) = lst n2 M0) := ⟨by
      have e : ((n2 : Nat) : Int) = 2 * (nv : Int) := by have := HN2.out; omega
      rw [← HNN.out, ← HM0'.out]; unfold lst lowM pairAt; rw [e]⟩
    have HF : Aside0 (FS w s Ao NN co D W (lst n2 M0)) := ⟨⟨by rw [← HM0.out]; exact HI1.out, hI2, HI3.out.below, HK.out⟩⟩
    obtain ⟨nn, hnn⟩ : ∃ nn : Int, 2 * (nv : Int) = nn := ⟨_, rfl⟩
    rw [hnn]
    have HNV := Aside0.mk hnn
    clear HI1 HI3 HK hI2 hnn HM0 hw2 hw3
    gi_wp2
    go_wp2
    go_loopg [29] n2 (fun gg s29 wr => ∃ (k : Nat) (kk : Int), s29 = .int .i64 kk ∧ Aside0 (kk = (k : Int) ∧ k ≤ n2 ∧ n2 - k ≤ gg) ∧ Aside0 (FS w s Ao NN co D wr (lst n2 (overs M0 k))) ∧ Aside0 (∀ t i, t ≤ k → i < n2 → 0 ≤ overs M0 t i i))
    case atStart => exact ⟨0, 0, rfl, ⟨rfl, Nat.zero_le _, by omega⟩, HF, ⟨fun t i ht hi => (Nat.le_zero.1 ht) ▸ HDG.out i hi⟩⟩
    case round =>
      clear HF
      obtain ⟨k, kk, rfl, HKK, HF, HPOS⟩ := hrel
      by_cases hlt : k < n2
      · have f3 : decide (kk < nn) = true := decide_eq_true (by have := HN2.out; have := HKK.out; have := HNV.out; omega)
        have HKL := Aside0.mk hlt
        clear hlt
        have HB : Aside0 (Bd n2 (1099511627776 * 2 ^ k) (overs M0 k) ∧ (1099511627776 : Int) * 2 ^ k ≤ 72057594037927936 ∧ 0 ≤ (1099511627776 : Int) * 2 ^ k) := ⟨by
          have h1 := HKK.out; have h2 := HN2.out; have h3 := HN.out
          have hp : (2 : Int) ^ k ≤ 2 ^ 16 := by
            have := Nat.pow_le_pow_right (n := 2) (by decide) (show k ≤ 16 by omega)
            exact_mod_cast this
          have h4 : (1099511627776 : Int) * 2 ^ k ≤ 1099511627776 * 2 ^ 16 := Int.mul_le_mul_of_nonneg_left hp (by decide)
          exact ⟨OctMath.bd_overs HBD.out (by decide) k h1.2.1 (by omega), by omega, Int.mul_nonneg (by decide) (Int.pow_nonneg (by decide))⟩⟩
        go_wp2
        go_loopg [33] n2 (fun hh s33 wr => ∃ (i : Nat) (ii : Int), s33 = .int .i64 ii ∧ Aside0 (ii = (i : Int) ∧ i ≤ n2 ∧ n2 - i ≤ hh) ∧ Aside0 (FS w s Ao NN co D wr (lst n2 (mix (overs M0 k) k i 0))) ∧ Aside0 (∀ a, a < i → 0 ≤ over (overs M0 k) k a a))
        case atStart => exact ⟨0, 0, rfl, ⟨rfl, Nat.zero_le _, by omega⟩, ⟨by rw [lst_congr (fun a b _ _ => mix_zero a b)]; exact HF.out⟩, ⟨fun a ha => absurd ha (by omega)⟩⟩
        case round =>
          clear HF
          obtain ⟨i, ii, rfl, HII, HF, HPI⟩ := hrel
          by_cases hlt : i < n2
          · have f4 : decide (ii < nn) = true := decide_eq_true (by have := HN2.out; have := HII.out; have := HNV.out; omega)
            have HIL := Aside0.mk hlt
            have hN0 : 0 < NN := by rw [← HNN.out]; exact Nat.mul_pos (by omega) (by omega)
            obtain ⟨g, eg, hg1, hg2⟩ := hG.out hN0
            subst eg
            have HGG := Aside0.mk (And.intro hg1 hg2)
            clear hlt hG hg1 hg2 hN0
            go_wp2
            go_loopg [37] n2 (fun hh s37 wr => ∃ (j : Nat) (jj : Int), s37 = .int .i64 jj ∧ Aside0 (jj = (j : Int) ∧ j ≤ n2 ∧ n2 - j ≤ hh) ∧ Aside0 (FS w s (some ⟨g, 0, none⟩) NN co D wr (lst n2 (mix (overs M0 k) k i j))))
            case atStart => exact ⟨0, 0, rfl, ⟨rfl, Nat.zero_le _, by omega⟩, HF⟩
            case round =>
              clear HF
              obtain ⟨j, jj, rfl, HJJ, HF⟩ := hrel
              by_cases hlt : j < n2
              · have f5 : decide (jj < nn) = true := decide_eq_true (by have := HN2.out; have := HJJ.out; have := HNV.out; omega)
                have HJL := Aside0.mk hlt
                clear hlt
                obtain ⟨q1, hq1⟩ : ∃ q, IntKind.i64.wrap (ii * nn) = q := ⟨_, rfl⟩
                obtain ⟨p1, hp1⟩ : ∃ q, IntKind.i64.wrap (q1 + kk) = q := ⟨_, rfl⟩
                obtain ⟨q2, hq2⟩ : ∃ q, IntKind.i64.wrap (kk * nn) = q := ⟨_, rfl⟩
                obtain ⟨p2, hp2⟩ : ∃ q, IntKind.i64.wrap (q2 + jj) = q := ⟨_, rfl⟩
                obtain ⟨p3, hp3⟩ : ∃ q, IntKind.i64.wrap (q1 + jj) = q := ⟨_, rfl⟩
                have hq1w := (i64_w _).symm.trans hq1
                have hp3w := (i64_w _).symm.trans hp3
                have HP : Aside0 (p1 = ((i * n2 + k : Nat) : Int) ∧ p2 = ((k * n2 + j : Nat) : Int) ∧ p3 = ((i * n2 + j : Nat) : Int)) := ⟨by
                  have h1 := HKK.out.1; have h2 := HII.out.1; have h3 := HJJ.out.1; have h4 := HNV.out; have h5 := HN2.out; have h6 := HN.out
                  have l1 := HIL.out; have l2 := HKL.out; have l3 := HJL.out
                  have e1 : ii * nn = ((i * n2 : Nat) : Int) := by rw [h2, ← h4, h5]; push_cast; rfl
                  have e2 : kk * nn = ((k * n2 : Nat) : Int) := by rw [h1, ← h4, h5]; push_cast; rfl
                  have m1 : i * n2 ≤ 16 * 16 := Nat.mul_le_mul (by omega) (by omega)
                  have m2 : k * n2 ≤ 16 * 16 := Nat.mul_le_mul (by omega) (by omega)
                  rw [e1, IntKind.wrap_i64] at hq1
                  rw [e2, IntKind.wrap_i64] at hq2
                  rw [IntKind.wrap_i64] at hp1 hp2 hp3
                  have r1 : q1 = ((i * n2 : Nat) : Int) := by omega
                  have r2 : q2 = ((k * n2 : Nat) : Int) := by omega
                  clear e1 e2 hq1 hq2
                  subst r1 r2
                  refine ⟨?_, ?_, ?_⟩ <;> omega⟩
                have HPB : Aside0 ((0 ≤ p1 ∧ p1 < (NN : Int)) ∧ (0 ≤ p2 ∧ p2 < (NN : Int)) ∧ (0 ≤ p3 ∧ p3 < (NN : Int))) := ⟨by
                  have h := HP.out
                  have b1 := ij_lt HIL.out HKL.out; have b2 := ij_lt HKL.out HJL.out; have b3 := ij_lt HIL.out HJL.out
                  rw [HNN.out] at b1 b2 b3
                  omega⟩
                obtain ⟨x, hx⟩ : ∃ x, overs M0 k i k = x := ⟨_, rfl⟩
                obtain ⟨y, hy⟩ : ∃ y, overs M0 k k j = y := ⟨_, rfl⟩
                obtain ⟨z, hz⟩ : ∃ z, overs M0 k i j = z := ⟨_, rfl⟩
                obtain ⟨sm, hsm⟩ : ∃ sm, plus x y = sm := ⟨_, rfl⟩
                have HV : Aside0 (rd (lst n2 (mix (overs M0 k) k i j)) p1 = x ∧ rd (lst n2 (mix (overs M0 k) k i j)) p2 = y ∧ rd (lst n2 (mix (overs M0 k) k i j)) p3 = z) := ⟨by
                  have h := mix_reads HB.out.2.2 (by have := HB.out.2.1; omega) HB.out.1 HKL.out HIL.out HJL.out (HPOS.out k k (Nat.le_refl _) HKL.out)
                  rw [lst_rd HIL.out HKL.out HP.out.1, lst_rd HKL.out HJL.out HP.out.2.1, lst_rd HIL.out HJL.out HP.out.2.2, h.1, h.2.1, h.2.2]
                  exact ⟨hx, hy, hz⟩⟩
                have UP : Aside0 (∀ W, Calls Try.prog 57 #[.int .i64 x, .int .i64 y] W fun e w' => e = .returned (.int .i64 sm) ∧ Below W.heap.size W w') := ⟨fun W => bound_Up.calls x y sm W (by
                  rw [← hsm]; exact up_plus HB.out.2.2 (by have := HB.out.2.1; omega) (hx ▸ HB.out.1 i k HIL.out HKL.out) (hy ▸ HB.out.1 k j HKL.out HJL.out))⟩
                have HS : Aside0 (plus (overs M0 k i k) (overs M0 k k j) = sm ∧ overs M0 k i j = z) := ⟨by rw [hx, hy]; exact ⟨hsm, hz⟩⟩
                have hx1 : wr.cell? ⟨g, p1.toNat, none⟩ = some (.int .i64 x) := (Kd.R_celln 0 HF.out.row p1 HPB.out.1.1 HPB.out.1.2).1.trans (congrArg (fun v => some (Value.int .i64 v)) HV.out.1)
                have hy1 : wr.cell? ⟨g, p2.toNat, none⟩ = some (.int .i64 y) := (Kd.R_celln 0 HF.out.row p2 HPB.out.2.1.1 HPB.out.2.1.2).1.trans (congrArg (fun v => some (Value.int .i64 v)) HV.out.2.1)
                have cD := HF.out.box.cell
                have r10 := eq_true HPB.out.1.1
                have r11 := eq_true HPB.out.1.2
                have r20 := eq_true HPB.out.2.1.1
                have r21 := eq_true HPB.out.2.1.2
                have r30 := eq_true HPB.out.2.2.1
                have r31 := eq_true HPB.out.2.2.2
                clear hx hy hz hsm
                go_wp2
                go_region_held3 (fun w' => w'.cell? ⟨s, 0, none⟩ = some (.slice (some ⟨g, 0, none⟩) NN co) ∧ w'.cell? ⟨g, p1.toNat, none⟩ = some (.int .i64 x) ∧ w'.cell? ⟨g, p2.toNat, none⟩ = some (.int .i64 y)) (first | go_keep | exact KS)
                  (first | (go_at_call 57; (with_reducible refine (UP.out _).mono ?_); rintro e w1 ⟨rfl, hb⟩; have HF1 : Aside0 (FS w s (some ⟨g, 0, none⟩) NN co D w1 (lst n2 (mix (overs M0 k) k i j))) := ⟨(FS.next HF.out (below_drew (Below.refl _ _))).next hb⟩; have KS : w1.cell? ⟨s, 0, none⟩ = some (.slice (some ⟨g, 0, none⟩) NN co) ∧ w1.cell? ⟨g, p1.toNat, none⟩ = some (.int .i64 x) ∧ w1.cell? ⟨g, p2.toNat, none⟩ = some (.int .i64 y) := ⟨HF1.out.box.cell, (Kd.R_celln 0 HF1.out.row p1 HPB.out.1.1 HPB.out.1.2).1.trans (congrArg (fun v => some (Value.int .i64 v)) HV.out.1), (Kd.R_celln 0 HF1.out.row p2 HPB.out.2.1.1 HPB.out.2.1.2).1.trans (congrArg (fun v => some (Value.int .i64 v)) HV.out.2.1)⟩))
                have cD1 := HF1.out.box.cell
                obtain ⟨hz1, hf1⟩ := Kd.R_celln 0 HF1.out.row p3 HPB.out.2.2.1 HPB.out.2.2.2
                replace hz1 : w1.cell? ⟨g, p3.toNat, none⟩ = some (.int .i64 z) := hz1.trans (congrArg (fun v => some (Value.int .i64 v)) HV.out.2.2)
                clear KS hx1 hy1 cD UP
                have HW : Aside0 (wrap64 (jj + 1) = ((j + 1 : Nat) : Int)) := ⟨by have := HJJ.out; have := HN2.out; have := HN.out; unfold wrap64; omega⟩
                by_cases hlt : sm < z
                · have f6 : decide (sm < z) = true := decide_eq_true hlt
                  have HLT := Aside0.mk hlt
                  clear hlt
                  go_wp2
                  go_roundg (n2 - (j + 1))
                  case measure => have := HJJ.out; have := HJL.out; omega
                  case rel =>
                    refine ⟨j + 1, wrap64 (jj + 1), rfl, ⟨by have := HW.out; have := HJL.out; omega⟩, ⟨?_⟩⟩
                    have h1 := FS.put HF1.out HGG.out.1 HGG.out.2 (by have := HD.out; have := hS0.out; omega) p3 sm
                    have e : over (overs M0 k) k i j = sm := by have := HS.out; have h := HLT.out; rw [over_le_of (by rw [this.1, this.2]; exact h)]; exact this.1
                    rw [lst_set HIL.out HJL.out HP.out.2.2, ← e, lst_congr (fun a b _ _ => (mix_step a b).symm)] at h1
                    rw [e] at h1
                    exact h1
                · have f6 : decide (sm < z) = false := decide_eq_false hlt
                  have HLT := Aside0.mk hlt
                  clear hlt
                  go_wp2
                  go_roundg (n2 - (j + 1))
                  case measure => have := HJJ.out; have := HJL.out; omega
                  case rel =>
                    refine ⟨j + 1, wrap64 (jj + 1), rfl, ⟨by have := HW.out; have := HJL.out; omega⟩, ⟨?_⟩⟩
                    have h1 := HF1.out
                    have e : over (overs M0 k) k i j = overs M0 k i j := by have := HS.out; have h := HLT.out; exact over_ge_of (by rw [this.1, this.2]; omega)
                    rw [lst_congr (e := mix (overs M0 k) k i (j + 1)) (fun a b _ _ => by
                      rw [mix_step a b]
                      by_cases h : a = i ∧ b = j
                      · rw [if_pos h, e, h.1, h.2]; unfold mix; rw [if_neg (by omega)]
                      · rw [if_neg h])] at h1
                    exact h1
              · have f5 : decide (jj < nn) = false := decide_eq_false (by have := HN2.out; have := HJJ.out; have := HNV.out; omega)
                have ej : j = n2 := by have := HJJ.out; omega
                have HEJ := Aside0.mk ej
                clear hlt ej
                obtain ⟨q1, hq1⟩ : ∃ q, IntKind.i64.wrap (ii * nn) = q := ⟨_, rfl⟩
                obtain ⟨p4, hp4⟩ : ∃ q, IntKind.i64.wrap (q1 + ii) = q := ⟨_, rfl⟩
                have hq1w := (i64_w _).symm.trans hq1
                have hp4w := (i64_w _).symm.trans hp4
                have HP : Aside0 (p4 = ((i * n2 + i : Nat) : Int)) := ⟨by
                  have h2 := HII.out.1; have h4 := HNV.out; have h5 := HN2.out; have h6 := HN.out
                  have l1 := HIL.out
                  have e1 : ii * nn = ((i * n2 : Nat) : Int) := by rw [h2, ← h4, h5]; push_cast; rfl
                  have m1 : i * n2 ≤ 16 * 16 := Nat.mul_le_mul (by omega) (by omega)
                  rw [e1, IntKind.wrap_i64] at hq1
                  rw [IntKind.wrap_i64] at hp4
                  have r1 : q1 = ((i * n2 : Nat) : Int) := by omega
                  clear e1 hq1
                  subst r1
                  omega⟩
                have HPB : Aside0 (0 ≤ p4 ∧ p4 < (NN : Int)) := ⟨by
                  have h := HP.out
                  have b1 := ij_lt HIL.out HIL.out
                  rw [HNN.out] at b1
                  omega⟩
                obtain ⟨x, hx⟩ : ∃ x, over (overs M0 k) k i i = x := ⟨_, rfl⟩
                have HV : Aside0 (rd (lst n2 (mix (overs M0 k) k i j)) p4 = x) := ⟨by
                  rw [lst_rd HIL.out HIL.out HP.out, ← hx, HEJ.out]; unfold mix; rw [if_pos (.inr ⟨rfl, HIL.out⟩)]⟩
                have hx1 : wr.cell? ⟨g, p4.toNat, none⟩ = some (.int .i64 x) := (Kd.R_celln 0 HF.out.row p4 HPB.out.1 HPB.out.2).1.trans (congrArg (fun v => some (Value.int .i64 v)) HV.out)
                have cD := HF.out.box.cell
                have r10 := eq_true HPB.out.1
                have r11 := eq_true HPB.out.2
                have HX := Aside0.mk hx
                clear hx
                by_cases hlt : x < 0
                · have f6 : decide (x < 0) = true := decide_eq_true hlt
                  have HLT := Aside0.mk hlt
                  clear hlt
                  go_wp2
                  refine ⟨by simp, .inl ⟨_, _, rfl, run_takeDeferred HF.out.dfr, ?_⟩⟩
                  have hbad : floydB n2 M0 = false := floydB_false.2 (fun h => by
                    have h1 := h (k + 1) i HKL.out HIL.out
                    have h2 := HX.out
                    have h3 := HLT.out
                    have h4 : overs M0 (k + 1) i i = over (overs M0 k) k i i := rfl
                    omega)
                  refine ⟨_, results_tmp2 rfl _ _ _, .slice none 0 0, ?_, ?_, ?_⟩
                  · rw [hbad]; rfl
                  · unfold floydL; rw [hbad]; exact Kd.R_nil _ _ _ _ _
                  · exact HF.out.below.trans (belowK_b (w := w) (Nat.le_refl _) _ D _ _ (by have := HD.out; have := hS0.out; have := HGG.out; omega) HF.out.dfr rfl rfl)
                · have f6 : decide (x < 0) = false := decide_eq_false hlt
                  have HLT := Aside0.mk hlt
                  clear hlt
                  go_wp2
                  go_roundg (n2 - (i + 1))
                  case measure => have := HII.out; have := HIL.out; omega
                  case rel =>
                    have hw : wrap64 (ii + 1) = ii + 1 := by have := HII.out; have := HN2.out; have := HN.out; unfold wrap64; omega
                    refine ⟨i + 1, wrap64 (ii + 1), rfl, ⟨by have := HII.out; have := HIL.out; omega⟩, ⟨?_⟩, ⟨?_⟩⟩
                    · have h1 := HF.out
                      rw [HEJ.out, lst_congr (fun a b _ hb => mix_row a b hb)] at h1
                      exact h1
                    · intro a ha
                      by_cases e : a = i
                      · subst e; have := HX.out; have := HLT.out; omega
                      · exact HPI.out a (by omega)
          · have f4 : decide (ii < nn) = false := decide_eq_false (by have := HN2.out; have := HII.out; have := HNV.out; omega)
            have ei : i = n2 := by have := HII.out; omega
            have HEI := Aside0.mk ei
            clear hlt ei
            go_wp2
            have hkw : wrap64 (kk + 1) = kk + 1 := by have := HKK.out; have := HN2.out; have := HN.out; unfold wrap64; omega
            go_roundg (n2 - (k + 1))
            case measure => have := HKK.out; have := HKL.out; omega
            case rel =>
              refine ⟨k + 1, wrap64 (kk + 1), rfl, ⟨by have := HKK.out; have := HKL.out; omega⟩, ⟨?_⟩, ⟨?_⟩⟩
              · have := HF.out
                rw [HEI.out, lst_congr (fun a b ha _ => mix_all a b ha)] at this
                exact this
              · intro t a ht ha
                by_cases e : t ≤ k
                · exact HPOS.out t a e ha
                · obtain rfl : t = k + 1 := by omega
                  exact HPI.out a (by have := HEI.out; omega)
      · have f3 : decide (kk < nn) = false := decide_eq_false (by have := HN2.out; have := HKK.out; have := HNV.out; omega)
        have ek : k = n2 := by have := HKK.out; omega
        have HEK := Aside0.mk ek
        clear hlt ek
        have cD := HF.out.box.cell
        go_wp2
        refine ⟨by simp, .inl ⟨_, _, rfl, run_takeDeferred HF.out.dfr, ?_⟩⟩
        have hgood : floydB n2 M0 = true := floydB_true.2 (fun t i ht hi => HPOS.out t i (by have := HEK.out; omega) hi)
        refine ⟨_, results_tmp2 rfl _ _ _, .slice Ao NN co, ?_, ?_, ?_⟩
        · rw [hgood]; rfl
        · unfold floydL; rw [if_pos hgood]
          have h1 := HF.out.row
          rw [HEK.out] at h1
          exact Kd.R_mono (Kd.R_grown h1 (grownBy_putObj' _ D (.deferred none)) (fun k hk e => by cases e; have := HD.out; have := hS0.out; omega)) (fun _ _ => trivial)
        · exact HF.out.below.trans (belowK_b (w := w) (Nat.le_refl _) _ D _ _ (by have := HD.out; have := hS0.out; omega) HF.out.dfr rfl rfl)
  case stop =>
    rintro D c' pre W _ _ h _
    exact h.elim
end Go.Proofs.Ytomgebmimgaojaa.QO
