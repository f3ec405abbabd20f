/- Own texts of this claim, joined: Ways, QOx1014, QOx1082, QOx1056, QOx1058, CloseW, QOx1022, QOx1092, QOx1074, QOx1075, QOx1076, QOx1077, QOx1043, QOx1050, QOx1017, QOx1084, QOx1085 -/
import Derived.Test.YtomgebmimgaojaaBOBn0
import Derived.Test.YtomgebmimgaojaaBOBn1
import Derived.Deep.DrawnRows
import Derived.Deep.RegionHeld3
section
/- The least sums along ways over a table: the entries are gathered by way of the iterator, then it goes over one node after the other. -/
noncomputable section
namespace Go.Proofs.Ytomgebmimgaojaa.QO
open Go.RowKit Go.Shelf Go.Proofs.YtomgebmimgaojaaW.PrintWords Go.Proofs.YtomgebmimgaojaaW.PrintLast Go.Proofs.YtomgebmimgaojaaW.PrintMore
attribute [local go_sem] Oper.semAt_some
set_option linter.unusedVariables false
set_option linter.unusedSimpArgs false
/-- what has been put by some rounds -/
def putAll (f : Nat → Int) {N : Nat} (l : List (Fin N)) (d : List Int) : List Int := l.foldl (fun d k => d.set k.1 (f k.1)) d
theorem putAll_snoc (f : Nat → Int) {N : Nat} (l : List (Fin N)) (x : Fin N) (d : List Int) : putAll f (l ++ [x]) d = (putAll f l d).set x.1 (f x.1) := by simp [putAll]
theorem putAll_length (f : Nat → Int) {N : Nat} (l : List (Fin N)) (d : List Int) : (putAll f l d).length = d.length := by
  induction l generalizing d with
  | nil => rfl
  | cons x l ih => simp only [putAll, List.foldl_cons] at ih ⊢; rw [ih]; simp
theorem putAll_take (f : Nat → Int) (N : Nat) : ∀ k, k ≤ N → putAll f ((List.finRange N).take k) (List.replicate N 0) = (List.range k).map f ++ List.replicate (N - k) 0
  | 0, _ => by simp [putAll]
  | k + 1, h => by
    rw [finRange_take_succ (by omega), putAll_snoc, putAll_take f N k (by omega)]
    apply List.ext_getElem
    · simp; omega
    · intro i h1 h2
      simp only [List.length_set, List.length_append, List.length_map, List.length_range, List.length_replicate] at h1
      rw [List.getElem_set]
      by_cases e : k = i
      · subst e; rw [if_pos rfl, List.getElem_append_left (by simp)]; simp
      · rw [if_neg e]
        by_cases hi : i < k
        · rw [List.getElem_append_left (by simpa using hi), List.getElem_append_left (by simp; omega)]; simp
        · rw [List.getElem_append_right (by simp; omega), List.getElem_append_right (by simp; omega)]; simp
theorem putAll_all (f : Nat → Int) (N : Nat) : putAll f (List.finRange N) (List.replicate N 0) = (List.range N).map f := by
  have := putAll_take f N N (Nat.le_refl _)
  rw [List.take_of_length_le (by simp)] at this
  rw [this]; simp
open OctMath (over overs plus Bd Fin' Top62)
/-- a matrix, row by row -/
def lst (n : Nat) (d : Nat → Nat → Int) : List Int := (List.range (n * n)).map (fun t => d (t / n) (t % n))
theorem lst_length (n : Nat) (d : Nat → Nat → Int) : (lst n d).length = n * n := by simp [lst]
theorem ij_lt {n i j : Nat} (hi : i < n) (hj : j < n) : i * n + j < n * n := by
  have : (i + 1) * n ≤ n * n := Nat.mul_le_mul_right _ hi
  rw [Nat.add_mul, Nat.one_mul] at this; omega
theorem ij_div {n i j : Nat} (hj : j < n) : (i * n + j) / n = i := by rw [Nat.mul_comm, Nat.mul_add_div (by omega), Nat.div_eq_of_lt hj, Nat.add_zero]
theorem ij_mod {n i j : Nat} (hj : j < n) : (i * n + j) % n = j := by rw [Nat.mul_comm, Nat.mul_add_mod, Nat.mod_eq_of_lt hj]
theorem lst_rd {n : Nat} {d : Nat → Nat → Int} {i j : Nat} {q : Int} (hi : i < n) (hj : j < n) (hq : q = ((i * n + j : Nat) : Int)) : rd (lst n d) q = d i j := by
  have h := ij_lt hi hj
  subst hq
  unfold rd
  rw [Int.toNat_natCast]
  simp [lst, h, ij_div hj, ij_mod hj]
theorem lst_set {n : Nat} {d : Nat → Nat → Int} {i j : Nat} {q v : Int} (hi : i < n) (hj : j < n) (hq : q = ((i * n + j : Nat) : Int)) : (lst n d).set q.toNat v = lst n (fun a b => if a = i ∧ b = j then v else d a b) := by
  subst hq
  apply List.ext_getElem
  · simp [lst]
  · intro t h1 h2
    simp only [lst, List.length_set, List.length_map, List.length_range] at h1
    rw [List.getElem_set]
    simp only [lst, List.getElem_map, List.getElem_range, Int.toNat_natCast]
    by_cases e : i * n + j = t
    · rw [if_pos e, if_pos]; subst e; exact ⟨ij_div hj, ij_mod hj⟩
    · rw [if_neg e, if_neg]
      rintro ⟨h3, h4⟩
      apply e; have := Nat.div_add_mod t n; rw [h3, h4, Nat.mul_comm] at this; exact this
theorem lst_congr {n : Nat} {d e : Nat → Nat → Int} (h : ∀ i j, i < n → j < n → d i j = e i j) : lst n d = lst n e := by
  unfold lst
  apply List.map_congr_left
  intro t ht
  have h1 : t < n * n := by simpa using ht
  have h0 : 0 < n := by by_cases e : n = 0; · subst e; omega
                        · omega
  exact h _ _ (Nat.div_lt_of_lt_mul h1) (Nat.mod_lt _ h0)
theorem up_plus {B x y : Int} (hB : 0 ≤ B) (hB' : B + B < 4611686018427387900) (hx : Fin' B x) (hy : Fin' B y) : bound_Up.f x y = some (plus x y) := by
  have h : ∀ {a}, Fin' B a → bfit a = a := by
    intro a ha; unfold Fin' at ha; unfold bfit; repeat' split
    all_goals omega
  unfold bound_Up.f bound_Fit.f
  rw [h hx, h hy]
  simp only [Option.bind_some]
  unfold plus
  by_cases e1 : x = 4611686018427387904
  · rw [if_pos e1, if_pos (.inl e1)]
  · rw [if_neg e1]
    by_cases e2 : y = 4611686018427387904
    · rw [if_pos e2, if_pos (.inr e2)]
    · rw [if_neg e2, if_neg (by rintro (h | h) <;> contradiction)]
      unfold Fin' at hx hy
      have : wrap64 (x + y) = x + y := by unfold wrap64; omega
      rw [this]; congr 1; unfold mn mx; split <;> split <;> omega
/-- the rows ahead of i, and of row i what is ahead of j, have gone over node k -/
def mix (d : Nat → Nat → Int) (k i j : Nat) : Nat → Nat → Int := fun a b => if a < i ∨ (a = i ∧ b < j) then over d k a b else d a b
theorem over_at_k {B : Int} {d : Nat → Nat → Int} {k a : Nat} (hB : 0 ≤ B) (hB' : B < 4611686018427387904) (hk : 0 ≤ d k k) (hk' : Fin' B (d k k)) (ha : Fin' B (d a k)) (ha' : Fin' B (d k a)) : over d k a k = d a k ∧ over d k k a = d k a := by
  unfold over plus Fin' at *
  constructor <;> split <;> split at * <;> omega
theorem mix_reads {B : Int} {d : Nat → Nat → Int} {k i j n : Nat} (hB : 0 ≤ B) (hB' : B < 4611686018427387904) (hd : Bd n B d) (hk : k < n) (hi : i < n) (hj : j < n) (hkk : 0 ≤ d k k) :
    mix d k i j i k = d i k ∧ mix d k i j k j = d k j ∧ mix d k i j i j = d i j := by
  have h1 := over_at_k hB hB' hkk (hd k k hk hk) (hd i k hi hk) (hd k i hk hi)
  have h2 := over_at_k hB hB' hkk (hd k k hk hk) (hd j k hj hk) (hd k j hk hj)
  refine ⟨?_, ?_, ?_⟩
  · unfold mix; split
    · exact h1.1
    · rfl
  · unfold mix; split
    · exact h2.2
    · rfl
  · unfold mix; rw [if_neg (by omega)]
/-- the entry at (i, j) goes over k -/
theorem mix_step {d : Nat → Nat → Int} {k i j : Nat} (a b : Nat) : mix d k i (j + 1) a b = if a = i ∧ b = j then over d k i j else mix d k i j a b := by
  unfold mix
  by_cases e : a = i ∧ b = j
  · rw [if_pos e, if_pos (by omega), e.1, e.2]
  · rw [if_neg e]
    by_cases h : a < i ∨ (a = i ∧ b < j)
    · rw [if_pos h, if_pos (by omega)]
    · rw [if_neg h, if_neg (by omega)]
theorem mix_row {d : Nat → Nat → Int} {k i n : Nat} (a b : Nat) (hb : b < n) : mix d k i n a b = mix d k (i + 1) 0 a b := by
  unfold mix
  by_cases h : a < i ∨ (a = i ∧ b < n)
  · rw [if_pos h, if_pos (by omega)]
  · rw [if_neg h, if_neg (by omega)]
theorem mix_zero {d : Nat → Nat → Int} {k : Nat} (a b : Nat) : mix d k 0 0 a b = d a b := by unfold mix; rw [if_neg (by omega)]
theorem mix_all {d : Nat → Nat → Int} {k n : Nat} (a b : Nat) (ha : a < n) : mix d k n 0 a b = over d k a b := by unfold mix; rw [if_pos (.inl ha)]
theorem over_le_of {d : Nat → Nat → Int} {k i j : Nat} (h : plus (d i k) (d k j) < d i j) : over d k i j = plus (d i k) (d k j) := by unfold over; rw [if_pos h]
theorem over_ge_of {d : Nat → Nat → Int} {k i j : Nat} (h : ¬ plus (d i k) (d k j) < d i j) : over d k i j = d i j := by unfold over; rw [if_neg h]
/-- the matrix of an octagon's table -/
def lowM (nv : Nat) (m : List Int) : Nat → Nat → Int := fun i j => lowAt (2 * (nv : Int)) m (i : Int) (j : Int)
/-- does nothing come back below 0? -/
def FloydOk (n : Nat) (d : Nat → Nat → Int) : Prop := ∀ t i, t ≤ n → i < n → 0 ≤ overs d t i i
noncomputable def floydB (n : Nat) (d : Nat → Nat → Int) : Bool := @decide (FloydOk n d) (Classical.propDecidable _)
theorem floydB_true {n : Nat} {d : Nat → Nat → Int} : floydB n d = true ↔ FloydOk n d := by unfold floydB; exact @decide_eq_true_iff _ (Classical.propDecidable _)
theorem floydB_false {n : Nat} {d : Nat → Nat → Int} : floydB n d = false ↔ ¬ FloydOk n d := by unfold floydB; exact @decide_eq_false_iff_not _ (Classical.propDecidable _)
noncomputable def floydL (n : Nat) (d : Nat → Nat → Int) : List Int := if floydB n d = true then lst n (overs d n) else []
/-- what the loops over the nodes know of a world -/
structure FS (w : World) (s : Nat) (A : Option Addr) (len cap D : Nat) (W : World) (row : List Int) : Prop where
  row : Kd.R (Kd.int .i64) 2 W w.heap.size (fun k => k < s) (.slice A len cap) row
  box : Boxed W s 23 (.slice A len cap)
  below : Below w.heap.size w W
  dfr : W.heap[D]? = some (.deferred (some []))
theorem FS.next {w : World} {s : Nat} {A : Option Addr} {len cap D : Nat} {W W' : World} {row : List Int} (h : FS w s A len cap D W row) (hb : Below W.heap.size W W') : FS w s A len cap D W' row :=
  ⟨Kd.R_below h.row hb, (hb.block _ h.box.lt).trans h.box, h.below.trans (hb.mono h.below.size), (hb.block _ (Array.getElem?_eq_some_iff.1 h.dfr).1).trans h.dfr⟩
theorem FS.put {w : World} {s g len cap D : Nat} {W : World} {row : List Int} (h : FS w s (some ⟨g, 0, none⟩) len cap D W row) (h1 : w.heap.size ≤ g) (h2 : g < s) (h3 : s ≤ D) (i v : Int) :
    FS w s (some ⟨g, 0, none⟩) len cap D (W.setCell ⟨g, i.toNat, none⟩ (.int .i64 v)) (row.set i.toNat v) := by
  have hp := Kd.R_putg h.row i v
  exact ⟨hp.1, h.box.kept hp.2 (by simp; omega), h.below.setCell (p := ⟨g, i.toNat, none⟩) h1 _, (hp.2.block D (Array.getElem?_eq_some_iff.1 h.dfr).1 (by simp; omega)).trans h.dfr⟩
theorem keepBoxes_of {n₀ B1 B2 : Nat} {W W' : World} (h : Below W.heap.size W W') (hn : n₀ ≤ W.heap.size) (h1 : B1 < W.heap.size) (h2 : B2 < W.heap.size) : KeepBoxes n₀ B1 B2 W W' :=
  ⟨h.mono hn, h.block _ h1, h.block _ h2⟩
set_option maxHeartbeats 16000000 in
set_option maxRecDepth 100000 in
theorem oct_ways_any (nv : Nat) (A : Option Addr) (c : Nat) (m : List Int) (w : World) (hr : Kd.C (Kd.int .i64) w A m.length m) (hc : m.length ≤ c) (hn : nv ≤ 8) (hm : (m.length : Int) = (2 * (nv : Int)) * (2 * (nv : Int)))
    (hbd : Bd (2 * nv) 1099511627776 (lowM nv m)) (hdg : ∀ i, i < 2 * nv → 0 ≤ lowM nv m i i) :
    Calls Try.prog 54 #[tableV (2 * (nv : Int)) A m.length c] w fun e w' => ∃ v0_ : Value, e = .returned (.tuple #[v0_, .bool (floydB (2 * nv) (lowM nv m))]) ∧ Kd.R (Kd.int .i64) 2 w' w.heap.size (fun _ => True) v0_ (floydL (2 * nv) (lowM nv m)) ∧ Below w.heap.size w w' := by
  unfold tableV
  have hms := meth_size
  have HR := Aside0.mk hr
  have HN := Aside0.mk hn
  obtain ⟨n2, hn2⟩ : ∃ n2, n2 = 2 * nv := ⟨_, rfl⟩
  rw [← hn2] at hbd hdg ⊢
  obtain ⟨M0, hM0⟩ : ∃ M0, lowM nv m = M0 := ⟨_, rfl⟩
  rw [hM0] at hbd hdg ⊢
  have HBD := Aside0.mk hbd
  have HDG := Aside0.mk hdg
  have HM0' := Aside0.mk hM0
  have HN2 := Aside0.mk hn2
  have h5 : n2 * n2 ≤ 256 := Nat.le_trans (Nat.mul_le_mul (show n2 ≤ 16 by omega) (show n2 ≤ 16 by omega)) (by omega)
  have h6 : (2 * (nv : Int)) * (2 * (nv : Int)) = ((n2 * n2 : Nat) : Int) := by rw [hn2]; push_cast; rfl
  obtain ⟨NN, hNN⟩ : ∃ NN, n2 * n2 = NN := ⟨_, rfl⟩
  rw [hNN] at h5 h6
  have hw2 : wrap64 ((2 * (nv : Int)) * (2 * (nv : Int))) = (NN : Int) := by rw [h6]; unfold wrap64; omega
  have hw3 : IntKind.i64.wrap ((2 * (nv : Int)) * (2 * (nv : Int))) = (NN : Int) := by rw [IntKind.wrap_i64, h6]; omega
  have HL := Aside0.mk h5
  have HNN := Aside0.mk hNN
  have H6 := Aside0.mk h6
  have HM := Aside0.mk hm
  have HC := Aside0.mk hc
  have OB := oct_both_in (2 * (nv : Int)) (2 * (nv : Int)) A A m.length c m.length c
  unfold tableV at OB
  have HOB := Aside0.mk OB
  clear hr hn hn2 hm OB hc h5 hNN h6 hbd hdg hM0
  refine (callsIn_wide (n := 6)).1 ?_
  refine callsIn_of_wp_marks Try.func54 rfl trivial ?_ rfl
  simp only [Try.ntmps54, List.size_toArray, List.length_cons, List.length_nil, Nat.reduceAdd, Nat.reduceSub, Array.replicate_succ, Array.replicate_zero, List.push_toArray, List.append_toArray, List.nil_append, List.cons_append]
  refine wpIn_wide.2 ?_
  go_wp2_with (first
    | (go_at_call 110; (with_reducible refine (oct_size_any _ _ _ _ _).mono ?_); rintro e w1 ⟨rfl, hb⟩; have HB1 := Aside0.mk hb; clear hb)
    | ((with_reducible refine gate_dst (N := 17) rfl ?_); refine Kd.R_make (Kd.int .i64) _ 2 rfl (N := 17) rfl 23 _ _ rfl (NN : Int) rfl rfl Try.underlying23 (.int .i64 0) 8 info2 rfl (by decide) (by omega) 0 (ok := fun _ => True) (okp := fun _ => True) rfl (fun _ hk => hk) trivial (by omega) (by have := HL.out; omega) (Below.refl _ _) (Nat.le_refl _) ?_; intro v102 w9 ho10 hb hg_ hnew_; have HO := Aside0.mk ho10; have HB2 := Aside0.mk hb; have HNEW := Aside0.mk hnew_; clear ho10 hb hg_ hnew_; obtain ⟨Ao, co, eo⟩ := Kd.R_slice HO.out; subst eo)
    | (go_at_call 73; (with_reducible refine (callsIn_wide.1 (HOB.out _)).mono ?_); rintro e w' ⟨rfl, rfl⟩))
  obtain ⟨s, hs⟩ : ∃ s, w9.heap.size = s := ⟨_, rfl⟩
  rw [hs]
  obtain ⟨W0, hW0⟩ : ∃ W0, (((w9.alloc (.cells #[.slice Ao NN co] 23)).alloc (.cells #[.iface 85 (.agg #[.int .i64 (2 * (nv : Int)), .slice A m.length c])] 64)).alloc (.cells #[.iface 85 (.agg #[.int .i64 (2 * (nv : Int)), .slice A m.length c])] 64)) = W0 := ⟨_, rfl⟩
  rw [hW0]
  have hNN : (List.replicate ((NN : Int)).toNat (0 : Int)).length = NN := by simp
  have hNi : ((NN : Int)).toNat = NN := by simp
  have hws : w.heap.size ≤ s := by have := HB1.out.size; have := HB2.out.size; omega
  have hS0 : Aside0 (W0.heap.size = s + 3) := ⟨by rw [← hW0]; simp [hs]⟩
  have hD0 : Boxed W0 s 23 (.slice Ao NN co) := by rw [← hW0, ← hs]; exact ((Boxed.new _ _ _).alloc _).alloc _
  have hT1 : TBox W0 (s + 1) (2 * (nv : Int)) A m.length c := by
    have := (Boxed.new (w9.alloc (.cells #[.slice Ao NN co] 23)) 64 (tableV (2 * (nv : Int)) A m.length c)).alloc (.cells #[tableV (2 * (nv : Int)) A m.length c] 64)
    rw [World.size_alloc, hs] at this; rw [← hW0]; exact this
  have hT2 : TBox W0 (s + 1 + 1) (2 * (nv : Int)) A m.length c := by
    have := Boxed.new ((w9.alloc (.cells #[.slice Ao NN co] 23)).alloc (.cells #[tableV (2 * (nv : Int)) A m.length c] 64)) 64 (tableV (2 * (nv : Int)) A m.length c)
    rw [World.size_alloc, World.size_alloc, hs] at this; rw [← hW0]; exact this
  have hBw : Below w.heap.size w W0 := by
    rw [← hW0]
    have h1 : Below w.heap.size w w9 := HB1.out.trans (HB2.out.mono HB1.out.size)
    exact ((h1.alloc (by omega) _).alloc (by simp; omega) _).alloc (by simp; omega) _
  have hBP : Aside0 (BP w w.heap.size (s + 1) (s + 1 + 1) (2 * (nv : Int)) A m.length c A m.length c W0) := ⟨⟨hBw, hT1, hT2⟩⟩
  have hR0 : Aside0 (Kd.R (Kd.int .i64) 2 W0 w.heap.size (fun k => k < s) (.slice Ao NN co) (putAll (fun k => (pairAt n2 m m k).2.1) (N := NN) [] (List.replicate NN 0))) := ⟨by
    have := Kd.R_lower (Kd.R_mono (Kd.R_bound HO.out) (fun k hk => (by have := hk.2.2.1; omega : k < s))) HB1.out.size
    rw [hNN, hNi] at this
    rw [← hW0]
    exact Kd.R_alloc (Kd.R_alloc (Kd.R_alloc this _) _) _⟩
  have hG : Aside0 (0 < NN → ∃ g, Ao = some ⟨g, 0, none⟩ ∧ w.heap.size ≤ g ∧ g < s) := ⟨fun hN0 => by
    obtain ⟨g, cap, e, h1, h2, _⟩ := Kd.R_form HO.out (by simpa using hN0)
    injection e with e1 e2 e3
    subst e1
    exact ⟨g, rfl, Nat.le_trans HB1.out.size h1, by omega⟩⟩
  clear hW0 HO HNEW HOB
  have ST := oct_both_stops (s + 1) (s + 1 + 1) A A c c m m nv n2 w W0 HN.out HN2.out HM.out HM.out HC.out HC.out HR.out HR.out hBP.out
  rw [HNN.out] at ST
  refine (wpIn_wide (n := 6)).1 ?_
  refine wpIn_rangeFunc_ownH rfl (by omega) (gf := 91) (lb := #[.pointer (some ⟨s + 1, 0, none⟩), .pointer (some ⟨s + 1 + 1, 0, none⟩)]) rfl trivial (enters_of Try.func91 (by kernel_rfl) rfl)
    ST KeepBoxes.trans (keepBoxes_b (w := W0) (by have := hS0.out; omega) (by have := hS0.out; omega) (by have := hS0.out; omega)) (Below.refl _ _) (fun _ => rfl)
    (fun pre W => Kd.R (Kd.int .i64) 2 W w.heap.size (fun k => k < s) (.slice Ao NN co) (putAll (fun k => (pairAt n2 m m k).2.1) pre (List.replicate NN 0)) ∧ Boxed W s 23 (.slice Ao NN co) ∧ BP w w.heap.size (s + 1) (s + 1 + 1) (2 * (nv : Int)) A m.length c A m.length c W)
    (fun _ _ _ => False)
    (fun pre X Y row hs' hg hr' => ⟨Kd.R_grown hs'.1 hg (fun k hk e => by have := (hr' k e.symm).1; have := hS0.out; omega), hs'.2.1.kept hg (fun e => by have := (hr' _ e.symm).1; have := hS0.out; omega),
      ⟨hs'.2.2.below.grown hg (by have := hs'.2.2.below.size; omega) (fun k e => by have := (hr' k e).1; have := hS0.out; omega), Boxed.kept hs'.2.2.box1 hg (fun e => by have := (hr' _ e.symm).1; have := hS0.out; omega), Boxed.kept hs'.2.2.box2 hg (fun e => by have := (hr' _ e.symm).1; have := hS0.out; omega)⟩⟩)
    (fun _ _ _ _ _ hs' _ _ => hs')
    ⟨hR0.out, hD0, hBP.out⟩
    (fun x a' W => ∃ Bx, s + 3 ≤ Bx ∧ W.heap[Bx]? = some (.cells #[.int .i64 (pairAt n2 m m x.1).2.1, .int .i64 (pairAt n2 m m x.1).2.2] 76 (0, 0)) ∧ a' = { tmps := #[(.iface 85 (.agg #[.int .i64 (2 * (nv : Int)), .slice A m.length c]) : Value), undef, .slice none 0 0, .bool false, .int .i64 (2 * (nv : Int)), .pointer (some ⟨s, 0, none⟩), .int .i64 (pairAt n2 m m x.1).1, .pointer (some ⟨Bx, 0, none⟩), undef, undef, undef, undef, (.iface 85 (.agg #[.int .i64 (2 * (nv : Int)), .slice A m.length c]) : Value), .int .i64 (2 * (nv : Int)), .int .i64 (2 * (nv : Int)), .int .i64 (2 * (nv : Int)), .int .i64 (NN : Int), .slice Ao NN co, (.iface 85 (.agg #[.int .i64 (2 * (nv : Int)), .slice A m.length c]) : Value), (.iface 85 (.agg #[.int .i64 (2 * (nv : Int)), .slice A m.length c]) : Value), .func (.func 91) #[] #[.pointer (some ⟨s + 1, 0, none⟩), .pointer (some ⟨s + 1 + 1, 0, none⟩)], .int .i64 (pairAt n2 m m x.1).1, .agg #[.int .i64 (pairAt n2 m m x.1).2.1, .int .i64 (pairAt n2 m m x.1).2.2], undef, undef, undef, undef, undef, undef, undef, undef, undef, undef, undef, undef, undef, undef, undef, undef, undef, undef, undef, undef, undef, undef, undef, undef, undef, undef, undef, undef, undef, undef, undef, undef, undef, undef, undef, undef, undef, undef, undef, undef, undef, undef, undef, undef, undef, undef, undef, undef, undef, undef, undef, undef, undef, undef, undef, undef, undef, undef, undef, undef, undef, undef, undef, undef, undef], defers := [] })
    (fun x a' _ X Y row hs' hg hr' => by obtain ⟨Bx, h1, h2, h3⟩ := hs'; exact ⟨Bx, h1, (hg.block Bx (Array.getElem?_eq_some_iff.1 h2).1 (fun e => by obtain ⟨_, o, ho, hc⟩ := hr' Bx e.symm; rw [h2] at ho; cases ho; cases hc)).trans h2, h3⟩)
    ?assign ?body ?done ?stop
  case assign =>
    rintro l pre x W K ⟨hI1, hI2, hI3⟩ hK
    have hu76 := Try.underlying76
    gi_wp2
    have hsz := hI3.below.size
    have l1 := Boxed.lt hI3.box1
    have l2 := Boxed.lt hI3.box2
    exact hK _ _ ((KeepsOthers.alloc _ _).from _) (keepBoxes_of (Below.refl _ _ |>.alloc (Nat.le_refl _) _) hsz l1 l2) ⟨Kd.R_alloc hI1 _, hI2.alloc _, hI3.next hsz ((Below.refl _ _).alloc (Nat.le_refl _) _)⟩ ⟨W.heap.size, by omega, World.alloc_heap_new W _, rfl⟩
  case body =>
    rintro l pre x a' W hl ⟨r, hr⟩ ⟨hI1, hI2, hI3⟩ ⟨Bx, hBx, bX, rfl⟩ hlt
    have hN0 : 0 < NN := by have := x.2; omega
    obtain ⟨g, rfl, hg1, hg2⟩ := hG.out hN0
    obtain ⟨i, hi⟩ : ∃ i : Int, (pairAt n2 m m x.1).1 = i := ⟨_, rfl⟩
    have hi' : i = (x.1 : Int) := hi.symm
    obtain ⟨y, hy⟩ : ∃ y : Int, (pairAt n2 m m x.1).2.1 = y := ⟨_, rfl⟩
    obtain ⟨z, hz⟩ : ∃ y : Int, (pairAt n2 m m x.1).2.2 = y := ⟨_, rfl⟩
    have p0 : 0 ≤ i := by omega
    have q0 : i < (NN : Int) := by have := x.2; omega
    obtain ⟨hc0, hf0⟩ := Kd.R_celln 0 hI1 i p0 q0
    have HP := Kd.R_putg hI1 i y
    have cD := hI2.cell
    rw [hy, hz] at bX
    have cX : W.cell? ⟨Bx, 0, none⟩ = some (.int .i64 y) := by simp [World.cell?, bX]
    have HI1 := Aside0.mk hI1
    have HI3 := Aside0.mk hI3
    have HPP := Aside0.mk HP
    have HX := Aside0.mk hi'
    have HBX := Aside0.mk hBx
    rw [hi, hy, hz]
    have HY := Aside0.mk hy
    clear hI1 hI3 HP hi' hi hy hz hBx bX hr
    replace p0 := eq_true p0
    replace q0 := eq_true q0
    gi_wp2
    have hsz := HI3.out.below.size
    have l1 := Boxed.lt HI3.out.box1
    refine ⟨(KeepsOthers.setCell _ _ _).from _, ⟨(Below.refl w.heap.size W).setCell (p := ⟨g, i.toNat, none⟩) hg1 _, Below.heap_setCell _ _ _ _ (by simp; omega), Below.heap_setCell _ _ _ _ (by simp; omega)⟩, ?_, ?_, ?_⟩
    · have h1 := HPP.out.1
      rw [putAll_snoc, HY.out, show x.1 = i.toNat by have := HX.out; omega]
      exact h1
    · exact hI2.kept HPP.out.2 (by simp; omega)
    · exact ⟨HI3.out.below.setCell (p := ⟨g, i.toNat, none⟩) hg1 _, Boxed.kept HI3.out.box1 HPP.out.2 (by simp; omega), Boxed.kept HI3.out.box2 HPP.out.2 (by simp; omega)⟩
  case done =>
    rintro D ys W hD rfl ⟨hI1, hI2, hI3⟩ hK
    rw [putAll_all] at hI1
    have HI1 := Aside0.mk hI1
    have HI3 := Aside0.mk hI3
    have HK := Aside0.mk hK
    have HD := Aside0.mk hD
    clear hI1 hI3 hK hD HR HM HC ST hT1 hT2 hD0 hBw hBP hR0 hms HB1 HB2 hNi
    have HM0 : Aside0 ((List.range NN).map (fun k => (pairAt n2 m m k).2.1) = lst n2 M0) := ⟨by
      have e : ((n2 : Nat) : Int) = 2 * (nv : Int) := by have := HN2.out; omega
      rw [← HNN.out, ← HM0'.out]; unfold lst lowM pairAt; rw [e]⟩
    have HF : Aside0 (FS w s Ao NN co D W (lst n2 M0)) := ⟨⟨by rw [← HM0.out]; exact HI1.out, hI2, HI3.out.below, HK.out⟩⟩
    obtain ⟨nn, hnn⟩ : ∃ nn : Int, 2 * (nv : Int) = nn := ⟨_, rfl⟩
    rw [hnn]
    have HNV := Aside0.mk hnn
    clear HI1 HI3 HK hI2 hnn HM0 hw2 hw3
    gi_wp2
    go_wp2
    go_loopg [29] n2 (fun gg s29 wr => ∃ (k : Nat) (kk : Int), s29 = .int .i64 kk ∧ Aside0 (kk = (k : Int) ∧ k ≤ n2 ∧ n2 - k ≤ gg) ∧ Aside0 (FS w s Ao NN co D wr (lst n2 (overs M0 k))) ∧ Aside0 (∀ t i, t ≤ k → i < n2 → 0 ≤ overs M0 t i i))
    case atStart => exact ⟨0, 0, rfl, ⟨rfl, Nat.zero_le _, by omega⟩, HF, ⟨fun t i ht hi => (Nat.le_zero.1 ht) ▸ HDG.out i hi⟩⟩
    case round =>
      clear HF
      obtain ⟨k, kk, rfl, HKK, HF, HPOS⟩ := hrel
      by_cases hlt : k < n2
      · have f3 : decide (kk < nn) = true := decide_eq_true (by have := HN2.out; have := HKK.out; have := HNV.out; omega)
        have HKL := Aside0.mk hlt
        clear hlt
        have HB : Aside0 (Bd n2 (1099511627776 * 2 ^ k) (overs M0 k) ∧ (1099511627776 : Int) * 2 ^ k ≤ 72057594037927936 ∧ 0 ≤ (1099511627776 : Int) * 2 ^ k) := ⟨by
          have h1 := HKK.out; have h2 := HN2.out; have h3 := HN.out
          have hp : (2 : Int) ^ k ≤ 2 ^ 16 := by
            have := Nat.pow_le_pow_right (n := 2) (by decide) (show k ≤ 16 by omega)
            exact_mod_cast this
          have h4 : (1099511627776 : Int) * 2 ^ k ≤ 1099511627776 * 2 ^ 16 := Int.mul_le_mul_of_nonneg_left hp (by decide)
          exact ⟨OctMath.bd_overs HBD.out (by decide) k h1.2.1 (by omega), by omega, Int.mul_nonneg (by decide) (Int.pow_nonneg (by decide))⟩⟩
        go_wp2
        go_loopg [33] n2 (fun hh s33 wr => ∃ (i : Nat) (ii : Int), s33 = .int .i64 ii ∧ Aside0 (ii = (i : Int) ∧ i ≤ n2 ∧ n2 - i ≤ hh) ∧ Aside0 (FS w s Ao NN co D wr (lst n2 (mix (overs M0 k) k i 0))) ∧ Aside0 (∀ a, a < i → 0 ≤ over (overs M0 k) k a a))
        case atStart => exact ⟨0, 0, rfl, ⟨rfl, Nat.zero_le _, by omega⟩, ⟨by rw [lst_congr (fun a b _ _ => mix_zero a b)]; exact HF.out⟩, ⟨fun a ha => absurd ha (by omega)⟩⟩
        case round =>
          clear HF
          obtain ⟨i, ii, rfl, HII, HF, HPI⟩ := hrel
          by_cases hlt : i < n2
          · have f4 : decide (ii < nn) = true := decide_eq_true (by have := HN2.out; have := HII.out; have := HNV.out; omega)
            have HIL := Aside0.mk hlt
            have hN0 : 0 < NN := by rw [← HNN.out]; exact Nat.mul_pos (by omega) (by omega)
            obtain ⟨g, eg, hg1, hg2⟩ := hG.out hN0
            subst eg
            have HGG := Aside0.mk (And.intro hg1 hg2)
            clear hlt hG hg1 hg2 hN0
            go_wp2
            go_loopg [37] n2 (fun hh s37 wr => ∃ (j : Nat) (jj : Int), s37 = .int .i64 jj ∧ Aside0 (jj = (j : Int) ∧ j ≤ n2 ∧ n2 - j ≤ hh) ∧ Aside0 (FS w s (some ⟨g, 0, none⟩) NN co D wr (lst n2 (mix (overs M0 k) k i j))))
            case atStart => exact ⟨0, 0, rfl, ⟨rfl, Nat.zero_le _, by omega⟩, HF⟩
            case round =>
              clear HF
              obtain ⟨j, jj, rfl, HJJ, HF⟩ := hrel
              by_cases hlt : j < n2
              · have f5 : decide (jj < nn) = true := decide_eq_true (by have := HN2.out; have := HJJ.out; have := HNV.out; omega)
                have HJL := Aside0.mk hlt
                clear hlt
                obtain ⟨q1, hq1⟩ : ∃ q, IntKind.i64.wrap (ii * nn) = q := ⟨_, rfl⟩
                obtain ⟨p1, hp1⟩ : ∃ q, IntKind.i64.wrap (q1 + kk) = q := ⟨_, rfl⟩
                obtain ⟨q2, hq2⟩ : ∃ q, IntKind.i64.wrap (kk * nn) = q := ⟨_, rfl⟩
                obtain ⟨p2, hp2⟩ : ∃ q, IntKind.i64.wrap (q2 + jj) = q := ⟨_, rfl⟩
                obtain ⟨p3, hp3⟩ : ∃ q, IntKind.i64.wrap (q1 + jj) = q := ⟨_, rfl⟩
                have hq1w := (i64_w _).symm.trans hq1
                have hp3w := (i64_w _).symm.trans hp3
                have HP : Aside0 (p1 = ((i * n2 + k : Nat) : Int) ∧ p2 = ((k * n2 + j : Nat) : Int) ∧ p3 = ((i * n2 + j : Nat) : Int)) := ⟨by
                  have h1 := HKK.out.1; have h2 := HII.out.1; have h3 := HJJ.out.1; have h4 := HNV.out; have h5 := HN2.out; have h6 := HN.out
                  have l1 := HIL.out; have l2 := HKL.out; have l3 := HJL.out
                  have e1 : ii * nn = ((i * n2 : Nat) : Int) := by rw [h2, ← h4, h5]; push_cast; rfl
                  have e2 : kk * nn = ((k * n2 : Nat) : Int) := by rw [h1, ← h4, h5]; push_cast; rfl
                  have m1 : i * n2 ≤ 16 * 16 := Nat.mul_le_mul (by omega) (by omega)
                  have m2 : k * n2 ≤ 16 * 16 := Nat.mul_le_mul (by omega) (by omega)
                  rw [e1, IntKind.wrap_i64] at hq1
                  rw [e2, IntKind.wrap_i64] at hq2
                  rw [IntKind.wrap_i64] at hp1 hp2 hp3
                  have r1 : q1 = ((i * n2 : Nat) : Int) := by omega
                  have r2 : q2 = ((k * n2 : Nat) : Int) := by omega
                  clear e1 e2 hq1 hq2
                  subst r1 r2
                  refine ⟨?_, ?_, ?_⟩ <;> omega⟩
                have HPB : Aside0 ((0 ≤ p1 ∧ p1 < (NN : Int)) ∧ (0 ≤ p2 ∧ p2 < (NN : Int)) ∧ (0 ≤ p3 ∧ p3 < (NN : Int))) := ⟨by
                  have h := HP.out
                  have b1 := ij_lt HIL.out HKL.out; have b2 := ij_lt HKL.out HJL.out; have b3 := ij_lt HIL.out HJL.out
                  rw [HNN.out] at b1 b2 b3
                  omega⟩
                obtain ⟨x, hx⟩ : ∃ x, overs M0 k i k = x := ⟨_, rfl⟩
                obtain ⟨y, hy⟩ : ∃ y, overs M0 k k j = y := ⟨_, rfl⟩
                obtain ⟨z, hz⟩ : ∃ z, overs M0 k i j = z := ⟨_, rfl⟩
                obtain ⟨sm, hsm⟩ : ∃ sm, plus x y = sm := ⟨_, rfl⟩
                have HV : Aside0 (rd (lst n2 (mix (overs M0 k) k i j)) p1 = x ∧ rd (lst n2 (mix (overs M0 k) k i j)) p2 = y ∧ rd (lst n2 (mix (overs M0 k) k i j)) p3 = z) := ⟨by
                  have h := mix_reads HB.out.2.2 (by have := HB.out.2.1; omega) HB.out.1 HKL.out HIL.out HJL.out (HPOS.out k k (Nat.le_refl _) HKL.out)
                  rw [lst_rd HIL.out HKL.out HP.out.1, lst_rd HKL.out HJL.out HP.out.2.1, lst_rd HIL.out HJL.out HP.out.2.2, h.1, h.2.1, h.2.2]
                  exact ⟨hx, hy, hz⟩⟩
                have UP : Aside0 (∀ W, Calls Try.prog 57 #[.int .i64 x, .int .i64 y] W fun e w' => e = .returned (.int .i64 sm) ∧ Below W.heap.size W w') := ⟨fun W => bound_Up.calls x y sm W (by
                  rw [← hsm]; exact up_plus HB.out.2.2 (by have := HB.out.2.1; omega) (hx ▸ HB.out.1 i k HIL.out HKL.out) (hy ▸ HB.out.1 k j HKL.out HJL.out))⟩
                have HS : Aside0 (plus (overs M0 k i k) (overs M0 k k j) = sm ∧ overs M0 k i j = z) := ⟨by rw [hx, hy]; exact ⟨hsm, hz⟩⟩
                have hx1 : wr.cell? ⟨g, p1.toNat, none⟩ = some (.int .i64 x) := (Kd.R_celln 0 HF.out.row p1 HPB.out.1.1 HPB.out.1.2).1.trans (congrArg (fun v => some (Value.int .i64 v)) HV.out.1)
                have hy1 : wr.cell? ⟨g, p2.toNat, none⟩ = some (.int .i64 y) := (Kd.R_celln 0 HF.out.row p2 HPB.out.2.1.1 HPB.out.2.1.2).1.trans (congrArg (fun v => some (Value.int .i64 v)) HV.out.2.1)
                have cD := HF.out.box.cell
                have r10 := eq_true HPB.out.1.1
                have r11 := eq_true HPB.out.1.2
                have r20 := eq_true HPB.out.2.1.1
                have r21 := eq_true HPB.out.2.1.2
                have r30 := eq_true HPB.out.2.2.1
                have r31 := eq_true HPB.out.2.2.2
                clear hx hy hz hsm
                go_wp2
                go_region_held3 (fun w' => w'.cell? ⟨s, 0, none⟩ = some (.slice (some ⟨g, 0, none⟩) NN co) ∧ w'.cell? ⟨g, p1.toNat, none⟩ = some (.int .i64 x) ∧ w'.cell? ⟨g, p2.toNat, none⟩ = some (.int .i64 y)) (first | go_keep | exact KS)
                  (first | (go_at_call 57; (with_reducible refine (UP.out _).mono ?_); rintro e w1 ⟨rfl, hb⟩; have HF1 : Aside0 (FS w s (some ⟨g, 0, none⟩) NN co D w1 (lst n2 (mix (overs M0 k) k i j))) := ⟨(FS.next HF.out (below_drew (Below.refl _ _))).next hb⟩; have KS : w1.cell? ⟨s, 0, none⟩ = some (.slice (some ⟨g, 0, none⟩) NN co) ∧ w1.cell? ⟨g, p1.toNat, none⟩ = some (.int .i64 x) ∧ w1.cell? ⟨g, p2.toNat, none⟩ = some (.int .i64 y) := ⟨HF1.out.box.cell, (Kd.R_celln 0 HF1.out.row p1 HPB.out.1.1 HPB.out.1.2).1.trans (congrArg (fun v => some (Value.int .i64 v)) HV.out.1), (Kd.R_celln 0 HF1.out.row p2 HPB.out.2.1.1 HPB.out.2.1.2).1.trans (congrArg (fun v => some (Value.int .i64 v)) HV.out.2.1)⟩))
                have cD1 := HF1.out.box.cell
                obtain ⟨hz1, hf1⟩ := Kd.R_celln 0 HF1.out.row p3 HPB.out.2.2.1 HPB.out.2.2.2
                replace hz1 : w1.cell? ⟨g, p3.toNat, none⟩ = some (.int .i64 z) := hz1.trans (congrArg (fun v => some (Value.int .i64 v)) HV.out.2.2)
                clear KS hx1 hy1 cD UP
                have HW : Aside0 (wrap64 (jj + 1) = ((j + 1 : Nat) : Int)) := ⟨by have := HJJ.out; have := HN2.out; have := HN.out; unfold wrap64; omega⟩
                by_cases hlt : sm < z
                · have f6 : decide (sm < z) = true := decide_eq_true hlt
                  have HLT := Aside0.mk hlt
                  clear hlt
                  go_wp2
                  go_roundg (n2 - (j + 1))
                  case measure => have := HJJ.out; have := HJL.out; omega
                  case rel =>
                    refine ⟨j + 1, wrap64 (jj + 1), rfl, ⟨by have := HW.out; have := HJL.out; omega⟩, ⟨?_⟩⟩
                    have h1 := FS.put HF1.out HGG.out.1 HGG.out.2 (by have := HD.out; have := hS0.out; omega) p3 sm
                    have e : over (overs M0 k) k i j = sm := by have := HS.out; have h := HLT.out; rw [over_le_of (by rw [this.1, this.2]; exact h)]; exact this.1
                    rw [lst_set HIL.out HJL.out HP.out.2.2, ← e, lst_congr (fun a b _ _ => (mix_step a b).symm)] at h1
                    rw [e] at h1
                    exact h1
                · have f6 : decide (sm < z) = false := decide_eq_false hlt
                  have HLT := Aside0.mk hlt
                  clear hlt
                  go_wp2
                  go_roundg (n2 - (j + 1))
                  case measure => have := HJJ.out; have := HJL.out; omega
                  case rel =>
                    refine ⟨j + 1, wrap64 (jj + 1), rfl, ⟨by have := HW.out; have := HJL.out; omega⟩, ⟨?_⟩⟩
                    have h1 := HF1.out
                    have e : over (overs M0 k) k i j = overs M0 k i j := by have := HS.out; have h := HLT.out; exact over_ge_of (by rw [this.1, this.2]; omega)
                    rw [lst_congr (e := mix (overs M0 k) k i (j + 1)) (fun a b _ _ => by
                      rw [mix_step a b]
                      by_cases h : a = i ∧ b = j
                      · rw [if_pos h, e, h.1, h.2]; unfold mix; rw [if_neg (by omega)]
                      · rw [if_neg h])] at h1
                    exact h1
              · have f5 : decide (jj < nn) = false := decide_eq_false (by have := HN2.out; have := HJJ.out; have := HNV.out; omega)
                have ej : j = n2 := by have := HJJ.out; omega
                have HEJ := Aside0.mk ej
                clear hlt ej
                obtain ⟨q1, hq1⟩ : ∃ q, IntKind.i64.wrap (ii * nn) = q := ⟨_, rfl⟩
                obtain ⟨p4, hp4⟩ : ∃ q, IntKind.i64.wrap (q1 + ii) = q := ⟨_, rfl⟩
                have hq1w := (i64_w _).symm.trans hq1
                have hp4w := (i64_w _).symm.trans hp4
                have HP : Aside0 (p4 = ((i * n2 + i : Nat) : Int)) := ⟨by
                  have h2 := HII.out.1; have h4 := HNV.out; have h5 := HN2.out; have h6 := HN.out
                  have l1 := HIL.out
                  have e1 : ii * nn = ((i * n2 : Nat) : Int) := by rw [h2, ← h4, h5]; push_cast; rfl
                  have m1 : i * n2 ≤ 16 * 16 := Nat.mul_le_mul (by omega) (by omega)
                  rw [e1, IntKind.wrap_i64] at hq1
                  rw [IntKind.wrap_i64] at hp4
                  have r1 : q1 = ((i * n2 : Nat) : Int) := by omega
                  clear e1 hq1
                  subst r1
                  omega⟩
                have HPB : Aside0 (0 ≤ p4 ∧ p4 < (NN : Int)) := ⟨by
                  have h := HP.out
                  have b1 := ij_lt HIL.out HIL.out
                  rw [HNN.out] at b1
                  omega⟩
                obtain ⟨x, hx⟩ : ∃ x, over (overs M0 k) k i i = x := ⟨_, rfl⟩
                have HV : Aside0 (rd (lst n2 (mix (overs M0 k) k i j)) p4 = x) := ⟨by
                  rw [lst_rd HIL.out HIL.out HP.out, ← hx, HEJ.out]; unfold mix; rw [if_pos (.inr ⟨rfl, HIL.out⟩)]⟩
                have hx1 : wr.cell? ⟨g, p4.toNat, none⟩ = some (.int .i64 x) := (Kd.R_celln 0 HF.out.row p4 HPB.out.1 HPB.out.2).1.trans (congrArg (fun v => some (Value.int .i64 v)) HV.out)
                have cD := HF.out.box.cell
                have r10 := eq_true HPB.out.1
                have r11 := eq_true HPB.out.2
                have HX := Aside0.mk hx
                clear hx
                by_cases hlt : x < 0
                · have f6 : decide (x < 0) = true := decide_eq_true hlt
                  have HLT := Aside0.mk hlt
                  clear hlt
                  go_wp2
                  refine ⟨by simp, .inl ⟨_, _, rfl, run_takeDeferred HF.out.dfr, ?_⟩⟩
                  have hbad : floydB n2 M0 = false := floydB_false.2 (fun h => by
                    have h1 := h (k + 1) i HKL.out HIL.out
                    have h2 := HX.out
                    have h3 := HLT.out
                    have h4 : overs M0 (k + 1) i i = over (overs M0 k) k i i := rfl
                    omega)
                  refine ⟨_, results_tmp2 rfl _ _ _, .slice none 0 0, ?_, ?_, ?_⟩
                  · rw [hbad]; rfl
                  · unfold floydL; rw [hbad]; exact Kd.R_nil _ _ _ _ _
                  · exact HF.out.below.trans (belowK_b (w := w) (Nat.le_refl _) _ D _ _ (by have := HD.out; have := hS0.out; have := HGG.out; omega) HF.out.dfr rfl rfl)
                · have f6 : decide (x < 0) = false := decide_eq_false hlt
                  have HLT := Aside0.mk hlt
                  clear hlt
                  go_wp2
                  go_roundg (n2 - (i + 1))
                  case measure => have := HII.out; have := HIL.out; omega
                  case rel =>
                    have hw : wrap64 (ii + 1) = ii + 1 := by have := HII.out; have := HN2.out; have := HN.out; unfold wrap64; omega
                    refine ⟨i + 1, wrap64 (ii + 1), rfl, ⟨by have := HII.out; have := HIL.out; omega⟩, ⟨?_⟩, ⟨?_⟩⟩
                    · have h1 := HF.out
                      rw [HEJ.out, lst_congr (fun a b _ hb => mix_row a b hb)] at h1
                      exact h1
                    · intro a ha
                      by_cases e : a = i
                      · subst e; have := HX.out; have := HLT.out; omega
                      · exact HPI.out a (by omega)
          · have f4 : decide (ii < nn) = false := decide_eq_false (by have := HN2.out; have := HII.out; have := HNV.out; omega)
            have ei : i = n2 := by have := HII.out; omega
            have HEI := Aside0.mk ei
            clear hlt ei
            go_wp2
            have hkw : wrap64 (kk + 1) = kk + 1 := by have := HKK.out; have := HN2.out; have := HN.out; unfold wrap64; omega
            go_roundg (n2 - (k + 1))
            case measure => have := HKK.out; have := HKL.out; omega
            case rel =>
              refine ⟨k + 1, wrap64 (kk + 1), rfl, ⟨by have := HKK.out; have := HKL.out; omega⟩, ⟨?_⟩, ⟨?_⟩⟩
              · have := HF.out
                rw [HEI.out, lst_congr (fun a b ha _ => mix_all a b ha)] at this
                exact this
              · intro t a ht ha
                by_cases e : t ≤ k
                · exact HPOS.out t a e ha
                · obtain rfl : t = k + 1 := by omega
                  exact HPI.out a (by have := HEI.out; omega)
      · have f3 : decide (kk < nn) = false := decide_eq_false (by have := HN2.out; have := HKK.out; have := HNV.out; omega)
        have ek : k = n2 := by have := HKK.out; omega
        have HEK := Aside0.mk ek
        clear hlt ek
        have cD := HF.out.box.cell
        go_wp2
        refine ⟨by simp, .inl ⟨_, _, rfl, run_takeDeferred HF.out.dfr, ?_⟩⟩
        have hgood : floydB n2 M0 = true := floydB_true.2 (fun t i ht hi => HPOS.out t i (by have := HEK.out; omega) hi)
        refine ⟨_, results_tmp2 rfl _ _ _, .slice Ao NN co, ?_, ?_, ?_⟩
        · rw [hgood]; rfl
        · unfold floydL; rw [if_pos hgood]
          have h1 := HF.out.row
          rw [HEK.out] at h1
          exact Kd.R_mono (Kd.R_grown h1 (grownBy_putObj' _ D (.deferred none)) (fun k hk e => by cases e; have := HD.out; have := hS0.out; omega)) (fun _ _ => trivial)
        · exact HF.out.below.trans (belowK_b (w := w) (Nat.le_refl _) _ D _ _ (by have := HD.out; have := hS0.out; omega) HF.out.dfr rfl rfl)
  case stop =>
    rintro D c' pre W _ _ h _
    exact h.elim
end Go.Proofs.Ytomgebmimgaojaa.QO
end
end
section
/- Written by a program of this session out of the translation. -/
noncomputable section
namespace Go.Proofs.Ytomgebmimgaojaa.QO
open Go.RowKit Go.Proofs.YtomgebmimgaojaaW.PrintWords Go.Proofs.YtomgebmimgaojaaW.PrintLast
set_option linter.unusedVariables false
set_option linter.unusedSimpArgs false
/-! ### oct_Bottom: function 14 -/
def oct_Bottom.f (l0 : List Int) : Option (List Int × List Int × Bool) := (oct_may.f l0).bind fun t147 => (if t147 = true then ((slices_Clone_int_int.f l0).bind fun t148 => (some (t148, ([] : List Int), true))) else (some (([] : List Int), ([] : List Int), false)))
set_option maxHeartbeats 8000000 in
set_option maxRecDepth 100000 in
theorem oct_Bottom.calls (A0 : Option Addr) (c0 : Nat) (l0 : List Int) (r1 : List Int) (r2 : List Int) (r3 : Bool) (w : World) (hr0 : Kd.C (Kd.int .i64) w A0 l0.length l0) (hc0 : l0.length ≤ c0) (h : oct_Bottom.f l0 = some (r1, r2, r3)) :
 Calls Try.prog 14 #[.slice A0 l0.length c0] w fun e w' => ∃ v0_ v1_ : Value, e = .returned (.agg #[v0_, v1_, .bool r3]) ∧ Kd.R (Kd.int .i64) 3 w' w.heap.size (fun _ => True) v0_ r1 ∧ Kd.R (Kd.int .i64) 2 w' w.heap.size (fun _ => True) v1_ r2 ∧ Below w.heap.size w w' := by
 have hu25 := Try.underlying25
 have HR0 := Aside0.mk hr0
 have HC0 := Aside0.mk hc0
 clear hr0 hc0
 have HB := Aside0.mk (Below.refl w.heap.size w)
 have H : ((oct_may.f l0).bind fun t147 => (if t147 = true then ((slices_Clone_int_int.f l0).bind fun t148 => (some (t148, ([] : List Int), true))) else (some (([] : List Int), ([] : List Int), false)))) = some (r1, r2, r3) := h
 clear h
 replace H := Option.bind_eq_some_iff.mp H
 obtain ⟨t147, A20, H⟩ := H
 replace H : (if t147 = true then ((slices_Clone_int_int.f l0).bind fun t148 => (some (t148, ([] : List Int), true))) else (some (([] : List Int), ([] : List Int), false))) = some (r1, r2, r3) := H
 have A2 := Aside0.mk A20
 clear A20
 by_cases c3 : t147 = true
 ·
  subst c3
  have H1 : ((slices_Clone_int_int.f l0).bind fun t148 => (some (t148, ([] : List Int), true))) = some (r1, r2, r3) := by rw [if_pos rfl] at H; exact H
  clear H
  have H := H1
  clear H1
  replace H := Option.bind_eq_some_iff.mp H
  obtain ⟨t148, A40, H⟩ := H
  replace H : (some (t148, ([] : List Int), true)) = some (r1, r2, r3) := H
  have A4 := Aside0.mk A40
  clear A40
  simp only [Option.some.injEq, Prod.mk.injEq] at H
  obtain ⟨rfl, rfl, rfl⟩ := H
  go_enter Try.func14, Try.ntmps14
  go_wp2_with (first | ((with_reducible refine gate_dst (N := 2) rfl ?_); refine box_event ?hg (N := 2) ?hd (cs := #[.slice none 0 0, .slice none 0 0, .bool false]) (t := 25) ?hr ?_; (case hd => rfl); (case hg => rfl); (case hr => first | (go_simp; done) | (go_simp; rfl)); intro gb146 hg w5 hbox hb; have BK146 := Aside0.mk (hbox); have GW146 := vS hg HB; have GE146 := vS hg HB; replace HB := vWs HB hb; clear hb hbox hg) | ((with_reducible refine gate_callee (f := 46) rfl ?_); refine goesL_ (some 4) rfl rfl Try.func46 (by kernel_rfl) rfl #[.slice A0 l0.length c0] rfl vL ?_; (with_reducible refine (oct_may.calls _ _ l0 true _ ?side1 ?side2 A2.out).mono ?_); (case side1 => exact vC (Kd.C_below HR0.out HB.out)); (case side2 => exact HC0.out); rintro e w' ⟨rfl, ⟨nd, rfl⟩⟩; refine ⟨_, rfl, ?_⟩; (try (rw [drewN_self w5]; generalize hq_ : World.drewN w5 _ = w5; have n0_ : Aside0 (w5.heap[gb146]? = some (.cells #[.slice none 0 0, .slice none 0 0, .bool false] 25 (0, 0))) := ⟨by rw [← hq_]; exact (vB BK146.out)⟩; have n1_ : Aside0 (Below w.heap.size w w5) := ⟨by rw [← hq_]; exact (vW HB.out)⟩; clear BK146 HB hq_; have BK146 := n0_; have HB := n1_; clear n0_ n1_))) | ((with_reducible refine gate_callee (f := 47) rfl ?_); refine goesL_ (some 8) rfl rfl Try.func47 (by kernel_rfl) rfl #[.slice A0 l0.length c0] rfl vL ?_; (with_reducible refine (slices_Clone_int_int.calls _ _ l0 t148 _ ?side1 ?side2 A4.out).mono ?_); (case side1 => exact vC (Kd.C_below HR0.out HB.out)); (case side2 => exact HC0.out); rintro e w6 ⟨v149, rfl, ho0, hb⟩; refine ⟨_, rfl, ?_⟩; have HO150 := Aside0.mk (Kd.R_lower ho0 (below_size (vW HB.out))); replace BK146 := vBb BK146 hb; replace HB := vWs HB hb; (try clear hb); (try clear hb2); (try clear hk); (try clear hi); (try clear ho0); obtain ⟨Ao7, co7, eo7⟩ := Kd.R_slice HO150.out; subst eo7; obtain ⟨hcz8_0, hcz8_1, hcz8_2, hfz8_0, hfz8_1, hfz8_2⟩ := vF3 BK146.out))
  refine bodyPost_ret (results_cell_row rfl _ _ gb146 25 #[.slice Ao7 t148.length co7, .slice none 0 0, .bool true] (0, 0) _ rfl (by (with_reducible repeat (first | refine blk_drewN ?_ _ | refine blk_drew ?_ | refine blk_alloc ?_ _)); refine blk_put (cs := #[.slice Ao7 t148.length co7, .slice none 0 0, .bool false]) ?_ 2 _ rfl; (with_reducible repeat (first | refine blk_drewN ?_ _ | refine blk_drew ?_ | refine blk_alloc ?_ _)); refine blk_put (cs := #[.slice Ao7 t148.length co7, .slice none 0 0, .bool false]) ?_ 1 _ rfl; (with_reducible repeat (first | refine blk_drewN ?_ _ | refine blk_drew ?_ | refine blk_alloc ?_ _)); refine blk_put (cs := #[.slice none 0 0, .slice none 0 0, .bool false]) ?_ 0 _ rfl; (with_reducible repeat (first | refine blk_drewN ?_ _ | refine blk_drew ?_ | refine blk_alloc ?_ _)); exact BK146.out) Try.underlying25 rfl (by kernel_rfl)) rfl ?_
  exact ⟨_, _, by first | rfl | (simp [errW_none, errW_some] <;> rfl) | (simp [*, errW_none, errW_some] <;> rfl) | (simp [wrap64]; done), by (with_reducible repeat (first | apply Kd.R_alloc | apply Kd.R_drewN | apply Kd.R_drew)); exact Kd.R_mono (Kd.R_far (p := ⟨gb146, 2, none⟩) (Kd.R_far (p := ⟨gb146, 1, none⟩) (Kd.R_far (p := ⟨gb146, 0, none⟩) (Kd.R_types HO150.out BK146.out (by decide)) (fun _ hk => hk.2) (.slice Ao7 t148.length co7)) (fun _ hk => hk.2) (.slice none 0 0)) (fun _ hk => hk.2) (.bool true)) (fun _ hk => trivial), by first | exact Kd.R_nil _ _ _ _ _ | exact Kd.N_nil _ _ _ _ _ | exact Kd.V_nil _ _ _ _ _ | exact Kd.Q_nil _ _ _ _ _ | exact Kd.S_nil _ _ _ _ _, vW HB.out⟩
 ·
  replace c3 := Bool.eq_false_iff.mpr c3
  subst c3
  have H1 : (some (([] : List Int), ([] : List Int), false)) = some (r1, r2, r3) := by rw [if_neg (show ¬ (false = true) by decide)] at H; exact H
  clear H
  have H := H1
  clear H1
  simp only [Option.some.injEq, Prod.mk.injEq] at H
  obtain ⟨rfl, rfl, rfl⟩ := H
  go_enter Try.func14, Try.ntmps14
  go_wp2_with (first | ((with_reducible refine gate_dst (N := 2) rfl ?_); refine box_event ?hg (N := 2) ?hd (cs := #[.slice none 0 0, .slice none 0 0, .bool false]) (t := 25) ?hr ?_; (case hd => rfl); (case hg => rfl); (case hr => first | (go_simp; done) | (go_simp; rfl)); intro gb146 hg w9 hbox hb; have BK146 := Aside0.mk (hbox); have GW146 := vS hg HB; have GE146 := vS hg HB; replace HB := vWs HB hb; clear hb hbox hg) | ((with_reducible refine gate_callee (f := 46) rfl ?_); refine goesL_ (some 4) rfl rfl Try.func46 (by kernel_rfl) rfl #[.slice A0 l0.length c0] rfl vL ?_; (with_reducible refine (oct_may.calls _ _ l0 false _ ?side1 ?side2 A2.out).mono ?_); (case side1 => exact vC (Kd.C_below HR0.out HB.out)); (case side2 => exact HC0.out); rintro e w' ⟨rfl, ⟨nd, rfl⟩⟩; refine ⟨_, rfl, ?_⟩; (try (rw [drewN_self w9]; generalize hq_ : World.drewN w9 _ = w9; have n0_ : Aside0 (w9.heap[gb146]? = some (.cells #[.slice none 0 0, .slice none 0 0, .bool false] 25 (0, 0))) := ⟨by rw [← hq_]; exact (vB BK146.out)⟩; have n1_ : Aside0 (Below w.heap.size w w9) := ⟨by rw [← hq_]; exact (vW HB.out)⟩; clear BK146 HB hq_; have BK146 := n0_; have HB := n1_; clear n0_ n1_)); obtain ⟨hcz10_0, hcz10_1, hcz10_2, hfz10_0, hfz10_1, hfz10_2⟩ := vF3 BK146.out))
  refine bodyPost_ret (results_cell_row rfl _ _ gb146 25 #[.slice none 0 0, .slice none 0 0, .bool false] (0, 0) _ rfl (by (with_reducible repeat (first | refine blk_drewN ?_ _ | refine blk_drew ?_ | refine blk_alloc ?_ _)); refine blk_put (cs := #[.slice none 0 0, .slice none 0 0, .bool false]) ?_ 2 _ rfl; (with_reducible repeat (first | refine blk_drewN ?_ _ | refine blk_drew ?_ | refine blk_alloc ?_ _)); refine blk_put (cs := #[.slice none 0 0, .slice none 0 0, .bool false]) ?_ 1 _ rfl; (with_reducible repeat (first | refine blk_drewN ?_ _ | refine blk_drew ?_ | refine blk_alloc ?_ _)); refine blk_put (cs := #[.slice none 0 0, .slice none 0 0, .bool false]) ?_ 0 _ rfl; (with_reducible repeat (first | refine blk_drewN ?_ _ | refine blk_drew ?_ | refine blk_alloc ?_ _)); exact BK146.out) Try.underlying25 rfl (by kernel_rfl)) rfl ?_
  exact ⟨_, _, by first | rfl | (simp [errW_none, errW_some] <;> rfl) | (simp [*, errW_none, errW_some] <;> rfl) | (simp [wrap64]; done), by first | exact Kd.R_nil _ _ _ _ _ | exact Kd.N_nil _ _ _ _ _ | exact Kd.V_nil _ _ _ _ _ | exact Kd.Q_nil _ _ _ _ _ | exact Kd.S_nil _ _ _ _ _, by first | exact Kd.R_nil _ _ _ _ _ | exact Kd.N_nil _ _ _ _ _ | exact Kd.V_nil _ _ _ _ _ | exact Kd.Q_nil _ _ _ _ _ | exact Kd.S_nil _ _ _ _ _, vW HB.out⟩
end Go.Proofs.Ytomgebmimgaojaa.QO
end
end
section
/- Written by a program of this session out of the translation. -/
noncomputable section
namespace Go.Proofs.Ytomgebmimgaojaa.QO
open Go.RowKit Go.Proofs.YtomgebmimgaojaaW.PrintWords Go.Proofs.YtomgebmimgaojaaW.PrintLast
set_option linter.unusedVariables false
set_option linter.unusedSimpArgs false
/-! ### bound_kind: function 82 -/
def bound_kind.f (a0 : Int) : Option (Int) := if a0 ≥ 4611686018427387904 then (some 1) else (if a0 ≤ (-4611686018427387904) then (some (-1)) else (some 0))
set_option maxHeartbeats 8000000 in
set_option maxRecDepth 100000 in
theorem bound_kind.calls (a0 : Int) (r : Int) (w : World) (h : bound_kind.f a0 = some r) :
 Calls Try.prog 82 #[.int .i64 a0] w fun e w' => e = .returned (.int .i64 r) ∧ Drawn0 w w' := by
 have H : (if a0 ≥ 4611686018427387904 then (some 1) else (if a0 ≤ (-4611686018427387904) then (some (-1)) else (some 0))) = some r := h
 clear h
 by_cases c2 : a0 ≥ 4611686018427387904
 ·
  rw [if_pos c2] at H
  have c2b0 : decide (4611686018427387904 ≤ a0) = true := decide_eq_true c2
  clear c2
  obtain rfl := Option.some.inj H
  go_enter Try.func82, Try.ntmps82
  go_wp2
  go_ret
  exact ⟨by first | rfl | (simp; done) | (simp [*]; done), by repeat (first | exact Drawn0.refl _ | apply Drawn0.step)⟩
 ·
  rw [if_neg c2] at H
  have c2b0 : decide (4611686018427387904 ≤ a0) = false := decide_eq_false c2
  clear c2
  by_cases c3 : a0 ≤ (-4611686018427387904)
  ·
   rw [if_pos c3] at H
   have c3b0 : decide (a0 ≤ (-4611686018427387904)) = true := decide_eq_true c3
   clear c3
   obtain rfl := Option.some.inj H
   go_enter Try.func82, Try.ntmps82
   go_wp2
   go_ret
   exact ⟨by first | rfl | (simp; done) | (simp [*]; done), by repeat (first | exact Drawn0.refl _ | apply Drawn0.step)⟩
  ·
   rw [if_neg c3] at H
   have c3b0 : decide (a0 ≤ (-4611686018427387904)) = false := decide_eq_false c3
   clear c3
   obtain rfl := Option.some.inj H
   go_enter Try.func82, Try.ntmps82
   go_wp2
   go_ret
   exact ⟨by first | rfl | (simp; done) | (simp [*]; done), by repeat (first | exact Drawn0.refl _ | apply Drawn0.step)⟩
end Go.Proofs.Ytomgebmimgaojaa.QO
end
end
section
/- Written by a program of this session out of the translation. -/
noncomputable section
namespace Go.Proofs.Ytomgebmimgaojaa.QO
open Go.RowKit Go.Proofs.YtomgebmimgaojaaW.PrintWords Go.Proofs.YtomgebmimgaojaaW.PrintLast
set_option linter.unusedVariables false
set_option linter.unusedSimpArgs false
/-! ### bound_Half: function 56 -/
def bound_Half.f (a0 : Int) : Option (Int) := (bound_kind.f a0).bind fun t153 => (if t153 = 0 then (some (a0 / 2)) else ((bound_Fit.f a0).bind fun t154 => (some t154)))
set_option maxHeartbeats 8000000 in
set_option maxRecDepth 100000 in
theorem bound_Half.calls (a0 : Int) (r : Int) (w : World) (h : bound_Half.f a0 = some r) :
 Calls Try.prog 56 #[.int .i64 a0] w fun e w' => e = .returned (.int .i64 r) ∧ Drawn0 w w' := by
 have H : ((bound_kind.f a0).bind fun t153 => (if t153 = 0 then (some (a0 / 2)) else ((bound_Fit.f a0).bind fun t154 => (some t154)))) = some r := h
 clear h
 replace H := Option.bind_eq_some_iff.mp H
 obtain ⟨t153, A20, H⟩ := H
 replace H : (if t153 = 0 then (some (a0 / 2)) else ((bound_Fit.f a0).bind fun t154 => (some t154))) = some r := H
 have A2 := Aside0.mk A20
 clear A20
 by_cases c3 : t153 = 0
 ·
  rw [if_pos c3] at H
  have c3b0 : (t153 == 0) = true := beq_iff_eq.mpr c3
  have c3b1 : (t153 != 0) = false := bne_eq_false_iff_eq.mpr c3
  clear c3
  obtain rfl := Option.some.inj H
  go_enter Try.func56, Try.ntmps56
  go_wp2_with (first | ((with_reducible refine gate_callee (f := 82) rfl ?_); refine goesL_ (some 4) rfl rfl Try.func82 (by kernel_rfl) rfl #[.int .i64 a0] rfl vL ?_; (with_reducible refine (bound_kind.calls a0 t153 _ A2.out).mono ?_); rintro e w' ⟨rfl, ⟨nd, rfl⟩⟩; refine ⟨_, rfl, ?_⟩))
  go_ret
  exact ⟨by first | rfl | (simp; done) | (simp [*]; done), by repeat (first | exact Drawn0.refl _ | apply Drawn0.step)⟩
 ·
  rw [if_neg c3] at H
  have c3b0 : (t153 == 0) = false := beq_eq_false_iff_ne.mpr c3
  have c3b1 : (t153 != 0) = true := bne_iff_ne.mpr c3
  replace H := Option.bind_eq_some_iff.mp H
  obtain ⟨t154, A40, H⟩ := H
  replace H : (some t154) = some r := H
  have A4 := Aside0.mk A40
  clear A40
  obtain rfl := Option.some.inj H
  go_enter Try.func56, Try.ntmps56
  go_wp2_with (first | ((with_reducible refine gate_callee (f := 82) rfl ?_); refine goesL_ (some 4) rfl rfl Try.func82 (by kernel_rfl) rfl #[.int .i64 a0] rfl vL ?_; (with_reducible refine (bound_kind.calls a0 t153 _ A2.out).mono ?_); rintro e w' ⟨rfl, ⟨nd, rfl⟩⟩; refine ⟨_, rfl, ?_⟩) | ((with_reducible refine gate_callee (f := 83) rfl ?_); refine goesL_ (some 7) rfl rfl Try.func83 (by kernel_rfl) rfl #[.int .i64 a0] rfl vL ?_; (with_reducible refine (bound_Fit.calls a0 t154 _ A4.out).mono ?_); rintro e w' ⟨rfl, ⟨nd, rfl⟩⟩; refine ⟨_, rfl, ?_⟩))
  go_ret
  exact ⟨by first | rfl | (simp; done) | (simp [*]; done), by repeat (first | exact Drawn0.refl _ | apply Drawn0.step)⟩
end Go.Proofs.Ytomgebmimgaojaa.QO
end
end
section
/- Written by a program of this session out of the translation. -/
noncomputable section
namespace Go.Proofs.Ytomgebmimgaojaa.QO
open Go.RowKit Go.Proofs.YtomgebmimgaojaaW.PrintWords Go.Proofs.YtomgebmimgaojaaW.PrintLast
set_option linter.unusedVariables false
set_option linter.unusedSimpArgs false
/-! ### oct_clip: function 58 -/
def oct_clip.f (a0 : Int) : Option (Int) := if a0 > 1099511627776 then (some 4611686018427387904) else (some (mx a0 (-1099511627776)))
set_option maxHeartbeats 8000000 in
set_option maxRecDepth 100000 in
theorem oct_clip.calls (a0 : Int) (r : Int) (w : World) (h : oct_clip.f a0 = some r) :
 Calls Try.prog 58 #[.int .i64 a0] w fun e w' => e = .returned (.int .i64 r) ∧ Below w.heap.size w w' := by
 have HB := Aside0.mk (Below.refl w.heap.size w)
 have H : (if a0 > 1099511627776 then (some 4611686018427387904) else (some (mx a0 (-1099511627776)))) = some r := h
 clear h
 by_cases c2 : a0 > 1099511627776
 ·
  rw [if_pos c2] at H
  have c2b0 : decide (1099511627776 < a0) = true := decide_eq_true c2
  clear c2
  obtain rfl := Option.some.inj H
  go_enter Try.func58, Try.ntmps58
  go_wp2
  go_ret
  exact ⟨by first | rfl | (simp [errW_none, errW_some] <;> rfl) | (simp [*, errW_none, errW_some] <;> rfl) | (simp [wrap64]; done), vW HB.out⟩
 ·
  rw [if_neg c2] at H
  have c2b0 : decide (1099511627776 < a0) = false := decide_eq_false c2
  clear c2
  obtain ⟨ji3, hji3⟩ : ∃ j_ : Int, (mx a0 (-1099511627776)) = j_ := ⟨_, rfl⟩
  replace H : (some ji3) = some r := by first | (rw [hji3] at H; exact H) | (simp only [hji3] at H ⊢; exact H)
  have hji3_ : (if a0 < (-1099511627776) then (-1099511627776) else a0) = ji3 := hji3
  obtain rfl := Option.some.inj H
  go_enter Try.func58, Try.ntmps58
  go_wp2
  go_ret
  exact ⟨by first | rfl | (simp [errW_none, errW_some] <;> rfl) | (simp only [← hji3]; first | rfl | (simp [errW_none, errW_some] <;> rfl)) | (simp [*, errW_none, errW_some] <;> rfl) | (simp [wrap64]; done), vW HB.out⟩
end Go.Proofs.Ytomgebmimgaojaa.QO
end
end
section
/- oct.Close: what it computes, in functions of two numbers, and the walk through it. -/
noncomputable section
namespace Go.Proofs.Ytomgebmimgaojaa.QO
open Go.RowKit Go.Shelf Go.Proofs.YtomgebmimgaojaaW.PrintWords Go.Proofs.YtomgebmimgaojaaW.PrintLast Go.Proofs.YtomgebmimgaojaaW.PrintMore
open OctMath (over overs plus Bd Fin' Top62)
attribute [local go_sem] max2_int min2_int max_two min_two max_three min_three max_four min_four
attribute [local go_sem ↓] Go.wp_at_zero Go.wp_at_succ
set_option linter.unusedVariables false
set_option linter.unusedSimpArgs false
/-- the node with the other sign -/
def nb (i : Nat) : Nat := if i % 2 = 0 then i + 1 else i - 1
theorem nb_lt {i n : Nat} (h : i < 2 * n) : nb i < 2 * n := by unfold nb; split <;> omega
theorem nbar_nb (i : Nat) : nbar (i : Int) = ((nb i : Nat) : Int) := by unfold nbar nb; split <;> split <;> omega
theorem nb_nb (i : Nat) : nb (nb i) = i := by
  unfold nb; by_cases h : i % 2 = 0
  · rw [if_pos h, if_neg (by omega)]; omega
  · rw [if_neg h, if_pos (by omega)]; omega
theorem nb_ne (i : Nat) : nb i ≠ i := by unfold nb; split <;> omega
/-- half of a bound, rounded down -/
def half (a : Int) : Int := if a = 4611686018427387904 then a else a / 2
theorem half_half {a : Int} (h : Fin' 1152921504606846976 a) : bound_Half.f a = some (half a) := by
  unfold bound_Half.f bound_kind.f bound_Fit.f half
  unfold Fin' at h
  by_cases e : a = 4611686018427387904
  · subst e; rfl
  · rw [if_neg (by omega), if_neg (by omega), if_neg e]; rfl
/-- an entry brought into its bounds -/
def clipV (x : Int) : Int := if x > 1099511627776 then 4611686018427387904 else if x < -1099511627776 then -1099511627776 else x
theorem clip_clip (x : Int) : oct_clip.f x = some (clipV x) := by
  unfold oct_clip.f clipV mx
  by_cases e : x > 1099511627776
  · rw [if_pos e, if_pos e]
  · rw [if_neg e, if_neg e]
/-- the bounds of a scalar alone are even -/
def tig (d : Nat → Nat → Int) : Nat → Nat → Int := fun i j => if j = nb i then (if d i j = 4611686018427387904 then 4611686018427387904 else 2 * (d i j / 2)) else d i j
/-- by way of the scalars' own bounds -/
def strg (t : Nat → Nat → Int) : Nat → Nat → Int := fun i j => mn (t i j) (half (plus (t i (nb i)) (t (nb j) j)))
def StrOk (n : Nat) (t : Nat → Nat → Int) : Prop := ∀ i, i < n → 0 ≤ plus (t i (nb i)) (t (nb i) i)
/-- is there a value? -/
def CloseOk (n : Nat) (d : Nat → Nat → Int) : Prop := FloydOk n d ∧ StrOk n (tig (overs d n))
noncomputable def closeB (n : Nat) (d : Nat → Nat → Int) : Bool := @decide (CloseOk n d) (Classical.propDecidable _)
theorem closeB_true {n : Nat} {d : Nat → Nat → Int} : closeB n d = true ↔ CloseOk n d := by unfold closeB; exact @decide_eq_true_iff _ (Classical.propDecidable _)
theorem closeB_false {n : Nat} {d : Nat → Nat → Int} : closeB n d = false ↔ ¬ CloseOk n d := by unfold closeB; exact @decide_eq_false_iff_not _ (Classical.propDecidable _)
/-- the closed entries -/
def closeM (n : Nat) (d : Nat → Nat → Int) : Nat → Nat → Int := fun i j => clipV (strg (tig (overs d n)) i j)
noncomputable def closeL (n : Nat) (d : Nat → Nat → Int) : List Int := if closeB n d = true then lst n (closeM n d) else []
/-- what is put in the first loop: the rows ahead of i are even there -/
def tigTo (d : Nat → Nat → Int) (i : Nat) : Nat → Nat → Int := fun a b => if a < i then tig d a b else d a b
theorem tigTo_zero {d : Nat → Nat → Int} (a b : Nat) : tigTo d 0 a b = d a b := by unfold tigTo; rw [if_neg (by omega)]
theorem tigTo_all {d : Nat → Nat → Int} {n : Nat} (a b : Nat) (h : a < n) : tigTo d n a b = tig d a b := by unfold tigTo; rw [if_pos h]
theorem tigTo_step {d : Nat → Nat → Int} {i : Nat} (a b : Nat) : tigTo d (i + 1) a b = if a = i ∧ b = nb i then tig d i (nb i) else tigTo d i a b := by
  unfold tigTo
  by_cases e : a = i ∧ b = nb i
  · rw [if_pos e, if_pos (by omega), e.1, e.2]
  · rw [if_neg e]
    by_cases h : a < i
    · rw [if_pos h, if_pos (by omega)]
    · rw [if_neg h]
      by_cases h2 : a < i + 1
      · obtain rfl : a = i := by omega
        rw [if_pos h2]; unfold tig; rw [if_neg (fun h3 => e ⟨rfl, h3⟩)]
      · rw [if_neg h2]
/-- entries put one behind the other -/
def upTo (c : Nat → Nat → Int) (i j : Nat) : Nat → Nat → Int := fun a b => if a < i ∨ (a = i ∧ b < j) then c a b else 0
theorem upTo_step {c : Nat → Nat → Int} {i j : Nat} (a b : Nat) : upTo c i (j + 1) a b = if a = i ∧ b = j then c i j else upTo c i j a b := by
  unfold upTo
  by_cases e : a = i ∧ b = j
  · rw [if_pos e, if_pos (by omega), e.1, e.2]
  · rw [if_neg e]
    by_cases h : a < i ∨ (a = i ∧ b < j)
    · rw [if_pos h, if_pos (by omega)]
    · rw [if_neg h, if_neg (by omega)]
theorem upTo_row {c : Nat → Nat → Int} {i n : Nat} (a b : Nat) (hb : b < n) : upTo c i n a b = upTo c (i + 1) 0 a b := by
  unfold upTo
  by_cases h : a < i ∨ (a = i ∧ b < n)
  · rw [if_pos h, if_pos (by omega)]
  · rw [if_neg h, if_neg (by omega)]
theorem upTo_all {c : Nat → Nat → Int} {n : Nat} (a b : Nat) (h : a < n) : upTo c n 0 a b = c a b := by unfold upTo; rw [if_pos (.inl h)]
theorem lst_zero (n : Nat) (c : Nat → Nat → Int) : List.replicate (n * n) (0 : Int) = lst n (upTo c 0 0) := by
  apply List.ext_getElem
  · simp [lst]
  · intro t h1 h2; simp [lst, upTo]
/-- what Close answers to a sound octagon -/
noncomputable def closeF (vars m : List Int) (empty : Bool) : List Int × List Int × Bool := if empty = true then (vars, [], true) else (vars, closeL (2 * vars.length) (lowM vars.length m), !closeB (2 * vars.length) (lowM vars.length m))
theorem bottom_f {vars : List Int} (h : VarsOk vars) : oct_Bottom.f vars = some (vars, [], true) := by
  unfold oct_Bottom.f oct_may.f
  rw [varsB_true.2 h]
  have := h.1
  simp [slices_Clone_int_int.f, show vars.length < 17592186044416 by omega]
/-- three cells of one block are stored: the block, and all others -/
theorem store3 {W : World} {g t : Nat} {x y z : Value} (h : W.heap[g]? = some (.cells #[x, y, z] t (0, 0))) (a b c : Value) :
    (((W.setCell ⟨g, 0, none⟩ a).setCell ⟨g, 1, none⟩ b).setCell ⟨g, 2, none⟩ c).heap[g]? = some (.cells #[a, b, c] t (0, 0)) ∧ ∀ k, k ≠ g → (((W.setCell ⟨g, 0, none⟩ a).setCell ⟨g, 1, none⟩ b).setCell ⟨g, 2, none⟩ c).heap[k]? = W.heap[k]? :=
  ⟨blk_put (blk_put (blk_put h 0 a rfl) 1 b rfl) 2 c rfl, fun k hk => (Below.heap_setCell _ ⟨g, 2, none⟩ c k hk).trans ((Below.heap_setCell _ ⟨g, 1, none⟩ b k hk).trans (Below.heap_setCell W ⟨g, 0, none⟩ a k hk))⟩
theorem row_store3 {W : World} {g e base : Nat} {x y z : Value} {v : Value} {xs : List Int} {ok : Nat → Prop} (h : W.heap[g]? = some (.cells #[x, y, z] 25 (0, 0))) (hr : Kd.R (Kd.int .i64) e W base ok v xs) (he : e ≠ 25) (a b c : Value) :
    Kd.R (Kd.int .i64) e (((W.setCell ⟨g, 0, none⟩ a).setCell ⟨g, 1, none⟩ b).setCell ⟨g, 2, none⟩ c) base ok v xs :=
  Kd.R_mono (Kd.R_step (Kd.R_types hr h (fun q hq => by
    rcases List.mem_cons.1 hq with rfl | hq
    · exact he
    · cases hq)) (fun k hk _ => (store3 h a b c).2 k hk.2)) (fun _ hk => hk.1)
/-- the argument's box and the result's -/
structure OB (w : World) (bo br : Nat) (ov : Array Value) (W : World) : Prop where
  o : W.heap[bo]? = some (.cells ov 25 (0, 0))
  r : W.heap[br]? = some (.cells #[.slice none 0 0, .slice none 0 0, .bool false] 25 (0, 0))
  below : Below w.heap.size w W
  ob : w.heap.size ≤ bo
  rb : w.heap.size ≤ br
  ne : bo ≠ br
theorem OB.next {w : World} {bo br : Nat} {ov : Array Value} {W W' : World} (h : OB w bo br ov W) (hb : Below W.heap.size W W') : OB w bo br ov W' :=
  ⟨blk_below h.o hb, blk_below h.r hb, h.below.trans (hb.mono h.below.size), h.ob, h.rb, h.ne⟩
theorem OB.cells {w : World} {bo br : Nat} {x y z : Value} {W : World} (h : OB w bo br #[x, y, z] W) : (W.cell? ⟨bo, 0, none⟩ = some x ∧ W.cell? ⟨bo, 1, none⟩ = some y ∧ W.cell? ⟨bo, 2, none⟩ = some z) :=
  ⟨blk_cell h.o 0, blk_cell h.o 1, blk_cell h.o 2⟩
theorem OB.res {w : World} {bo br : Nat} {ov : Array Value} {W : World} (h : OB w bo br ov W) : (W.cell? ⟨br, 0, none⟩ = some (.slice none 0 0) ∧ W.cell? ⟨br, 1, none⟩ = some (.slice none 0 0) ∧ W.cell? ⟨br, 2, none⟩ = some (.bool false)) ∧ W.frozen? ⟨br, 0, none⟩ = false ∧ W.frozen? ⟨br, 1, none⟩ = false ∧ W.frozen? ⟨br, 2, none⟩ = false :=
  ⟨⟨blk_cell h.r 0, blk_cell h.r 1, blk_cell h.r 2⟩, blk_frozen h.r 0, blk_frozen h.r 1, blk_frozen h.r 2⟩
/-- what is answered lies in the result's box -/
theorem OB.answer {w : World} {bo br : Nat} {ov : Array Value} {W1 : World} (h : OB w bo br ov W1) {v0 v1 : Value} {r1 r2 : List Int} {base : Nat} (hw : w.heap.size ≤ base) (h0 : Kd.R (Kd.int .i64) 3 W1 base (fun _ => True) v0 r1) (h1 : Kd.R (Kd.int .i64) 2 W1 base (fun _ => True) v1 r2) (b : Value) :
    Kd.R (Kd.int .i64) 3 (((W1.setCell ⟨br, 0, none⟩ v0).setCell ⟨br, 1, none⟩ v1).setCell ⟨br, 2, none⟩ b) w.heap.size (fun _ => True) v0 r1 ∧ Kd.R (Kd.int .i64) 2 (((W1.setCell ⟨br, 0, none⟩ v0).setCell ⟨br, 1, none⟩ v1).setCell ⟨br, 2, none⟩ b) w.heap.size (fun _ => True) v1 r2 ∧
      Below w.heap.size w (((W1.setCell ⟨br, 0, none⟩ v0).setCell ⟨br, 1, none⟩ v1).setCell ⟨br, 2, none⟩ b) :=
  ⟨Kd.R_lower (row_store3 h.r h0 (by decide) _ _ _) hw, Kd.R_lower (row_store3 h.r h1 (by decide) _ _ _) hw, below_set (below_set (below_set h.below h.rb) h.rb) h.rb⟩
/-- .. and the table's box, and the row that it looks at -/
structure TS (w : World) (bo br bt : Nat) (ov tv : Array Value) (vd : Value) (W : World) (row : List Int) : Prop where
  ob : OB w bo br ov W
  t : W.heap[bt]? = some (.cells tv 58 (0, 0))
  tb : w.heap.size ≤ bt
  row : Kd.R (Kd.int .i64) 2 W w.heap.size (fun k => k < bt) vd row
theorem TS.next {w : World} {bo br bt : Nat} {ov tv : Array Value} {vd : Value} {W W' : World} {row : List Int} (h : TS w bo br bt ov tv vd W row) (hb : Below W.heap.size W W') : TS w bo br bt ov tv vd W' row :=
  ⟨h.ob.next hb, blk_below h.t hb, h.tb, Kd.R_below h.row hb⟩
theorem row_block {W : World} {base g len cap : Nat} {row : List Int} {ok : Nat → Prop} (h : Kd.R (Kd.int .i64) 2 W base ok (.slice (some ⟨g, 0, none⟩) len cap) row) (hp : 0 < row.length) : base ≤ g ∧ ∃ cells, W.heap[g]? = some (.cells cells 2 (0, 0)) := by
  obtain ⟨g', cap', e, h1, _, h3⟩ := Kd.R_form h hp
  injection e with e1 e2 e3
  injection e1 with e1
  injection e1 with e1
  subst e1
  exact ⟨h1, h3⟩
theorem typed_ne {W : World} {a b : Nat} {x y : Array Value} {s t : Nat} (h : W.heap[a]? = some (.cells x s (0, 0))) (h' : W.heap[b]? = some (.cells y t (0, 0))) (hst : s ≠ t) : a ≠ b := by
  rintro rfl; rw [h] at h'; injection h' with h'; injection h' with _ h'; exact hst h'
theorem TS.put {w : World} {bo br bt g len cap : Nat} {ov tv : Array Value} {W : World} {row : List Int} (h : TS w bo br bt ov tv (.slice (some ⟨g, 0, none⟩) len cap) W row) (hp : 0 < row.length) (i v : Int) :
    TS w bo br bt ov tv (.slice (some ⟨g, 0, none⟩) len cap) (W.setCell ⟨g, i.toNat, none⟩ (.int .i64 v)) (row.set i.toNat v) := by
  obtain ⟨hg, cells, hc⟩ := row_block h.row hp
  have n1 := typed_ne h.ob.o hc (by decide)
  have n2 := typed_ne h.ob.r hc (by decide)
  have n3 := typed_ne h.t hc (by decide)
  exact ⟨⟨blk_far h.ob.o n1 _, blk_far h.ob.r n2 _, below_set h.ob.below hg, h.ob.ob, h.ob.rb, h.ob.ne⟩, blk_far h.t n3 _, h.tb, (Kd.R_putg h.row i v).1⟩
theorem TS.tcells {w : World} {bo br bt : Nat} {ov : Array Value} {x y vd : Value} {W : World} {row : List Int} (h : TS w bo br bt ov #[x, y] vd W row) : W.cell? ⟨bt, 0, none⟩ = some x ∧ W.cell? ⟨bt, 1, none⟩ = some y :=
  ⟨blk_cell h.t 0, blk_cell h.t 1⟩
/-- .. and the answer under way: its box, its scalars, its entries -/
structure US (w : World) (bo br bt bc : Nat) (ov tv : Array Value) (vd vv vc : Value) (vars : List Int) (W : World) (rowd rowc : List Int) : Prop where
  ts : TS w bo br bt ov tv vd W rowd
  c : W.heap[bc]? = some (.cells #[vv, vc, .bool false] 25 (0, 0))
  rv : Kd.R (Kd.int .i64) 3 W w.heap.size (fun _ => True) vv vars
  rc : Kd.R (Kd.int .i64) 2 W bt (fun _ => True) vc rowc
theorem US.next {w : World} {bo br bt bc : Nat} {ov tv : Array Value} {vd vv vc : Value} {vars : List Int} {W W' : World} {rowd rowc : List Int} (h : US w bo br bt bc ov tv vd vv vc vars W rowd rowc) (hb : Below W.heap.size W W') : US w bo br bt bc ov tv vd vv vc vars W' rowd rowc :=
  ⟨h.ts.next hb, blk_below h.c hb, Kd.R_below h.rv hb, Kd.R_below h.rc hb⟩
theorem US.put {w : World} {bo br bt bc g len cap : Nat} {ov tv : Array Value} {vd vv : Value} {vars : List Int} {W : World} {rowd rowc : List Int} (h : US w bo br bt bc ov tv vd vv (.slice (some ⟨g, 0, none⟩) len cap) vars W rowd rowc) (hp : 0 < rowc.length) (i v : Int) :
    US w bo br bt bc ov tv vd vv (.slice (some ⟨g, 0, none⟩) len cap) vars (W.setCell ⟨g, i.toNat, none⟩ (.int .i64 v)) rowd (rowc.set i.toNat v) := by
  obtain ⟨hg, cells, hc⟩ := row_block h.rc hp
  have n1 := typed_ne h.ts.ob.o hc (by decide)
  have n2 := typed_ne h.ts.ob.r hc (by decide)
  have n3 := typed_ne h.ts.t hc (by decide)
  have n4 := typed_ne h.c hc (by decide)
  have hw : w.heap.size ≤ g := Nat.le_trans h.ts.tb hg
  refine ⟨⟨⟨blk_far h.ts.ob.o n1 _, blk_far h.ts.ob.r n2 _, below_set h.ts.ob.below hw, h.ts.ob.ob, h.ts.ob.rb, h.ts.ob.ne⟩, blk_far h.ts.t n3 _, h.ts.tb, ?_⟩, blk_far h.c n4 _, ?_, (Kd.R_putg h.rc i v).1⟩
  · exact Kd.R_far (p := ⟨g, i.toNat, none⟩) h.ts.row (fun k hk e => by subst e; exact absurd hk (by simp; omega)) _
  · exact Kd.R_set h.rv hc (fun q hq => by
      rcases List.mem_cons.1 hq with rfl | hq
      · decide
      · cases hq) _ _
/-- .. whose box has just been made -/
theorem US.made {w : World} {bo br bt : Nat} {ov tv : Array Value} {vd vv vc : Value} {vars : List Int} {W : World} {rowd rowc : List Int} (ts : TS w bo br bt ov tv vd W rowd) (rv : Kd.R (Kd.int .i64) 3 W w.heap.size (fun _ => True) vv vars) (rc : Kd.R (Kd.int .i64) 2 W bt (fun _ => True) vc rowc) :
    US w bo br bt W.heap.size ov tv vd vv vc vars (W.alloc (.cells #[vv, vc, .bool false] 25)) rowd rowc :=
  ⟨ts.next (below_alloc (Below.refl _ _) _), blk_new _ _, Kd.R_alloc rv _, Kd.R_alloc rc _⟩
/-- .. whose box was made before -/
theorem US.filled {w : World} {bo br bt bc : Nat} {ov tv : Array Value} {vd vv vc : Value} {vars : List Int} {W : World} {rowd rowc : List Int} (ts : TS w bo br bt ov tv vd W rowd) (rv : Kd.R (Kd.int .i64) 3 W w.heap.size (fun _ => True) vv vars) (rc : Kd.R (Kd.int .i64) 2 W bt (fun _ => True) vc rowc)
    (hb : W.heap[bc]? = some (.cells #[.slice none 0 0, .slice none 0 0, .bool false] 25 (0, 0))) (h1 : bo ≠ bc) (h2 : br ≠ bc) (h3 : w.heap.size ≤ bc) :
    US w bo br bt bc ov tv vd vv vc vars (((W.setCell ⟨bc, 0, none⟩ vv).setCell ⟨bc, 1, none⟩ vc).setCell ⟨bc, 2, none⟩ (.bool false)) rowd rowc :=
  ⟨⟨⟨((store3 hb _ _ _).2 _ h1).trans ts.ob.o, ((store3 hb _ _ _).2 _ h2).trans ts.ob.r, below_set (below_set (below_set ts.ob.below h3) h3) h3, ts.ob.ob, ts.ob.rb, ts.ob.ne⟩, ((store3 hb _ _ _).2 _ (typed_ne ts.t hb (by decide))).trans ts.t, ts.tb, row_store3 hb ts.row (by decide) _ _ _⟩,
    (store3 hb _ _ _).1, row_store3 hb rv (by decide) _ _ _, row_store3 hb rc (by decide) _ _ _⟩
/-- a new row of zeros -/
theorem make64 (n : Nat) (hn : n ≤ 256) : ∃ mc : Array Value, (∀ W, (Instr.makeSlice 23 (.int .i64 (n : Int)) (.int .i64 (n : Int))).run Try.prog W = .ok (.slice (some ⟨W.heap.size, 0, none⟩) n n) (W.alloc (.cells mc 2))) ∧
    ∀ (W : World) (base : Nat), base ≤ W.heap.size → Kd.R (Kd.int .i64) 2 (W.alloc (.cells mc 2)) base (fun _ => True) (.slice (some ⟨W.heap.size, 0, none⟩) n n) (List.replicate n 0) := by
  obtain ⟨i0, hi, hzz⟩ := Option.map_eq_some_iff.1 info2
  simp only [Prod.mk.injEq] at hzz
  obtain ⟨hz0, hz1, hz2⟩ := hzz
  refine ⟨madeCells (Value.int .i64 0).cells (n * 1), fun W => ?_, fun W base hb => ?_⟩
  · have hr := run_make (P := Try.prog) W 23 2 i0 (.int .i64 0) Try.underlying23 hi hz0 .i64 .i64 (n : Int) (n : Int) (by omega) (by omega) (by rw [hz2]; omega) (by omega)
    simp only [Int.toNat_natCast] at hr
    rw [hz1] at hr
    exact hr
  · have hrep : Reps ((Kd.int .i64).M W base (fun _ => True)) 1 (List.replicate n (0 : Int)) (madeCells (Value.int .i64 0).cells (n * 1)).toList := Kd.reps_made (R := (Kd.int .i64).M W base (fun _ => True)) (z := .int .i64 0) (size := 1) rfl (by decide) rfl n
    refine ⟨fun _ _ => trivial, (madeCells (Value.int .i64 0).cells (n * 1)).toList, ?_, ?_⟩
    · have h2 := World.ownsRow_lit (base := base) (e := 2) (size := 1) W (madeCells (Value.int .i64 0).cells (n * 1)) n hb (by simp [maxLen]; omega) (by simpa using hrep.1)
      show World.ownsRow _ base 2 1 _ _ _
      simpa using h2
    · refine hrep.imp_ (fun p c hp => (Kd.int .i64).M_mono (fun k hk => ⟨trivial, fun he => ?_⟩) (Kd.M_below ((Kd.int .i64).M_bound hp) (below_alloc (Below.refl _ _) _)))
      have h3 : k = W.heap.size := by simpa [Value.ownBlock] using he
      have := hk.2.2.1
      omega
theorem lowAt_same {vars m : List Int} (h : OFit vars m false) {i j : Int} (h0 : 0 ≤ i) (h1 : i < 2 * (vars.length : Int)) (h2 : 0 ≤ j) (h3 : j < 2 * (vars.length : Int)) : lowAt (2 * (vars.length : Int)) m i j = rd m (i * (2 * (vars.length : Int)) + j) := by
  unfold lowAt; split
  · exact (((h.2.2 rfl).2 i j h0 h1 h2 h3).2.2).symm
  · rfl
theorem lowM_ok {vars m : List Int} (h : OFit vars m false) : Bd (2 * vars.length) 1099511627776 (lowM vars.length m) ∧ ∀ i, i < 2 * vars.length → lowM vars.length m i i = 0 := by
  constructor
  · intro i j hi hj
    have e := (h.2.2 rfl).2 (i : Int) (j : Int) (by omega) (by omega) (by omega) (by omega)
    unfold lowM; rw [lowAt_same h (by omega) (by omega) (by omega) (by omega)]
    exact e.1
  · intro i hi
    have e := (h.2.2 rfl).2 (i : Int) (i : Int) (by omega) (by omega) (by omega) (by omega)
    unfold lowM; rw [lowAt_same h (by omega) (by omega) (by omega) (by omega)]
    exact e.2.1 rfl
theorem overs_bd {n : Nat} {d : Nat → Nat → Int} (h : Bd n 1099511627776 d) (hn : n ≤ 16) : Bd n 72057594037927936 (overs d n) := by
  have hp : (2 : Int) ^ n ≤ 2 ^ 16 := by
    have := Nat.pow_le_pow_right (n := 2) (by decide) (show n ≤ 16 by omega)
    exact_mod_cast this
  have h4 : (1099511627776 : Int) * 2 ^ n ≤ 1099511627776 * 2 ^ 16 := Int.mul_le_mul_of_nonneg_left hp (by decide)
  intro i j hi hj
  exact OctMath.fin_mono (OctMath.bd_overs h (by decide) n (Nat.le_refl _) (by omega) i j hi hj) (by omega)
theorem tig_bd {n : Nat} {d : Nat → Nat → Int} {B : Int} (h : Bd n B d) (hB : 0 ≤ B) : Bd n (B + 2) (tig d) := by
  intro i j hi hj
  have := h i j hi hj
  unfold tig Fin' at *
  split
  · split <;> omega
  · omega
set_option maxHeartbeats 16000000 in
set_option maxRecDepth 100000 in
theorem oct_Close_any (A0 : Option Addr) (c0 : Nat) (vars : List Int) (A1 : Option Addr) (c1 : Nat) (m : List Int) (empty : Bool) (w : World) (hr0 : Kd.C (Kd.int .i64) w A0 vars.length vars) (hc0 : vars.length ≤ c0)
    (hr1 : Kd.C (Kd.int .i64) w A1 m.length m) (hc1 : m.length ≤ c1) (hfit : OFit vars m empty) :
    Calls Try.prog 22 #[.agg #[.slice A0 vars.length c0, .slice A1 m.length c1, .bool empty]] w fun e w' => ∃ v0_ v1_ : Value, e = .returned (.agg #[v0_, v1_, .bool (closeF vars m empty).2.2]) ∧
      Kd.R (Kd.int .i64) 3 w' w.heap.size (fun _ => True) v0_ (closeF vars m empty).1 ∧ Kd.R (Kd.int .i64) 2 w' w.heap.size (fun _ => True) v1_ (closeF vars m empty).2.1 ∧ Below w.heap.size w w' := by
  have hu25 := Try.underlying25
  have hu58 := Try.underlying58
  have HR0 := Aside0.mk hr0
  have HR1 := Aside0.mk hr1
  have HC0 := Aside0.mk hc0
  have HC1 := Aside0.mk hc1
  have HFIT := Aside0.mk hfit
  have BOT := Aside0.mk (fun (W : World) (hW : Below w.heap.size w W) => oct_Bottom.calls A0 c0 vars vars [] true W (Kd.C_below hr0 hW) hc0 (bottom_f hfit.1))
  clear hr0 hr1 hc0 hc1 hfit
  cases empty with
  | true =>
    go_enter Try.func22, Try.ntmps22
    go_wp2_with (first
      | ((with_reducible refine gate_dst (N := 1) rfl ?_); refine box_event ?hg (N := 1) ?hd (cs := #[.slice A0 vars.length c0, .slice A1 m.length c1, .bool true]) (t := 25) ?hr ?_; (case hd => rfl); (case hg => rfl); (case hr => first | (go_simp; done) | (go_simp; rfl)); intro bo hgo wa hbo hba; have HBO := Aside0.mk (And.intro hgo (And.intro hbo hba)); clear hgo hbo hba)
      | ((with_reducible refine gate_dst (N := 2) rfl ?_); refine box_event ?hg (N := 2) ?hd (cs := #[.slice none 0 0, .slice none 0 0, .bool false]) (t := 25) ?hr ?_; (case hd => rfl); (case hg => rfl); (case hr => first | (go_simp; done) | (go_simp; rfl)); intro br hgr wb hbr hbb; have HOB : Aside0 (OB w bo br #[.slice A0 vars.length c0, .slice A1 m.length c1, .bool true] wb) := ⟨⟨blk_below HBO.out.2.1 hbb, hbr, HBO.out.2.2.trans (hbb.mono HBO.out.2.2.size), by rw [HBO.out.1]; exact Nat.le_refl _, by rw [hgr]; exact HBO.out.2.2.size, by rw [hgr]; exact Nat.ne_of_lt (blk_lt HBO.out.2.1)⟩⟩; obtain ⟨ho0, ho1, ho2⟩ := HOB.out.cells; clear hgr hbr hbb HBO)
      | (go_at_call 14; (with_reducible refine (BOT.out _ ?s1).mono ?_); (case s1 => exact HOB.out.below); rintro e w1 ⟨v0, v1, rfl, h0, h1, hb⟩; obtain ⟨Ao, co, eo⟩ := Kd.R_slice h0; subst eo; obtain ⟨Ap, cp, ep⟩ := Kd.R_slice h1; subst ep; have H0 := Aside0.mk h0; have H1 := Aside0.mk h1; have HO1 := Aside0.mk (OB.next HOB.out hb); have HBW := Aside0.mk HOB.out.below.size; obtain ⟨⟨hr0, hr1, hr2⟩, hr3, hr4, hr5⟩ := HO1.out.res; clear h0 h1 hb HOB ho0 ho1 ho2))
    refine bodyPost_ret (results_cell_row rfl _ _ br 25 #[.slice Ao vars.length co, .slice Ap 0 cp, .bool true] (0, 0) _ rfl (store3 HO1.out.r _ _ _).1 Try.underlying25 rfl (by kernel_rfl)) rfl ?_
    exact ⟨_, _, rfl, OB.answer HO1.out HBW.out H0.out H1.out _⟩
  | false =>
    have hfit := HFIT.out
    obtain ⟨n2, hn2⟩ : ∃ n2, n2 = 2 * vars.length := ⟨_, rfl⟩
    obtain ⟨NN, hNN⟩ : ∃ NN, n2 * n2 = NN := ⟨_, rfl⟩
    have h8 := hfit.1.1
    have HM := Aside0.mk ((hfit.2.2 rfl).1)
    have HL := Aside0.mk h8
    have HN2 := Aside0.mk hn2
    have HNN := Aside0.mk hNN
    have LM := lowM_ok hfit
    have WAYS := Aside0.mk (fun (W : World) (hW : Below w.heap.size w W) => oct_ways_any vars.length A1 c1 m W (Kd.C_below HR1.out hW) HC1.out h8 HM.out LM.1 (fun i hi => by rw [LM.2 i hi]; exact Int.le_refl _))
    unfold tableV at WAYS
    rw [← hn2] at WAYS LM
    have HFI := Aside0.mk (fun (W : World) (hW : Below w.heap.size w W) => oct_Fit.calls A0 c0 vars A1 c1 m false true W (Kd.C_below HR0.out hW) HC0.out (Kd.C_below HR1.out hW) HC1.out (by unfold oct_Fit.f; rw [if_pos (show vars.length ≤ 17592186044416 by omega), ofitB_true.2 hfit]))
    obtain ⟨M0, hM0⟩ : ∃ M0, lowM vars.length m = M0 := ⟨_, rfl⟩
    rw [hM0] at WAYS LM
    have HLM := Aside0.mk LM
    have HM0 := Aside0.mk hM0
    clear hfit hn2 hNN h8 LM hM0
    have HANS : Aside0 (closeF vars m false = (vars, closeL n2 M0, !closeB n2 M0)) := ⟨by unfold closeF; rw [if_neg (by decide), ← HN2.out, HM0.out]⟩
    rw [HANS.out]
    cases hfb : floydB n2 M0 with
    | false =>
      have hcb : closeB n2 M0 = false := closeB_false.2 (fun h => floydB_false.1 hfb h.1)
      have hcl : closeL n2 M0 = [] := by unfold closeL; rw [hcb]; rfl
      rw [hcb, hcl]
      rw [hfb] at WAYS
      clear hcb hcl
      go_enter Try.func22, Try.ntmps22
      go_wp2_with (first
      | ((with_reducible refine gate_dst (N := 1) rfl ?_); refine box_event ?hg (N := 1) ?hd (cs := #[.slice A0 vars.length c0, .slice A1 m.length c1, .bool false]) (t := 25) ?hr ?_; (case hd => rfl); (case hg => rfl); (case hr => first | (go_simp; done) | (go_simp; rfl)); intro bo hgo wa hbo hba; have HBO := Aside0.mk (And.intro hgo (And.intro hbo hba)); clear hgo hbo hba)
      | ((with_reducible refine gate_dst (N := 2) rfl ?_); refine box_event ?hg (N := 2) ?hd (cs := #[.slice none 0 0, .slice none 0 0, .bool false]) (t := 25) ?hr ?_; (case hd => rfl); (case hg => rfl); (case hr => first | (go_simp; done) | (go_simp; rfl)); intro br hgr wb hbr hbb; have HOB : Aside0 (OB w bo br #[.slice A0 vars.length c0, .slice A1 m.length c1, .bool false] wb) := ⟨⟨blk_below HBO.out.2.1 hbb, hbr, HBO.out.2.2.trans (hbb.mono HBO.out.2.2.size), by rw [HBO.out.1]; exact Nat.le_refl _, by rw [hgr]; exact HBO.out.2.2.size, by rw [hgr]; exact Nat.ne_of_lt (blk_lt HBO.out.2.1)⟩⟩; obtain ⟨ho0, ho1, ho2⟩ := HOB.out.cells; clear hgr hbr hbb HBO)
      | (go_at_call 18; (with_reducible refine (HFI.out _ ?s1).mono ?_); (case s1 => exact HOB.out.below); rintro e w2 ⟨rfl, hb⟩; have HOB2 := Aside0.mk (HOB.out.next hb); clear HOB ho0 ho1 ho2 hb; obtain ⟨ho0, ho1, ho2⟩ := HOB2.out.cells)
      | (go_at_call 55; (with_reducible refine (oct_of_any _ _ _ _ _ _ _ _ (Nat.le_trans HL.out (by decide))).mono ?_); rintro e w3 ⟨rfl, hb⟩; unfold tableV; have HOB3 := Aside0.mk (HOB2.out.next hb); clear HOB2 ho0 ho1 ho2 hb)
      | (go_at_call 54; (with_reducible refine (WAYS.out _ ?s1).mono ?_); (case s1 => exact HOB3.out.below); rintro e w4 ⟨vd, rfl, hrow, hb⟩; have HOB4 := Aside0.mk (HOB3.out.next hb); clear HOB3 hb hrow; obtain ⟨ho0, ho1, ho2⟩ := HOB4.out.cells)
      | (go_at_call 14; (with_reducible refine (BOT.out _ ?s1).mono ?_); (case s1 => exact HOB4.out.below); rintro e w1 ⟨v0, v1, rfl, h0, h1, hb⟩; obtain ⟨Ao, co, eo⟩ := Kd.R_slice h0; subst eo; obtain ⟨Ap, cp, ep⟩ := Kd.R_slice h1; subst ep; have H0 := Aside0.mk h0; have H1 := Aside0.mk h1; have HO1 := Aside0.mk (OB.next HOB4.out hb); have HBW := Aside0.mk (HOB4.out).below.size; obtain ⟨⟨hr0, hr1, hr2⟩, hr3, hr4, hr5⟩ := HO1.out.res; clear h0 h1 hb HOB4 ho0 ho1 ho2))
      refine bodyPost_ret (results_cell_row rfl _ _ br 25 #[.slice Ao vars.length co, .slice Ap 0 cp, .bool true] (0, 0) _ rfl (store3 HO1.out.r _ _ _).1 Try.underlying25 rfl (by kernel_rfl)) rfl ?_
      exact ⟨_, _, rfl, OB.answer HO1.out HBW.out H0.out H1.out _⟩
    | true =>
      have hfok := Aside0.mk (floydB_true.1 hfb)
      have hdl : floydL n2 M0 = lst n2 (overs M0 n2) := by unfold floydL; rw [if_pos hfb]
      rw [hfb, hdl] at WAYS
      clear hfb hdl
      obtain ⟨D0, hD0⟩ : ∃ D0, overs M0 n2 = D0 := ⟨_, rfl⟩
      rw [hD0] at WAYS
      have HD0 := Aside0.mk hD0
      clear hD0
      go_enter Try.func22, Try.ntmps22
      go_wp2_with (first
      | ((with_reducible refine gate_dst (N := 1) rfl ?_); refine box_event ?hg (N := 1) ?hd (cs := #[.slice A0 vars.length c0, .slice A1 m.length c1, .bool false]) (t := 25) ?hr ?_; (case hd => rfl); (case hg => rfl); (case hr => first | (go_simp; done) | (go_simp; rfl)); intro bo hgo wa hbo hba; have HBO := Aside0.mk (And.intro hgo (And.intro hbo hba)); clear hgo hbo hba)
      | ((with_reducible refine gate_dst (N := 2) rfl ?_); refine box_event ?hg (N := 2) ?hd (cs := #[.slice none 0 0, .slice none 0 0, .bool false]) (t := 25) ?hr ?_; (case hd => rfl); (case hg => rfl); (case hr => first | (go_simp; done) | (go_simp; rfl)); intro br hgr wb hbr hbb; have HOB : Aside0 (OB w bo br #[.slice A0 vars.length c0, .slice A1 m.length c1, .bool false] wb) := ⟨⟨blk_below HBO.out.2.1 hbb, hbr, HBO.out.2.2.trans (hbb.mono HBO.out.2.2.size), by rw [HBO.out.1]; exact Nat.le_refl _, by rw [hgr]; exact HBO.out.2.2.size, by rw [hgr]; exact Nat.ne_of_lt (blk_lt HBO.out.2.1)⟩⟩; obtain ⟨ho0, ho1, ho2⟩ := HOB.out.cells; clear hgr hbr hbb HBO)
      | (go_at_call 18; (with_reducible refine (HFI.out _ ?s1).mono ?_); (case s1 => exact HOB.out.below); rintro e w2 ⟨rfl, hb⟩; have HOB2 := Aside0.mk (HOB.out.next hb); clear HOB ho0 ho1 ho2 hb; obtain ⟨ho0, ho1, ho2⟩ := HOB2.out.cells)
      | (go_at_call 55; (with_reducible refine (oct_of_any _ _ _ _ _ _ _ _ (Nat.le_trans HL.out (by decide))).mono ?_); rintro e w3 ⟨rfl, hb⟩; unfold tableV; have HOB3 := Aside0.mk (HOB2.out.next hb); clear HOB2 ho0 ho1 ho2 hb)
      | (go_at_call 54; (with_reducible refine (WAYS.out _ ?s1).mono ?_); (case s1 => exact HOB3.out.below); rintro e w4 ⟨vd, rfl, hrow, hb⟩; have HOB4 := Aside0.mk (HOB3.out.next hb); have HROW := Aside0.mk (Kd.R_lower hrow HOB3.out.below.size); clear HOB3 hb hrow; obtain ⟨Ad, cd, ed⟩ := Kd.R_slice HROW.out; subst ed; obtain ⟨ho0, ho1, ho2⟩ := HOB4.out.cells))
      have hw : wrap64 (2 * (vars.length : Int)) = 2 * (vars.length : Int) := by have := HL.out; unfold wrap64; omega
      obtain ⟨nn, hnn⟩ : ∃ nn : Int, 2 * (vars.length : Int) = nn := ⟨_, rfl⟩
      have hll : (lst n2 D0).length = NN := by rw [lst_length, HNN.out]
      rw [hw, hnn, hll]
      obtain ⟨bt, hbt⟩ : ∃ bt, w4.heap.size = bt := ⟨_, rfl⟩
      rw [hbt]
      obtain ⟨W5, hW5⟩ : ∃ W5, w4.alloc (.cells #[.int .i64 nn, .slice Ad NN cd] 58) = W5 := ⟨_, rfl⟩
      rw [hW5]
      have HT : Aside0 (TS w bo br bt #[.slice A0 vars.length c0, .slice A1 m.length c1, .bool false] #[.int .i64 nn, .slice Ad NN cd] (.slice Ad NN cd) W5 (lst n2 (tigTo D0 0))) := ⟨by
        have h1 := HROW.out
        rw [hll] at h1
        rw [lst_congr (d := tigTo D0 0) (e := D0) (fun a b _ _ => tigTo_zero a b), ← hW5, ← hbt]
        exact ⟨HOB4.out.next (below_alloc (Below.refl _ _) _), blk_new _ _, HOB4.out.below.size, Kd.R_alloc (Kd.R_mono (Kd.R_bound h1) (fun k hk => hk.2.2.1)) _⟩⟩
      have HNV := Aside0.mk hnn
      clear hW5 hbt hw hnn hll HROW HOB4 ho0 ho1 ho2 WAYS HFI
      have HDB : Aside0 (Bd n2 72057594037927936 D0) := ⟨by rw [← HD0.out]; exact overs_bd HLM.out.1 (by have := HL.out; have := HN2.out; omega)⟩
      go_loopg [41] n2 (fun gg s41 wr => ∃ (i : Nat) (ii : Int), s41 = .int .i64 ii ∧ Aside0 (ii = (i : Int) ∧ i ≤ n2 ∧ n2 - i ≤ gg) ∧ Aside0 (TS w bo br bt #[.slice A0 vars.length c0, .slice A1 m.length c1, .bool false] #[.int .i64 nn, .slice Ad NN cd] (.slice Ad NN cd) wr (lst n2 (tigTo D0 i))))
      case atStart => exact ⟨0, 0, rfl, ⟨rfl, Nat.zero_le _, by omega⟩, HT⟩
      case round =>
        clear HT
        obtain ⟨i, ii, rfl, HII, HT⟩ := hrel
        by_cases hlt : i < n2
        · have f3 : decide (ii < nn) = true := decide_eq_true (by have := HN2.out; have := HII.out; have := HNV.out; omega)
          have HIL := Aside0.mk hlt
          have hN0 : 0 < (lst n2 (tigTo D0 i)).length := by rw [lst_length]; exact Nat.mul_pos (by omega) (by omega)
          obtain ⟨g, cap, eg, hg1, hg2, cells, hg3⟩ := Kd.R_form HT.out.row hN0
          injection eg with e1 e2 e3
          subst e1
          have HP0 := Aside0.mk hN0
          have n3 : bt ≠ g := typed_ne HT.out.t hg3 (by decide)
          have n4 : g ≠ bt := fun e => n3 e.symm
          clear hlt hN0 e2 e3 hg1 hg2 hg3 cells cap
          obtain ⟨bi, hbi⟩ : ∃ b, nbar ii = b := ⟨_, rfl⟩
          have HBI : Aside0 (bi = ((nb i : Nat) : Int) ∧ nb i < n2) := ⟨by have h := HII.out.1; rw [h, nbar_nb] at hbi; have h2 := HIL.out; have h3 := HN2.out; rw [h3] at h2 ⊢; exact ⟨hbi.symm, nb_lt h2⟩⟩
          have BAR : Aside0 (∀ W, Calls Try.prog 52 #[.int .i64 ii] W fun e w' => e = .returned (.int .i64 bi) ∧ w' = W) := ⟨fun W => oct_bar_still ii bi W (by unfold oct_bar.f; rw [if_pos (by have := HII.out; have := HIL.out; have := HN2.out; have := HL.out; omega), hbi])⟩
          obtain ⟨x, hx⟩ : ∃ x, D0 i (nb i) = x := ⟨_, rfl⟩
          have HX := Aside0.mk hx
          have HV : Aside0 (∀ p : Int, p = ((i * n2 + nb i : Nat) : Int) → rd (lst n2 (tigTo D0 i)) p = x) := ⟨fun p hp => by rw [lst_rd HIL.out HBI.out.2 hp, ← hx]; unfold tigTo; rw [if_neg (by omega)]⟩
          have HPI : Aside0 (ii * nn + bi = ((i * n2 + nb i : Nat) : Int) ∧ ii * nn = ((i * n2 : Nat) : Int) ∧ i * n2 ≤ 256) := ⟨by
            have h2 := HII.out.1; have h4 := HNV.out; have h5 := HN2.out; have h6 := HL.out
            have e1 : ii * nn = ((i * n2 : Nat) : Int) := by rw [h2, ← h4, h5]; push_cast; rfl
            have e2 := HBI.out.1
            exact ⟨by rw [e1, e2]; push_cast; rfl, e1, Nat.le_trans (Nat.mul_le_mul (show i ≤ 16 by have := HIL.out; omega) (show n2 ≤ 16 by omega)) (by omega)⟩⟩
          have AT : Aside0 (∀ W, TS w bo br bt #[.slice A0 vars.length c0, .slice A1 m.length c1, .bool false] #[.int .i64 nn, .slice (some ⟨g, 0, none⟩) NN cd] (.slice (some ⟨g, 0, none⟩) NN cd) W (lst n2 (tigTo D0 i)) → Calls Try.prog 51 #[.agg #[.int .i64 nn, .slice (some ⟨g, 0, none⟩) NN cd], .int .i64 ii, .int .i64 bi] W fun e w' => e = .returned (.int .i64 x) ∧ Below W.heap.size W w') := ⟨fun W hW => by
            have hl := HII.out; have hl2 := HIL.out; have hl3 := HBI.out; have hl4 := HN2.out
            have hrr := Kd.R_reads' hW.row
            have h := oct_full_at.calls (2 * (vars.length : Int)) (some ⟨g, 0, none⟩) cd (lst n2 (tigTo D0 i)) ii bi x W hrr.2.2 (by rw [← hrr.1]; exact hrr.2.1) (by
              rw [at_ok HL.out (by rw [lst_length, hl4]; push_cast; rfl) (by omega) (by omega) (by omega) (by omega), HNV.out, HV.out _ HPI.out.1])
            rw [← hrr.1, HNV.out] at h
            exact h⟩
          obtain ⟨ht0, ht1⟩ := HT.out.tcells
          clear hbi hx
          go_wp2
          go_region_held3 (fun w' => w'.cell? ⟨bt, 0, none⟩ = some (.int .i64 nn) ∧ w'.cell? ⟨bt, 1, none⟩ = some (.slice (some ⟨g, 0, none⟩) NN cd)) (first | go_keep | exact KS)
            (first | (go_at_call 52; (with_reducible refine (BAR.out _).mono ?_); rintro e w' ⟨rfl, rfl⟩)
                   | (go_at_call 51; (with_reducible refine (AT.out _ (TS.next HT.out (below_drew (Below.refl _ _)))).mono ?_); rintro e w1 ⟨rfl, hb⟩; have HT1 := Aside0.mk (TS.next (TS.next HT.out (below_drew (Below.refl _ _))) hb); have KS := HT1.out.tcells; clear hb))
          clear KS ht0 ht1 HT AT
          obtain ⟨ht0, ht1⟩ := HT1.out.tcells
          have HW : Aside0 (wrap64 (ii + 1) = ((i + 1 : Nat) : Int)) := ⟨by have := HII.out; have := HN2.out; have := HL.out; have := HIL.out; unfold wrap64; omega⟩
          by_cases he : x = 4611686018427387904
          · have fb : (x != 4611686018427387904) = false := by rw [he]; rfl
            have fc : decide (x = 4611686018427387904) = true := decide_eq_true he
            have HE := Aside0.mk he
            clear he
            go_wp2
            go_roundg (n2 - (i + 1))
            case measure => have := HII.out; have := HIL.out; omega
            case rel =>
              refine ⟨i + 1, wrap64 (ii + 1), rfl, ⟨by have := HW.out; have := HIL.out; omega⟩, ⟨?_⟩⟩
              have h1 := HT1.out
              rw [lst_congr (e := tigTo D0 (i + 1)) (fun a b _ _ => by
                rw [tigTo_step a b]
                by_cases h : a = i ∧ b = nb i
                · rw [if_pos h, h.1, h.2]; unfold tigTo tig; rw [if_neg (by omega), if_pos rfl]; rw [HX.out, HE.out]; rfl
                · rw [if_neg h])] at h1
              exact h1
          · have fb : (x != 4611686018427387904) = true := by simpa using he
            have fc : decide (x = 4611686018427387904) = false := decide_eq_false he
            have HE := Aside0.mk he
            have hxb := HX.out ▸ HDB.out i (nb i) HIL.out HBI.out.2
            have HXB := Aside0.mk hxb
            have HALF : Aside0 (∀ W, Calls Try.prog 56 #[.int .i64 x] W fun e w' => e = .returned (.int .i64 (x / 2)) ∧ Drawn0 W w') := ⟨fun W => by
              have h := bound_Half.calls x (half x) W (half_half (OctMath.fin_mono hxb (by decide)))
              have e : half x = x / 2 := by unfold half; rw [if_neg he]
              rw [e] at h; exact h⟩
            obtain ⟨hx2, hhx⟩ : ∃ h, x / 2 = h := ⟨_, rfl⟩
            rw [hhx] at HALF
            obtain ⟨v, hv⟩ : ∃ v, IntKind.i64.wrap (2 * hx2) = v := ⟨_, rfl⟩
            obtain ⟨q1, hq1⟩ : ∃ q, IntKind.i64.wrap (ii * nn) = q := ⟨_, rfl⟩
            obtain ⟨p, hp⟩ : ∃ q, IntKind.i64.wrap (q1 + bi) = q := ⟨_, rfl⟩
            have HVV : Aside0 (v = 2 * (x / 2)) := ⟨by rw [IntKind.wrap_i64] at hv; unfold Fin' at hxb; rw [hhx]; omega⟩
            have HPP : Aside0 (p = ((i * n2 + nb i : Nat) : Int)) := ⟨by
              have h := HPI.out; have h2 := HBI.out; have h7 := h.2.2
              rw [h.2.1, IntKind.wrap_i64] at hq1
              rw [IntKind.wrap_i64] at hp
              have r1 : q1 = ((i * n2 : Nat) : Int) := by omega
              have h5 := HL.out; have h6 := HN2.out
              clear hq1 hv h
              subst r1
              omega⟩
            have HPB : Aside0 (0 ≤ p ∧ p < (NN : Int)) := ⟨by have := ij_lt HIL.out HBI.out.2; rw [HNN.out] at this; have := HPP.out; omega⟩
            have r10 := eq_true HPB.out.1
            have r11 := eq_true HPB.out.2
            clear he hxb hhx
            go_wp2
            go_region_held3 (fun w' => w'.cell? ⟨bt, 0, none⟩ = some (.int .i64 nn)) (first | go_keep | exact KS)
              (first | (go_at_call 52; (with_reducible refine (BAR.out _).mono ?_); rintro e w' ⟨rfl, rfl⟩)
                     | (go_at_call 56; (with_reducible refine (HALF.out _).mono ?_); rintro e w2 ⟨rfl, hb⟩; have HT2 := Aside0.mk (TS.next (TS.next HT1.out (below_drew (Below.refl _ _))) hb.below); have KS := HT2.out.tcells.1; obtain ⟨hz1, hz2⟩ := Kd.R_celln 0 HT2.out.row p HPB.out.1 HPB.out.2; clear hb))
            go_wp2
            go_roundg (n2 - (i + 1))
            case measure => have := HII.out; have := HIL.out; omega
            case rel =>
              refine ⟨i + 1, wrap64 (ii + 1), rfl, ⟨by have := HW.out; have := HIL.out; omega⟩, ⟨?_⟩⟩
              have h1 := TS.put HT2.out HP0.out p v
              rw [lst_set HIL.out HBI.out.2 HPP.out, lst_congr (e := tigTo D0 (i + 1)) (fun a b _ _ => by
                rw [tigTo_step a b]
                by_cases h : a = i ∧ b = nb i
                · rw [if_pos h, if_pos h]; unfold tig; rw [if_pos rfl, HX.out, if_neg HE.out, HVV.out]
                · rw [if_neg h, if_neg h])] at h1
              exact h1
        · have f3 : decide (ii < nn) = false := decide_eq_false (by have := HN2.out; have := HII.out; have := HNV.out; omega)
          have ei : i = n2 := by have := HII.out; omega
          obtain ⟨T0, hT0⟩ : ∃ T0, tig D0 = T0 := ⟨_, rfl⟩
          have HT1 : Aside0 (TS w bo br bt #[.slice A0 vars.length c0, .slice A1 m.length c1, .bool false] #[.int .i64 nn, .slice Ad NN cd] (.slice Ad NN cd) wr (lst n2 T0)) := ⟨by
            have h := HT.out
            rw [ei, lst_congr (fun a b ha _ => tigTo_all a b ha), hT0] at h; exact h⟩
          have HT0 := Aside0.mk hT0
          have HTD : Aside0 (Bd n2 72057594037927938 T0) := ⟨by rw [← hT0]; exact tig_bd HDB.out (by decide)⟩
          clear hlt ei hT0 HT HII
          obtain ⟨ht0, ht1⟩ := HT1.out.tcells
          go_wp2
          clear ht0 ht1
          go_loopg [66] n2 (fun gg s66 wr => ∃ (i : Nat) (ii : Int), s66 = .int .i64 ii ∧ Aside0 (ii = (i : Int) ∧ i ≤ n2 ∧ n2 - i ≤ gg) ∧ Aside0 (TS w bo br bt #[.slice A0 vars.length c0, .slice A1 m.length c1, .bool false] #[.int .i64 nn, .slice Ad NN cd] (.slice Ad NN cd) wr (lst n2 T0)) ∧ Aside0 (∀ a, a < i → 0 ≤ plus (T0 a (nb a)) (T0 (nb a) a)))
          case atStart => exact ⟨0, 0, rfl, ⟨rfl, Nat.zero_le _, by omega⟩, HT1, ⟨fun a ha => absurd ha (by omega)⟩⟩
          case round =>
            clear HT1
            obtain ⟨i, ii, rfl, HII, HT, HST⟩ := hrel
            by_cases hlt : i < n2
            · have f3 : decide (ii < nn) = true := decide_eq_true (by have := HN2.out; have := HII.out; have := HNV.out; omega)
              have HIL := Aside0.mk hlt
              obtain ⟨bi, hbi⟩ : ∃ b, nbar ii = b := ⟨_, rfl⟩
              have HBI : Aside0 (bi = ((nb i : Nat) : Int) ∧ nb i < n2) := ⟨by have h := HII.out.1; rw [h, nbar_nb] at hbi; have h2 := HIL.out; have h3 := HN2.out; rw [h3] at h2 ⊢; exact ⟨hbi.symm, nb_lt h2⟩⟩
              have BAR : Aside0 (∀ W, Calls Try.prog 52 #[.int .i64 ii] W fun e w' => e = .returned (.int .i64 bi) ∧ w' = W) := ⟨fun W => oct_bar_still ii bi W (by unfold oct_bar.f; rw [if_pos (by have := HII.out; have := HIL.out; have := HN2.out; have := HL.out; omega), hbi])⟩
              obtain ⟨x, hx⟩ : ∃ x, T0 i (nb i) = x := ⟨_, rfl⟩
              obtain ⟨y, hy⟩ : ∃ y, T0 (nb i) i = y := ⟨_, rfl⟩
              obtain ⟨sm, hsm⟩ : ∃ sm, plus x y = sm := ⟨_, rfl⟩
              have ATT : Aside0 (∀ (a b : Nat) (aa bb : Int) (W : World), a < n2 → b < n2 → aa = (a : Int) → bb = (b : Int) → TS w bo br bt #[.slice A0 vars.length c0, .slice A1 m.length c1, .bool false] #[.int .i64 nn, .slice Ad NN cd] (.slice Ad NN cd) W (lst n2 T0) → Calls Try.prog 51 #[.agg #[.int .i64 nn, .slice Ad NN cd], .int .i64 aa, .int .i64 bb] W fun e w' => e = .returned (.int .i64 (T0 a b)) ∧ Below W.heap.size W w') := ⟨fun a b aa bb W ha hb haa hbb hW => by
                have hl4 := HN2.out
                have hrr := Kd.R_reads' hW.row
                have e1 : aa * (2 * (vars.length : Int)) + bb = ((a * n2 + b : Nat) : Int) := by rw [haa, hbb, hl4]; push_cast; rfl
                have h := oct_full_at.calls (2 * (vars.length : Int)) Ad cd (lst n2 T0) aa bb (T0 a b) W hrr.2.2 (by rw [← hrr.1]; exact hrr.2.1) (by
                  rw [at_ok HL.out (by rw [lst_length, hl4]; push_cast; rfl) (by omega) (by omega) (by omega) (by omega), lst_rd ha hb e1])
                rw [← hrr.1, HNV.out] at h
                exact h⟩
              have AT1 : Aside0 (∀ W, TS w bo br bt #[.slice A0 vars.length c0, .slice A1 m.length c1, .bool false] #[.int .i64 nn, .slice Ad NN cd] (.slice Ad NN cd) W (lst n2 T0) → Calls Try.prog 51 #[.agg #[.int .i64 nn, .slice Ad NN cd], .int .i64 ii, .int .i64 bi] W fun e w' => e = .returned (.int .i64 x) ∧ Below W.heap.size W w') := ⟨fun W hW => by rw [← hx]; exact ATT.out i (nb i) ii bi W HIL.out HBI.out.2 HII.out.1 HBI.out.1 hW⟩
              have AT2 : Aside0 (∀ W, TS w bo br bt #[.slice A0 vars.length c0, .slice A1 m.length c1, .bool false] #[.int .i64 nn, .slice Ad NN cd] (.slice Ad NN cd) W (lst n2 T0) → Calls Try.prog 51 #[.agg #[.int .i64 nn, .slice Ad NN cd], .int .i64 bi, .int .i64 ii] W fun e w' => e = .returned (.int .i64 y) ∧ Below W.heap.size W w') := ⟨fun W hW => by rw [← hy]; exact ATT.out (nb i) i bi ii W HBI.out.2 HIL.out HBI.out.1 HII.out.1 hW⟩
              have UP : Aside0 (∀ W, Calls Try.prog 57 #[.int .i64 x, .int .i64 y] W fun e w' => e = .returned (.int .i64 sm) ∧ Below W.heap.size W w') := ⟨fun W => bound_Up.calls x y sm W (by
                  rw [← hsm]; exact up_plus (B := 72057594037927938) (by decide) (by decide) (hx ▸ HTD.out i (nb i) HIL.out HBI.out.2) (hy ▸ HTD.out (nb i) i HBI.out.2 HIL.out))⟩
              have HS : Aside0 (plus (T0 i (nb i)) (T0 (nb i) i) = sm) := ⟨by rw [hx, hy]; exact hsm⟩
              obtain ⟨ht0, ht1⟩ := HT.out.tcells
              clear hlt hbi hx hy hsm ATT
              go_wp2
              go_region_held3 (fun w' => w'.cell? ⟨bt, 0, none⟩ = some (.int .i64 nn) ∧ w'.cell? ⟨bt, 1, none⟩ = some (.slice Ad NN cd)) (first | go_keep | exact KS)
                (first
                   | (go_at_call 52; (with_reducible refine (BAR.out _).mono ?_); rintro e w' ⟨rfl, rfl⟩)
                   | (go_at_call 51; (with_reducible refine (AT1.out _ (TS.next HT.out (below_drew (Below.refl _ _)))).mono ?_); rintro e w1 ⟨rfl, hb⟩; have HT1 := Aside0.mk (TS.next (TS.next HT.out (below_drew (Below.refl _ _))) hb); have KS := HT1.out.tcells; clear hb AT1)
                   | (go_at_call 51; (with_reducible refine (AT2.out _ HT1.out).mono ?_); rintro e w2 ⟨rfl, hb⟩; have HT2 := Aside0.mk (TS.next HT1.out hb); clear KS; have KS := HT2.out.tcells; clear hb AT2)
                   | (go_at_call 57; (with_reducible refine (UP.out _).mono ?_); rintro e w3 ⟨rfl, hb⟩; have HTB := Aside0.mk (TS.next HT2.out hb); clear KS; have KS := HTB.out.tcells; clear hb UP))
              clear KS HT HT1 HT2
              by_cases hs : sm < 0
              · have f4 : decide (sm < 0) = true := decide_eq_true hs
                have HSN := Aside0.mk hs
                obtain ⟨ho0, ho1, ho2⟩ := HTB.out.ob.cells
                clear hs
                rw [f4]
                go_wp2_with (go_at_call 14; (with_reducible refine (BOT.out _ ?s1).mono ?_); (case s1 => exact HTB.out.ob.below); rintro e w1 ⟨v0, v1, rfl, h0, h1, hb⟩; obtain ⟨Ao, co, eo⟩ := Kd.R_slice h0; subst eo; obtain ⟨Ap, cp, ep⟩ := Kd.R_slice h1; subst ep; have H0 := Aside0.mk h0; have H1 := Aside0.mk h1; have HO1 := Aside0.mk (OB.next HTB.out.ob hb); have HBW := Aside0.mk (HTB.out.ob).below.size; obtain ⟨⟨hr0, hr1, hr2⟩, hr3, hr4, hr5⟩ := HO1.out.res; clear h0 h1 hb ho0 ho1 ho2 ht0 ht1)
                refine bodyPost_ret (results_cell_row rfl _ _ br 25 #[.slice Ao vars.length co, .slice Ap 0 cp, .bool true] (0, 0) _ rfl (store3 HO1.out.r _ _ _).1 Try.underlying25 rfl (by kernel_rfl)) rfl ?_
                have hcb : closeB n2 M0 = false := closeB_false.2 (fun h => by
                  have h1 := h.2 i HIL.out
                  rw [HD0.out, HT0.out, HS.out] at h1
                  have := HSN.out; omega)
                have hcl : closeL n2 M0 = [] := by unfold closeL; rw [hcb]; rfl
                rw [hcb, hcl]
                exact ⟨_, _, rfl, OB.answer HO1.out HBW.out H0.out H1.out _⟩
              · have f4 : decide (sm < 0) = false := decide_eq_false hs
                have HSN := Aside0.mk hs
                clear hs
                rw [f4]
                go_wp2
                go_roundg (n2 - (i + 1))
                case measure => have := HII.out; have := HIL.out; omega
                case rel =>
                  have hw : wrap64 (ii + 1) = ii + 1 := by have := HII.out; have := HN2.out; have := HL.out; have := HIL.out; unfold wrap64; omega
                  refine ⟨i + 1, wrap64 (ii + 1), rfl, ⟨by have := HII.out; have := HIL.out; omega⟩, HTB, ⟨fun a ha => ?_⟩⟩
                  by_cases e : a = i
                  · subst e; have := HS.out; have := HSN.out; omega
                  · exact HST.out a (by omega)
            · have f3 : decide (ii < nn) = false := decide_eq_false (by have := HN2.out; have := HII.out; have := HNV.out; omega)
              have HCB : Aside0 (closeB n2 M0 = true) := ⟨closeB_true.2 ⟨hfok.out, fun a ha => by rw [HD0.out, HT0.out]; exact HST.out a (by have := HII.out; omega)⟩⟩
              clear hlt HII HST
              obtain ⟨ho0, ho1, ho2⟩ := HT.out.ob.cells
              obtain ⟨ht0, ht1⟩ := HT.out.tcells
              have CLN : Aside0 (∀ W, Below w.heap.size w W → Calls Try.prog 47 #[.slice A0 vars.length c0] W fun e w' => ∃ v0_ : Value, e = .returned (v0_) ∧ Kd.R (Kd.int .i64) 3 w' W.heap.size (fun _ => True) v0_ vars ∧ Below W.heap.size W w') := ⟨fun W hW => slices_Clone_int_int.calls A0 c0 vars vars W (Kd.C_below HR0.out hW) HC0.out (by have := HL.out; unfold slices_Clone_int_int.f; rw [if_pos (by omega)])⟩
              go_wp2
              obtain ⟨mc, mk1, mk2⟩ := make64 NN (by rw [← HNN.out]; have := HN2.out; have := HL.out; exact Nat.le_trans (Nat.mul_le_mul (show n2 ≤ 16 by omega) (show n2 ≤ 16 by omega)) (by omega))
              have HMK := Aside0.mk mk2
              clear mk2
              go_cut [9] (fun v9 wc => ∃ (bc : Nat) (Av Ac : Option Addr) (cv cc : Nat), v9 = .pointer (some ⟨bc, 0, none⟩) ∧ Aside0 (US w bo br bt bc #[.slice A0 vars.length c0, .slice A1 m.length c1, .bool false] #[.int .i64 nn, .slice Ad NN cd] (.slice Ad NN cd) (.slice Av vars.length cv) (.slice Ac NN cc) vars wc (lst n2 T0) (lst n2 (upTo (closeM n2 M0) 0 0))))
              case first =>
                have BD : Below wr.heap.size wr wr.drew := below_drew (Below.refl _ _)
                have BT : bt ≤ wr.heap.size := Nat.le_of_lt (blk_lt HT.out.t)
                have WS : w.heap.size ≤ wr.heap.size := HT.out.ob.below.size
                have BA : ∀ (W : World) (o : Obj), Below W.heap.size W (W.alloc o) := fun W o => below_alloc (Below.refl _ _) o
                have HZ : Aside0 (List.replicate NN (0 : Int) = lst n2 (upTo (closeM n2 M0) 0 0)) := ⟨by rw [← HNN.out]; exact lst_zero _ _⟩
                have bo1 := blk_lt HT.out.ob.o
                have br1 := blk_lt HT.out.ob.r
                have kb1 : bo ≠ wr.heap.size := Nat.ne_of_lt bo1
                have kb2 : bo ≠ wr.heap.size + 1 := by omega
                have kb3 : wr.heap.size ≠ bo := fun e => kb1 e.symm
                have kb4 : wr.heap.size + 1 ≠ bo := fun e => kb2 e.symm
                have HBB := Aside0.mk (And.intro BD (And.intro BT (And.intro WS (And.intro BA (And.intro bo1 br1)))))
                clear BD BT WS BA bo1 br1
                go_region_held3 (fun w' => w'.cell? ⟨bo, 0, none⟩ = some (.slice A0 vars.length c0)) (first | go_keep | exact KX)
                  (first
                   | (go_at_call 47; (with_reducible refine (CLN.out _ ?s1).mono ?_); (case s1 => first | exact (HT.out.next HBB.out.1).ob.below | exact ((HT.out.next HBB.out.1).next (HBB.out.2.2.2.1 _ _)).ob.below | exact (((HT.out.next HBB.out.1).next (HBB.out.2.2.2.1 _ _)).next (HBB.out.2.2.2.1 _ _)).ob.below); rintro e w1 ⟨v0, rfl, h0, hb⟩; obtain ⟨Av, cv, ev⟩ := Kd.R_slice h0; subst ev; have KX : w1.cell? ⟨bo, 0, none⟩ = some (.slice A0 vars.length c0) := (by first | exact ((HT.out.next HBB.out.1).next hb).ob.cells.1 | exact (((HT.out.next HBB.out.1).next (HBB.out.2.2.2.1 _ _)).next hb).ob.cells.1 | exact ((((HT.out.next HBB.out.1).next (HBB.out.2.2.2.1 _ _)).next (HBB.out.2.2.2.1 _ _)).next hb).ob.cells.1); have KN := World.new_ne _ _ KX; have H0 := Aside0.mk h0; have HB := Aside0.mk hb; clear h0; (first | (have hbx := blk_below (blk_new wr.drew (.cells #[.slice none 0 0, .slice none 0 0, .bool false] 25)) hb) | (have hbx := blk_below (blk_new (wr.drew.alloc (.cells mc 2)) (.cells #[.slice none 0 0, .slice none 0 0, .bool false] 25)) hb) | (have hbx := blk_below (blk_alloc (blk_new wr.drew (.cells #[.slice none 0 0, .slice none 0 0, .bool false] 25)) (.cells mc 2)) hb) | skip); (try (have hcx0 := blk_cell hbx 0; have hcx1 := blk_cell hbx 1; have hcx2 := blk_cell hbx 2; have hfx0 := blk_frozen hbx 0; have hfx1 := blk_frozen hbx 1; have hfx2 := blk_frozen hbx 2; have HBX := Aside0.mk hbx; have hcy0 := fun o => blk_cell (blk_alloc hbx o) 0; have hcy1 := fun o => blk_cell (blk_alloc hbx o) 1; have hcy2 := fun o => blk_cell (blk_alloc hbx o) 2; have hfy0 := fun o => blk_frozen (blk_alloc hbx o) 0; have hfy1 := fun o => blk_frozen (blk_alloc hbx o) 1; have hfy2 := fun o => blk_frozen (blk_alloc hbx o) 2; clear hbx; simp at hcx0 hcx1 hcx2 hfx0 hfx1 hfx2 hcy0 hcy1 hcy2 hfy0 hfy1 hfy2)); clear hb))
                all_goals go_wp2
                all_goals go_meet
                all_goals obtain ⟨BD, BT, WS, BA, bo1, br1⟩ := HBB.out
                all_goals try (case measure => exact 0)
                · have rc := HMK.out w1 bt (Nat.le_trans BT HB.out.size)
                  rw [HZ.out] at rc
                  have h := US.made (((HT.out.next BD).next HB.out).next (BA _ (.cells mc 2))) (Kd.R_alloc (Kd.R_lower H0.out WS) _) rc
                  rw [World.size_alloc] at h
                  exact ⟨_, _, _, _, _, rfl, ⟨h⟩⟩
                · exact ⟨_, _, _, _, _, rfl, ⟨⟨(((HT.out.next BD).next HB.out).next (BA _ _)).next (BA _ _), blk_alloc (blk_new _ _) _, Kd.R_alloc (Kd.R_alloc (Kd.R_lower H0.out WS) _) _, by rw [← HZ.out]; have := HMK.out (w1.alloc (.cells #[.slice Av vars.length cv, .slice (some ⟨w1.heap.size + 1, 0, none⟩) NN NN, .bool false] 25)) bt (by simp; have := Nat.le_trans BT HB.out.size; omega); simpa using this⟩⟩⟩
                · exact ⟨_, _, _, _, _, rfl, ⟨US.made (((HT.out.next BD).next (BA _ _)).next HB.out) (Kd.R_lower H0.out (Nat.le_trans WS (BA _ _).size)) (by rw [← HZ.out]; exact Kd.R_below (Kd.R_drew (HMK.out wr bt BT)) HB.out)⟩⟩
                · exact ⟨_, _, _, _, _, rfl, ⟨US.filled ((((HT.out.next BD).next (BA _ _)).next (BA _ _)).next HB.out) (Kd.R_lower H0.out (Nat.le_trans WS (Nat.le_trans (BA _ _).size (BA _ _).size))) (by rw [← HZ.out]; exact Kd.R_below (Kd.R_drew (Kd.R_alloc (HMK.out wr bt BT) _)) HB.out) (by simpa using HBX.out) (by omega) (by omega) (by omega)⟩⟩
                · exact ⟨_, _, _, _, _, rfl, ⟨US.filled ((((HT.out.next BD).next (BA _ _)).next HB.out).next (BA _ _)) (Kd.R_alloc (Kd.R_lower H0.out (Nat.le_trans WS (BA _ _).size)) _) (by rw [← HZ.out]; exact HMK.out _ _ (Nat.le_trans BT (Nat.le_trans (BA _ _).size HB.out.size))) (blk_alloc (by simpa using HBX.out) _) (by omega) (by omega) (by omega)⟩⟩
                · exact ⟨_, _, _, _, _, rfl, ⟨US.filled ((((HT.out.next BD).next (BA _ _)).next (BA _ _)).next HB.out) (Kd.R_lower H0.out (Nat.le_trans WS (Nat.le_trans (BA _ _).size (BA _ _).size))) (by rw [← HZ.out]; have := HMK.out (wr.alloc (.cells #[.slice none 0 0, .slice none 0 0, .bool false] 25)) bt (by simp; omega); exact Kd.R_below (Kd.R_drew (by simpa using this)) HB.out) (by simpa using HBX.out) (by omega) (by omega) (by omega)⟩⟩
              case rest =>
                clear HT HMK mk1 CLN ho0 ho1 ho2 ht0 ht1 BOT
                obtain ⟨bc, Av, Ac, cv, cc, rfl, HU⟩ := hcut
                obtain ⟨C0, hC0⟩ : ∃ C0, closeM n2 M0 = C0 := ⟨_, rfl⟩
                rw [hC0] at HU
                have HC := Aside0.mk hC0
                clear hC0
                obtain ⟨ht0, ht1⟩ := HU.out.ts.tcells
                go_wp2
                clear ht0 ht1
                go_loopg [94] n2 (fun gg s94 wr => ∃ (i : Nat) (ii : Int), s94 = .int .i64 ii ∧ Aside0 (ii = (i : Int) ∧ i ≤ n2 ∧ n2 - i ≤ gg) ∧ Aside0 (US w bo br bt bc #[.slice A0 vars.length c0, .slice A1 m.length c1, .bool false] #[.int .i64 nn, .slice Ad NN cd] (.slice Ad NN cd) (.slice Av vars.length cv) (.slice Ac NN cc) vars wr (lst n2 T0) (lst n2 (upTo C0 i 0))))
                case atStart => exact ⟨0, 0, rfl, ⟨rfl, Nat.zero_le _, by omega⟩, HU⟩
                case round =>
                  clear HU
                  obtain ⟨i, ii, rfl, HII, HU⟩ := hrel
                  by_cases hlt : i < n2
                  · have f3 : decide (ii < nn) = true := decide_eq_true (by have := HN2.out; have := HII.out; have := HNV.out; omega)
                    have HIL := Aside0.mk hlt
                    have hN0 : 0 < (lst n2 (upTo C0 i 0)).length := by rw [lst_length]; exact Nat.mul_pos (by omega) (by omega)
                    obtain ⟨g, cap, eg, hg1, hg2, cells, hg3⟩ := Kd.R_form HU.out.rc hN0
                    injection eg with e1 e2 e3
                    subst e1
                    have HP0 : Aside0 (∀ d, 0 < (lst n2 d).length) := ⟨fun d => by rw [lst_length]; exact Nat.mul_pos (by have := HIL.out; omega) (by have := HIL.out; omega)⟩
                    have n3 : bt ≠ g := typed_ne HU.out.ts.t hg3 (by decide)
                    have n4 : g ≠ bt := fun e => n3 e.symm
                    have n5 : bc ≠ g := typed_ne HU.out.c hg3 (by decide)
                    have n6 : g ≠ bc := fun e => n5 e.symm
                    clear hlt hN0 e2 e3 hg1 hg2 hg3 cells cap
                    obtain ⟨ht0, ht1⟩ := HU.out.ts.tcells
                    go_wp2
                    clear ht0 ht1
                    go_loopg [99] n2 (fun gg s99 wr => ∃ (j : Nat) (jj : Int), s99 = .int .i64 jj ∧ Aside0 (jj = (j : Int) ∧ j ≤ n2 ∧ n2 - j ≤ gg) ∧ Aside0 (US w bo br bt bc #[.slice A0 vars.length c0, .slice A1 m.length c1, .bool false] #[.int .i64 nn, .slice Ad NN cd] (.slice Ad NN cd) (.slice Av vars.length cv) (.slice (some ⟨g, 0, none⟩) NN cc) vars wr (lst n2 T0) (lst n2 (upTo C0 i j))))
                    case atStart => exact ⟨0, 0, rfl, ⟨rfl, Nat.zero_le _, by omega⟩, HU⟩
                    case round =>
                      clear HU
                      obtain ⟨j, jj, rfl, HJJ, HU⟩ := hrel
                      by_cases hlt : j < n2
                      · have f4 : decide (jj < nn) = true := decide_eq_true (by have := HN2.out; have := HJJ.out; have := HNV.out; omega)
                        have HJL := Aside0.mk hlt
                        obtain ⟨bi, hbi⟩ : ∃ b, nbar ii = b := ⟨_, rfl⟩
                        obtain ⟨bj, hbj⟩ : ∃ b, nbar jj = b := ⟨_, rfl⟩
                        have HBI : Aside0 (bi = ((nb i : Nat) : Int) ∧ nb i < n2) := ⟨by have h := HII.out.1; rw [h, nbar_nb] at hbi; have h2 := HIL.out; have h3 := HN2.out; rw [h3] at h2 ⊢; exact ⟨hbi.symm, nb_lt h2⟩⟩
                        have HBJ : Aside0 (bj = ((nb j : Nat) : Int) ∧ nb j < n2) := ⟨by have h := HJJ.out.1; rw [h, nbar_nb] at hbj; have h2 := HJL.out; have h3 := HN2.out; rw [h3] at h2 ⊢; exact ⟨hbj.symm, nb_lt h2⟩⟩
                        have BAR1 : Aside0 (∀ W, Calls Try.prog 52 #[.int .i64 ii] W fun e w' => e = .returned (.int .i64 bi) ∧ w' = W) := ⟨fun W => oct_bar_still ii bi W (by unfold oct_bar.f; rw [if_pos (by have := HII.out; have := HIL.out; have := HN2.out; have := HL.out; omega), hbi])⟩
                        have BAR2 : Aside0 (∀ W, Calls Try.prog 52 #[.int .i64 jj] W fun e w' => e = .returned (.int .i64 bj) ∧ w' = W) := ⟨fun W => oct_bar_still jj bj W (by unfold oct_bar.f; rw [if_pos (by have := HJJ.out; have := HJL.out; have := HN2.out; have := HL.out; omega), hbj])⟩
                        obtain ⟨x, hx⟩ : ∃ x, T0 i j = x := ⟨_, rfl⟩
                        obtain ⟨y, hy⟩ : ∃ y, T0 i (nb i) = y := ⟨_, rfl⟩
                        obtain ⟨z, hz⟩ : ∃ z, T0 (nb j) j = z := ⟨_, rfl⟩
                        obtain ⟨sm, hsm⟩ : ∃ sm, plus y z = sm := ⟨_, rfl⟩
                        obtain ⟨hf, hhf⟩ : ∃ hf, half sm = hf := ⟨_, rfl⟩
                        obtain ⟨cl, hcl⟩ : ∃ cl, clipV (mn x hf) = cl := ⟨_, rfl⟩
                        have ATT : Aside0 (∀ (a b : Nat) (aa bb : Int) (W : World), a < n2 → b < n2 → aa = (a : Int) → bb = (b : Int) → US w bo br bt bc #[.slice A0 vars.length c0, .slice A1 m.length c1, .bool false] #[.int .i64 nn, .slice Ad NN cd] (.slice Ad NN cd) (.slice Av vars.length cv) (.slice (some ⟨g, 0, none⟩) NN cc) vars W (lst n2 T0) (lst n2 (upTo C0 i j)) → Calls Try.prog 51 #[.agg #[.int .i64 nn, .slice Ad NN cd], .int .i64 aa, .int .i64 bb] W fun e w' => e = .returned (.int .i64 (T0 a b)) ∧ Below W.heap.size W w') := ⟨fun a b aa bb W ha hb haa hbb hW => by
                          have hl4 := HN2.out
                          have hrr := Kd.R_reads' hW.ts.row
                          have e1 : aa * (2 * (vars.length : Int)) + bb = ((a * n2 + b : Nat) : Int) := by rw [haa, hbb, hl4]; push_cast; rfl
                          have h := oct_full_at.calls (2 * (vars.length : Int)) Ad cd (lst n2 T0) aa bb (T0 a b) W hrr.2.2 (by rw [← hrr.1]; exact hrr.2.1) (by
                            rw [at_ok HL.out (by rw [lst_length, hl4]; push_cast; rfl) (by omega) (by omega) (by omega) (by omega), lst_rd ha hb e1])
                          rw [← hrr.1, HNV.out] at h
                          exact h⟩
                        have AT1 : Aside0 (∀ W, US w bo br bt bc #[.slice A0 vars.length c0, .slice A1 m.length c1, .bool false] #[.int .i64 nn, .slice Ad NN cd] (.slice Ad NN cd) (.slice Av vars.length cv) (.slice (some ⟨g, 0, none⟩) NN cc) vars W (lst n2 T0) (lst n2 (upTo C0 i j)) → Calls Try.prog 51 #[.agg #[.int .i64 nn, .slice Ad NN cd], .int .i64 ii, .int .i64 jj] W fun e w' => e = .returned (.int .i64 x) ∧ Below W.heap.size W w') := ⟨fun W hW => by rw [← hx]; exact ATT.out i j ii jj W HIL.out HJL.out HII.out.1 HJJ.out.1 hW⟩
                        have AT2 : Aside0 (∀ W, US w bo br bt bc #[.slice A0 vars.length c0, .slice A1 m.length c1, .bool false] #[.int .i64 nn, .slice Ad NN cd] (.slice Ad NN cd) (.slice Av vars.length cv) (.slice (some ⟨g, 0, none⟩) NN cc) vars W (lst n2 T0) (lst n2 (upTo C0 i j)) → Calls Try.prog 51 #[.agg #[.int .i64 nn, .slice Ad NN cd], .int .i64 ii, .int .i64 bi] W fun e w' => e = .returned (.int .i64 y) ∧ Below W.heap.size W w') := ⟨fun W hW => by rw [← hy]; exact ATT.out i (nb i) ii bi W HIL.out HBI.out.2 HII.out.1 HBI.out.1 hW⟩
                        have AT3 : Aside0 (∀ W, US w bo br bt bc #[.slice A0 vars.length c0, .slice A1 m.length c1, .bool false] #[.int .i64 nn, .slice Ad NN cd] (.slice Ad NN cd) (.slice Av vars.length cv) (.slice (some ⟨g, 0, none⟩) NN cc) vars W (lst n2 T0) (lst n2 (upTo C0 i j)) → Calls Try.prog 51 #[.agg #[.int .i64 nn, .slice Ad NN cd], .int .i64 bj, .int .i64 jj] W fun e w' => e = .returned (.int .i64 z) ∧ Below W.heap.size W w') := ⟨fun W hW => by rw [← hz]; exact ATT.out (nb j) j bj jj W HBJ.out.2 HJL.out HBJ.out.1 HJJ.out.1 hW⟩
                        have UP : Aside0 (∀ W, Calls Try.prog 57 #[.int .i64 y, .int .i64 z] W fun e w' => e = .returned (.int .i64 sm) ∧ Below W.heap.size W w') := ⟨fun W => bound_Up.calls y z sm W (by
                          rw [← hsm]; exact up_plus (B := 72057594037927938) (by decide) (by decide) (hy ▸ HTD.out i (nb i) HIL.out HBI.out.2) (hz ▸ HTD.out (nb j) j HBJ.out.2 HJL.out))⟩
                        have HALF : Aside0 (∀ W, Calls Try.prog 56 #[.int .i64 sm] W fun e w' => e = .returned (.int .i64 hf) ∧ Drawn0 W w') := ⟨fun W => bound_Half.calls sm hf W (by
                          rw [← hhf]; refine half_half ?_
                          have b1 := hy ▸ HTD.out i (nb i) HIL.out HBI.out.2; have b2 := hz ▸ HTD.out (nb j) j HBJ.out.2 HJL.out
                          rw [← hsm]; unfold Fin' plus at *; split <;> omega)⟩
                        obtain ⟨mv, hmv⟩ : ∃ mv, (if hf < x then hf else x) = mv := ⟨_, rfl⟩
                        have CLIP : Aside0 (∀ W, Calls Try.prog 58 #[.int .i64 mv] W fun e w' => e = .returned (.int .i64 cl) ∧ Below W.heap.size W w') := ⟨fun W => oct_clip.calls mv cl W (by rw [← hcl, ← hmv]; exact clip_clip _)⟩
                        have HS : Aside0 (C0 i j = cl) := ⟨by rw [← HC.out]; unfold closeM strg; rw [HD0.out, HT0.out, hx, hy, hz, hsm, hhf]; exact hcl⟩
                        obtain ⟨q1, hq1⟩ : ∃ q, IntKind.i64.wrap (ii * nn) = q := ⟨_, rfl⟩
                        obtain ⟨p, hp⟩ : ∃ q, IntKind.i64.wrap (q1 + jj) = q := ⟨_, rfl⟩
                        have HPP : Aside0 (p = ((i * n2 + j : Nat) : Int)) := ⟨by
                          have h2 := HII.out.1; have h3 := HJJ.out.1; have h4 := HNV.out; have h5 := HN2.out; have h6 := HL.out; have h7 := HIL.out; have h8 := HJL.out
                          have e1 : ii * nn = ((i * n2 : Nat) : Int) := by rw [h2, ← h4, h5]; push_cast; rfl
                          have m1 : i * n2 ≤ 16 * 16 := Nat.mul_le_mul (by omega) (by omega)
                          rw [e1, IntKind.wrap_i64] at hq1
                          rw [IntKind.wrap_i64] at hp
                          have r1 : q1 = ((i * n2 : Nat) : Int) := by omega
                          clear e1 hq1 hx hy hz hsm hhf hcl hbi hbj hmv
                          subst r1
                          omega⟩
                        have HPB : Aside0 (0 ≤ p ∧ p < (NN : Int)) := ⟨by have := ij_lt HIL.out HJL.out; rw [HNN.out] at this; have := HPP.out; omega⟩
                        have r10 := eq_true HPB.out.1
                        have r11 := eq_true HPB.out.2
                        obtain ⟨ht0, ht1⟩ := HU.out.ts.tcells
                        have hc1' := blk_cell HU.out.c 1
                        simp only [List.getElem?_toArray, List.getElem?_cons_succ, List.getElem?_cons_zero] at hc1'
                        clear hlt hbi hbj hx hy hz hsm hhf hcl ATT
                        go_wp2
                        go_region_held3 (fun w' => w'.cell? ⟨bt, 0, none⟩ = some (.int .i64 nn) ∧ w'.cell? ⟨bt, 1, none⟩ = some (.slice Ad NN cd) ∧ w'.cell? ⟨bc, 1, none⟩ = some (.slice (some ⟨g, 0, none⟩) NN cc)) (first | go_keep | exact ⟨KS.1, KS.2, KC⟩)
                          (first
                           | (go_at_call 52; (with_reducible refine (BAR1.out _).mono ?_); rintro e w' ⟨rfl, rfl⟩)
                           | (go_at_call 52; (with_reducible refine (BAR2.out _).mono ?_); rintro e w' ⟨rfl, rfl⟩)
                           | (go_at_call 51; (with_reducible refine (AT1.out _ (US.next HU.out (below_drew (Below.refl _ _)))).mono ?_); rintro e w1 ⟨rfl, hb⟩; have HU1 := Aside0.mk (US.next (US.next HU.out (below_drew (Below.refl _ _))) hb); have KS := HU1.out.ts.tcells; have KC : w1.cell? ⟨bc, 1, none⟩ = some (.slice (some ⟨g, 0, none⟩) NN cc) := (blk_cell HU1.out.c 1).trans rfl; clear hb AT1 HU)
                           | (go_at_call 51; (with_reducible refine (AT2.out _ HU1.out).mono ?_); rintro e w2 ⟨rfl, hb⟩; have HU2 := Aside0.mk (US.next HU1.out hb); clear KS KC; have KS := HU2.out.ts.tcells; have KC : w2.cell? ⟨bc, 1, none⟩ = some (.slice (some ⟨g, 0, none⟩) NN cc) := (blk_cell HU2.out.c 1).trans rfl; clear hb AT2 HU1)
                           | (go_at_call 51; (with_reducible refine (AT3.out _ HU2.out).mono ?_); rintro e w3 ⟨rfl, hb⟩; have HU3 := Aside0.mk (US.next HU2.out hb); clear KS KC; have KS := HU3.out.ts.tcells; have KC : w3.cell? ⟨bc, 1, none⟩ = some (.slice (some ⟨g, 0, none⟩) NN cc) := (blk_cell HU3.out.c 1).trans rfl; clear hb AT3 HU2)
                           | (go_at_call 57; (with_reducible refine (UP.out _).mono ?_); rintro e w4 ⟨rfl, hb⟩; have HU4 := Aside0.mk (US.next HU3.out hb); clear KS KC; have KS := HU4.out.ts.tcells; have KC : w4.cell? ⟨bc, 1, none⟩ = some (.slice (some ⟨g, 0, none⟩) NN cc) := (blk_cell HU4.out.c 1).trans rfl; clear hb UP HU3)
                           | (go_at_call 56; (with_reducible refine (HALF.out _).mono ?_); rintro e w5 ⟨rfl, hb⟩; have HU5 := Aside0.mk (US.next HU4.out hb.below); clear KS KC; have KS := HU5.out.ts.tcells; have KC : w5.cell? ⟨bc, 1, none⟩ = some (.slice (some ⟨g, 0, none⟩) NN cc) := (blk_cell HU5.out.c 1).trans rfl; clear hb HALF HU4)
                           | (go_at_call 58; (with_reducible refine (CLIP.out _).mono ?_); rintro e w6 ⟨rfl, hb⟩; have HU6 := Aside0.mk (US.next HU5.out hb); clear KS KC; have KS := HU6.out.ts.tcells; have KC : w6.cell? ⟨bc, 1, none⟩ = some (.slice (some ⟨g, 0, none⟩) NN cc) := (blk_cell HU6.out.c 1).trans rfl; obtain ⟨hz1, hz2⟩ := Kd.R_celln 0 HU6.out.rc p HPB.out.1 HPB.out.2; clear hb CLIP HU5))
                        go_wp2
                        go_roundg (n2 - (j + 1))
                        case measure => have := HJJ.out; have := HJL.out; omega
                        case rel =>
                          have hw : wrap64 (jj + 1) = jj + 1 := by have := HJJ.out; have := HN2.out; have := HL.out; have := HJL.out; unfold wrap64; omega
                          refine ⟨j + 1, wrap64 (jj + 1), rfl, ⟨by have := HJJ.out; have := HJL.out; omega⟩, ⟨?_⟩⟩
                          have h1 := US.put HU6.out (HP0.out _) p cl
                          rw [lst_set HIL.out HJL.out HPP.out, ← HS.out, lst_congr (fun a b _ _ => (upTo_step a b).symm)] at h1
                          rw [HS.out] at h1
                          exact h1
                      · have f4 : decide (jj < nn) = false := decide_eq_false (by have := HN2.out; have := HJJ.out; have := HNV.out; omega)
                        have ej : j = n2 := by have := HJJ.out; omega
                        have HEJ := Aside0.mk ej
                        clear hlt ej
                        go_wp2
                        go_roundg (n2 - (i + 1))
                        case measure => have := HII.out; have := HIL.out; omega
                        case rel =>
                          have hw : wrap64 (ii + 1) = ii + 1 := by have := HII.out; have := HN2.out; have := HL.out; have := HIL.out; unfold wrap64; omega
                          refine ⟨i + 1, wrap64 (ii + 1), rfl, ⟨by have := HII.out; have := HIL.out; omega⟩, ⟨?_⟩⟩
                          have h1 := HU.out
                          rw [HEJ.out, lst_congr (fun a b _ hb => upTo_row a b hb)] at h1
                          exact h1
                  · have f3 : decide (ii < nn) = false := decide_eq_false (by have := HN2.out; have := HII.out; have := HNV.out; omega)
                    have ei : i = n2 := by have := HII.out; omega
                    have HEI := Aside0.mk ei
                    clear hlt ei
                    have hc0' := blk_cell HU.out.c 0
                    have hc1' := blk_cell HU.out.c 1
                    have hc2' := blk_cell HU.out.c 2
                    simp only [List.getElem?_toArray, List.getElem?_cons_succ, List.getElem?_cons_zero] at hc0' hc1' hc2'
                    obtain ⟨⟨hr0, hr1, hr2⟩, hr3, hr4, hr5⟩ := HU.out.ts.ob.res
                    go_wp2
                    refine bodyPost_ret (results_cell_row rfl _ _ br 25 #[.slice Av vars.length cv, .slice Ac NN cc, .bool false] (0, 0) _ rfl (store3 HU.out.ts.ob.r _ _ _).1 Try.underlying25 rfl (by kernel_rfl)) rfl ?_
                    have hcl : closeL n2 M0 = lst n2 C0 := by unfold closeL; rw [if_pos HCB.out, HC.out]
                    rw [HCB.out, hcl]
                    have h1 := HU.out.rc
                    rw [HEI.out, lst_congr (fun a b ha _ => upTo_all a b ha)] at h1
                    exact ⟨_, _, rfl, OB.answer HU.out.ts.ob (Nat.le_refl _) HU.out.rv (Kd.R_lower h1 HU.out.ts.tb) _⟩
end Go.Proofs.Ytomgebmimgaojaa.QO
end
end
section
/- Written by a program of this session out of the translation. -/
noncomputable section
namespace Go.Proofs.Ytomgebmimgaojaa.QO
open Go.RowKit Go.Proofs.YtomgebmimgaojaaW.PrintWords Go.Proofs.YtomgebmimgaojaaW.PrintLast
set_option linter.unusedVariables false
set_option linter.unusedSimpArgs false
/-! ### oct_Close: function 22 -/
def oct_Close.f (l0_0 : List Int) (l0_1 : List Int) (a0_2 : Bool) : Option (List Int × List Int × Bool) := if ofitB l0_0 l0_1 a0_2 = true then some (closeF l0_0 l0_1 a0_2) else none
theorem oct_Close.calls (A0_0 : Option Addr) (c0_0 : Nat) (l0_0 : List Int) (A0_1 : Option Addr) (c0_1 : Nat) (l0_1 : List Int) (a0_2 : Bool) (r1 : List Int) (r2 : List Int) (r3 : Bool) (w : World) (hr0_0 : Kd.C (Kd.int .i64) w A0_0 l0_0.length l0_0) (hc0_0 : l0_0.length ≤ c0_0) (hr0_1 : Kd.C (Kd.int .i64) w A0_1 l0_1.length l0_1) (hc0_1 : l0_1.length ≤ c0_1) (h : oct_Close.f l0_0 l0_1 a0_2 = some (r1, r2, r3)) :
 Calls Try.prog 22 #[.agg #[.slice A0_0 l0_0.length c0_0, .slice A0_1 l0_1.length c0_1, .bool a0_2]] w fun e w' => ∃ v0_ v1_ : Value, e = .returned (.agg #[v0_, v1_, .bool r3]) ∧ Kd.R (Kd.int .i64) 3 w' w.heap.size (fun _ => True) v0_ r1 ∧ Kd.R (Kd.int .i64) 2 w' w.heap.size (fun _ => True) v1_ r2 ∧ Below w.heap.size w w' := by
 unfold oct_Close.f at h
 by_cases hf : ofitB l0_0 l0_1 a0_2 = true
 ·
  rw [if_pos hf] at h
  have e := Option.some.inj h
  have hc := oct_Close_any A0_0 c0_0 l0_0 A0_1 c0_1 l0_1 a0_2 w hr0_0 hc0_0 hr0_1 hc0_1 (ofitB_true.1 hf)
  rw [e] at hc
  exact hc
 ·
  rw [if_neg hf] at h; cases h
end Go.Proofs.Ytomgebmimgaojaa.QO
end
end
section
/- Written by a program of this session out of the translation. -/
noncomputable section
namespace Go.Proofs.Ytomgebmimgaojaa.QO
open Go.RowKit Go.Proofs.YtomgebmimgaojaaW.PrintWords Go.Proofs.YtomgebmimgaojaaW.PrintLast
set_option linter.unusedVariables false
set_option linter.unusedSimpArgs false
/-! ### slices_Index_int_int: function 92 -/
def slices_Index_int_int.l0 : Nat → List Int → Int → Int → Int → Option (Int)
 | 0, _, _, _, _ => none
 | k + 1, x0, x1, x7, x8 => if x8 < x7 then (if 0 ≤ x8 then (if x8 < (x0.length : Int) then (if x1 = (rd x0 x8) then (some x8) else (slices_Index_int_int.l0 k x0 x1 x7 (wrap64 (x8 + 1)))) else (none)) else (none)) else (some (-1))
def slices_Index_int_int.f (k : Nat) (l0 : List Int) (a1 : Int) : Option (Int) := slices_Index_int_int.l0 k l0 a1 (l0.length : Int) 0
theorem slices_Index_int_int.mono_l : ∀ k, (∀ y0 y1 y2 y3, LeO (slices_Index_int_int.l0 k y0 y1 y2 y3) (slices_Index_int_int.l0 (k + 1) y0 y1 y2 y3))
 | 0 => fun _ _ _ _ r h => by simp [slices_Index_int_int.l0] at h
 | k + 1 => by
  have ih0 := slices_Index_int_int.mono_l k
  ·
   intro y0 y1 y2 y3
   unfold slices_Index_int_int.l0
   repeat' first
   | (with_reducible exact ih0 _ _ _ _)
   | (with_reducible exact LeO.refl _)
   | (with_reducible exact LeO.none _)
   | (with_reducible refine LeO.ite ?_ ?_)
   | (with_reducible refine LeO.bind ?_ (fun _ => ?_))
   | exact ih0 _ _ _ _
   | exact LeO.none _
   | refine LeO.ite ?_ ?_
   | refine LeO.bind ?_ (fun _ => ?_)
theorem slices_Index_int_int.mono : ∀ a0 a1 k, LeO (slices_Index_int_int.f k a0 a1) (slices_Index_int_int.f (k + 1) a0 a1) := by
 intro a0 a1 k
 have ih0 := slices_Index_int_int.mono_l k
 unfold slices_Index_int_int.f
 repeat' first
  | (with_reducible exact ih0 _ _ _ _)
  | (with_reducible exact LeO.refl _)
  | (with_reducible exact LeO.none _)
  | (with_reducible refine LeO.ite ?_ ?_)
  | (with_reducible refine LeO.bind ?_ (fun _ => ?_))
  | exact ih0 _ _ _ _
  | exact LeO.none _
  | refine LeO.ite ?_ ?_
  | refine LeO.bind ?_ (fun _ => ?_)
set_option maxHeartbeats 8000000 in
set_option maxRecDepth 100000 in
theorem slices_Index_int_int.calls (k : Nat) (A0 : Option Addr) (c0 : Nat) (l0 : List Int) (a1 : Int) (r : Int) (w : World) (hr0 : Kd.C (Kd.int .i64) w A0 l0.length l0) (hc0 : l0.length ≤ c0) (h : slices_Index_int_int.f k l0 a1 = some r) :
 Calls Try.prog 92 #[.slice A0 l0.length c0, .int .i64 a1] w fun e w' => e = .returned (.int .i64 r) ∧ Drawn0 w w' := by
 have HR0 := Aside0.mk hr0
 have HC0 := Aside0.mk hc0
 clear hr0 hc0
 have H : (slices_Index_int_int.l0 k l0 a1 (l0.length : Int) 0) = some r := h
 clear h
 have H' := Aside0.mk H
 clear H
 go_enter Try.func92, Try.ntmps92
 go_wp2
 go_loopg [8] k (fun kq v8 w' => ∃ (x8_1 : Int), v8 = .int .i64 x8_1 ∧ Aside0 (slices_Index_int_int.l0 kq l0 a1 (l0.length : Int) x8_1 = some r) ∧ Aside0 (kq ≤ k) ∧ Drawn0 w w')
 case atStart => exact ⟨(0), (by first | rfl | (simp; done) | (simp [*]; done)), H', ⟨Nat.le_refl _⟩, by repeat (first | exact Drawn0.refl _ | apply Drawn0.step)⟩
 case round =>
  clear H'
  try clear p2
  obtain ⟨x8_1, rfl, HA, HK1, ⟨m1, rfl⟩⟩ := hrel
  cases gk with
  | zero => exact absurd HA.out (by simp [slices_Index_int_int.l0])
  | succ k1 =>
   have H := HA.out
   clear HA
   simp only [slices_Index_int_int.l0] at H
   by_cases c3 : x8_1 < (l0.length : Int)
   ·
    rw [if_pos c3] at H
    have c3b0 : decide (x8_1 < (l0.length : Int)) = true := decide_eq_true c3
    clear c3
    by_cases c4 : 0 ≤ x8_1
    ·
     rw [if_pos c4] at H
     have c4b0 : decide (0 ≤ x8_1) = true := decide_eq_true c4
     clear c4
     by_cases c5 : x8_1 < (l0.length : Int)
     ·
      rw [if_pos c5] at H
      have c5b0 : decide (x8_1 < (l0.length : Int)) = true := decide_eq_true c5
      clear c5
      by_cases c6 : a1 = (rd l0 x8_1)
      ·
       rw [if_pos c6] at H
       have c6b0 : (a1 == (rd l0 x8_1)) = true := beq_iff_eq.mpr c6
       have c6b1 : (a1 != (rd l0 x8_1)) = false := bne_eq_false_iff_eq.mpr c6
       clear c6
       obtain rfl := Option.some.inj H
       have p265 : 0 ≤ (x8_1 : Int) := of_decide_eq_true (by first | (with_reducible assumption) | assumption)
       have q265 : x8_1 < (l0.length : Int) := of_decide_eq_true (by first | (with_reducible assumption) | assumption)
       obtain ⟨ad265, e265, hx265_0⟩ := Kd.at_int HR0.out x8_1 p265 q265
       cases e265
       replace p265 := eq_true p265
       replace q265 := eq_true q265
       go_wp2
       go_ret
       exact ⟨by first | rfl | (simp; done) | (simp [*]; done), by repeat (first | exact Drawn0.refl _ | apply Drawn0.step)⟩
      ·
       rw [if_neg c6] at H
       have c6b0 : (a1 == (rd l0 x8_1)) = false := beq_eq_false_iff_ne.mpr c6
       have c6b1 : (a1 != (rd l0 x8_1)) = true := bne_iff_ne.mpr c6
       have H' := Aside0.mk H
       clear H
       have p265 : 0 ≤ (x8_1 : Int) := of_decide_eq_true (by first | (with_reducible assumption) | assumption)
       have q265 : x8_1 < (l0.length : Int) := of_decide_eq_true (by first | (with_reducible assumption) | assumption)
       obtain ⟨ad265, e265, hx265_0⟩ := Kd.at_int HR0.out x8_1 p265 q265
       cases e265
       replace p265 := eq_true p265
       replace q265 := eq_true q265
       go_wp2
       go_roundg k1
       case measure => have := HK1.out; omega
       case rel => exact ⟨(wrap64 (x8_1 + 1)), (by first | rfl | (simp; done) | (simp [*]; done)), H', ⟨by have := HK1.out; omega⟩, by repeat (first | exact Drawn0.refl _ | apply Drawn0.step)⟩
     ·
      rw [if_neg c5] at H
      exact absurd H (by simp)
    ·
     rw [if_neg c4] at H
     exact absurd H (by simp)
   ·
    rw [if_neg c3] at H
    have c3b0 : decide (x8_1 < (l0.length : Int)) = false := decide_eq_false c3
    clear c3
    obtain rfl := Option.some.inj H
    go_wp2
    go_ret
    exact ⟨by first | rfl | (simp; done) | (simp [*]; done), by repeat (first | exact Drawn0.refl _ | apply Drawn0.step)⟩
end Go.Proofs.Ytomgebmimgaojaa.QO
end
end
section
/- Written by a program of this session out of the translation. -/
noncomputable section
namespace Go.Proofs.Ytomgebmimgaojaa.QO
open Go.RowKit Go.Proofs.YtomgebmimgaojaaW.PrintWords Go.Proofs.YtomgebmimgaojaaW.PrintLast
set_option linter.unusedVariables false
set_option linter.unusedSimpArgs false
/-! ### oct_node: function 74 -/
def oct_node.f (k : Nat) (l0_0 : List Int) (l0_1 : List Int) (a0_2 : Bool) (a1 : Int) (a2 : Int) : Option (Int) := (slices_Index_int_int.f k l0_0 a1).bind fun t267 => (if t267 ≥ 0 then (if a2 < 0 then (some (wrap64 ((wrap64 (2 * t267)) + 1))) else (some (wrap64 (2 * t267)))) else (some (wrap64 (2 * t267))))
theorem oct_node.mono : ∀ a0 a1 a2 a3 a4 k, LeO (oct_node.f k a0 a1 a2 a3 a4) (oct_node.f (k + 1) a0 a1 a2 a3 a4) := by
 intro a0 a1 a2 a3 a4 k
 unfold oct_node.f
 repeat' first
  | (with_reducible exact slices_Index_int_int.mono _ _ _)
  | (with_reducible exact LeO.refl _)
  | (with_reducible exact LeO.none _)
  | (with_reducible refine LeO.ite ?_ ?_)
  | (with_reducible refine LeO.bind ?_ (fun _ => ?_))
  | exact slices_Index_int_int.mono _ _ _
  | exact LeO.none _
  | refine LeO.ite ?_ ?_
  | refine LeO.bind ?_ (fun _ => ?_)
set_option maxHeartbeats 8000000 in
set_option maxRecDepth 100000 in
theorem oct_node.calls (k : Nat) (A0_0 : Option Addr) (c0_0 : Nat) (l0_0 : List Int) (A0_1 : Option Addr) (c0_1 : Nat) (l0_1 : List Int) (a0_2 : Bool) (a1 : Int) (a2 : Int) (r : Int) (w : World) (hr0_0 : Kd.C (Kd.int .i64) w A0_0 l0_0.length l0_0) (hc0_0 : l0_0.length ≤ c0_0) (hr0_1 : Kd.C (Kd.int .i64) w A0_1 l0_1.length l0_1) (hc0_1 : l0_1.length ≤ c0_1) (h : oct_node.f k l0_0 l0_1 a0_2 a1 a2 = some r) :
 Calls Try.prog 74 #[.agg #[.slice A0_0 l0_0.length c0_0, .slice A0_1 l0_1.length c0_1, .bool a0_2], .int .i64 a1, .int .i64 a2] w fun e w' => e = .returned (.int .i64 r) ∧ Below w.heap.size w w' := by
 have hu25 := Try.underlying25
 have HR0_0 := Aside0.mk hr0_0
 have HC0_0 := Aside0.mk hc0_0
 clear hr0_0 hc0_0
 have HR0_1 := Aside0.mk hr0_1
 have HC0_1 := Aside0.mk hc0_1
 clear hr0_1 hc0_1
 have HB := Aside0.mk (Below.refl w.heap.size w)
 have H : ((slices_Index_int_int.f k l0_0 a1).bind fun t267 => (if t267 ≥ 0 then (if a2 < 0 then (some (wrap64 ((wrap64 (2 * t267)) + 1))) else (some (wrap64 (2 * t267)))) else (some (wrap64 (2 * t267))))) = some r := h
 clear h
 replace H := Option.bind_eq_some_iff.mp H
 obtain ⟨t267, A40, H⟩ := H
 replace H : (if t267 ≥ 0 then (if a2 < 0 then (some (wrap64 ((wrap64 (2 * t267)) + 1))) else (some (wrap64 (2 * t267)))) else (some (wrap64 (2 * t267)))) = some r := H
 have A4 := Aside0.mk A40
 clear A40
 by_cases c5 : t267 ≥ 0
 ·
  rw [if_pos c5] at H
  have c5b0 : decide (0 ≤ t267) = true := decide_eq_true c5
  clear c5
  by_cases c6 : a2 < 0
  ·
   rw [if_pos c6] at H
   have c6b0 : decide (a2 < 0) = true := decide_eq_true c6
   clear c6
   obtain rfl := Option.some.inj H
   go_enter Try.func74, Try.ntmps74
   go_wp2_with (first | ((with_reducible refine gate_dst (N := 3) rfl ?_); refine box_event ?hg (N := 3) ?hd (cs := #[.slice A0_0 l0_0.length c0_0, .slice A0_1 l0_1.length c0_1, .bool a0_2]) (t := 25) ?hr ?_; (case hd => rfl); (case hg => rfl); (case hr => first | (go_simp; done) | (go_simp; rfl)); intro gb266 hg w7 hbox hb; have BK266 := Aside0.mk (hbox); have GW266 := vS hg HB; have GE266 := vS hg HB; replace HB := vWs HB hb; clear hb hbox hg; obtain ⟨hcz8_0, hcz8_1, hcz8_2, hfz8_0, hfz8_1, hfz8_2⟩ := vF3 BK266.out) | ((with_reducible refine gate_callee (f := 92) rfl ?_); refine goesL_ (some 11) rfl rfl Try.func92 (by kernel_rfl) rfl #[.slice A0_0 l0_0.length c0_0, .int .i64 a1] rfl vL ?_; (with_reducible refine (slices_Index_int_int.calls k _ _ l0_0 a1 t267 _ ?side1 ?side2 A4.out).mono ?_); (case side1 => exact vC (Kd.C_below HR0_0.out HB.out)); (case side2 => exact HC0_0.out); rintro e w' ⟨rfl, ⟨nd, rfl⟩⟩; refine ⟨_, rfl, ?_⟩))
   go_ret
   exact ⟨by first | rfl | (simp [errW_none, errW_some] <;> rfl) | (simp [*, errW_none, errW_some] <;> rfl) | (simp [wrap64]; done), vW HB.out⟩
  ·
   rw [if_neg c6] at H
   have c6b0 : decide (a2 < 0) = false := decide_eq_false c6
   clear c6
   obtain rfl := Option.some.inj H
   go_enter Try.func74, Try.ntmps74
   go_wp2_with (first | ((with_reducible refine gate_dst (N := 3) rfl ?_); refine box_event ?hg (N := 3) ?hd (cs := #[.slice A0_0 l0_0.length c0_0, .slice A0_1 l0_1.length c0_1, .bool a0_2]) (t := 25) ?hr ?_; (case hd => rfl); (case hg => rfl); (case hr => first | (go_simp; done) | (go_simp; rfl)); intro gb266 hg w9 hbox hb; have BK266 := Aside0.mk (hbox); have GW266 := vS hg HB; have GE266 := vS hg HB; replace HB := vWs HB hb; clear hb hbox hg; obtain ⟨hcz10_0, hcz10_1, hcz10_2, hfz10_0, hfz10_1, hfz10_2⟩ := vF3 BK266.out) | ((with_reducible refine gate_callee (f := 92) rfl ?_); refine goesL_ (some 11) rfl rfl Try.func92 (by kernel_rfl) rfl #[.slice A0_0 l0_0.length c0_0, .int .i64 a1] rfl vL ?_; (with_reducible refine (slices_Index_int_int.calls k _ _ l0_0 a1 t267 _ ?side1 ?side2 A4.out).mono ?_); (case side1 => exact vC (Kd.C_below HR0_0.out HB.out)); (case side2 => exact HC0_0.out); rintro e w' ⟨rfl, ⟨nd, rfl⟩⟩; refine ⟨_, rfl, ?_⟩))
   go_ret
   exact ⟨by first | rfl | (simp [errW_none, errW_some] <;> rfl) | (simp [*, errW_none, errW_some] <;> rfl) | (simp [wrap64]; done), vW HB.out⟩
 ·
  rw [if_neg c5] at H
  have c5b0 : decide (0 ≤ t267) = false := decide_eq_false c5
  clear c5
  obtain rfl := Option.some.inj H
  go_enter Try.func74, Try.ntmps74
  go_wp2_with (first | ((with_reducible refine gate_dst (N := 3) rfl ?_); refine box_event ?hg (N := 3) ?hd (cs := #[.slice A0_0 l0_0.length c0_0, .slice A0_1 l0_1.length c0_1, .bool a0_2]) (t := 25) ?hr ?_; (case hd => rfl); (case hg => rfl); (case hr => first | (go_simp; done) | (go_simp; rfl)); intro gb266 hg w11 hbox hb; have BK266 := Aside0.mk (hbox); have GW266 := vS hg HB; have GE266 := vS hg HB; replace HB := vWs HB hb; clear hb hbox hg; obtain ⟨hcz12_0, hcz12_1, hcz12_2, hfz12_0, hfz12_1, hfz12_2⟩ := vF3 BK266.out) | ((with_reducible refine gate_callee (f := 92) rfl ?_); refine goesL_ (some 11) rfl rfl Try.func92 (by kernel_rfl) rfl #[.slice A0_0 l0_0.length c0_0, .int .i64 a1] rfl vL ?_; (with_reducible refine (slices_Index_int_int.calls k _ _ l0_0 a1 t267 _ ?side1 ?side2 A4.out).mono ?_); (case side1 => exact vC (Kd.C_below HR0_0.out HB.out)); (case side2 => exact HC0_0.out); rintro e w' ⟨rfl, ⟨nd, rfl⟩⟩; refine ⟨_, rfl, ?_⟩))
  go_ret
  exact ⟨by first | rfl | (simp [errW_none, errW_some] <;> rfl) | (simp [*, errW_none, errW_some] <;> rfl) | (simp [wrap64]; done), vW HB.out⟩
end Go.Proofs.Ytomgebmimgaojaa.QO
end
end
section
/- Written by a program of this session out of the translation. -/
noncomputable section
namespace Go.Proofs.Ytomgebmimgaojaa.QO
open Go.RowKit Go.Proofs.YtomgebmimgaojaaW.PrintWords Go.Proofs.YtomgebmimgaojaaW.PrintLast
set_option linter.unusedVariables false
set_option linter.unusedSimpArgs false
/-! ### bound_Down: function 75 -/
def bound_Down.f (a0 : Int) (a1 : Int) : Option (Int) := (bound_Fit.f a0).bind fun t268 => ((bound_Fit.f a1).bind fun t269 => ((bound_Up.f (wrap64 (-t268)) (wrap64 (-t269))).bind fun t270 => (some (wrap64 (-t270)))))
set_option maxHeartbeats 8000000 in
set_option maxRecDepth 100000 in
theorem bound_Down.calls (a0 : Int) (a1 : Int) (r : Int) (w : World) (h : bound_Down.f a0 a1 = some r) :
 Calls Try.prog 75 #[.int .i64 a0, .int .i64 a1] w fun e w' => e = .returned (.int .i64 r) ∧ Below w.heap.size w w' := by
 have HB := Aside0.mk (Below.refl w.heap.size w)
 have H : ((bound_Fit.f a0).bind fun t268 => ((bound_Fit.f a1).bind fun t269 => ((bound_Up.f (wrap64 (-t268)) (wrap64 (-t269))).bind fun t270 => (some (wrap64 (-t270)))))) = some r := h
 clear h
 replace H := Option.bind_eq_some_iff.mp H
 obtain ⟨t268, A30, H⟩ := H
 replace H : ((bound_Fit.f a1).bind fun t269 => ((bound_Up.f (wrap64 (-t268)) (wrap64 (-t269))).bind fun t270 => (some (wrap64 (-t270))))) = some r := H
 have A3 := Aside0.mk A30
 clear A30
 replace H := Option.bind_eq_some_iff.mp H
 obtain ⟨t269, A40, H⟩ := H
 replace H : ((bound_Up.f (wrap64 (-t268)) (wrap64 (-t269))).bind fun t270 => (some (wrap64 (-t270)))) = some r := H
 have A4 := Aside0.mk A40
 clear A40
 replace H := Option.bind_eq_some_iff.mp H
 obtain ⟨t270, A50, H⟩ := H
 replace H : (some (wrap64 (-t270))) = some r := H
 have A5 := Aside0.mk A50
 clear A50
 obtain rfl := Option.some.inj H
 go_enter Try.func75, Try.ntmps75
 go_wp2_with (first | ((with_reducible refine gate_callee (f := 83) rfl ?_); refine goesL_ (some 6) rfl rfl Try.func83 (by kernel_rfl) rfl #[.int .i64 a0] rfl vL ?_; (with_reducible refine (bound_Fit.calls a0 t268 _ A3.out).mono ?_); rintro e w' ⟨rfl, ⟨nd, rfl⟩⟩; refine ⟨_, rfl, ?_⟩) | ((with_reducible refine gate_callee (f := 83) rfl ?_); refine goesL_ (some 9) rfl rfl Try.func83 (by kernel_rfl) rfl #[.int .i64 a1] rfl vL ?_; (with_reducible refine (bound_Fit.calls a1 t269 _ A4.out).mono ?_); rintro e w' ⟨rfl, ⟨nd, rfl⟩⟩; refine ⟨_, rfl, ?_⟩) | ((with_reducible refine gate_callee (f := 57) rfl ?_); refine goesL_ (some 11) rfl rfl Try.func57 (by kernel_rfl) rfl #[.int .i64 (wrap64 (-t268)), .int .i64 (wrap64 (-t269))] rfl vL ?_; (with_reducible refine (bound_Up.calls (wrap64 (-t268)) (wrap64 (-t269)) t270 _ A5.out).mono ?_); rintro e w6 ⟨rfl, hb⟩; refine ⟨_, rfl, ?_⟩; replace HB := vWs HB hb; (try clear hb); (try clear hb2); (try clear hk); (try clear hi)))
 go_ret
 exact ⟨by first | rfl | (simp [errW_none, errW_some] <;> rfl) | (simp [*, errW_none, errW_some] <;> rfl) | (simp [wrap64]; done), vW HB.out⟩
end Go.Proofs.Ytomgebmimgaojaa.QO
end
end
section
/- Written by a program of this session out of the translation. -/
noncomputable section
namespace Go.Proofs.Ytomgebmimgaojaa.QO
open Go.RowKit Go.Proofs.YtomgebmimgaojaaW.PrintWords Go.Proofs.YtomgebmimgaojaaW.PrintLast
set_option linter.unusedVariables false
set_option linter.unusedSimpArgs false
/-! ### bound_Neg: function 76 -/
def bound_Neg.f (a0 : Int) : Option (Int) := (bound_Fit.f a0).bind fun t271 => (some (wrap64 (-t271)))
set_option maxHeartbeats 8000000 in
set_option maxRecDepth 100000 in
theorem bound_Neg.calls (a0 : Int) (r : Int) (w : World) (h : bound_Neg.f a0 = some r) :
 Calls Try.prog 76 #[.int .i64 a0] w fun e w' => e = .returned (.int .i64 r) ∧ Drawn0 w w' := by
 have H : ((bound_Fit.f a0).bind fun t271 => (some (wrap64 (-t271)))) = some r := h
 clear h
 replace H := Option.bind_eq_some_iff.mp H
 obtain ⟨t271, A20, H⟩ := H
 replace H : (some (wrap64 (-t271))) = some r := H
 have A2 := Aside0.mk A20
 clear A20
 obtain rfl := Option.some.inj H
 go_enter Try.func76, Try.ntmps76
 go_wp2_with (first | ((with_reducible refine gate_callee (f := 83) rfl ?_); refine goesL_ (some 4) rfl rfl Try.func83 (by kernel_rfl) rfl #[.int .i64 a0] rfl vL ?_; (with_reducible refine (bound_Fit.calls a0 t271 _ A2.out).mono ?_); rintro e w' ⟨rfl, ⟨nd, rfl⟩⟩; refine ⟨_, rfl, ?_⟩))
 go_ret
 exact ⟨by first | rfl | (simp; done) | (simp [*]; done), by repeat (first | exact Drawn0.refl _ | apply Drawn0.step)⟩
end Go.Proofs.Ytomgebmimgaojaa.QO
end
end
section
/- Written by a program of this session out of the translation. -/
noncomputable section
namespace Go.Proofs.Ytomgebmimgaojaa.QO
open Go.RowKit Go.Proofs.YtomgebmimgaojaaW.PrintWords Go.Proofs.YtomgebmimgaojaaW.PrintLast
set_option linter.unusedVariables false
set_option linter.unusedSimpArgs false
/-! ### oct_most: function 77 -/
/-- the greatest value of a form, without its number -/
def oct_most.f (k : Nat) (l0_0 : List Int) (l0_1 : List Int) (a0_2 : Bool) (a1_0 a1_1 a1_2 a1_3 a1_4 : Int) : Option Int :=
 if a1_1 = 0 then some 0 else (oct_node.f k l0_0 l0_1 a0_2 a1_0 a1_1).bind fun x =>
  if l0_0.length ≤ 8 ∧ (l0_1.length : Int) = (2 * (l0_0.length : Int)) * (2 * (l0_0.length : Int)) ∧ 0 ≤ x ∧ x < 2 * (l0_0.length : Int) then
   (if a1_3 = 0 then bound_Half.f (lowAt (2 * (l0_0.length : Int)) l0_1 (nbar x) x)
    else (oct_node.f k l0_0 l0_1 a0_2 a1_2 a1_3).bind fun y => if 0 ≤ y ∧ y < 2 * (l0_0.length : Int) then some (lowAt (2 * (l0_0.length : Int)) l0_1 (nbar x) y) else none)
  else none
theorem oct_most.mono : ∀ a0 a1 a2 a3 a4 a5 a6 a7 k, LeO (oct_most.f k a0 a1 a2 a3 a4 a5 a6 a7) (oct_most.f (k + 1) a0 a1 a2 a3 a4 a5 a6 a7) := by
 intro a0 a1 a2 a3 a4 a5 a6 a7 k
 unfold oct_most.f
 repeat' first
  | (with_reducible exact oct_node.mono _ _ _ _ _ _)
  | (with_reducible exact LeO.refl _)
  | (with_reducible exact LeO.none _)
  | (with_reducible refine LeO.ite ?_ ?_)
  | (with_reducible refine LeO.bind ?_ (fun _ => ?_))
theorem nil_at (m : Int) (A : Option Addr) (n c : Nat) (w : World) : (nilAhead 213 85 (.agg #[.int .i64 m, .slice A n c]) "gimbal/oct.at").run Try.prog w = .ok (some false) w := by kernel_rfl
/-- the two boxes of a form and an octagon -/
structure MB (w : World) (bo bl : Nat) (A0 : Option Addr) (n0 c0 : Nat) (A1 : Option Addr) (n1 c1 : Nat) (e : Bool) (x0 x1 x2 x3 x4 : Int) (W : World) : Prop where
 below : Below w.heap.size w W
 bo : W.heap[bo]? = some (.cells #[.slice A0 n0 c0, .slice A1 n1 c1, .bool e] 25 (0, 0))
 bl : W.heap[bl]? = some (.cells #[.int .i64 x0, .int .i64 x1, .int .i64 x2, .int .i64 x3, .int .i64 x4] 49 (0, 0))
theorem MB.next {w : World} {bo bl : Nat} {A0 : Option Addr} {n0 c0 : Nat} {A1 : Option Addr} {n1 c1 : Nat} {e : Bool} {x0 x1 x2 x3 x4 : Int} {W W' : World} (h : MB w bo bl A0 n0 c0 A1 n1 c1 e x0 x1 x2 x3 x4 W) (hb : Below W.heap.size W W') : MB w bo bl A0 n0 c0 A1 n1 c1 e x0 x1 x2 x3 x4 W' :=
 ⟨h.below.trans (hb.mono h.below.size), (hb.block _ (Array.getElem?_eq_some_iff.1 h.bo).1).trans h.bo, (hb.block _ (Array.getElem?_eq_some_iff.1 h.bl).1).trans h.bl⟩
theorem MB.cells {w : World} {bo bl : Nat} {A0 : Option Addr} {n0 c0 : Nat} {A1 : Option Addr} {n1 c1 : Nat} {e : Bool} {x0 x1 x2 x3 x4 : Int} {W : World} (h : MB w bo bl A0 n0 c0 A1 n1 c1 e x0 x1 x2 x3 x4 W) :
 W.cell? ⟨bo, 0, none⟩ = some (.slice A0 n0 c0) ∧ W.cell? ⟨bo, 1, none⟩ = some (.slice A1 n1 c1) ∧ W.cell? ⟨bo, 2, none⟩ = some (.bool e) ∧ W.cell? ⟨bl, 0, none⟩ = some (.int .i64 x0) ∧ W.cell? ⟨bl, 1, none⟩ = some (.int .i64 x1) ∧ W.cell? ⟨bl, 2, none⟩ = some (.int .i64 x2) ∧ W.cell? ⟨bl, 3, none⟩ = some (.int .i64 x3) := by
 refine ⟨?_, ?_, ?_, ?_, ?_, ?_, ?_⟩ <;> first | (simp only [World.cell?, h.bo]; rfl) | (simp only [World.cell?, h.bl]; rfl)
set_option maxHeartbeats 8000000 in
set_option maxRecDepth 100000 in
theorem oct_most.calls (k : Nat) (A0_0 : Option Addr) (c0_0 : Nat) (l0_0 : List Int) (A0_1 : Option Addr) (c0_1 : Nat) (l0_1 : List Int) (a0_2 : Bool) (a1_0 a1_1 a1_2 a1_3 a1_4 : Int) (r : Int) (w : World) (hr0_0 : Kd.C (Kd.int .i64) w A0_0 l0_0.length l0_0) (hc0_0 : l0_0.length ≤ c0_0) (hr0_1 : Kd.C (Kd.int .i64) w A0_1 l0_1.length l0_1) (hc0_1 : l0_1.length ≤ c0_1) (h : oct_most.f k l0_0 l0_1 a0_2 a1_0 a1_1 a1_2 a1_3 a1_4 = some r) :
 Calls Try.prog 77 #[.agg #[.slice A0_0 l0_0.length c0_0, .slice A0_1 l0_1.length c0_1, .bool a0_2], .agg #[.int .i64 a1_0, .int .i64 a1_1, .int .i64 a1_2, .int .i64 a1_3, .int .i64 a1_4]] w fun e w' => e = .returned (.int .i64 r) ∧ Below w.heap.size w w' := by
 have hu25 := Try.underlying25
 have hu49 := Try.underlying49
 have HR0 := Aside0.mk hr0_0
 have HR1 := Aside0.mk hr0_1
 have HC0 := Aside0.mk hc0_0
 have HC1 := Aside0.mk hc0_1
 clear hr0_0 hr0_1 hc0_0 hc0_1
 unfold oct_most.f at h
 by_cases c1 : a1_1 = 0
 ·
  rw [if_pos c1] at h
  obtain rfl := Option.some.inj h
  have b1 : (a1_1 == 0) = true := by simpa using c1
  clear h c1
  go_enter Try.func77, Try.ntmps77
  go_wp2
  go_ret
  exact ⟨rfl, by repeat (first | exact Below.refl _ _ | apply below_alloc | apply pw_below_drewN)⟩
 ·
  rw [if_neg c1] at h
  have b1 : (a1_1 == 0) = false := by simpa using c1
  clear c1
  obtain ⟨x, hx, h⟩ := Option.bind_eq_some_iff.mp h
  have HX := Aside0.mk hx
  clear hx
  by_cases c2 : l0_0.length ≤ 8 ∧ (l0_1.length : Int) = (2 * (l0_0.length : Int)) * (2 * (l0_0.length : Int)) ∧ 0 ≤ x ∧ x < 2 * (l0_0.length : Int)
  ·
   rw [if_pos c2] at h
   obtain ⟨hn, hm, x0, x1⟩ := c2
   have CN := Aside0.mk (fun W (hW : Below w.heap.size w W) => oct_node.calls k A0_0 c0_0 l0_0 A0_1 c0_1 l0_1 a0_2 a1_0 a1_1 x W (Kd.C_below HR0.out hW) HC0.out (Kd.C_below HR1.out hW) HC1.out HX.out)
   have CO := Aside0.mk (fun W => oct_of_any A0_0 l0_0.length c0_0 A0_1 l0_1.length c0_1 a0_2 W (by omega))
   have b0 : oct_bar.f x = some (nbar x) := by unfold oct_bar.f; rw [if_pos ⟨x0, by omega⟩]
   have CB := Aside0.mk (fun W => oct_bar_still x (nbar x) W b0)
   have nx := nbar_in (i := x) (n := l0_0.length) x0 x1
   have hma := meth_at
   have hna := nil_at
   obtain ⟨nn, hnn⟩ : ∃ nn : Int, 2 * (l0_0.length : Int) = nn := ⟨_, rfl⟩
   by_cases c3 : a1_3 = 0
   ·
    rw [if_pos c3] at h
    have b3 : (a1_3 == 0) = true := by simpa using c3
    obtain ⟨v, hv⟩ : ∃ v, lowAt (2 * (l0_0.length : Int)) l0_1 (nbar x) x = v := ⟨_, rfl⟩
    have CA := Aside0.mk (fun W (hW : Below w.heap.size w W) => oct_lower_at_any l0_0.length A0_1 c0_1 l0_1 (nbar x) x W (Kd.C_below HR1.out hW) HC1.out hn hm nx.1 nx.2 x0 x1)
    rw [hv] at h CA
    have CH := Aside0.mk (fun W => bound_Half.calls v r W h)
    unfold tableV at CO
    rw [hnn] at CO CA
    clear h c3 hn hm x0 x1 b0 nx hnn hv hu49
    go_enter Try.func77, Try.ntmps77
    go_wp2
    obtain ⟨W2, hW2⟩ : ∃ W2, (w.alloc (.cells #[.slice A0_0 l0_0.length c0_0, .slice A0_1 l0_1.length c0_1, .bool a0_2] 25)).alloc (.cells #[.int .i64 a1_0, .int .i64 a1_1, .int .i64 a1_2, .int .i64 a1_3, .int .i64 a1_4] 49) = W2 := ⟨_, rfl⟩
    obtain ⟨bo, hbo⟩ : ∃ bo, w.heap.size = bo := ⟨_, rfl⟩
    obtain ⟨bl, hbl⟩ : ∃ bl, w.heap.size + 1 = bl := ⟨_, rfl⟩
    have HM : Aside0 (MB w bo bl A0_0 l0_0.length c0_0 A0_1 l0_1.length c0_1 a0_2 a1_0 a1_1 a1_2 a1_3 a1_4 W2) := ⟨by
     refine ⟨?_, ?_, ?_⟩
     ·
      rw [← hW2]; exact below_alloc (below_alloc (Below.refl _ _) _) _
     ·
      rw [← hW2, ← hbo]; exact ((below_alloc (Below.refl _ _) _).block _ (by simp)).trans (blk_new _ _)
     ·
      rw [← hW2, ← hbl]; have h := blk_new (w.alloc (.cells #[.slice A0_0 l0_0.length c0_0, .slice A0_1 l0_1.length c0_1, .bool a0_2] 25)) (.cells #[.int .i64 a1_0, .int .i64 a1_1, .int .i64 a1_2, .int .i64 a1_3, .int .i64 a1_4] 49); rw [World.size_alloc] at h; exact h⟩
    obtain ⟨k0, k1, k2, k3, k4, k5, k6⟩ := HM.out.cells
    rw [hW2, hbl, hbo]
    clear hW2 hbl hbo
    go_region_held3 (fun w' => w'.cell? ⟨bo, 0, none⟩ = some (.slice A0_0 l0_0.length c0_0) ∧ w'.cell? ⟨bo, 1, none⟩ = some (.slice A0_1 l0_1.length c0_1) ∧ w'.cell? ⟨bo, 2, none⟩ = some (.bool a0_2) ∧ w'.cell? ⟨bl, 0, none⟩ = some (.int .i64 a1_0) ∧ w'.cell? ⟨bl, 1, none⟩ = some (.int .i64 a1_1)) (first | go_keep | exact KS)
     (first
      | (go_at_call 55; (with_reducible refine (CO.out _).mono ?_); rintro e w1 ⟨rfl, hb⟩; have HM1 := Aside0.mk (MB.next (MB.next HM.out (below_drew (Below.refl _ _))) hb); have KS := (⟨HM1.out.cells.1, HM1.out.cells.2.1, HM1.out.cells.2.2.1, HM1.out.cells.2.2.2.1, HM1.out.cells.2.2.2.2.1⟩ : _ ∧ _ ∧ _ ∧ _ ∧ _); clear hb)
      | (go_at_call 74; (with_reducible refine (CN.out _ HM1.out.below).mono ?_); rintro e w2 ⟨rfl, hb⟩; have HM2 := Aside0.mk (MB.next HM1.out hb); clear KS; have KS := (⟨HM2.out.cells.1, HM2.out.cells.2.1, HM2.out.cells.2.2.1, HM2.out.cells.2.2.2.1, HM2.out.cells.2.2.2.2.1⟩ : _ ∧ _ ∧ _ ∧ _ ∧ _); clear hb))
    clear KS k0 k1 k2 k3 k4 k5 k6
    obtain ⟨k0, k1, k2, k3, k4, k5, k6⟩ := HM2.out.cells
    clear CN CO HM HM1
    go_wp2
    go_region_held3 (fun w' => True) (first | go_keep | trivial)
     (first
      | (go_at_call 52; (with_reducible refine (CB.out _).mono ?_); rintro e w' ⟨rfl, rfl⟩)
      | (go_at_call 111; (with_reducible refine (CA.out _ (MB.next HM2.out (below_drew (Below.refl _ _))).below).mono ?_); rintro e w3 ⟨rfl, hb⟩; have HM3 := Aside0.mk (MB.next (MB.next HM2.out (below_drew (Below.refl _ _))) hb); clear hb)
      | (go_at_call 56; (with_reducible refine (CH.out _).mono ?_); rintro e w4 ⟨rfl, hb⟩; have HM4 := Aside0.mk (MB.next HM3.out hb.below); clear hb))
    all_goals go_wp2
    all_goals go_ret
    all_goals exact ⟨rfl, HM4.out.below⟩
   ·
    rw [if_neg c3] at h
    have b3 : (a1_3 == 0) = false := by simpa using c3
    obtain ⟨y, hy, h⟩ := Option.bind_eq_some_iff.mp h
    by_cases c4 : 0 ≤ y ∧ y < 2 * (l0_0.length : Int)
    ·
     rw [if_pos c4] at h
     obtain ⟨y0, y1⟩ := c4
     have hv := Option.some.inj h
     have CA := Aside0.mk (fun W (hW : Below w.heap.size w W) => oct_lower_at_any l0_0.length A0_1 c0_1 l0_1 (nbar x) y W (Kd.C_below HR1.out hW) HC1.out hn hm nx.1 nx.2 y0 y1)
     have CN2 := Aside0.mk (fun W (hW : Below w.heap.size w W) => oct_node.calls k A0_0 c0_0 l0_0 A0_1 c0_1 l0_1 a0_2 a1_2 a1_3 y W (Kd.C_below HR0.out hW) HC0.out (Kd.C_below HR1.out hW) HC1.out hy)
     rw [hv] at CA
     unfold tableV at CO
     rw [hnn] at CO CA
     clear h c3 hn hm x0 x1 b0 nx hnn hv hu49 y0 y1 hy
     go_enter Try.func77, Try.ntmps77
     go_wp2
     obtain ⟨W2, hW2⟩ : ∃ W2, (w.alloc (.cells #[.slice A0_0 l0_0.length c0_0, .slice A0_1 l0_1.length c0_1, .bool a0_2] 25)).alloc (.cells #[.int .i64 a1_0, .int .i64 a1_1, .int .i64 a1_2, .int .i64 a1_3, .int .i64 a1_4] 49) = W2 := ⟨_, rfl⟩
     obtain ⟨bo, hbo⟩ : ∃ bo, w.heap.size = bo := ⟨_, rfl⟩
     obtain ⟨bl, hbl⟩ : ∃ bl, w.heap.size + 1 = bl := ⟨_, rfl⟩
     have HM : Aside0 (MB w bo bl A0_0 l0_0.length c0_0 A0_1 l0_1.length c0_1 a0_2 a1_0 a1_1 a1_2 a1_3 a1_4 W2) := ⟨by
      refine ⟨?_, ?_, ?_⟩
      ·
       rw [← hW2]; exact below_alloc (below_alloc (Below.refl _ _) _) _
      ·
       rw [← hW2, ← hbo]; exact ((below_alloc (Below.refl _ _) _).block _ (by simp)).trans (blk_new _ _)
      ·
       rw [← hW2, ← hbl]; have h := blk_new (w.alloc (.cells #[.slice A0_0 l0_0.length c0_0, .slice A0_1 l0_1.length c0_1, .bool a0_2] 25)) (.cells #[.int .i64 a1_0, .int .i64 a1_1, .int .i64 a1_2, .int .i64 a1_3, .int .i64 a1_4] 49); rw [World.size_alloc] at h; exact h⟩
     obtain ⟨k0, k1, k2, k3, k4, k5, k6⟩ := HM.out.cells
     rw [hW2, hbl, hbo]
     clear hW2 hbl hbo
     go_region_held3 (fun w' => w'.cell? ⟨bo, 0, none⟩ = some (.slice A0_0 l0_0.length c0_0) ∧ w'.cell? ⟨bo, 1, none⟩ = some (.slice A0_1 l0_1.length c0_1) ∧ w'.cell? ⟨bo, 2, none⟩ = some (.bool a0_2) ∧ w'.cell? ⟨bl, 0, none⟩ = some (.int .i64 a1_0) ∧ w'.cell? ⟨bl, 1, none⟩ = some (.int .i64 a1_1)) (first | go_keep | exact KS)
      (first
       | (go_at_call 55; (with_reducible refine (CO.out _).mono ?_); rintro e w1 ⟨rfl, hb⟩; have HM1 := Aside0.mk (MB.next (MB.next HM.out (below_drew (Below.refl _ _))) hb); have KS := (⟨HM1.out.cells.1, HM1.out.cells.2.1, HM1.out.cells.2.2.1, HM1.out.cells.2.2.2.1, HM1.out.cells.2.2.2.2.1⟩ : _ ∧ _ ∧ _ ∧ _ ∧ _); clear hb)
       | (go_at_call 74; (with_reducible refine (CN.out _ HM1.out.below).mono ?_); rintro e w2 ⟨rfl, hb⟩; have HM2 := Aside0.mk (MB.next HM1.out hb); clear KS; have KS := (⟨HM2.out.cells.1, HM2.out.cells.2.1, HM2.out.cells.2.2.1, HM2.out.cells.2.2.2.1, HM2.out.cells.2.2.2.2.1⟩ : _ ∧ _ ∧ _ ∧ _ ∧ _); clear hb))
     clear KS k0 k1 k2 k3 k4 k5 k6
     obtain ⟨k0, k1, k2, k3, k4, k5, k6⟩ := HM2.out.cells
     clear CN CO HM HM1
     go_wp2
     go_region_held3 (fun w' => w'.cell? ⟨bo, 0, none⟩ = some (.slice A0_0 l0_0.length c0_0) ∧ w'.cell? ⟨bo, 1, none⟩ = some (.slice A0_1 l0_1.length c0_1) ∧ w'.cell? ⟨bo, 2, none⟩ = some (.bool a0_2) ∧ w'.cell? ⟨bl, 2, none⟩ = some (.int .i64 a1_2) ∧ w'.cell? ⟨bl, 3, none⟩ = some (.int .i64 a1_3)) (first | go_keep | exact KS)
      (first
       | (go_at_call 52; (with_reducible refine (CB.out _).mono ?_); rintro e w' ⟨rfl, rfl⟩)
       | (go_at_call 74; (with_reducible refine (CN2.out _ (MB.next HM2.out (below_drew (Below.refl _ _))).below).mono ?_); rintro e w3 ⟨rfl, hb⟩; have HM3 := Aside0.mk (MB.next (MB.next HM2.out (below_drew (Below.refl _ _))) hb); have KS := (⟨HM3.out.cells.1, HM3.out.cells.2.1, HM3.out.cells.2.2.1, HM3.out.cells.2.2.2.2.2.1, HM3.out.cells.2.2.2.2.2.2⟩ : _ ∧ _ ∧ _ ∧ _ ∧ _); clear hb)
       | (go_at_call 111; (with_reducible refine (CA.out _ HM3.out.below).mono ?_); rintro e w4 ⟨rfl, hb⟩; have HM4 := Aside0.mk (MB.next HM3.out hb); clear KS; have KS := (⟨HM4.out.cells.1, HM4.out.cells.2.1, HM4.out.cells.2.2.1, HM4.out.cells.2.2.2.2.2.1, HM4.out.cells.2.2.2.2.2.2⟩ : _ ∧ _ ∧ _ ∧ _ ∧ _); clear hb))
     all_goals go_wp2
     all_goals go_ret
     all_goals exact ⟨rfl, HM4.out.below⟩
    ·
     rw [if_neg c4] at h; cases h
  ·
   rw [if_neg c2] at h; cases h
end Go.Proofs.Ytomgebmimgaojaa.QO
end
end
section
/- Written by a program of this session out of the translation. -/
noncomputable section
namespace Go.Proofs.Ytomgebmimgaojaa.QO
open Go.RowKit Go.Proofs.YtomgebmimgaojaaW.PrintWords Go.Proofs.YtomgebmimgaojaaW.PrintLast
set_option linter.unusedVariables false
set_option linter.unusedSimpArgs false
/-! ### oct_Bounds: function 43 -/
def oct_Bounds.j0 : Nat → Bool → Int → Int → Int → Int → Int → List Int → List Int → Bool → Option (Int × Int)
 | 0, _, _, _, _, _, _, _, _, _ => none
 | k + 1, x33, x274000, x274001, x274002, x274003, x274004, x283000, x283001, x283002 => if x33 = true then (some ((-4611686018427387904), 4611686018427387904)) else ((oct_most.f k x283000 x283001 x283002 x274000 (wrap64 (-x274001)) x274002 (wrap64 (-x274003)) x274004).bind fun t287 => ((bound_Neg.f t287).bind fun t288 => ((bound_Down.f x274004 t288).bind fun t289 => ((oct_most.f k x283000 x283001 x283002 x274000 x274001 x274002 x274003 x274004).bind fun t290 => ((bound_Up.f x274004 t290).bind fun t291 => (some (t289, t291)))))))
def oct_Bounds.f (k : Nat) (l0_0 : List Int) (l0_1 : List Int) (a0_2 : Bool) (a1_0 : Int) (a1_1 : Int) (a1_2 : Int) (a1_3 : Int) (a1_4 : Int) : Option (Int × Int) := (oct_Close.f l0_0 l0_1 a0_2).bind fun bt275 => (if bt275.2.2 = true then (some (1, 0)) else (if a1_1 = 0 then (if a1_3 = 0 then (oct_Bounds.j0 k false a1_0 a1_1 a1_2 a1_3 a1_4 bt275.1 bt275.2.1 bt275.2.2) else ((oct_node.f k bt275.1 bt275.2.1 bt275.2.2 a1_2 1).bind fun t283 => (oct_Bounds.j0 k (decide (t283 < 0)) a1_0 a1_1 a1_2 a1_3 a1_4 bt275.1 bt275.2.1 bt275.2.2))) else ((oct_node.f k bt275.1 bt275.2.1 bt275.2.2 a1_0 1).bind fun t284 => (if t284 < 0 then (oct_Bounds.j0 k true a1_0 a1_1 a1_2 a1_3 a1_4 bt275.1 bt275.2.1 bt275.2.2) else (if a1_3 = 0 then (oct_Bounds.j0 k false a1_0 a1_1 a1_2 a1_3 a1_4 bt275.1 bt275.2.1 bt275.2.2) else ((oct_node.f k bt275.1 bt275.2.1 bt275.2.2 a1_2 1).bind fun t285 => (oct_Bounds.j0 k (decide (t285 < 0)) a1_0 a1_1 a1_2 a1_3 a1_4 bt275.1 bt275.2.1 bt275.2.2)))))))
theorem oct_Bounds.mono_l : ∀ k, (∀ y0 y1 y2 y3 y4 y5 y6 y7 y8, LeO (oct_Bounds.j0 k y0 y1 y2 y3 y4 y5 y6 y7 y8) (oct_Bounds.j0 (k + 1) y0 y1 y2 y3 y4 y5 y6 y7 y8))
 | 0 => fun _ _ _ _ _ _ _ _ _ r h => by simp [oct_Bounds.j0] at h
 | k + 1 => by
  have ih0 := oct_Bounds.mono_l k
  ·
   intro y0 y1 y2 y3 y4 y5 y6 y7 y8
   unfold oct_Bounds.j0
   repeat' first
   | (with_reducible exact ih0 _ _ _ _ _ _ _ _ _)
   | (with_reducible exact oct_most.mono _ _ _ _ _ _ _ _ _)
   | (with_reducible exact oct_node.mono _ _ _ _ _ _)
   | (with_reducible exact LeO.refl _)
   | (with_reducible exact LeO.none _)
   | (with_reducible refine LeO.ite ?_ ?_)
   | (with_reducible refine LeO.bind ?_ (fun _ => ?_))
   | exact ih0 _ _ _ _ _ _ _ _ _
   | exact oct_most.mono _ _ _ _ _ _ _ _ _
   | exact oct_node.mono _ _ _ _ _ _
   | exact LeO.none _
   | refine LeO.ite ?_ ?_
   | refine LeO.bind ?_ (fun _ => ?_)
theorem oct_Bounds.mono : ∀ a0 a1 a2 a3 a4 a5 a6 a7 k, LeO (oct_Bounds.f k a0 a1 a2 a3 a4 a5 a6 a7) (oct_Bounds.f (k + 1) a0 a1 a2 a3 a4 a5 a6 a7) := by
 intro a0 a1 a2 a3 a4 a5 a6 a7 k
 have ih0 := oct_Bounds.mono_l k
 unfold oct_Bounds.f
 repeat' first
  | (with_reducible exact ih0 _ _ _ _ _ _ _ _ _)
  | (with_reducible exact oct_most.mono _ _ _ _ _ _ _ _ _)
  | (with_reducible exact oct_node.mono _ _ _ _ _ _)
  | (with_reducible exact LeO.refl _)
  | (with_reducible exact LeO.none _)
  | (with_reducible refine LeO.ite ?_ ?_)
  | (with_reducible refine LeO.bind ?_ (fun _ => ?_))
  | exact ih0 _ _ _ _ _ _ _ _ _
  | exact oct_most.mono _ _ _ _ _ _ _ _ _
  | exact oct_node.mono _ _ _ _ _ _
  | exact LeO.none _
  | refine LeO.ite ?_ ?_
  | refine LeO.bind ?_ (fun _ => ?_)
def oct_Bounds.T7 : Bool × List (List Nat × List Nat) := (true, [([], []), ([0], [0]), ([1], [1]), ([], []), ([3], [3]), ([4], [4]), ([0, 1, 2], []), ([6, 2, 0, 1, 2], [2, 6]), ([0, 1, 2, 3, 4, 5, 6, 7], []), ([8, 5, 7, 0, 1, 2, 3, 4, 5, 6, 7], [5, 8])])
def oct_Bounds.B7 : List Nat := [0, 1, 3, 0, 8, 24, 7, 71, 255, 511]
theorem oct_Bounds.tab7 : rtab .any (opsOf Try.f43 7) = oct_Bounds.T7 := by kernel_rfl
theorem oct_Bounds.bits7 : waitsOk oct_Bounds.T7.2 oct_Bounds.B7 = true := by kernel_rfl
def oct_Bounds.T8 : Bool × List (List Nat × List Nat) := (true, [([], []), ([0], [0]), ([], []), ([], []), ([2, 3], [2, 3]), ([4, 4], [4]), ([1, 5, 5], [1, 5]), ([], []), ([7], [7]), ([], []), ([], []), ([9, 10, 6], [9, 10]), ([8, 11, 11], [8, 11]), ([6, 12], [6, 12]), ([13, 12, 0, 1, 2, 3, 4, 5, 6, 7, 8, 9, 10, 11, 12, 13], [13])])
def oct_Bounds.B8 : List Nat := [0, 1, 0, 0, 12, 28, 63, 0, 128, 0, 0, 1663, 4095, 8191, 16383]
theorem oct_Bounds.tab8 : rtab .any (opsOf Try.f43 8) = oct_Bounds.T8 := by kernel_rfl
theorem oct_Bounds.bits8 : waitsOk oct_Bounds.T8.2 oct_Bounds.B8 = true := by kernel_rfl
set_option maxHeartbeats 8000000 in
set_option maxRecDepth 100000 in
theorem oct_Bounds.calls (k : Nat) (A0_0 : Option Addr) (c0_0 : Nat) (l0_0 : List Int) (A0_1 : Option Addr) (c0_1 : Nat) (l0_1 : List Int) (a0_2 : Bool) (a1_0 : Int) (a1_1 : Int) (a1_2 : Int) (a1_3 : Int) (a1_4 : Int) (r1 : Int) (r2 : Int) (w : World) (hr0_0 : Kd.C (Kd.int .i64) w A0_0 l0_0.length l0_0) (hc0_0 : l0_0.length ≤ c0_0) (hr0_1 : Kd.C (Kd.int .i64) w A0_1 l0_1.length l0_1) (hc0_1 : l0_1.length ≤ c0_1) (h : oct_Bounds.f k l0_0 l0_1 a0_2 a1_0 a1_1 a1_2 a1_3 a1_4 = some (r1, r2)) :
 Calls Try.prog 43 #[.agg #[.slice A0_0 l0_0.length c0_0, .slice A0_1 l0_1.length c0_1, .bool a0_2], .agg #[.int .i64 a1_0, .int .i64 a1_1, .int .i64 a1_2, .int .i64 a1_3, .int .i64 a1_4]] w fun e w' => e = .returned (.agg #[.int .i64 r1, .int .i64 r2]) ∧ Below w.heap.size w w' := by
 have hu25 := Try.underlying25
 have hu49 := Try.underlying49
 have hu37 := Try.underlying37
 have HR0_0 := Aside0.mk hr0_0
 have HC0_0 := Aside0.mk hc0_0
 clear hr0_0 hc0_0
 have HR0_1 := Aside0.mk hr0_1
 have HC0_1 := Aside0.mk hc0_1
 clear hr0_1 hc0_1
 have HB := Aside0.mk (Below.refl w.heap.size w)
 have H : ((oct_Close.f l0_0 l0_1 a0_2).bind fun bt275 => (if bt275.2.2 = true then (some (1, 0)) else (if a1_1 = 0 then (if a1_3 = 0 then (oct_Bounds.j0 k false a1_0 a1_1 a1_2 a1_3 a1_4 bt275.1 bt275.2.1 bt275.2.2) else ((oct_node.f k bt275.1 bt275.2.1 bt275.2.2 a1_2 1).bind fun t283 => (oct_Bounds.j0 k (decide (t283 < 0)) a1_0 a1_1 a1_2 a1_3 a1_4 bt275.1 bt275.2.1 bt275.2.2))) else ((oct_node.f k bt275.1 bt275.2.1 bt275.2.2 a1_0 1).bind fun t284 => (if t284 < 0 then (oct_Bounds.j0 k true a1_0 a1_1 a1_2 a1_3 a1_4 bt275.1 bt275.2.1 bt275.2.2) else (if a1_3 = 0 then (oct_Bounds.j0 k false a1_0 a1_1 a1_2 a1_3 a1_4 bt275.1 bt275.2.1 bt275.2.2) else ((oct_node.f k bt275.1 bt275.2.1 bt275.2.2 a1_2 1).bind fun t285 => (oct_Bounds.j0 k (decide (t285 < 0)) a1_0 a1_1 a1_2 a1_3 a1_4 bt275.1 bt275.2.1 bt275.2.2)))))))) = some (r1, r2) := h
 clear h
 replace H := Option.bind_eq_some_iff.mp H
 obtain ⟨⟨t275, t278, t281⟩, A30, H⟩ := H
 replace H : (if t281 = true then (some (1, 0)) else (if a1_1 = 0 then (if a1_3 = 0 then (oct_Bounds.j0 k false a1_0 a1_1 a1_2 a1_3 a1_4 t275 t278 t281) else ((oct_node.f k t275 t278 t281 a1_2 1).bind fun t283 => (oct_Bounds.j0 k (decide (t283 < 0)) a1_0 a1_1 a1_2 a1_3 a1_4 t275 t278 t281))) else ((oct_node.f k t275 t278 t281 a1_0 1).bind fun t284 => (if t284 < 0 then (oct_Bounds.j0 k true a1_0 a1_1 a1_2 a1_3 a1_4 t275 t278 t281) else (if a1_3 = 0 then (oct_Bounds.j0 k false a1_0 a1_1 a1_2 a1_3 a1_4 t275 t278 t281) else ((oct_node.f k t275 t278 t281 a1_2 1).bind fun t285 => (oct_Bounds.j0 k (decide (t285 < 0)) a1_0 a1_1 a1_2 a1_3 a1_4 t275 t278 t281))))))) = some (r1, r2) := H
 have A3 := Aside0.mk A30
 clear A30
 by_cases c4 : t281 = true
 ·
  subst c4
  have H1 : (some (1, 0)) = some (r1, r2) := by rw [if_pos rfl] at H; exact H
  clear H
  have H := H1
  clear H1
  simp only [Option.some.injEq, Prod.mk.injEq] at H
  obtain ⟨rfl, rfl⟩ := H
  go_enter Try.func43, Try.ntmps43
  go_wp2_with (first | ((with_reducible refine gate_dst (N := 2) rfl ?_); refine box_event ?hg (N := 2) ?hd (cs := #[.slice A0_0 l0_0.length c0_0, .slice A0_1 l0_1.length c0_1, .bool a0_2]) (t := 25) ?hr ?_; (case hd => rfl); (case hg => rfl); (case hr => first | (go_simp; done) | (go_simp; rfl)); intro gb272 hg w5 hbox hb; have BK272 := Aside0.mk (hbox); have GW272 := vS hg HB; have GE272 := vS hg HB; replace HB := vWs HB hb; clear hb hbox hg) | ((with_reducible refine gate_dst (N := 3) rfl ?_); refine box_event ?hg (N := 3) ?hd (cs := #[.int .i64 a1_0, .int .i64 a1_1, .int .i64 a1_2, .int .i64 a1_3, .int .i64 a1_4]) (t := 49) ?hr ?_; (case hd => rfl); (case hg => rfl); (case hr => first | (go_simp; done) | (go_simp; rfl)); intro gb273 hg w6 hbox hb; have BK273 := Aside0.mk (hbox); have GW273 := vS hg HB; have GE273 := vS hg HB; replace HB := vWs HB hb; have NB272_273 := vNl hg BK272; have NB273_272 := vNg hg BK272; replace BK272 := vBb BK272 hb; clear hb hbox hg) | ((with_reducible refine gate_dst (N := 4) rfl ?_); refine box_event ?hg (N := 4) ?hd (cs := #[.int .i64 0, .int .i64 0]) (t := 37) ?hr ?_; (case hd => rfl); (case hg => rfl); (case hr => first | (go_simp; done) | (go_simp; rfl)); intro gb274 hg w7 hbox hb; have BK274 := Aside0.mk (hbox); have GW274 := vS hg HB; have GE274 := vS hg HB; replace HB := vWs HB hb; have NB272_274 := vNl hg BK272; have NB274_272 := vNg hg BK272; replace BK272 := vBb BK272 hb; have NB273_274 := vNl hg BK273; have NB274_273 := vNg hg BK273; replace BK273 := vBb BK273 hb; clear hb hbox hg; have hnb8 := NB272_273.out; have hnc8 := NB273_272.out; have hnb9 := NB272_274.out; have hnc9 := NB274_272.out; obtain ⟨hcz10_0, hcz10_1, hcz10_2, hfz10_0, hfz10_1, hfz10_2⟩ := vF3 BK272.out) | ((with_reducible refine gate_callee (f := 22) rfl ?_); refine goesL_ (some 8) rfl rfl Try.func22 (by kernel_rfl) rfl #[.agg #[.slice A0_0 l0_0.length c0_0, .slice A0_1 l0_1.length c0_1, .bool a0_2]] rfl vL ?_; (with_reducible refine (oct_Close.calls _ _ l0_0 _ _ l0_1 a0_2 t275 t278 true _ ?side1 ?side2 ?side3 ?side4 A3.out).mono ?_); (case side1 => exact vC (Kd.C_below HR0_0.out HB.out)); (case side2 => exact HC0_0.out); (case side3 => exact vC (Kd.C_below HR0_1.out HB.out)); (case side4 => exact HC0_1.out); rintro e w11 ⟨v276, v279, rfl, ho0, ho1, hb⟩; refine ⟨_, rfl, ?_⟩; have HO277 := Aside0.mk (Kd.R_lower ho0 (below_size (vW HB.out))); have HO280 := Aside0.mk (Kd.R_lower ho1 (below_size (vW HB.out))); replace BK272 := vBb BK272 hb; replace BK273 := vBb BK273 hb; replace BK274 := vBb BK274 hb; replace HB := vWs HB hb; (try clear hb); (try clear hb2); (try clear hk); (try clear hi); (try clear ho0); (try clear ho1)) | ((with_reducible refine gate_dst (N := 5) rfl ?_); refine box_event ?hg (N := 5) ?hd (cs := #[.slice none 0 0, .slice none 0 0, .bool false]) (t := 25) ?hr ?_; (case hd => rfl); (case hg => rfl); (case hr => first | (go_simp; done) | (go_simp; rfl)); intro gb282 hg w12 hbox hb; replace HO277 := vRb HO277 hb; replace HO280 := vRb HO280 hb; have BK282 := Aside0.mk (hbox); have GW282 := vS hg HB; have GE282 := vS hg HB; replace HB := vWs HB hb; have NB272_282 := vNl hg BK272; have NB282_272 := vNg hg BK272; replace BK272 := vBb BK272 hb; have NB273_282 := vNl hg BK273; have NB282_273 := vNg hg BK273; replace BK273 := vBb BK273 hb; have NB274_282 := vNl hg BK274; have NB282_274 := vNg hg BK274; replace BK274 := vBb BK274 hb; clear hb hbox hg; obtain ⟨Ao13, co13, eo13⟩ := Kd.R_slice HO277.out; subst eo13; have hnb14 := NB282_272.out; have hnc14 := NB272_282.out; have hnb15 := NB282_273.out; have hnc15 := NB273_282.out; have hnb16 := NB282_274.out; have hnc16 := NB274_282.out; obtain ⟨hcz17_0, hcz17_1, hcz17_2, hfz17_0, hfz17_1, hfz17_2⟩ := vF3 BK282.out; obtain ⟨Ao18, co18, eo18⟩ := Kd.R_slice HO280.out; subst eo18; have hnb19 := NB274_273.out; have hnc19 := NB273_274.out; obtain ⟨hcz20_0, hcz20_1, hfz20_0, hfz20_1⟩ := vF2 BK274.out))
  refine bodyPost_ret (results_cell_row rfl _ _ gb274 37 #[.int .i64 1, .int .i64 0] (0, 0) _ rfl (by (with_reducible repeat (first | refine blk_drewN ?_ _ | refine blk_drew ?_ | refine blk_alloc ?_ _)); refine blk_put (cs := #[.int .i64 1, .int .i64 0]) ?_ 1 _ rfl; (with_reducible repeat (first | refine blk_drewN ?_ _ | refine blk_drew ?_ | refine blk_alloc ?_ _)); refine blk_put (cs := #[.int .i64 0, .int .i64 0]) ?_ 0 _ rfl; (with_reducible repeat (first | refine blk_drewN ?_ _ | refine blk_drew ?_ | refine blk_alloc ?_ _)); refine blk_far ?_ NB274_282.out _; (with_reducible repeat (first | refine blk_drewN ?_ _ | refine blk_drew ?_ | refine blk_alloc ?_ _)); refine blk_far ?_ NB274_282.out _; (with_reducible repeat (first | refine blk_drewN ?_ _ | refine blk_drew ?_ | refine blk_alloc ?_ _)); refine blk_far ?_ NB274_282.out _; (with_reducible repeat (first | refine blk_drewN ?_ _ | refine blk_drew ?_ | refine blk_alloc ?_ _)); exact BK274.out) Try.underlying37 rfl (by kernel_rfl)) rfl ?_
  exact ⟨by first | rfl | (simp [errW_none, errW_some] <;> rfl) | (simp [*, errW_none, errW_some] <;> rfl) | (simp [wrap64]; done), vW HB.out⟩
 ·
  replace c4 := Bool.eq_false_iff.mpr c4
  subst c4
  have H1 : (if a1_1 = 0 then (if a1_3 = 0 then (oct_Bounds.j0 k false a1_0 a1_1 a1_2 a1_3 a1_4 t275 t278 false) else ((oct_node.f k t275 t278 false a1_2 1).bind fun t283 => (oct_Bounds.j0 k (decide (t283 < 0)) a1_0 a1_1 a1_2 a1_3 a1_4 t275 t278 false))) else ((oct_node.f k t275 t278 false a1_0 1).bind fun t284 => (if t284 < 0 then (oct_Bounds.j0 k true a1_0 a1_1 a1_2 a1_3 a1_4 t275 t278 false) else (if a1_3 = 0 then (oct_Bounds.j0 k false a1_0 a1_1 a1_2 a1_3 a1_4 t275 t278 false) else ((oct_node.f k t275 t278 false a1_2 1).bind fun t285 => (oct_Bounds.j0 k (decide (t285 < 0)) a1_0 a1_1 a1_2 a1_3 a1_4 t275 t278 false)))))) = some (r1, r2) := by rw [if_neg (show ¬ (false = true) by decide)] at H; exact H
  clear H
  have H := H1
  clear H1
  have HC21 := Aside0.mk H
  clear H
  go_enter Try.func43, Try.ntmps43
  go_upto_region 4 with (first | ((with_reducible refine gate_dst (N := 2) rfl ?_); refine box_event ?hg (N := 2) ?hd (cs := #[.slice A0_0 l0_0.length c0_0, .slice A0_1 l0_1.length c0_1, .bool a0_2]) (t := 25) ?hr ?_; (case hd => rfl); (case hg => rfl); (case hr => first | (go_simp; done) | (go_simp; rfl)); intro gb272 hg w22 hbox hb; have BK272 := Aside0.mk (hbox); have GW272 := vS hg HB; have GE272 := vS hg HB; replace HB := vWs HB hb; clear hb hbox hg) | ((with_reducible refine gate_dst (N := 3) rfl ?_); refine box_event ?hg (N := 3) ?hd (cs := #[.int .i64 a1_0, .int .i64 a1_1, .int .i64 a1_2, .int .i64 a1_3, .int .i64 a1_4]) (t := 49) ?hr ?_; (case hd => rfl); (case hg => rfl); (case hr => first | (go_simp; done) | (go_simp; rfl)); intro gb273 hg w23 hbox hb; have BK273 := Aside0.mk (hbox); have GW273 := vS hg HB; have GE273 := vS hg HB; replace HB := vWs HB hb; have NB272_273 := vNl hg BK272; have NB273_272 := vNg hg BK272; replace BK272 := vBb BK272 hb; clear hb hbox hg) | ((with_reducible refine gate_dst (N := 4) rfl ?_); refine box_event ?hg (N := 4) ?hd (cs := #[.int .i64 0, .int .i64 0]) (t := 37) ?hr ?_; (case hd => rfl); (case hg => rfl); (case hr => first | (go_simp; done) | (go_simp; rfl)); intro gb274 hg w24 hbox hb; have BK274 := Aside0.mk (hbox); have GW274 := vS hg HB; have GE274 := vS hg HB; replace HB := vWs HB hb; have NB272_274 := vNl hg BK272; have NB274_272 := vNg hg BK272; replace BK272 := vBb BK272 hb; have NB273_274 := vNl hg BK273; have NB274_273 := vNg hg BK273; replace BK273 := vBb BK273 hb; clear hb hbox hg; have hnb25 := NB272_273.out; have hnc25 := NB273_272.out; have hnb26 := NB272_274.out; have hnc26 := NB274_272.out; obtain ⟨hcz27_0, hcz27_1, hcz27_2, hfz27_0, hfz27_1, hfz27_2⟩ := vF3 BK272.out) | ((with_reducible refine gate_callee (f := 22) rfl ?_); refine goesL_ (some 8) rfl rfl Try.func22 (by kernel_rfl) rfl #[.agg #[.slice A0_0 l0_0.length c0_0, .slice A0_1 l0_1.length c0_1, .bool a0_2]] rfl vL ?_; (with_reducible refine (oct_Close.calls _ _ l0_0 _ _ l0_1 a0_2 t275 t278 false _ ?side1 ?side2 ?side3 ?side4 A3.out).mono ?_); (case side1 => exact vC (Kd.C_below HR0_0.out HB.out)); (case side2 => exact HC0_0.out); (case side3 => exact vC (Kd.C_below HR0_1.out HB.out)); (case side4 => exact HC0_1.out); rintro e w28 ⟨v276, v279, rfl, ho0, ho1, hb⟩; refine ⟨_, rfl, ?_⟩; have HO277 := Aside0.mk (Kd.R_lower ho0 (below_size (vW HB.out))); have HO280 := Aside0.mk (Kd.R_lower ho1 (below_size (vW HB.out))); replace BK272 := vBb BK272 hb; replace BK273 := vBb BK273 hb; replace BK274 := vBb BK274 hb; replace HB := vWs HB hb; (try clear hb); (try clear hb2); (try clear hk); (try clear hi); (try clear ho0); (try clear ho1)) | ((with_reducible refine gate_dst (N := 5) rfl ?_); refine box_event ?hg (N := 5) ?hd (cs := #[.slice none 0 0, .slice none 0 0, .bool false]) (t := 25) ?hr ?_; (case hd => rfl); (case hg => rfl); (case hr => first | (go_simp; done) | (go_simp; rfl)); intro gb282 hg w29 hbox hb; replace HO277 := vRb HO277 hb; replace HO280 := vRb HO280 hb; have BK282 := Aside0.mk (hbox); have GW282 := vS hg HB; have GE282 := vS hg HB; replace HB := vWs HB hb; have NB272_282 := vNl hg BK272; have NB282_272 := vNg hg BK272; replace BK272 := vBb BK272 hb; have NB273_282 := vNl hg BK273; have NB282_273 := vNg hg BK273; replace BK273 := vBb BK273 hb; have NB274_282 := vNl hg BK274; have NB282_274 := vNg hg BK274; replace BK274 := vBb BK274 hb; clear hb hbox hg; obtain ⟨Ao30, co30, eo30⟩ := Kd.R_slice HO277.out; subst eo30; have hnb31 := NB282_272.out; have hnc31 := NB272_282.out; have hnb32 := NB282_273.out; have hnc32 := NB273_282.out; have hnb33 := NB282_274.out; have hnc33 := NB274_282.out; obtain ⟨hcz34_0, hcz34_1, hcz34_2, hfz34_0, hfz34_1, hfz34_2⟩ := vF3 BK282.out; obtain ⟨Ao35, co35, eo35⟩ := Kd.R_slice HO280.out; subst eo35))
  (try simp only [Act.put, List.setIfInBounds_toArray, List.set_cons_zero, List.set_cons_succ])
  go_cut [33] (fun v33 wc => ∃ (kq : Nat) (x33_20 : Bool), v33 = .bool x33_20 ∧ Aside0 (oct_Bounds.j0 kq x33_20 a1_0 a1_1 a1_2 a1_3 a1_4 t275 t278 false = some (r1, r2)) ∧ Aside0 (kq ≤ k) ∧ Aside0 (Kd.R (Kd.int .i64) 3 wc w.heap.size (fun _ => True) (.slice Ao30 t275.length co30) t275) ∧ Aside0 (Kd.R (Kd.int .i64) 2 wc w.heap.size (fun _ => True) (.slice Ao35 t278.length co35) t278) ∧ Aside0 (wc.heap[gb272]? = some (.cells #[(.slice A0_0 l0_0.length c0_0), (.slice A0_1 l0_1.length c0_1), .bool a0_2] 25 (0, 0))) ∧ Aside0 (wc.heap[gb273]? = some (.cells #[.int .i64 a1_0, .int .i64 a1_1, .int .i64 a1_2, .int .i64 a1_3, .int .i64 a1_4] 49 (0, 0))) ∧ Aside0 (wc.heap[gb274]? = some (.cells #[.int .i64 0, .int .i64 0] 37 (0, 0))) ∧ Aside0 (wc.heap[gb282]? = some (.cells #[(.slice Ao30 t275.length co30), (.slice Ao35 t278.length co35), .bool false] 25 (0, 0))) ∧ Aside0 (Below w.heap.size w wc))
  case first =>
   have H := HC21.out
   clear HC21
   by_cases c36 : a1_1 = 0
   ·
    rw [if_pos c36] at H
    have c36b0 : (a1_1 == 0) = true := beq_iff_eq.mpr c36
    have c36b1 : (a1_1 != 0) = false := bne_eq_false_iff_eq.mpr c36
    clear c36
    (first | rw [c36b0] | (simp only [i64_w, i32_w]; rw [c36b0]) | skip)
    by_cases c37 : a1_3 = 0
    ·
     rw [if_pos c37] at H
     have c37b0 : (a1_3 == 0) = true := beq_iff_eq.mpr c37
     have c37b1 : (a1_3 != 0) = false := bne_eq_false_iff_eq.mpr c37
     clear c37
     have H' := Aside0.mk H
     clear H
     have hnb38 := NB273_272.out
     have hnc38 := NB272_273.out
     have hnb39 := NB273_274.out
     have hnc39 := NB274_273.out
     have hnb40 := NB273_282.out
     have hnc40 := NB282_273.out
     obtain ⟨hcz41_0, hcz41_1, hcz41_2, hcz41_3, hcz41_4, hfz41_0, hfz41_1, hfz41_2, hfz41_3, hfz41_4⟩ := vF5 BK273.out
     go_wp2
     go_meet
     case rel => exact ⟨_, (false), (by first | rfl | (simp; done) | (simp [*]; done)), H', ⟨by first | omega | exact Nat.le_refl _⟩, ⟨by (with_reducible repeat (first | apply Kd.R_alloc | apply Kd.R_drewN | apply Kd.R_drew)); exact Kd.R_mono (Kd.R_far (p := ⟨gb282, 2, none⟩) (Kd.R_far (p := ⟨gb282, 1, none⟩) (Kd.R_far (p := ⟨gb282, 0, none⟩) (Kd.R_types HO277.out BK282.out (by decide)) (fun _ hk => hk.2) (.slice Ao30 t275.length co30)) (fun _ hk => hk.2) (.slice Ao35 t278.length co35)) (fun _ hk => hk.2) (.bool false)) (fun _ hk => trivial)⟩, ⟨by (with_reducible repeat (first | apply Kd.R_alloc | apply Kd.R_drewN | apply Kd.R_drew)); exact Kd.R_mono (Kd.R_far (p := ⟨gb282, 2, none⟩) (Kd.R_far (p := ⟨gb282, 1, none⟩) (Kd.R_far (p := ⟨gb282, 0, none⟩) (Kd.R_types HO280.out BK282.out (by decide)) (fun _ hk => hk.2) (.slice Ao30 t275.length co30)) (fun _ hk => hk.2) (.slice Ao35 t278.length co35)) (fun _ hk => hk.2) (.bool false)) (fun _ hk => trivial)⟩, ⟨vB BK272.out⟩, ⟨vB BK273.out⟩, ⟨vB BK274.out⟩, ⟨by (with_reducible repeat (first | refine blk_drewN ?_ _ | refine blk_drew ?_ | refine blk_alloc ?_ _)); refine blk_put (cs := #[.slice Ao30 t275.length co30, .slice Ao35 t278.length co35, .bool false]) ?_ 2 _ rfl; (with_reducible repeat (first | refine blk_drewN ?_ _ | refine blk_drew ?_ | refine blk_alloc ?_ _)); refine blk_put (cs := #[.slice Ao30 t275.length co30, .slice none 0 0, .bool false]) ?_ 1 _ rfl; (with_reducible repeat (first | refine blk_drewN ?_ _ | refine blk_drew ?_ | refine blk_alloc ?_ _)); refine blk_put (cs := #[.slice none 0 0, .slice none 0 0, .bool false]) ?_ 0 _ rfl; (with_reducible repeat (first | refine blk_drewN ?_ _ | refine blk_drew ?_ | refine blk_alloc ?_ _)); exact BK282.out⟩, ⟨vW HB.out⟩⟩
    ·
     rw [if_neg c37] at H
     have c37b0 : (a1_3 == 0) = false := beq_eq_false_iff_ne.mpr c37
     have c37b1 : (a1_3 != 0) = true := bne_iff_ne.mpr c37
     replace H := Option.bind_eq_some_iff.mp H
     obtain ⟨t283, A420, H⟩ := H
     replace H : (oct_Bounds.j0 k (decide (t283 < 0)) a1_0 a1_1 a1_2 a1_3 a1_4 t275 t278 false) = some (r1, r2) := H
     have A42 := Aside0.mk A420
     clear A420
     have H' := Aside0.mk H
     clear H
     have hnb43 := NB273_272.out
     have hnc43 := NB272_273.out
     have hnb44 := NB273_274.out
     have hnc44 := NB274_273.out
     have hnb45 := NB273_282.out
     have hnc45 := NB282_273.out
     obtain ⟨hcz46_0, hcz46_1, hcz46_2, hcz46_3, hcz46_4, hfz46_0, hfz46_1, hfz46_2, hfz46_3, hfz46_4⟩ := vF5 BK273.out
     have hnb47 := NB282_272.out
     have hnc47 := NB272_282.out
     have hnb48 := NB282_274.out
     have hnc48 := NB274_282.out
     obtain ⟨hcz49_0, hcz49_1, hcz49_2, hfz49_0, hfz49_1, hfz49_2⟩ := vF3 BK282.out
     go_wp2_with (first | (go_at_call 74; (with_reducible refine (oct_node.calls k _ _ t275 _ _ t278 false a1_2 1 t283 _ ?side1 ?side2 ?side3 ?side4 A42.out).mono ?_); (case side1 => exact vTr HO277.out BK282.out); (case side2 => exact (Kd.R_reads' HO277.out).2.1); (case side3 => exact vTr HO280.out BK282.out); (case side4 => exact (Kd.R_reads' HO280.out).2.1); rintro e w50 ⟨rfl, hb⟩; replace HO277 := vTb HO277 BK282 hb; replace HO280 := vTb HO280 BK282 hb; replace BK272 := vBb BK272 hb; replace BK273 := vBb BK273 hb; replace BK274 := vBb BK274 hb; replace BK282 := Aside0.mk (blk_below (g := gb282) (o := .cells #[.slice Ao30 t275.length co30, .slice Ao35 t278.length co35, .bool false] 25 (0, 0)) (by (with_reducible repeat (first | refine blk_drewN ?_ _ | refine blk_drew ?_ | refine blk_alloc ?_ _)); refine blk_put (cs := #[.slice Ao30 t275.length co30, .slice Ao35 t278.length co35, .bool false]) ?_ 2 _ rfl; (with_reducible repeat (first | refine blk_drewN ?_ _ | refine blk_drew ?_ | refine blk_alloc ?_ _)); refine blk_put (cs := #[.slice Ao30 t275.length co30, .slice none 0 0, .bool false]) ?_ 1 _ rfl; (with_reducible repeat (first | refine blk_drewN ?_ _ | refine blk_drew ?_ | refine blk_alloc ?_ _)); refine blk_put (cs := #[.slice none 0 0, .slice none 0 0, .bool false]) ?_ 0 _ rfl; (with_reducible repeat (first | refine blk_drewN ?_ _ | refine blk_drew ?_ | refine blk_alloc ?_ _)); exact BK282.out) hb); replace HB := vWs HB hb; (try clear hb); (try clear hb2); (try clear hk); (try clear hi)))
     go_meet
     case rel => exact ⟨_, (decide (t283 < 0)), (by first | rfl | (simp; done) | (simp [*]; done)), H', ⟨by first | omega | exact Nat.le_refl _⟩, ⟨vR HO277.out⟩, ⟨vR HO280.out⟩, ⟨vB BK272.out⟩, ⟨vB BK273.out⟩, ⟨vB BK274.out⟩, ⟨vB BK282.out⟩, ⟨vW HB.out⟩⟩
   ·
    rw [if_neg c36] at H
    have c36b0 : (a1_1 == 0) = false := beq_eq_false_iff_ne.mpr c36
    have c36b1 : (a1_1 != 0) = true := bne_iff_ne.mpr c36
    (first | rw [c36b0] | (simp only [i64_w, i32_w]; rw [c36b0]) | skip)
    replace H := Option.bind_eq_some_iff.mp H
    obtain ⟨t284, A510, H⟩ := H
    replace H : (if t284 < 0 then (oct_Bounds.j0 k true a1_0 a1_1 a1_2 a1_3 a1_4 t275 t278 false) else (if a1_3 = 0 then (oct_Bounds.j0 k false a1_0 a1_1 a1_2 a1_3 a1_4 t275 t278 false) else ((oct_node.f k t275 t278 false a1_2 1).bind fun t285 => (oct_Bounds.j0 k (decide (t285 < 0)) a1_0 a1_1 a1_2 a1_3 a1_4 t275 t278 false)))) = some (r1, r2) := H
    have A51 := Aside0.mk A510
    clear A510
    by_cases c52 : t284 < 0
    ·
     rw [if_pos c52] at H
     have c52b0 : decide (t284 < 0) = true := decide_eq_true c52
     clear c52
     have H' := Aside0.mk H
     clear H
     have hnb53 := NB273_272.out
     have hnc53 := NB272_273.out
     have hnb54 := NB273_274.out
     have hnc54 := NB274_273.out
     have hnb55 := NB273_282.out
     have hnc55 := NB282_273.out
     obtain ⟨hcz56_0, hcz56_1, hcz56_2, hcz56_3, hcz56_4, hfz56_0, hfz56_1, hfz56_2, hfz56_3, hfz56_4⟩ := vF5 BK273.out
     have hnb57 := NB282_272.out
     have hnc57 := NB272_282.out
     have hnb58 := NB282_274.out
     have hnc58 := NB274_282.out
     obtain ⟨hcz59_0, hcz59_1, hcz59_2, hfz59_0, hfz59_1, hfz59_2⟩ := vF3 BK282.out
     go_wp2_with (first | (go_at_call 74; (with_reducible refine (oct_node.calls k _ _ t275 _ _ t278 false a1_0 1 t284 _ ?side1 ?side2 ?side3 ?side4 A51.out).mono ?_); (case side1 => exact vTr HO277.out BK282.out); (case side2 => exact (Kd.R_reads' HO277.out).2.1); (case side3 => exact vTr HO280.out BK282.out); (case side4 => exact (Kd.R_reads' HO280.out).2.1); rintro e w60 ⟨rfl, hb⟩; replace HO277 := vTb HO277 BK282 hb; replace HO280 := vTb HO280 BK282 hb; replace BK272 := vBb BK272 hb; replace BK273 := vBb BK273 hb; replace BK274 := vBb BK274 hb; replace BK282 := Aside0.mk (blk_below (g := gb282) (o := .cells #[.slice Ao30 t275.length co30, .slice Ao35 t278.length co35, .bool false] 25 (0, 0)) (by (with_reducible repeat (first | refine blk_drewN ?_ _ | refine blk_drew ?_ | refine blk_alloc ?_ _)); refine blk_put (cs := #[.slice Ao30 t275.length co30, .slice Ao35 t278.length co35, .bool false]) ?_ 2 _ rfl; (with_reducible repeat (first | refine blk_drewN ?_ _ | refine blk_drew ?_ | refine blk_alloc ?_ _)); refine blk_put (cs := #[.slice Ao30 t275.length co30, .slice none 0 0, .bool false]) ?_ 1 _ rfl; (with_reducible repeat (first | refine blk_drewN ?_ _ | refine blk_drew ?_ | refine blk_alloc ?_ _)); refine blk_put (cs := #[.slice none 0 0, .slice none 0 0, .bool false]) ?_ 0 _ rfl; (with_reducible repeat (first | refine blk_drewN ?_ _ | refine blk_drew ?_ | refine blk_alloc ?_ _)); exact BK282.out) hb); replace HB := vWs HB hb; (try clear hb); (try clear hb2); (try clear hk); (try clear hi)))
     go_meet
     case rel => exact ⟨_, (true), (by first | rfl | (simp; done) | (simp [*]; done)), H', ⟨by first | omega | exact Nat.le_refl _⟩, ⟨vR HO277.out⟩, ⟨vR HO280.out⟩, ⟨vB BK272.out⟩, ⟨vB BK273.out⟩, ⟨vB BK274.out⟩, ⟨vB BK282.out⟩, ⟨vW HB.out⟩⟩
    ·
     rw [if_neg c52] at H
     have c52b0 : decide (t284 < 0) = false := decide_eq_false c52
     clear c52
     by_cases c61 : a1_3 = 0
     ·
      rw [if_pos c61] at H
      have c61b0 : (a1_3 == 0) = true := beq_iff_eq.mpr c61
      have c61b1 : (a1_3 != 0) = false := bne_eq_false_iff_eq.mpr c61
      clear c61
      have H' := Aside0.mk H
      clear H
      have hnb62 := NB273_272.out
      have hnc62 := NB272_273.out
      have hnb63 := NB273_274.out
      have hnc63 := NB274_273.out
      have hnb64 := NB273_282.out
      have hnc64 := NB282_273.out
      obtain ⟨hcz65_0, hcz65_1, hcz65_2, hcz65_3, hcz65_4, hfz65_0, hfz65_1, hfz65_2, hfz65_3, hfz65_4⟩ := vF5 BK273.out
      have hnb66 := NB282_272.out
      have hnc66 := NB272_282.out
      have hnb67 := NB282_274.out
      have hnc67 := NB274_282.out
      obtain ⟨hcz68_0, hcz68_1, hcz68_2, hfz68_0, hfz68_1, hfz68_2⟩ := vF3 BK282.out
      go_wp2_with (first | (go_at_call 74; (with_reducible refine (oct_node.calls k _ _ t275 _ _ t278 false a1_0 1 t284 _ ?side1 ?side2 ?side3 ?side4 A51.out).mono ?_); (case side1 => exact vTr HO277.out BK282.out); (case side2 => exact (Kd.R_reads' HO277.out).2.1); (case side3 => exact vTr HO280.out BK282.out); (case side4 => exact (Kd.R_reads' HO280.out).2.1); rintro e w69 ⟨rfl, hb⟩; replace HO277 := vTb HO277 BK282 hb; replace HO280 := vTb HO280 BK282 hb; replace BK272 := vBb BK272 hb; replace BK273 := vBb BK273 hb; replace BK274 := vBb BK274 hb; replace BK282 := Aside0.mk (blk_below (g := gb282) (o := .cells #[.slice Ao30 t275.length co30, .slice Ao35 t278.length co35, .bool false] 25 (0, 0)) (by (with_reducible repeat (first | refine blk_drewN ?_ _ | refine blk_drew ?_ | refine blk_alloc ?_ _)); refine blk_put (cs := #[.slice Ao30 t275.length co30, .slice Ao35 t278.length co35, .bool false]) ?_ 2 _ rfl; (with_reducible repeat (first | refine blk_drewN ?_ _ | refine blk_drew ?_ | refine blk_alloc ?_ _)); refine blk_put (cs := #[.slice Ao30 t275.length co30, .slice none 0 0, .bool false]) ?_ 1 _ rfl; (with_reducible repeat (first | refine blk_drewN ?_ _ | refine blk_drew ?_ | refine blk_alloc ?_ _)); refine blk_put (cs := #[.slice none 0 0, .slice none 0 0, .bool false]) ?_ 0 _ rfl; (with_reducible repeat (first | refine blk_drewN ?_ _ | refine blk_drew ?_ | refine blk_alloc ?_ _)); exact BK282.out) hb); replace HB := vWs HB hb; (try clear hb); (try clear hb2); (try clear hk); (try clear hi); obtain ⟨hcz70_0, hcz70_1, hcz70_2, hcz70_3, hcz70_4, hfz70_0, hfz70_1, hfz70_2, hfz70_3, hfz70_4⟩ := vF5 BK273.out))
      go_meet
      case rel => exact ⟨_, (false), (by first | rfl | (simp; done) | (simp [*]; done)), H', ⟨by first | omega | exact Nat.le_refl _⟩, ⟨vR HO277.out⟩, ⟨vR HO280.out⟩, ⟨vB BK272.out⟩, ⟨vB BK273.out⟩, ⟨vB BK274.out⟩, ⟨vB BK282.out⟩, ⟨vW HB.out⟩⟩
     ·
      rw [if_neg c61] at H
      have c61b0 : (a1_3 == 0) = false := beq_eq_false_iff_ne.mpr c61
      have c61b1 : (a1_3 != 0) = true := bne_iff_ne.mpr c61
      replace H := Option.bind_eq_some_iff.mp H
      obtain ⟨t285, A710, H⟩ := H
      replace H : (oct_Bounds.j0 k (decide (t285 < 0)) a1_0 a1_1 a1_2 a1_3 a1_4 t275 t278 false) = some (r1, r2) := H
      have A71 := Aside0.mk A710
      clear A710
      have H' := Aside0.mk H
      clear H
      have hnb72 := NB273_272.out
      have hnc72 := NB272_273.out
      have hnb73 := NB273_274.out
      have hnc73 := NB274_273.out
      have hnb74 := NB273_282.out
      have hnc74 := NB282_273.out
      obtain ⟨hcz75_0, hcz75_1, hcz75_2, hcz75_3, hcz75_4, hfz75_0, hfz75_1, hfz75_2, hfz75_3, hfz75_4⟩ := vF5 BK273.out
      have hnb76 := NB282_272.out
      have hnc76 := NB272_282.out
      have hnb77 := NB282_274.out
      have hnc77 := NB274_282.out
      obtain ⟨hcz78_0, hcz78_1, hcz78_2, hfz78_0, hfz78_1, hfz78_2⟩ := vF3 BK282.out
      go_wp2_with (first | (go_at_call 74; (with_reducible refine (oct_node.calls k _ _ t275 _ _ t278 false a1_0 1 t284 _ ?side1 ?side2 ?side3 ?side4 A51.out).mono ?_); (case side1 => exact vTr HO277.out BK282.out); (case side2 => exact (Kd.R_reads' HO277.out).2.1); (case side3 => exact vTr HO280.out BK282.out); (case side4 => exact (Kd.R_reads' HO280.out).2.1); rintro e w79 ⟨rfl, hb⟩; replace HO277 := vTb HO277 BK282 hb; replace HO280 := vTb HO280 BK282 hb; replace BK272 := vBb BK272 hb; replace BK273 := vBb BK273 hb; replace BK274 := vBb BK274 hb; replace BK282 := Aside0.mk (blk_below (g := gb282) (o := .cells #[.slice Ao30 t275.length co30, .slice Ao35 t278.length co35, .bool false] 25 (0, 0)) (by (with_reducible repeat (first | refine blk_drewN ?_ _ | refine blk_drew ?_ | refine blk_alloc ?_ _)); refine blk_put (cs := #[.slice Ao30 t275.length co30, .slice Ao35 t278.length co35, .bool false]) ?_ 2 _ rfl; (with_reducible repeat (first | refine blk_drewN ?_ _ | refine blk_drew ?_ | refine blk_alloc ?_ _)); refine blk_put (cs := #[.slice Ao30 t275.length co30, .slice none 0 0, .bool false]) ?_ 1 _ rfl; (with_reducible repeat (first | refine blk_drewN ?_ _ | refine blk_drew ?_ | refine blk_alloc ?_ _)); refine blk_put (cs := #[.slice none 0 0, .slice none 0 0, .bool false]) ?_ 0 _ rfl; (with_reducible repeat (first | refine blk_drewN ?_ _ | refine blk_drew ?_ | refine blk_alloc ?_ _)); exact BK282.out) hb); replace HB := vWs HB hb; (try clear hb); (try clear hb2); (try clear hk); (try clear hi); obtain ⟨hcz80_0, hcz80_1, hcz80_2, hcz80_3, hcz80_4, hfz80_0, hfz80_1, hfz80_2, hfz80_3, hfz80_4⟩ := vF5 BK273.out; obtain ⟨hcz81_0, hcz81_1, hcz81_2, hfz81_0, hfz81_1, hfz81_2⟩ := vF3 BK282.out) | (go_at_call 74; (with_reducible refine (oct_node.calls k _ _ t275 _ _ t278 false a1_2 1 t285 _ ?side1 ?side2 ?side3 ?side4 A71.out).mono ?_); (case side1 => repeat (first | exact (Kd.R_reads' HO277.out).2.2 | (with_reducible refine Kd.C_alloc ?_ _) | (with_reducible refine Kd.C_drewN ?_ _) | (with_reducible refine Kd.C_drew ?_))); (case side2 => exact (Kd.R_reads' HO277.out).2.1); (case side3 => repeat (first | exact (Kd.R_reads' HO280.out).2.2 | (with_reducible refine Kd.C_alloc ?_ _) | (with_reducible refine Kd.C_drewN ?_ _) | (with_reducible refine Kd.C_drew ?_))); (case side4 => exact (Kd.R_reads' HO280.out).2.1); rintro e w82 ⟨rfl, hb⟩; replace HO277 := vRb HO277 hb; replace HO280 := vRb HO280 hb; replace BK272 := vBb BK272 hb; replace BK273 := vBb BK273 hb; replace BK274 := vBb BK274 hb; replace BK282 := vBb BK282 hb; replace HB := vWs HB hb; (try clear hb); (try clear hb2); (try clear hk); (try clear hi)))
      go_meet
      case rel => exact ⟨_, (decide (t285 < 0)), (by first | rfl | (simp; done) | (simp [*]; done)), H', ⟨by first | omega | exact Nat.le_refl _⟩, ⟨vR HO277.out⟩, ⟨vR HO280.out⟩, ⟨vB BK272.out⟩, ⟨vB BK273.out⟩, ⟨vB BK274.out⟩, ⟨vB BK282.out⟩, ⟨vW HB.out⟩⟩
  case rest =>
   clear HC21
   try clear c1
   try clear c2
   try clear p2
   try clear c3
   try clear c4
   try clear c5
   try clear c6
   try clear p6
   try clear c7
   try clear c8
   try clear c9
   try clear c14
   try clear c15
   try clear c16
   try clear c19
   try clear c22
   try clear c25
   try clear c26
   try clear c31
   try clear c32
   try clear c33
   try clear c36
   try clear c36b0
   try clear c36b1
   try clear c37
   try clear c37b0
   try clear c37b1
   try clear c38
   try clear c39
   try clear c40
   try clear c43
   try clear c44
   try clear c45
   try clear c47
   try clear c48
   try clear c52
   try clear c52b0
   try clear c53
   try clear c54
   try clear c55
   try clear c57
   try clear c58
   try clear c61
   try clear c61b0
   try clear c61b1
   try clear c62
   try clear c63
   try clear c64
   try clear p64
   try clear c66
   try clear c67
   try clear c72
   try clear c73
   try clear c74
   try clear c76
   try clear c77
   try clear hcz10_0
   try clear hcz10_1
   try clear hcz10_2
   try clear hcz17_0
   try clear hcz17_1
   try clear hcz17_2
   try clear hcz20_0
   try clear hcz20_1
   try clear hcz27_0
   try clear hcz27_1
   try clear hcz27_2
   try clear hcz34_0
   try clear hcz34_1
   try clear hcz34_2
   try clear hcz41_0
   try clear hcz41_1
   try clear hcz41_2
   try clear hcz41_3
   try clear hcz41_4
   try clear hcz46_0
   try clear hcz46_1
   try clear hcz46_2
   try clear hcz46_3
   try clear hcz46_4
   try clear hcz49_0
   try clear hcz49_1
   try clear hcz49_2
   try clear hcz56_0
   try clear hcz56_1
   try clear hcz56_2
   try clear hcz56_3
   try clear hcz56_4
   try clear hcz59_0
   try clear hcz59_1
   try clear hcz59_2
   try clear hcz65_0
   try clear hcz65_1
   try clear hcz65_2
   try clear hcz65_3
   try clear hcz65_4
   try clear hcz68_0
   try clear hcz68_1
   try clear hcz68_2
   try clear hcz70_0
   try clear hcz70_1
   try clear hcz70_2
   try clear hcz70_3
   try clear hcz70_4
   try clear hcz75_0
   try clear hcz75_1
   try clear hcz75_2
   try clear hcz75_3
   try clear hcz75_4
   try clear hcz78_0
   try clear hcz78_1
   try clear hcz78_2
   try clear hcz80_0
   try clear hcz80_1
   try clear hcz80_2
   try clear hcz80_3
   try clear hcz80_4
   try clear hcz81_0
   try clear hcz81_1
   try clear hcz81_2
   try clear hfz10_0
   try clear hfz10_1
   try clear hfz10_2
   try clear hfz17_0
   try clear hfz17_1
   try clear hfz17_2
   try clear hfz20_0
   try clear hfz20_1
   try clear hfz27_0
   try clear hfz27_1
   try clear hfz27_2
   try clear hfz34_0
   try clear hfz34_1
   try clear hfz34_2
   try clear hfz41_0
   try clear hfz41_1
   try clear hfz41_2
   try clear hfz41_3
   try clear hfz41_4
   try clear hfz46_0
   try clear hfz46_1
   try clear hfz46_2
   try clear hfz46_3
   try clear hfz46_4
   try clear hfz49_0
   try clear hfz49_1
   try clear hfz49_2
   try clear hfz56_0
   try clear hfz56_1
   try clear hfz56_2
   try clear hfz56_3
   try clear hfz56_4
   try clear hfz59_0
   try clear hfz59_1
   try clear hfz59_2
   try clear hfz65_0
   try clear hfz65_1
   try clear hfz65_2
   try clear hfz65_3
   try clear hfz65_4
   try clear hfz68_0
   try clear hfz68_1
   try clear hfz68_2
   try clear hfz70_0
   try clear hfz70_1
   try clear hfz70_2
   try clear hfz70_3
   try clear hfz70_4
   try clear hfz75_0
   try clear hfz75_1
   try clear hfz75_2
   try clear hfz75_3
   try clear hfz75_4
   try clear hfz78_0
   try clear hfz78_1
   try clear hfz78_2
   try clear hfz80_0
   try clear hfz80_1
   try clear hfz80_2
   try clear hfz80_3
   try clear hfz80_4
   try clear hfz81_0
   try clear hfz81_1
   try clear hfz81_2
   obtain ⟨kq, x33_20, rfl, HA, HJ20, HO_283000, HO_283001, BK272, BK273, BK274, BK282, HB⟩ := hcut
   cases kq with
   | zero => exact absurd HA.out (by simp [oct_Bounds.j0])
   | succ kj20 =>
    have H := HA.out
    clear HA
    simp only [oct_Bounds.j0] at H
    by_cases c83 : x33_20 = true
    ·
     subst c83
     have H1 : (some ((-4611686018427387904), 4611686018427387904)) = some (r1, r2) := by rw [if_pos rfl] at H; exact H
     clear H
     have H := H1
     clear H1
     simp only [Option.some.injEq, Prod.mk.injEq] at H
     obtain ⟨rfl, rfl⟩ := H
     have hnb84 := NB274_272.out
     have hnc84 := NB272_274.out
     have hnb85 := NB274_273.out
     have hnc85 := NB273_274.out
     have hnb86 := NB274_282.out
     have hnc86 := NB282_274.out
     obtain ⟨hcz87_0, hcz87_1, hfz87_0, hfz87_1⟩ := vF2 BK274.out
     go_wp2
     refine bodyPost_ret (results_cell_row rfl _ _ gb274 37 #[.int .i64 (-4611686018427387904), .int .i64 4611686018427387904] (0, 0) _ rfl (by (with_reducible repeat (first | refine blk_drewN ?_ _ | refine blk_drew ?_ | refine blk_alloc ?_ _)); refine blk_put (cs := #[.int .i64 (-4611686018427387904), .int .i64 0]) ?_ 1 _ rfl; (with_reducible repeat (first | refine blk_drewN ?_ _ | refine blk_drew ?_ | refine blk_alloc ?_ _)); refine blk_put (cs := #[.int .i64 0, .int .i64 0]) ?_ 0 _ rfl; (with_reducible repeat (first | refine blk_drewN ?_ _ | refine blk_drew ?_ | refine blk_alloc ?_ _)); exact BK274.out) Try.underlying37 rfl (by kernel_rfl)) rfl ?_
     exact ⟨by first | rfl | (simp [errW_none, errW_some] <;> rfl) | (simp [*, errW_none, errW_some] <;> rfl) | (simp [wrap64]; done), vW HB.out⟩
    ·
     replace c83 := Bool.eq_false_iff.mpr c83
     subst c83
     have H1 : ((oct_most.f kj20 t275 t278 false a1_0 (wrap64 (-a1_1)) a1_2 (wrap64 (-a1_3)) a1_4).bind fun t287 => ((bound_Neg.f t287).bind fun t288 => ((bound_Down.f a1_4 t288).bind fun t289 => ((oct_most.f kj20 t275 t278 false a1_0 a1_1 a1_2 a1_3 a1_4).bind fun t290 => ((bound_Up.f a1_4 t290).bind fun t291 => (some (t289, t291))))))) = some (r1, r2) := by rw [if_neg (show ¬ (false = true) by decide)] at H; exact H
     clear H
     have H := H1
     clear H1
     replace H := Option.bind_eq_some_iff.mp H
     obtain ⟨t287, A880, H⟩ := H
     replace H : ((bound_Neg.f t287).bind fun t288 => ((bound_Down.f a1_4 t288).bind fun t289 => ((oct_most.f kj20 t275 t278 false a1_0 a1_1 a1_2 a1_3 a1_4).bind fun t290 => ((bound_Up.f a1_4 t290).bind fun t291 => (some (t289, t291)))))) = some (r1, r2) := H
     have A88 := Aside0.mk A880
     clear A880
     replace H := Option.bind_eq_some_iff.mp H
     obtain ⟨t288, A890, H⟩ := H
     replace H : ((bound_Down.f a1_4 t288).bind fun t289 => ((oct_most.f kj20 t275 t278 false a1_0 a1_1 a1_2 a1_3 a1_4).bind fun t290 => ((bound_Up.f a1_4 t290).bind fun t291 => (some (t289, t291))))) = some (r1, r2) := H
     have A89 := Aside0.mk A890
     clear A890
     replace H := Option.bind_eq_some_iff.mp H
     obtain ⟨t289, A900, H⟩ := H
     replace H : ((oct_most.f kj20 t275 t278 false a1_0 a1_1 a1_2 a1_3 a1_4).bind fun t290 => ((bound_Up.f a1_4 t290).bind fun t291 => (some (t289, t291)))) = some (r1, r2) := H
     have A90 := Aside0.mk A900
     clear A900
     replace H := Option.bind_eq_some_iff.mp H
     obtain ⟨t290, A910, H⟩ := H
     replace H : ((bound_Up.f a1_4 t290).bind fun t291 => (some (t289, t291))) = some (r1, r2) := H
     have A91 := Aside0.mk A910
     clear A910
     replace H := Option.bind_eq_some_iff.mp H
     obtain ⟨t291, A920, H⟩ := H
     replace H : (some (t289, t291)) = some (r1, r2) := H
     have A92 := Aside0.mk A920
     clear A920
     simp only [Option.some.injEq, Prod.mk.injEq] at H
     obtain ⟨rfl, rfl⟩ := H
     have hnb93 := NB273_272.out
     have hnc93 := NB272_273.out
     have hnb94 := NB273_274.out
     have hnc94 := NB274_273.out
     have hnb95 := NB273_282.out
     have hnc95 := NB282_273.out
     obtain ⟨hcz96_0, hcz96_1, hcz96_2, hcz96_3, hcz96_4, hfz96_0, hfz96_1, hfz96_2, hfz96_3, hfz96_4⟩ := vF5 BK273.out
     try go_wp2_with (first | ((with_reducible refine gate_dst (N := 6) rfl ?_); refine box_event ?hg (N := 6) ?hd (cs := #[.int .i64 0, .int .i64 0, .int .i64 0, .int .i64 0, .int .i64 0]) (t := 49) ?hr ?_; (case hd => rfl); (case hg => rfl); (case hr => first | (go_simp; done) | (go_simp; rfl)); intro gb286 hg w97 hbox hb; replace HO_283000 := vRb HO_283000 hb; replace HO_283001 := vRb HO_283001 hb; have BK286 := Aside0.mk (hbox); have GW286 := vS hg HB; have GE286 := vS hg HB; replace HB := vWs HB hb; have NB272_286 := vNl hg BK272; have NB286_272 := vNg hg BK272; replace BK272 := vBb BK272 hb; have NB273_286 := vNl hg BK273; have NB286_273 := vNg hg BK273; replace BK273 := vBb BK273 hb; have NB274_286 := vNl hg BK274; have NB286_274 := vNg hg BK274; replace BK274 := vBb BK274 hb; have NB282_286 := vNl hg BK282; have NB286_282 := vNg hg BK282; replace BK282 := vBb BK282 hb; clear hb hbox hg; have hnb98 := NB286_272.out; have hnc98 := NB272_286.out; have hnb99 := NB286_273.out; have hnc99 := NB273_286.out; have hnb100 := NB286_274.out; have hnc100 := NB274_286.out; have hnb101 := NB286_282.out; have hnc101 := NB282_286.out; obtain ⟨hcz102_0, hcz102_1, hcz102_2, hcz102_3, hcz102_4, hfz102_0, hfz102_1, hfz102_2, hfz102_3, hfz102_4⟩ := vF5 BK286.out))
     have n0_ : Aside0 (Kd.R (Kd.int .i64) 3 (((((w97.setCell ⟨gb286, 0, none⟩ (.int .i64 a1_0)).setCell ⟨gb286, 1, none⟩ (.int .i64 a1_1)).setCell ⟨gb286, 2, none⟩ (.int .i64 a1_2)).setCell ⟨gb286, 3, none⟩ (.int .i64 a1_3)).setCell ⟨gb286, 4, none⟩ (.int .i64 a1_4)) w.heap.size (fun _ => True) (.slice Ao30 t275.length co30) t275) := ⟨by (with_reducible repeat (first | apply Kd.R_alloc | apply Kd.R_drewN | apply Kd.R_drew)); exact Kd.R_mono (Kd.R_far (p := ⟨gb286, 4, none⟩) (Kd.R_far (p := ⟨gb286, 3, none⟩) (Kd.R_far (p := ⟨gb286, 2, none⟩) (Kd.R_far (p := ⟨gb286, 1, none⟩) (Kd.R_far (p := ⟨gb286, 0, none⟩) (Kd.R_types HO_283000.out BK286.out (by decide)) (fun _ hk => hk.2) (.int .i64 a1_0)) (fun _ hk => hk.2) (.int .i64 a1_1)) (fun _ hk => hk.2) (.int .i64 a1_2)) (fun _ hk => hk.2) (.int .i64 a1_3)) (fun _ hk => hk.2) (.int .i64 a1_4)) (fun _ hk => trivial)⟩
     have n1_ : Aside0 (Kd.R (Kd.int .i64) 2 (((((w97.setCell ⟨gb286, 0, none⟩ (.int .i64 a1_0)).setCell ⟨gb286, 1, none⟩ (.int .i64 a1_1)).setCell ⟨gb286, 2, none⟩ (.int .i64 a1_2)).setCell ⟨gb286, 3, none⟩ (.int .i64 a1_3)).setCell ⟨gb286, 4, none⟩ (.int .i64 a1_4)) w.heap.size (fun _ => True) (.slice Ao35 t278.length co35) t278) := ⟨by (with_reducible repeat (first | apply Kd.R_alloc | apply Kd.R_drewN | apply Kd.R_drew)); exact Kd.R_mono (Kd.R_far (p := ⟨gb286, 4, none⟩) (Kd.R_far (p := ⟨gb286, 3, none⟩) (Kd.R_far (p := ⟨gb286, 2, none⟩) (Kd.R_far (p := ⟨gb286, 1, none⟩) (Kd.R_far (p := ⟨gb286, 0, none⟩) (Kd.R_types HO_283001.out BK286.out (by decide)) (fun _ hk => hk.2) (.int .i64 a1_0)) (fun _ hk => hk.2) (.int .i64 a1_1)) (fun _ hk => hk.2) (.int .i64 a1_2)) (fun _ hk => hk.2) (.int .i64 a1_3)) (fun _ hk => hk.2) (.int .i64 a1_4)) (fun _ hk => trivial)⟩
     have n2_ : Aside0 ((((((w97.setCell ⟨gb286, 0, none⟩ (.int .i64 a1_0)).setCell ⟨gb286, 1, none⟩ (.int .i64 a1_1)).setCell ⟨gb286, 2, none⟩ (.int .i64 a1_2)).setCell ⟨gb286, 3, none⟩ (.int .i64 a1_3)).setCell ⟨gb286, 4, none⟩ (.int .i64 a1_4)).heap[gb272]? = some (.cells #[.slice A0_0 l0_0.length c0_0, .slice A0_1 l0_1.length c0_1, .bool a0_2] 25 (0, 0))) := ⟨vB BK272.out⟩
     have n3_ : Aside0 ((((((w97.setCell ⟨gb286, 0, none⟩ (.int .i64 a1_0)).setCell ⟨gb286, 1, none⟩ (.int .i64 a1_1)).setCell ⟨gb286, 2, none⟩ (.int .i64 a1_2)).setCell ⟨gb286, 3, none⟩ (.int .i64 a1_3)).setCell ⟨gb286, 4, none⟩ (.int .i64 a1_4)).heap[gb273]? = some (.cells #[.int .i64 a1_0, .int .i64 a1_1, .int .i64 a1_2, .int .i64 a1_3, .int .i64 a1_4] 49 (0, 0))) := ⟨vB BK273.out⟩
     have n4_ : Aside0 ((((((w97.setCell ⟨gb286, 0, none⟩ (.int .i64 a1_0)).setCell ⟨gb286, 1, none⟩ (.int .i64 a1_1)).setCell ⟨gb286, 2, none⟩ (.int .i64 a1_2)).setCell ⟨gb286, 3, none⟩ (.int .i64 a1_3)).setCell ⟨gb286, 4, none⟩ (.int .i64 a1_4)).heap[gb274]? = some (.cells #[.int .i64 0, .int .i64 0] 37 (0, 0))) := ⟨vB BK274.out⟩
     have n5_ : Aside0 ((((((w97.setCell ⟨gb286, 0, none⟩ (.int .i64 a1_0)).setCell ⟨gb286, 1, none⟩ (.int .i64 a1_1)).setCell ⟨gb286, 2, none⟩ (.int .i64 a1_2)).setCell ⟨gb286, 3, none⟩ (.int .i64 a1_3)).setCell ⟨gb286, 4, none⟩ (.int .i64 a1_4)).heap[gb282]? = some (.cells #[.slice Ao30 t275.length co30, .slice Ao35 t278.length co35, .bool false] 25 (0, 0))) := ⟨vB BK282.out⟩
     have n6_ : Aside0 ((((((w97.setCell ⟨gb286, 0, none⟩ (.int .i64 a1_0)).setCell ⟨gb286, 1, none⟩ (.int .i64 a1_1)).setCell ⟨gb286, 2, none⟩ (.int .i64 a1_2)).setCell ⟨gb286, 3, none⟩ (.int .i64 a1_3)).setCell ⟨gb286, 4, none⟩ (.int .i64 a1_4)).heap[gb286]? = some (.cells #[.int .i64 a1_0, .int .i64 a1_1, .int .i64 a1_2, .int .i64 a1_3, .int .i64 a1_4] 49 (0, 0))) := ⟨by (with_reducible repeat (first | refine blk_drewN ?_ _ | refine blk_drew ?_ | refine blk_alloc ?_ _)); refine blk_put (cs := #[.int .i64 a1_0, .int .i64 a1_1, .int .i64 a1_2, .int .i64 a1_3, .int .i64 0]) ?_ 4 _ rfl; (with_reducible repeat (first | refine blk_drewN ?_ _ | refine blk_drew ?_ | refine blk_alloc ?_ _)); refine blk_put (cs := #[.int .i64 a1_0, .int .i64 a1_1, .int .i64 a1_2, .int .i64 0, .int .i64 0]) ?_ 3 _ rfl; (with_reducible repeat (first | refine blk_drewN ?_ _ | refine blk_drew ?_ | refine blk_alloc ?_ _)); refine blk_put (cs := #[.int .i64 a1_0, .int .i64 a1_1, .int .i64 0, .int .i64 0, .int .i64 0]) ?_ 2 _ rfl; (with_reducible repeat (first | refine blk_drewN ?_ _ | refine blk_drew ?_ | refine blk_alloc ?_ _)); refine blk_put (cs := #[.int .i64 a1_0, .int .i64 0, .int .i64 0, .int .i64 0, .int .i64 0]) ?_ 1 _ rfl; (with_reducible repeat (first | refine blk_drewN ?_ _ | refine blk_drew ?_ | refine blk_alloc ?_ _)); refine blk_put (cs := #[.int .i64 0, .int .i64 0, .int .i64 0, .int .i64 0, .int .i64 0]) ?_ 0 _ rfl; (with_reducible repeat (first | refine blk_drewN ?_ _ | refine blk_drew ?_ | refine blk_alloc ?_ _)); exact BK286.out⟩
     have n7_ : Aside0 (Below w.heap.size w (((((w97.setCell ⟨gb286, 0, none⟩ (.int .i64 a1_0)).setCell ⟨gb286, 1, none⟩ (.int .i64 a1_1)).setCell ⟨gb286, 2, none⟩ (.int .i64 a1_2)).setCell ⟨gb286, 3, none⟩ (.int .i64 a1_3)).setCell ⟨gb286, 4, none⟩ (.int .i64 a1_4))) := ⟨vW HB.out⟩
     (try clear HO_283000)
     (try clear HO_283001)
     (try clear BK272)
     (try clear BK273)
     (try clear BK274)
     (try clear BK282)
     (try clear BK286)
     (try clear HB)
     generalize (((((w97.setCell ⟨gb286, 0, none⟩ (.int .i64 a1_0)).setCell ⟨gb286, 1, none⟩ (.int .i64 a1_1)).setCell ⟨gb286, 2, none⟩ (.int .i64 a1_2)).setCell ⟨gb286, 3, none⟩ (.int .i64 a1_3)).setCell ⟨gb286, 4, none⟩ (.int .i64 a1_4)) = w103 at n0_ n1_ n2_ n3_ n4_ n5_ n6_ n7_ ⊢
     have HO_283000 := n0_
     have HO_283001 := n1_
     have BK272 := n2_
     have BK273 := n3_
     have BK274 := n4_
     have BK282 := n5_
     have BK286 := n6_
     have HB := n7_
     clear n0_ n1_ n2_ n3_ n4_ n5_ n6_ n7_
     replace HO_283000 := Aside0.mk (Kd.R_drew HO_283000.out)
     replace HO_283001 := Aside0.mk (Kd.R_drew HO_283001.out)
     replace BK272 := Aside0.mk (blk_drew BK272.out)
     replace BK273 := Aside0.mk (blk_drew BK273.out)
     replace BK274 := Aside0.mk (blk_drew BK274.out)
     replace BK282 := Aside0.mk (blk_drew BK282.out)
     replace BK286 := Aside0.mk (blk_drew BK286.out)
     replace HB := Aside0.mk (below_drew1 HB.out)
     refine start_ (n := 10) (S := fun w' => w'.cell? ⟨gb273, 0, none⟩ = some (.int .i64 a1_0) ∧ w'.cell? ⟨gb273, 1, none⟩ = some (.int .i64 a1_1) ∧ w'.cell? ⟨gb273, 2, none⟩ = some (.int .i64 a1_2) ∧ w'.cell? ⟨gb273, 3, none⟩ = some (.int .i64 a1_3) ∧ w'.cell? ⟨gb273, 4, none⟩ = some (.int .i64 a1_4)) (ds := []) (mB 10 0) (by kernel_rfl) rfl rfl ⟨(blk_cell BK273.out 0).trans rfl, (blk_cell BK273.out 1).trans rfl, (blk_cell BK273.out 2).trans rfl, (blk_cell BK273.out 3).trans rfl, (blk_cell BK273.out 4).trans rfl⟩ (fun hHeld => ?_); refine with_tabW oct_Bounds.tab7 oct_Bounds.bits7 (fun HT_ HW_ => ?_)
     generalize w103.drew = w104 at HO_283000 HO_283001 BK272 BK273 BK274 BK282 BK286 HB hHeld ⊢
     refine pV_ 0 36 (mB 10 1) HT_ ?_
     refine pV_ 3 39 (mB 10 9) HT_ ?_
     refine tV_ 1 37 (mB 10 11) HT_ HW_ hHeld ?_
     refine pV_ 2 38 (mB 10 15) HT_ ?_
     refine pV_ 6 42 (mB 10 79) HT_ ?_
     refine tV_ 4 40 (mB 10 95) HT_ HW_ hHeld ?_
     refine pV_ 5 41 (mB 10 127) HT_ ?_
     refine one_ (i := 7) (N := none) (mB 10 255) rfl rfl (one_of HT_.out (by kernel_rfl)) (by decide) (fun K hK => ?_)
     have hs105 : w104.cell? ⟨gb286, 1, none⟩ = some (.int .i64 a1_1) := (blk_cell BK286.out 1).trans rfl
     have hfs105 := blk_frozen BK286.out 1
     have hns105_0 := NB272_286.out
     have hns105_1 := NB273_286.out
     have hns105_2 := NB274_286.out
     have hns105_3 := NB282_286.out
     have hms105_0 := NB286_272.out
     have hms105_1 := NB286_273.out
     have hms105_2 := NB286_274.out
     have hms105_3 := NB286_282.out
     refine skip_ (w1 := ?_) (by rfl) rfl ?_ ?_
     rotate_left
     ·
      go_simp
      rfl
     refine hK.out _ _ ⟨((cell_far (p := ⟨gb286, _, none⟩) NB273_286.out _).trans (hHeld.1)), ((cell_far (p := ⟨gb286, _, none⟩) NB273_286.out _).trans (hHeld.2.1)), ((cell_far (p := ⟨gb286, _, none⟩) NB273_286.out _).trans (hHeld.2.2.1)), ((cell_far (p := ⟨gb286, _, none⟩) NB273_286.out _).trans (hHeld.2.2.2.1)), ((cell_far (p := ⟨gb286, _, none⟩) NB273_286.out _).trans (hHeld.2.2.2.2))⟩ (fun hHeld => ?_)
     clear hK K
     refine pV_ 8 43 (mB 10 511) HT_ ?_
     refine one_ (i := 9) (N := none) (mB 10 1023) rfl rfl (one_of HT_.out (by kernel_rfl)) (by decide) (fun K hK => ?_)
     have hs106 : w104.cell? ⟨gb286, 3, none⟩ = some (.int .i64 a1_3) := (blk_cell BK286.out 3).trans rfl
     have hfs106 := blk_frozen BK286.out 3
     have hns106_0 := NB272_286.out
     have hns106_1 := NB273_286.out
     have hns106_2 := NB274_286.out
     have hns106_3 := NB282_286.out
     have hms106_0 := NB286_272.out
     have hms106_1 := NB286_273.out
     have hms106_2 := NB286_274.out
     have hms106_3 := NB286_282.out
     refine skip_ (w1 := ?_) (by rfl) rfl ?_ ?_
     rotate_left
     ·
      go_simp
      rfl
     refine hK.out _ _ ⟨((cell_far (p := ⟨gb286, _, none⟩) NB273_286.out _).trans (hHeld.1)), ((cell_far (p := ⟨gb286, _, none⟩) NB273_286.out _).trans (hHeld.2.1)), ((cell_far (p := ⟨gb286, _, none⟩) NB273_286.out _).trans (hHeld.2.2.1)), ((cell_far (p := ⟨gb286, _, none⟩) NB273_286.out _).trans (hHeld.2.2.2.1)), ((cell_far (p := ⟨gb286, _, none⟩) NB273_286.out _).trans (hHeld.2.2.2.2))⟩ (fun hHeld => ?_)
     clear hK K
     refine done_ (done_of HT_.out (by kernel_rfl)) ?_
     try go_wp2
     have n0_ : Aside0 (Kd.R (Kd.int .i64) 3 ((w104.setCell ⟨gb286, 1, none⟩ (.int .i64 (wrap64 (-a1_1)))).setCell ⟨gb286, 3, none⟩ (.int .i64 (wrap64 (-a1_3)))) w.heap.size (fun _ => True) (.slice Ao30 t275.length co30) t275) := ⟨by (with_reducible repeat (first | apply Kd.R_alloc | apply Kd.R_drewN | apply Kd.R_drew)); exact Kd.R_mono (Kd.R_far (p := ⟨gb286, 3, none⟩) (Kd.R_far (p := ⟨gb286, 1, none⟩) (Kd.R_types HO_283000.out BK286.out (by decide)) (fun _ hk => hk.2) (.int .i64 (wrap64 (-a1_1)))) (fun _ hk => hk.2) (.int .i64 (wrap64 (-a1_3)))) (fun _ hk => trivial)⟩
     have n1_ : Aside0 (Kd.R (Kd.int .i64) 2 ((w104.setCell ⟨gb286, 1, none⟩ (.int .i64 (wrap64 (-a1_1)))).setCell ⟨gb286, 3, none⟩ (.int .i64 (wrap64 (-a1_3)))) w.heap.size (fun _ => True) (.slice Ao35 t278.length co35) t278) := ⟨by (with_reducible repeat (first | apply Kd.R_alloc | apply Kd.R_drewN | apply Kd.R_drew)); exact Kd.R_mono (Kd.R_far (p := ⟨gb286, 3, none⟩) (Kd.R_far (p := ⟨gb286, 1, none⟩) (Kd.R_types HO_283001.out BK286.out (by decide)) (fun _ hk => hk.2) (.int .i64 (wrap64 (-a1_1)))) (fun _ hk => hk.2) (.int .i64 (wrap64 (-a1_3)))) (fun _ hk => trivial)⟩
     have n2_ : Aside0 (((w104.setCell ⟨gb286, 1, none⟩ (.int .i64 (wrap64 (-a1_1)))).setCell ⟨gb286, 3, none⟩ (.int .i64 (wrap64 (-a1_3)))).heap[gb272]? = some (.cells #[.slice A0_0 l0_0.length c0_0, .slice A0_1 l0_1.length c0_1, .bool a0_2] 25 (0, 0))) := ⟨vB BK272.out⟩
     have n3_ : Aside0 (((w104.setCell ⟨gb286, 1, none⟩ (.int .i64 (wrap64 (-a1_1)))).setCell ⟨gb286, 3, none⟩ (.int .i64 (wrap64 (-a1_3)))).heap[gb273]? = some (.cells #[.int .i64 a1_0, .int .i64 a1_1, .int .i64 a1_2, .int .i64 a1_3, .int .i64 a1_4] 49 (0, 0))) := ⟨vB BK273.out⟩
     have n4_ : Aside0 (((w104.setCell ⟨gb286, 1, none⟩ (.int .i64 (wrap64 (-a1_1)))).setCell ⟨gb286, 3, none⟩ (.int .i64 (wrap64 (-a1_3)))).heap[gb274]? = some (.cells #[.int .i64 0, .int .i64 0] 37 (0, 0))) := ⟨vB BK274.out⟩
     have n5_ : Aside0 (((w104.setCell ⟨gb286, 1, none⟩ (.int .i64 (wrap64 (-a1_1)))).setCell ⟨gb286, 3, none⟩ (.int .i64 (wrap64 (-a1_3)))).heap[gb282]? = some (.cells #[.slice Ao30 t275.length co30, .slice Ao35 t278.length co35, .bool false] 25 (0, 0))) := ⟨vB BK282.out⟩
     have n6_ : Aside0 (((w104.setCell ⟨gb286, 1, none⟩ (.int .i64 (wrap64 (-a1_1)))).setCell ⟨gb286, 3, none⟩ (.int .i64 (wrap64 (-a1_3)))).heap[gb286]? = some (.cells #[.int .i64 a1_0, .int .i64 (wrap64 (-a1_1)), .int .i64 a1_2, .int .i64 (wrap64 (-a1_3)), .int .i64 a1_4] 49 (0, 0))) := ⟨by (with_reducible repeat (first | refine blk_drewN ?_ _ | refine blk_drew ?_ | refine blk_alloc ?_ _)); refine blk_put (cs := #[.int .i64 a1_0, .int .i64 (wrap64 (-a1_1)), .int .i64 a1_2, .int .i64 a1_3, .int .i64 a1_4]) ?_ 3 _ rfl; (with_reducible repeat (first | refine blk_drewN ?_ _ | refine blk_drew ?_ | refine blk_alloc ?_ _)); refine blk_put (cs := #[.int .i64 a1_0, .int .i64 a1_1, .int .i64 a1_2, .int .i64 a1_3, .int .i64 a1_4]) ?_ 1 _ rfl; (with_reducible repeat (first | refine blk_drewN ?_ _ | refine blk_drew ?_ | refine blk_alloc ?_ _)); exact BK286.out⟩
     have n7_ : Aside0 (Below w.heap.size w ((w104.setCell ⟨gb286, 1, none⟩ (.int .i64 (wrap64 (-a1_1)))).setCell ⟨gb286, 3, none⟩ (.int .i64 (wrap64 (-a1_3))))) := ⟨vW HB.out⟩
     (try clear HO_283000)
     (try clear HO_283001)
     (try clear BK272)
     (try clear BK273)
     (try clear BK274)
     (try clear BK282)
     (try clear BK286)
     (try clear HB)
     generalize ((w104.setCell ⟨gb286, 1, none⟩ (.int .i64 (wrap64 (-a1_1)))).setCell ⟨gb286, 3, none⟩ (.int .i64 (wrap64 (-a1_3)))) = w107 at n0_ n1_ n2_ n3_ n4_ n5_ n6_ n7_ ⊢
     have HO_283000 := n0_
     have HO_283001 := n1_
     have BK272 := n2_
     have BK273 := n3_
     have BK274 := n4_
     have BK282 := n5_
     have BK286 := n6_
     have HB := n7_
     clear n0_ n1_ n2_ n3_ n4_ n5_ n6_ n7_
     replace HO_283000 := Aside0.mk (Kd.R_drew HO_283000.out)
     replace HO_283001 := Aside0.mk (Kd.R_drew HO_283001.out)
     replace BK272 := Aside0.mk (blk_drew BK272.out)
     replace BK273 := Aside0.mk (blk_drew BK273.out)
     replace BK274 := Aside0.mk (blk_drew BK274.out)
     replace BK282 := Aside0.mk (blk_drew BK282.out)
     replace BK286 := Aside0.mk (blk_drew BK286.out)
     replace HB := Aside0.mk (below_drew1 HB.out)
     refine start_ (n := 15) (S := fun w' => w'.cell? ⟨gb273, 0, none⟩ = some (.int .i64 a1_0) ∧ w'.cell? ⟨gb273, 1, none⟩ = some (.int .i64 a1_1) ∧ w'.cell? ⟨gb273, 2, none⟩ = some (.int .i64 a1_2) ∧ w'.cell? ⟨gb273, 3, none⟩ = some (.int .i64 a1_3) ∧ w'.cell? ⟨gb273, 4, none⟩ = some (.int .i64 a1_4) ∧ w'.cell? ⟨gb282, 0, none⟩ = some (.slice Ao30 t275.length co30) ∧ w'.cell? ⟨gb282, 1, none⟩ = some (.slice Ao35 t278.length co35) ∧ w'.cell? ⟨gb282, 2, none⟩ = some (.bool false) ∧ w'.cell? ⟨gb286, 0, none⟩ = some (.int .i64 a1_0) ∧ w'.cell? ⟨gb286, 1, none⟩ = some (.int .i64 (wrap64 (-a1_1))) ∧ w'.cell? ⟨gb286, 2, none⟩ = some (.int .i64 a1_2) ∧ w'.cell? ⟨gb286, 3, none⟩ = some (.int .i64 (wrap64 (-a1_3))) ∧ w'.cell? ⟨gb286, 4, none⟩ = some (.int .i64 a1_4)) (ds := []) (mB 15 0) (by kernel_rfl) rfl rfl ⟨(blk_cell BK273.out 0).trans rfl, (blk_cell BK273.out 1).trans rfl, (blk_cell BK273.out 2).trans rfl, (blk_cell BK273.out 3).trans rfl, (blk_cell BK273.out 4).trans rfl, (blk_cell BK282.out 0).trans rfl, (blk_cell BK282.out 1).trans rfl, (blk_cell BK282.out 2).trans rfl, (blk_cell BK286.out 0).trans rfl, (blk_cell BK286.out 1).trans rfl, (blk_cell BK286.out 2).trans rfl, (blk_cell BK286.out 3).trans rfl, (blk_cell BK286.out 4).trans rfl⟩ (fun hHeld => ?_); refine with_tabW oct_Bounds.tab8 oct_Bounds.bits8 (fun HT_ HW_ => ?_)
     generalize w107.drew = w108 at HO_283000 HO_283001 BK272 BK273 BK274 BK282 BK286 HB hHeld ⊢
     refine pV_ 0 44 (mB 15 1) HT_ ?_
     refine pV_ 7 51 (mB 15 129) HT_ ?_
     refine tV_ 1 45 (mB 15 131) HT_ HW_ hHeld ?_
     refine tV_ 2 46 (mB 15 135) HT_ HW_ hHeld ?_
     refine tV_ 3 47 (mB 15 143) HT_ HW_ hHeld ?_
     refine tV_ 8 52 (mB 15 399) HT_ HW_ hHeld ?_
     refine tV_ 9 53 (mB 15 911) HT_ HW_ hHeld ?_
     refine tV_ 10 54 (mB 15 1935) HT_ HW_ hHeld ?_
     refine one_ (i := 4) (N := some 48) (mB 15 1951) rfl rfl (one_of HT_.out (by kernel_rfl)) (by decide) (fun K hK => ?_)
     refine goes_ Try.func77 (by kernel_rfl) rfl #[.agg #[.slice Ao30 t275.length co30, .slice Ao35 t278.length co35, .bool false], .agg #[.int .i64 a1_0, .int .i64 (wrap64 (-a1_1)), .int .i64 a1_2, .int .i64 (wrap64 (-a1_3)), .int .i64 a1_4]] (by rfl) rfl rfl vL ?_
     with_reducible refine (oct_most.calls kj20 _ _ t275 _ _ t278 false a1_0 (wrap64 (-a1_1)) a1_2 (wrap64 (-a1_3)) a1_4 t287 _ ?side1 ?side2 ?side3 ?side4 A88.out).mono ?_
     (case side1 => repeat (first | exact (Kd.R_reads' HO_283000.out).2.2 | (with_reducible refine Kd.C_alloc ?_ _) | (with_reducible refine Kd.C_drewN ?_ _) | (with_reducible refine Kd.C_drew ?_)))
     (case side2 => exact (Kd.R_reads' HO_283000.out).2.1)
     (case side3 => repeat (first | exact (Kd.R_reads' HO_283001.out).2.2 | (with_reducible refine Kd.C_alloc ?_ _) | (with_reducible refine Kd.C_drewN ?_ _) | (with_reducible refine Kd.C_drew ?_)))
     (case side4 => exact (Kd.R_reads' HO_283001.out).2.1)
     rintro e w109 ⟨rfl, hb⟩
     refine ⟨_, rfl, ?_⟩
     replace HO_283000 := vRb HO_283000 hb
     replace HO_283001 := vRb HO_283001 hb
     replace BK272 := vBb BK272 hb
     replace BK273 := vBb BK273 hb
     replace BK274 := vBb BK274 hb
     replace BK282 := vBb BK282 hb
     replace BK286 := vBb BK286 hb
     replace HB := vWs HB hb
     (try clear hb)
     (try clear hb2)
     (try clear hk)
     (try clear hi)
     refine hK.out _ _ ⟨(blk_cell BK273.out 0).trans rfl, (blk_cell BK273.out 1).trans rfl, (blk_cell BK273.out 2).trans rfl, (blk_cell BK273.out 3).trans rfl, (blk_cell BK273.out 4).trans rfl, (blk_cell BK282.out 0).trans rfl, (blk_cell BK282.out 1).trans rfl, (blk_cell BK282.out 2).trans rfl, (blk_cell BK286.out 0).trans rfl, (blk_cell BK286.out 1).trans rfl, (blk_cell BK286.out 2).trans rfl, (blk_cell BK286.out 3).trans rfl, (blk_cell BK286.out 4).trans rfl⟩ (fun hHeld => ?_)
     clear hK K
     refine norm_ (a' := ?_) ?_ ?_
     rotate_left
     ·
      show Act.put _ (some 48) _ = _
      simp only [Act.put, List.setIfInBounds_toArray, List.set_cons_zero, List.set_cons_succ, i64_w, i32_w]
      rfl
     refine one_ (i := 5) (N := some 49) (mB 15 1983) rfl rfl (one_of HT_.out (by kernel_rfl)) (by decide) (fun K hK => ?_)
     refine goes_ Try.func76 (by kernel_rfl) rfl #[.int .i64 t287] (by rfl) rfl rfl vL ?_
     with_reducible refine (bound_Neg.calls t287 t288 _ A89.out).mono ?_
     rintro e w' ⟨rfl, ⟨nd, rfl⟩⟩
     refine ⟨_, rfl, ?_⟩
     refine hK.out _ _ ⟨(blk_cell BK273.out 0).trans rfl, (blk_cell BK273.out 1).trans rfl, (blk_cell BK273.out 2).trans rfl, (blk_cell BK273.out 3).trans rfl, (blk_cell BK273.out 4).trans rfl, (blk_cell BK282.out 0).trans rfl, (blk_cell BK282.out 1).trans rfl, (blk_cell BK282.out 2).trans rfl, (blk_cell BK286.out 0).trans rfl, (blk_cell BK286.out 1).trans rfl, (blk_cell BK286.out 2).trans rfl, (blk_cell BK286.out 3).trans rfl, (blk_cell BK286.out 4).trans rfl⟩ (fun hHeld => ?_)
     clear hK K
     refine norm_ (a' := ?_) ?_ ?_
     rotate_left
     ·
      show Act.put _ (some 49) _ = _
      simp only [Act.put, List.setIfInBounds_toArray, List.set_cons_zero, List.set_cons_succ, i64_w, i32_w]
      rfl
     refine one_ (i := 6) (N := some 50) (mB 15 2047) rfl rfl (one_of HT_.out (by kernel_rfl)) (by decide) (fun K hK => ?_)
     refine goes_ Try.func75 (by kernel_rfl) rfl #[.int .i64 a1_4, .int .i64 t288] (by rfl) rfl rfl vL ?_
     with_reducible refine (bound_Down.calls a1_4 t288 t289 _ A90.out).mono ?_
     rintro e w110 ⟨rfl, hb⟩
     refine ⟨_, rfl, ?_⟩
     replace HO_283000 := vRb HO_283000 hb
     replace HO_283001 := vRb HO_283001 hb
     replace BK272 := vBb BK272 hb
     replace BK273 := vBb BK273 hb
     replace BK274 := vBb BK274 hb
     replace BK282 := vBb BK282 hb
     replace BK286 := vBb BK286 hb
     replace HB := vWs HB hb
     (try clear hb)
     (try clear hb2)
     (try clear hk)
     (try clear hi)
     refine hK.out _ _ ⟨(blk_cell BK273.out 0).trans rfl, (blk_cell BK273.out 1).trans rfl, (blk_cell BK273.out 2).trans rfl, (blk_cell BK273.out 3).trans rfl, (blk_cell BK273.out 4).trans rfl, (blk_cell BK282.out 0).trans rfl, (blk_cell BK282.out 1).trans rfl, (blk_cell BK282.out 2).trans rfl, (blk_cell BK286.out 0).trans rfl, (blk_cell BK286.out 1).trans rfl, (blk_cell BK286.out 2).trans rfl, (blk_cell BK286.out 3).trans rfl, (blk_cell BK286.out 4).trans rfl⟩ (fun hHeld => ?_)
     clear hK K
     refine norm_ (a' := ?_) ?_ ?_
     rotate_left
     ·
      show Act.put _ (some 50) _ = _
      simp only [Act.put, List.setIfInBounds_toArray, List.set_cons_zero, List.set_cons_succ, i64_w, i32_w]
      rfl
     refine one_ (i := 11) (N := some 55) (mB 15 4095) rfl rfl (one_of HT_.out (by kernel_rfl)) (by decide) (fun K hK => ?_)
     refine goes_ Try.func77 (by kernel_rfl) rfl #[.agg #[.slice Ao30 t275.length co30, .slice Ao35 t278.length co35, .bool false], .agg #[.int .i64 a1_0, .int .i64 a1_1, .int .i64 a1_2, .int .i64 a1_3, .int .i64 a1_4]] (by rfl) rfl rfl vL ?_
     with_reducible refine (oct_most.calls kj20 _ _ t275 _ _ t278 false a1_0 a1_1 a1_2 a1_3 a1_4 t290 _ ?side1 ?side2 ?side3 ?side4 A91.out).mono ?_
     (case side1 => repeat (first | exact (Kd.R_reads' HO_283000.out).2.2 | (with_reducible refine Kd.C_alloc ?_ _) | (with_reducible refine Kd.C_drewN ?_ _) | (with_reducible refine Kd.C_drew ?_)))
     (case side2 => exact (Kd.R_reads' HO_283000.out).2.1)
     (case side3 => repeat (first | exact (Kd.R_reads' HO_283001.out).2.2 | (with_reducible refine Kd.C_alloc ?_ _) | (with_reducible refine Kd.C_drewN ?_ _) | (with_reducible refine Kd.C_drew ?_)))
     (case side4 => exact (Kd.R_reads' HO_283001.out).2.1)
     rintro e w111 ⟨rfl, hb⟩
     refine ⟨_, rfl, ?_⟩
     replace HO_283000 := vRb HO_283000 hb
     replace HO_283001 := vRb HO_283001 hb
     replace BK272 := vBb BK272 hb
     replace BK273 := vBb BK273 hb
     replace BK274 := vBb BK274 hb
     replace BK282 := vBb BK282 hb
     replace BK286 := vBb BK286 hb
     replace HB := vWs HB hb
     (try clear hb)
     (try clear hb2)
     (try clear hk)
     (try clear hi)
     refine hK.out _ _ ⟨(blk_cell BK273.out 0).trans rfl, (blk_cell BK273.out 1).trans rfl, (blk_cell BK273.out 2).trans rfl, (blk_cell BK273.out 3).trans rfl, (blk_cell BK273.out 4).trans rfl, (blk_cell BK282.out 0).trans rfl, (blk_cell BK282.out 1).trans rfl, (blk_cell BK282.out 2).trans rfl, (blk_cell BK286.out 0).trans rfl, (blk_cell BK286.out 1).trans rfl, (blk_cell BK286.out 2).trans rfl, (blk_cell BK286.out 3).trans rfl, (blk_cell BK286.out 4).trans rfl⟩ (fun hHeld => ?_)
     clear hK K
     refine norm_ (a' := ?_) ?_ ?_
     rotate_left
     ·
      show Act.put _ (some 55) _ = _
      simp only [Act.put, List.setIfInBounds_toArray, List.set_cons_zero, List.set_cons_succ, i64_w, i32_w]
      rfl
     refine one_ (i := 12) (N := some 56) (mB 15 8191) rfl rfl (one_of HT_.out (by kernel_rfl)) (by decide) (fun K hK => ?_)
     refine goes_ Try.func57 (by kernel_rfl) rfl #[.int .i64 a1_4, .int .i64 t290] (by rfl) rfl rfl vL ?_
     with_reducible refine (bound_Up.calls a1_4 t290 t291 _ A92.out).mono ?_
     rintro e w112 ⟨rfl, hb⟩
     refine ⟨_, rfl, ?_⟩
     replace HO_283000 := vRb HO_283000 hb
     replace HO_283001 := vRb HO_283001 hb
     replace BK272 := vBb BK272 hb
     replace BK273 := vBb BK273 hb
     replace BK274 := vBb BK274 hb
     replace BK282 := vBb BK282 hb
     replace BK286 := vBb BK286 hb
     replace HB := vWs HB hb
     (try clear hb)
     (try clear hb2)
     (try clear hk)
     (try clear hi)
     refine hK.out _ _ ⟨(blk_cell BK273.out 0).trans rfl, (blk_cell BK273.out 1).trans rfl, (blk_cell BK273.out 2).trans rfl, (blk_cell BK273.out 3).trans rfl, (blk_cell BK273.out 4).trans rfl, (blk_cell BK282.out 0).trans rfl, (blk_cell BK282.out 1).trans rfl, (blk_cell BK282.out 2).trans rfl, (blk_cell BK286.out 0).trans rfl, (blk_cell BK286.out 1).trans rfl, (blk_cell BK286.out 2).trans rfl, (blk_cell BK286.out 3).trans rfl, (blk_cell BK286.out 4).trans rfl⟩ (fun hHeld => ?_)
     clear hK K
     refine norm_ (a' := ?_) ?_ ?_
     rotate_left
     ·
      show Act.put _ (some 56) _ = _
      simp only [Act.put, List.setIfInBounds_toArray, List.set_cons_zero, List.set_cons_succ, i64_w, i32_w]
      rfl
     refine pV_ 13 57 (mB 15 16383) HT_ ?_
     refine one_ (i := 14) (N := none) (mB 15 32767) rfl rfl (one_of HT_.out (by kernel_rfl)) (by decide) (fun K hK => ?_)
     have hs113 : w112.cell? ⟨gb274, 0, none⟩ = some (.int .i64 0) := (blk_cell BK274.out 0).trans rfl
     have hfs113 := blk_frozen BK274.out 0
     have hns113_0 := NB272_274.out
     have hns113_1 := NB273_274.out
     have hns113_3 := NB282_274.out
     have hns113_4 := NB286_274.out
     have hms113_0 := NB274_272.out
     have hms113_1 := NB274_273.out
     have hms113_3 := NB274_282.out
     have hms113_4 := NB274_286.out
     have hs114 : w112.cell? ⟨gb274, 1, none⟩ = some (.int .i64 0) := (blk_cell BK274.out 1).trans rfl
     have hfs114 := blk_frozen BK274.out 1
     have hns114_0 := NB272_274.out
     have hns114_1 := NB273_274.out
     have hns114_3 := NB282_274.out
     have hns114_4 := NB286_274.out
     have hms114_0 := NB274_272.out
     have hms114_1 := NB274_273.out
     have hms114_3 := NB274_282.out
     have hms114_4 := NB274_286.out
     refine skip_ (w1 := ?_) (by rfl) rfl ?_ ?_
     rotate_left
     ·
      go_simp
      rfl
     refine hK.out _ _ ⟨((cell_far (p := ⟨gb274, _, none⟩) NB273_274.out _).trans (((cell_far (p := ⟨gb274, _, none⟩) NB273_274.out _).trans (hHeld.1)))), ((cell_far (p := ⟨gb274, _, none⟩) NB273_274.out _).trans (((cell_far (p := ⟨gb274, _, none⟩) NB273_274.out _).trans (hHeld.2.1)))), ((cell_far (p := ⟨gb274, _, none⟩) NB273_274.out _).trans (((cell_far (p := ⟨gb274, _, none⟩) NB273_274.out _).trans (hHeld.2.2.1)))), ((cell_far (p := ⟨gb274, _, none⟩) NB273_274.out _).trans (((cell_far (p := ⟨gb274, _, none⟩) NB273_274.out _).trans (hHeld.2.2.2.1)))), ((cell_far (p := ⟨gb274, _, none⟩) NB273_274.out _).trans (((cell_far (p := ⟨gb274, _, none⟩) NB273_274.out _).trans (hHeld.2.2.2.2.1)))), ((cell_far (p := ⟨gb274, _, none⟩) NB282_274.out _).trans (((cell_far (p := ⟨gb274, _, none⟩) NB282_274.out _).trans (hHeld.2.2.2.2.2.1)))), ((cell_far (p := ⟨gb274, _, none⟩) NB282_274.out _).trans (((cell_far (p := ⟨gb274, _, none⟩) NB282_274.out _).trans (hHeld.2.2.2.2.2.2.1)))), ((cell_far (p := ⟨gb274, _, none⟩) NB282_274.out _).trans (((cell_far (p := ⟨gb274, _, none⟩) NB282_274.out _).trans (hHeld.2.2.2.2.2.2.2.1)))), ((cell_far (p := ⟨gb274, _, none⟩) NB286_274.out _).trans (((cell_far (p := ⟨gb274, _, none⟩) NB286_274.out _).trans (hHeld.2.2.2.2.2.2.2.2.1)))), ((cell_far (p := ⟨gb274, _, none⟩) NB286_274.out _).trans (((cell_far (p := ⟨gb274, _, none⟩) NB286_274.out _).trans (hHeld.2.2.2.2.2.2.2.2.2.1)))), ((cell_far (p := ⟨gb274, _, none⟩) NB286_274.out _).trans (((cell_far (p := ⟨gb274, _, none⟩) NB286_274.out _).trans (hHeld.2.2.2.2.2.2.2.2.2.2.1)))), ((cell_far (p := ⟨gb274, _, none⟩) NB286_274.out _).trans (((cell_far (p := ⟨gb274, _, none⟩) NB286_274.out _).trans (hHeld.2.2.2.2.2.2.2.2.2.2.2.1)))), ((cell_far (p := ⟨gb274, _, none⟩) NB286_274.out _).trans (((cell_far (p := ⟨gb274, _, none⟩) NB286_274.out _).trans (hHeld.2.2.2.2.2.2.2.2.2.2.2.2))))⟩ (fun hHeld => ?_)
     clear hK K
     refine done_ (done_of HT_.out (by kernel_rfl)) ?_
     try go_wp2
     refine bodyPost_ret (results_cell_row rfl _ _ gb274 37 #[.int .i64 t289, .int .i64 t291] (0, 0) _ rfl (by (with_reducible repeat (first | refine blk_drewN ?_ _ | refine blk_drew ?_ | refine blk_alloc ?_ _)); refine blk_put (cs := #[.int .i64 t289, .int .i64 0]) ?_ 1 _ rfl; (with_reducible repeat (first | refine blk_drewN ?_ _ | refine blk_drew ?_ | refine blk_alloc ?_ _)); refine blk_put (cs := #[.int .i64 0, .int .i64 0]) ?_ 0 _ rfl; (with_reducible repeat (first | refine blk_drewN ?_ _ | refine blk_drew ?_ | refine blk_alloc ?_ _)); exact BK274.out) Try.underlying37 rfl (by kernel_rfl)) rfl ?_
     exact ⟨by first | rfl | (simp [errW_none, errW_some] <;> rfl) | (simp [*, errW_none, errW_some] <;> rfl) | (simp [wrap64]; done), vW HB.out⟩
end Go.Proofs.Ytomgebmimgaojaa.QO
end
end
section
/- Written by a program of this session out of the translation. -/
noncomputable section
namespace Go.Proofs.Ytomgebmimgaojaa.QO
open Go.RowKit Go.Proofs.YtomgebmimgaojaaW.PrintWords Go.Proofs.YtomgebmimgaojaaW.PrintLast
set_option linter.unusedVariables false
set_option linter.unusedSimpArgs false
/-! ### gimbalref11_copied: function 50 -/
def gimbalref11_copied.f (l0 : List Int) : Option (List Int) := if ([] : List Int).length + l0.length < 17592186044416 then (some (([] : List Int) ++ l0)) else (none)
set_option maxHeartbeats 8000000 in
set_option maxRecDepth 100000 in
theorem gimbalref11_copied.calls (A0 : Option Addr) (c0 : Nat) (l0 : List Int) (r : List Int) (w : World) (hr0 : Kd.C (Kd.int .i64) w A0 l0.length l0) (hc0 : l0.length ≤ c0) (h : gimbalref11_copied.f l0 = some r) :
 Calls Try.prog 50 #[.slice A0 l0.length c0] w fun e w' => ∃ v0_ : Value, e = .returned (v0_) ∧ Kd.R (Kd.int .i64) 3 w' w.heap.size (fun _ => True) v0_ r ∧ Below w.heap.size w w' := by
 have HR0 := Aside0.mk hr0
 have HC0 := Aside0.mk hc0
 clear hr0 hc0
 have HB := Aside0.mk (Below.refl w.heap.size w)
 have H : (if ([] : List Int).length + l0.length < 17592186044416 then (some (([] : List Int) ++ l0)) else (none)) = some r := h
 clear h
 by_cases c2 : ([] : List Int).length + l0.length < 17592186044416
 ·
  rw [if_pos c2] at H
  have LMc2 := Aside0.mk c2
  clear c2
  obtain ⟨y155, hy155⟩ : ∃ y_ : List Int, y_ = (([] : List Int) ++ l0) := ⟨_, rfl⟩
  replace H : (some y155) = some r := by first | (rw [hy155]; with_reducible exact H) | (have H2_ := (Option.bind_some _ _).symm.trans H; rw [hy155]; with_reducible exact H2_) | (have H2_ := (Option.bind_some _ _).symm.trans H; with_reducible exact H2_) | with_reducible exact H | (rw [hy155]; exact H) | exact H
  have Ny155 := Aside0.mk hy155
  clear hy155
  obtain rfl := Option.some.inj H
  go_enter Try.func50, Try.ntmps50
  go_wp2_with (first | ((with_reducible refine gate_builtin (b := .append) (xs := #[.tmp 4, .tmp 5]) rfl ?_); at_builtin; refine Kd.R_append_rows (Kd.int .i64) (w0 := w) w.heap.size rfl (.tmp 4) (.tmp 5) 22 3 (.int .i64 0) 8 rfl Try.underlying22 info3 rfl (by decide) (by omega) (.slice none 0 0) ([] : List Int) l0 _ _ _ (fun _ => True) (fun _ => False) rfl rfl ?aO ?aR (fun _ _ h => h) (fun _ h => h.elim) ?aF ?aB ?aS ?aL ?_; (case aR => repeat (first | exact HR0.out | (with_reducible refine Kd.C_alloc ?_ _) | (with_reducible refine Kd.C_drewN ?_ _) | (with_reducible refine Kd.C_drew ?_))); (case aB => exact (vW HB.out)); (case aF => exact (fun _ _ => trivial)); (case aO => exact ((Kd.R_nil _ _ _ _ (fun _ => True)))); (case aS => exact (below_size (vW HB.out))); (case aL => have := LMc2.out; omega); intro v156 w3 ho hb hg hat; rw [← Ny155.out] at ho; replace HB := Aside0.mk (hb); have HO157 := Aside0.mk (ho); clear ho hb hg hat))
  go_ret
  exact ⟨_, by first | rfl | (simp [errW_none, errW_some] <;> rfl) | (simp [*, errW_none, errW_some] <;> rfl) | (simp [wrap64]; done), by (with_reducible repeat (first | apply Kd.R_alloc | apply Kd.R_drewN | apply Kd.R_drew)); exact HO157.out, vW HB.out⟩
 ·
  rw [if_neg c2] at H
  exact absurd H (by simp)
end Go.Proofs.Ytomgebmimgaojaa.QO
end
end
section
/- Written by a program of this session out of the translation. -/
noncomputable section
namespace Go.Proofs.Ytomgebmimgaojaa.QO
open Go.RowKit Go.Proofs.YtomgebmimgaojaaW.PrintWords Go.Proofs.YtomgebmimgaojaaW.PrintLast
set_option linter.unusedVariables false
set_option linter.unusedSimpArgs false
/-! ### gimbalref11_Bottom: function 17 -/
def gimbalref11_Bottom.f (l0 : List Int) : Option (List Int × List Int × Bool) := (gimbalref11_VarsFit.f l0).bind fun t159 => (if t159 = true then ((gimbalref11_copied.f l0).bind fun t160 => (some (t160, ([] : List Int), true))) else (some (([] : List Int), ([] : List Int), false)))
set_option maxHeartbeats 8000000 in
set_option maxRecDepth 100000 in
theorem gimbalref11_Bottom.calls (A0 : Option Addr) (c0 : Nat) (l0 : List Int) (r1 : List Int) (r2 : List Int) (r3 : Bool) (w : World) (hr0 : Kd.C (Kd.int .i64) w A0 l0.length l0) (hc0 : l0.length ≤ c0) (h : gimbalref11_Bottom.f l0 = some (r1, r2, r3)) :
 Calls Try.prog 17 #[.slice A0 l0.length c0] w fun e w' => ∃ v0_ v1_ : Value, e = .returned (.agg #[v0_, v1_, .bool r3]) ∧ Kd.R (Kd.int .i64) 3 w' w.heap.size (fun _ => True) v0_ r1 ∧ Kd.R (Kd.int .i64) 2 w' w.heap.size (fun _ => True) v1_ r2 ∧ Below w.heap.size w w' := by
 have hu25 := Try.underlying25
 have HR0 := Aside0.mk hr0
 have HC0 := Aside0.mk hc0
 clear hr0 hc0
 have HB := Aside0.mk (Below.refl w.heap.size w)
 have H : ((gimbalref11_VarsFit.f l0).bind fun t159 => (if t159 = true then ((gimbalref11_copied.f l0).bind fun t160 => (some (t160, ([] : List Int), true))) else (some (([] : List Int), ([] : List Int), false)))) = some (r1, r2, r3) := h
 clear h
 replace H := Option.bind_eq_some_iff.mp H
 obtain ⟨t159, A20, H⟩ := H
 replace H : (if t159 = true then ((gimbalref11_copied.f l0).bind fun t160 => (some (t160, ([] : List Int), true))) else (some (([] : List Int), ([] : List Int), false))) = some (r1, r2, r3) := H
 have A2 := Aside0.mk A20
 clear A20
 by_cases c3 : t159 = true
 ·
  subst c3
  have H1 : ((gimbalref11_copied.f l0).bind fun t160 => (some (t160, ([] : List Int), true))) = some (r1, r2, r3) := by rw [if_pos rfl] at H; exact H
  clear H
  have H := H1
  clear H1
  replace H := Option.bind_eq_some_iff.mp H
  obtain ⟨t160, A40, H⟩ := H
  replace H : (some (t160, ([] : List Int), true)) = some (r1, r2, r3) := H
  have A4 := Aside0.mk A40
  clear A40
  simp only [Option.some.injEq, Prod.mk.injEq] at H
  obtain ⟨rfl, rfl, rfl⟩ := H
  go_enter Try.func17, Try.ntmps17
  go_wp2_with (first | ((with_reducible refine gate_dst (N := 2) rfl ?_); refine box_event ?hg (N := 2) ?hd (cs := #[.slice none 0 0, .slice none 0 0, .bool false]) (t := 25) ?hr ?_; (case hd => rfl); (case hg => rfl); (case hr => first | (go_simp; done) | (go_simp; rfl)); intro gb158 hg w5 hbox hb; have BK158 := Aside0.mk (hbox); have GW158 := vS hg HB; have GE158 := vS hg HB; replace HB := vWs HB hb; clear hb hbox hg) | ((with_reducible refine gate_callee (f := 49) rfl ?_); refine goesL_ (some 4) rfl rfl Try.func49 (by kernel_rfl) rfl #[.slice A0 l0.length c0] rfl vL ?_; (with_reducible refine (gimbalref11_VarsFit.calls _ _ l0 true _ ?side1 ?side2 A2.out).mono ?_); (case side1 => exact vC (Kd.C_below HR0.out HB.out)); (case side2 => exact HC0.out); rintro e w' ⟨rfl, ⟨nd, rfl⟩⟩; refine ⟨_, rfl, ?_⟩; (try (rw [drewN_self w5]; generalize hq_ : World.drewN w5 _ = w5; have n0_ : Aside0 (w5.heap[gb158]? = some (.cells #[.slice none 0 0, .slice none 0 0, .bool false] 25 (0, 0))) := ⟨by rw [← hq_]; exact (vB BK158.out)⟩; have n1_ : Aside0 (Below w.heap.size w w5) := ⟨by rw [← hq_]; exact (vW HB.out)⟩; clear BK158 HB hq_; have BK158 := n0_; have HB := n1_; clear n0_ n1_))) | ((with_reducible refine gate_callee (f := 50) rfl ?_); refine goesL_ (some 8) rfl rfl Try.func50 (by kernel_rfl) rfl #[.slice A0 l0.length c0] rfl vL ?_; (with_reducible refine (gimbalref11_copied.calls _ _ l0 t160 _ ?side1 ?side2 A4.out).mono ?_); (case side1 => exact vC (Kd.C_below HR0.out HB.out)); (case side2 => exact HC0.out); rintro e w6 ⟨v161, rfl, ho0, hb⟩; refine ⟨_, rfl, ?_⟩; have HO162 := Aside0.mk (Kd.R_lower ho0 (below_size (vW HB.out))); replace BK158 := vBb BK158 hb; replace HB := vWs HB hb; (try clear hb); (try clear hb2); (try clear hk); (try clear hi); (try clear ho0); obtain ⟨Ao7, co7, eo7⟩ := Kd.R_slice HO162.out; subst eo7; obtain ⟨hcz8_0, hcz8_1, hcz8_2, hfz8_0, hfz8_1, hfz8_2⟩ := vF3 BK158.out))
  refine bodyPost_ret (results_cell_row rfl _ _ gb158 25 #[.slice Ao7 t160.length co7, .slice none 0 0, .bool true] (0, 0) _ rfl (by (with_reducible repeat (first | refine blk_drewN ?_ _ | refine blk_drew ?_ | refine blk_alloc ?_ _)); refine blk_put (cs := #[.slice Ao7 t160.length co7, .slice none 0 0, .bool false]) ?_ 2 _ rfl; (with_reducible repeat (first | refine blk_drewN ?_ _ | refine blk_drew ?_ | refine blk_alloc ?_ _)); refine blk_put (cs := #[.slice Ao7 t160.length co7, .slice none 0 0, .bool false]) ?_ 1 _ rfl; (with_reducible repeat (first | refine blk_drewN ?_ _ | refine blk_drew ?_ | refine blk_alloc ?_ _)); refine blk_put (cs := #[.slice none 0 0, .slice none 0 0, .bool false]) ?_ 0 _ rfl; (with_reducible repeat (first | refine blk_drewN ?_ _ | refine blk_drew ?_ | refine blk_alloc ?_ _)); exact BK158.out) Try.underlying25 rfl (by kernel_rfl)) rfl ?_
  exact ⟨_, _, by first | rfl | (simp [errW_none, errW_some] <;> rfl) | (simp [*, errW_none, errW_some] <;> rfl) | (simp [wrap64]; done), by (with_reducible repeat (first | apply Kd.R_alloc | apply Kd.R_drewN | apply Kd.R_drew)); exact Kd.R_mono (Kd.R_far (p := ⟨gb158, 2, none⟩) (Kd.R_far (p := ⟨gb158, 1, none⟩) (Kd.R_far (p := ⟨gb158, 0, none⟩) (Kd.R_types HO162.out BK158.out (by decide)) (fun _ hk => hk.2) (.slice Ao7 t160.length co7)) (fun _ hk => hk.2) (.slice none 0 0)) (fun _ hk => hk.2) (.bool true)) (fun _ hk => trivial), by first | exact Kd.R_nil _ _ _ _ _ | exact Kd.N_nil _ _ _ _ _ | exact Kd.V_nil _ _ _ _ _ | exact Kd.Q_nil _ _ _ _ _ | exact Kd.S_nil _ _ _ _ _, vW HB.out⟩
 ·
  replace c3 := Bool.eq_false_iff.mpr c3
  subst c3
  have H1 : (some (([] : List Int), ([] : List Int), false)) = some (r1, r2, r3) := by rw [if_neg (show ¬ (false = true) by decide)] at H; exact H
  clear H
  have H := H1
  clear H1
  simp only [Option.some.injEq, Prod.mk.injEq] at H
  obtain ⟨rfl, rfl, rfl⟩ := H
  go_enter Try.func17, Try.ntmps17
  go_wp2_with (first | ((with_reducible refine gate_dst (N := 2) rfl ?_); refine box_event ?hg (N := 2) ?hd (cs := #[.slice none 0 0, .slice none 0 0, .bool false]) (t := 25) ?hr ?_; (case hd => rfl); (case hg => rfl); (case hr => first | (go_simp; done) | (go_simp; rfl)); intro gb158 hg w9 hbox hb; have BK158 := Aside0.mk (hbox); have GW158 := vS hg HB; have GE158 := vS hg HB; replace HB := vWs HB hb; clear hb hbox hg) | ((with_reducible refine gate_callee (f := 49) rfl ?_); refine goesL_ (some 4) rfl rfl Try.func49 (by kernel_rfl) rfl #[.slice A0 l0.length c0] rfl vL ?_; (with_reducible refine (gimbalref11_VarsFit.calls _ _ l0 false _ ?side1 ?side2 A2.out).mono ?_); (case side1 => exact vC (Kd.C_below HR0.out HB.out)); (case side2 => exact HC0.out); rintro e w' ⟨rfl, ⟨nd, rfl⟩⟩; refine ⟨_, rfl, ?_⟩; (try (rw [drewN_self w9]; generalize hq_ : World.drewN w9 _ = w9; have n0_ : Aside0 (w9.heap[gb158]? = some (.cells #[.slice none 0 0, .slice none 0 0, .bool false] 25 (0, 0))) := ⟨by rw [← hq_]; exact (vB BK158.out)⟩; have n1_ : Aside0 (Below w.heap.size w w9) := ⟨by rw [← hq_]; exact (vW HB.out)⟩; clear BK158 HB hq_; have BK158 := n0_; have HB := n1_; clear n0_ n1_)); obtain ⟨hcz10_0, hcz10_1, hcz10_2, hfz10_0, hfz10_1, hfz10_2⟩ := vF3 BK158.out))
  refine bodyPost_ret (results_cell_row rfl _ _ gb158 25 #[.slice none 0 0, .slice none 0 0, .bool false] (0, 0) _ rfl (by (with_reducible repeat (first | refine blk_drewN ?_ _ | refine blk_drew ?_ | refine blk_alloc ?_ _)); refine blk_put (cs := #[.slice none 0 0, .slice none 0 0, .bool false]) ?_ 2 _ rfl; (with_reducible repeat (first | refine blk_drewN ?_ _ | refine blk_drew ?_ | refine blk_alloc ?_ _)); refine blk_put (cs := #[.slice none 0 0, .slice none 0 0, .bool false]) ?_ 1 _ rfl; (with_reducible repeat (first | refine blk_drewN ?_ _ | refine blk_drew ?_ | refine blk_alloc ?_ _)); refine blk_put (cs := #[.slice none 0 0, .slice none 0 0, .bool false]) ?_ 0 _ rfl; (with_reducible repeat (first | refine blk_drewN ?_ _ | refine blk_drew ?_ | refine blk_alloc ?_ _)); exact BK158.out) Try.underlying25 rfl (by kernel_rfl)) rfl ?_
  exact ⟨_, _, by first | rfl | (simp [errW_none, errW_some] <;> rfl) | (simp [*, errW_none, errW_some] <;> rfl) | (simp [wrap64]; done), by first | exact Kd.R_nil _ _ _ _ _ | exact Kd.N_nil _ _ _ _ _ | exact Kd.V_nil _ _ _ _ _ | exact Kd.Q_nil _ _ _ _ _ | exact Kd.S_nil _ _ _ _ _, by first | exact Kd.R_nil _ _ _ _ _ | exact Kd.N_nil _ _ _ _ _ | exact Kd.V_nil _ _ _ _ _ | exact Kd.Q_nil _ _ _ _ _ | exact Kd.S_nil _ _ _ _ _, vW HB.out⟩
end Go.Proofs.Ytomgebmimgaojaa.QO
end
end
section
/- Written by a program of this session out of the translation. -/
noncomputable section
namespace Go.Proofs.Ytomgebmimgaojaa.QO
open Go.RowKit Go.Proofs.YtomgebmimgaojaaW.PrintWords Go.Proofs.YtomgebmimgaojaaW.PrintLast
set_option linter.unusedVariables false
set_option linter.unusedSimpArgs false
/-! ### gimbalref11_plus: function 84 -/
def gimbalref11_plus.f (a0 : Int) (a1 : Int) : Option (Int) := if a0 = 4611686018427387904 then (some 4611686018427387904) else (if a1 = 4611686018427387904 then (some 4611686018427387904) else (some (wrap64 (a0 + a1))))
set_option maxHeartbeats 8000000 in
set_option maxRecDepth 100000 in
theorem gimbalref11_plus.calls (a0 : Int) (a1 : Int) (r : Int) (w : World) (h : gimbalref11_plus.f a0 a1 = some r) :
 Calls Try.prog 84 #[.int .i64 a0, .int .i64 a1] w fun e w' => e = .returned (.int .i64 r) ∧ Drawn0 w w' := by
 have H : (if a0 = 4611686018427387904 then (some 4611686018427387904) else (if a1 = 4611686018427387904 then (some 4611686018427387904) else (some (wrap64 (a0 + a1))))) = some r := h
 clear h
 by_cases c3 : a0 = 4611686018427387904
 ·
  rw [if_pos c3] at H
  have c3b0 : (a0 == 4611686018427387904) = true := beq_iff_eq.mpr c3
  have c3b1 : (a0 != 4611686018427387904) = false := bne_eq_false_iff_eq.mpr c3
  clear c3
  obtain rfl := Option.some.inj H
  go_enter Try.func84, Try.ntmps84
  go_wp2
  go_ret
  exact ⟨by first | rfl | (simp; done) | (simp [*]; done), by repeat (first | exact Drawn0.refl _ | apply Drawn0.step)⟩
 ·
  rw [if_neg c3] at H
  have c3b0 : (a0 == 4611686018427387904) = false := beq_eq_false_iff_ne.mpr c3
  have c3b1 : (a0 != 4611686018427387904) = true := bne_iff_ne.mpr c3
  by_cases c4 : a1 = 4611686018427387904
  ·
   rw [if_pos c4] at H
   have c4b0 : (a1 == 4611686018427387904) = true := beq_iff_eq.mpr c4
   have c4b1 : (a1 != 4611686018427387904) = false := bne_eq_false_iff_eq.mpr c4
   clear c4
   obtain rfl := Option.some.inj H
   go_enter Try.func84, Try.ntmps84
   go_wp2
   go_ret
   exact ⟨by first | rfl | (simp; done) | (simp [*]; done), by repeat (first | exact Drawn0.refl _ | apply Drawn0.step)⟩
  ·
   rw [if_neg c4] at H
   have c4b0 : (a1 == 4611686018427387904) = false := beq_eq_false_iff_ne.mpr c4
   have c4b1 : (a1 != 4611686018427387904) = true := bne_iff_ne.mpr c4
   obtain rfl := Option.some.inj H
   go_enter Try.func84, Try.ntmps84
   go_wp2
   go_ret
   exact ⟨by first | rfl | (simp; done) | (simp [*]; done), by repeat (first | exact Drawn0.refl _ | apply Drawn0.step)⟩
end Go.Proofs.Ytomgebmimgaojaa.QO
end
end
section
/- Written by a program of this session out of the translation. -/
noncomputable section
namespace Go.Proofs.Ytomgebmimgaojaa.QO
open Go.RowKit Go.Proofs.YtomgebmimgaojaaW.PrintWords Go.Proofs.YtomgebmimgaojaaW.PrintLast
set_option linter.unusedVariables false
set_option linter.unusedSimpArgs false
/-! ### gimbalref11_halved: function 85 -/
def gimbalref11_halved.f (a0 : Int) : Option (Int) := if a0 ≥ 0 then (some (wrap64 (Int.tdiv a0 2))) else (some (wrap64 (-(wrap64 (Int.tdiv (wrap64 (1 - a0)) 2)))))
set_option maxHeartbeats 8000000 in
set_option maxRecDepth 100000 in
theorem gimbalref11_halved.calls (a0 : Int) (r : Int) (w : World) (h : gimbalref11_halved.f a0 = some r) :
 Calls Try.prog 85 #[.int .i64 a0] w fun e w' => e = .returned (.int .i64 r) ∧ Drawn0 w w' := by
 have H : (if a0 ≥ 0 then (some (wrap64 (Int.tdiv a0 2))) else (some (wrap64 (-(wrap64 (Int.tdiv (wrap64 (1 - a0)) 2)))))) = some r := h
 clear h
 by_cases c2 : a0 ≥ 0
 ·
  rw [if_pos c2] at H
  have c2b0 : decide (0 ≤ a0) = true := decide_eq_true c2
  clear c2
  obtain rfl := Option.some.inj H
  go_enter Try.func85, Try.ntmps85
  go_wp2
  go_ret
  exact ⟨by first | rfl | (simp; done) | (simp [*]; done), by repeat (first | exact Drawn0.refl _ | apply Drawn0.step)⟩
 ·
  rw [if_neg c2] at H
  have c2b0 : decide (0 ≤ a0) = false := decide_eq_false c2
  clear c2
  obtain rfl := Option.some.inj H
  go_enter Try.func85, Try.ntmps85
  go_wp2
  go_ret
  exact ⟨by first | rfl | (simp; done) | (simp [*]; done), by repeat (first | exact Drawn0.refl _ | apply Drawn0.step)⟩
end Go.Proofs.Ytomgebmimgaojaa.QO
end
end
