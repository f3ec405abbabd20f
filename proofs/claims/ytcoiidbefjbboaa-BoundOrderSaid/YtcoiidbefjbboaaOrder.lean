/- The walk of the law BoundOrder. -/
import Derived.Test.YtcoiidbefjbboaaQBoundOrderx1
import Derived.Test.YtcoiidbefjbboaaPureBoundOrder
import Derived.Deep.Cut
import Derived.Deep.DeepCutAuto
namespace Go.Proofs.Ytcoiidbefjbboaa.OrderWalk
open Go.RowKit Go.Proofs.Ytcoiidbefjbboaa.QBoundOrder Go.Proofs.YtcoiidbefjbboaaW.PrintWords Go.Proofs.YtcoiidbefjbboaaW.PrintLast Go.Proofs.YtcoiidbefjbboaaW.PrintMore Go.Proofs.Ytcoiidbefjbboaa.Bnd Go.Proofs.Ytcoiidbefjbboaa.Pure.Order
attribute [local go_sem] max2_int min2_int max_two min_two max_three min_three max_four min_four

theorem fitr_any (a : Int) (w : World) : Calls Try.prog 9 #[.int .i64 a] w fun e w' => e = .returned (.int .i64 (bfit a)) ∧ Below w.heap.size w w' :=
  (gimbalref01_Fit.calls a _ w (fit_r a)).mono fun _ _ ⟨h, d⟩ => ⟨h, d.below⟩
theorem upr_any (a b : Int) (w : World) : Calls Try.prog 11 #[.int .i64 a, .int .i64 b] w fun e w' => e = .returned (.int .i64 (bup a b)) ∧ Below w.heap.size w w' :=
  (gimbalref01_Up.calls 1 a b _ w (up_r 0 a b)).mono fun _ _ ⟨h, d⟩ => ⟨h, by first | exact d | exact d.below⟩
theorem up_any (a b : Int) (w : World) : Calls Try.prog 10 #[.int .i64 a, .int .i64 b] w fun e w' => e = .returned (.int .i64 (bup a b)) ∧ Below w.heap.size w w' :=
  bound_Up.calls a b _ w (up_f a b)
theorem down_any (a b : Int) (w : World) : Calls Try.prog 12 #[.int .i64 a, .int .i64 b] w fun e w' => e = .returned (.int .i64 (bdown a b)) ∧ Below w.heap.size w w' :=
  bound_Down.calls a b _ w (down_f a b)
theorem half_any (a : Int) (w : World) : Calls Try.prog 16 #[.int .i64 a] w fun e w' => e = .returned (.int .i64 (bhalf a)) ∧ Below w.heap.size w w' :=
  bound_Half.calls a _ w (half_f a)
theorem mul_any (a b : Int) (w : World) : Calls Try.prog 30 #[.int .i64 a, .int .i64 b] w fun e w' => e = .returned (.int .i64 (bmul a b)) ∧ Below w.heap.size w w' :=
  bound_Mul.calls 2 a b _ w (mul_f 0 a b)


theorem half_up {x : Int} (h1 : ¬ x ≤ -4611686018427387904) (h2 : ¬ 4611686018427387904 ≤ x) (h3 : ¬ 4611686018427387904 ≤ bup x x) (h4 : ¬ bup x x ≤ -4611686018427387903) : bhalf (bup x x) = x := by
  have hf := fit_id (a := x) (by omega) (by omega)
  have hu : bup x x = x + x := by
    unfold bup at h3 h4 ⊢; rw [hf] at h3 h4 ⊢
    rw [if_neg (by omega), if_neg (by omega)] at h3 h4 ⊢
    by_cases h5 : x + x ≥ 4611686018427387904
    · rw [if_pos h5] at h3; omega
    · rw [if_neg h5] at h4 ⊢
      by_cases h6 : x + x < -4611686018427387903
      · rw [if_pos h6] at h4; omega
      · rw [if_neg h6]
  rw [hu] at h3 h4 ⊢; unfold bhalf; rw [if_neg (by omega), if_neg (by omega)]; omega


set_option maxHeartbeats 8000000 in
set_option maxRecDepth 100000 in
theorem order_any (a b m : Int) (w : World) : Calls Try.prog 7 #[.int .i64 a, .int .i64 b, .int .i64 m] w fun e w' => e = .returned (.bool true) ∧ Below w.heap.size w w' := by
  have HB := Aside0.mk (Below.refl w.heap.size w)
  have ha := fit_in a; have hb := fit_in b
  go_enter Try.func7, Try.ntmps7
  go_upto_region 3 with (first | (go_at_call 9; (with_reducible refine (fitr_any _ _).mono ?_); rintro e w1 ⟨rfl, hb⟩; have n0_ := Aside0.mk (below_step HB.out hb); clear HB hb; have HB := n0_; clear n0_) | (go_at_call 11; (with_reducible refine (upr_any _ _ _).mono ?_); rintro e w1 ⟨rfl, hb⟩; have n0_ := Aside0.mk (below_step HB.out hb); clear HB hb; have HB := n0_; clear n0_) | (go_at_call 10; (with_reducible refine (up_any _ _ _).mono ?_); rintro e w1 ⟨rfl, hb⟩; have n0_ := Aside0.mk (below_step HB.out hb); clear HB hb; have HB := n0_; clear n0_) | (go_at_call 12; (with_reducible refine (down_any _ _ _).mono ?_); rintro e w1 ⟨rfl, hb⟩; have n0_ := Aside0.mk (below_step HB.out hb); clear HB hb; have HB := n0_; clear n0_) | (go_at_call 16; (with_reducible refine (half_any _ _).mono ?_); rintro e w1 ⟨rfl, hb⟩; have n0_ := Aside0.mk (below_step HB.out hb); clear HB hb; have HB := n0_; clear n0_) | (go_at_call 30; (with_reducible refine (mul_any _ _ _).mono ?_); rintro e w1 ⟨rfl, hb⟩; have n0_ := Aside0.mk (below_step HB.out hb); clear HB hb; have HB := n0_; clear n0_))
  generalize bup (bfit a) (if 0 < bfit m then bfit m else 0) = C
  generalize bfit a = A at ha ⊢
  generalize bfit b = B at hb ⊢
  go_cut [0, 1, 7, 42] (fun s0 s1 s7 s42 wx => s0 = .int .i64 A ∧ s1 = .int .i64 B ∧ s7 = .int .i64 C ∧ s42 = .bool false ∧ Below w.heap.size w wx)
  case first =>
    have f1 : (bup A B != bup B A) = false := by rw [up_comm]; simp
    have f2 : (bdown A B != bdown B A) = false := by rw [down_comm]; simp
    have f3 : (bmul A B != bmul B A) = false := by rw [mul_comm']; simp
    as_aux_lemma =>
      go_wp2_with (first | (go_at_call 9; (with_reducible refine (fitr_any _ _).mono ?_); rintro e w1 ⟨rfl, hb⟩; have n0_ := Aside0.mk (below_step HB.out hb); clear HB hb; have HB := n0_; clear n0_) | (go_at_call 11; (with_reducible refine (upr_any _ _ _).mono ?_); rintro e w1 ⟨rfl, hb⟩; have n0_ := Aside0.mk (below_step HB.out hb); clear HB hb; have HB := n0_; clear n0_) | (go_at_call 10; (with_reducible refine (up_any _ _ _).mono ?_); rintro e w1 ⟨rfl, hb⟩; have n0_ := Aside0.mk (below_step HB.out hb); clear HB hb; have HB := n0_; clear n0_) | (go_at_call 12; (with_reducible refine (down_any _ _ _).mono ?_); rintro e w1 ⟨rfl, hb⟩; have n0_ := Aside0.mk (below_step HB.out hb); clear HB hb; have HB := n0_; clear n0_) | (go_at_call 16; (with_reducible refine (half_any _ _).mono ?_); rintro e w1 ⟨rfl, hb⟩; have n0_ := Aside0.mk (below_step HB.out hb); clear HB hb; have HB := n0_; clear n0_) | (go_at_call 30; (with_reducible refine (mul_any _ _ _).mono ?_); rintro e w1 ⟨rfl, hb⟩; have n0_ := Aside0.mk (below_step HB.out hb); clear HB hb; have HB := n0_; clear n0_))
      all_goals (go_meet; exact ⟨rfl, rfl, rfl, rfl, HB.out⟩)
  case rest =>
    clear HB
    obtain ⟨rfl, rfl, rfl, rfl, hB⟩ := hcut
    have HB := Aside0.mk hB
    clear hB
    go_upto_region 5 with fail
    go_cut [0, 1, 7, 70] (fun s0 s1 s7 s70 wx => s0 = .int .i64 A ∧ s1 = .int .i64 B ∧ s7 = .int .i64 C ∧ s70 = .bool false ∧ Below w.heap.size w wx)
    case first =>
      by_cases h : A ≤ C
      · have f0 : decide (A ≤ C) = true := decide_eq_true h
        have a1 := up_mono (a := A) (c := C) (b := B) (d := B) h (by omega)
        have a2 := down_mono (a := A) (c := C) (b := B) (d := B) h (by omega)
        have a3 := half_mono h
        have f1 : decide (bup C B < bup A B) = false := decide_eq_false (by omega)
        have f2 : decide (bdown C B < bdown A B) = false := decide_eq_false (by omega)
        have f3 : decide (bhalf C < bhalf A) = false := decide_eq_false (by omega)
        clear h a1 a2 a3
        as_aux_lemma =>
          go_wp2_with (first | (go_at_call 9; (with_reducible refine (fitr_any _ _).mono ?_); rintro e w1 ⟨rfl, hb⟩; have n0_ := Aside0.mk (below_step HB.out hb); clear HB hb; have HB := n0_; clear n0_) | (go_at_call 11; (with_reducible refine (upr_any _ _ _).mono ?_); rintro e w1 ⟨rfl, hb⟩; have n0_ := Aside0.mk (below_step HB.out hb); clear HB hb; have HB := n0_; clear n0_) | (go_at_call 10; (with_reducible refine (up_any _ _ _).mono ?_); rintro e w1 ⟨rfl, hb⟩; have n0_ := Aside0.mk (below_step HB.out hb); clear HB hb; have HB := n0_; clear n0_) | (go_at_call 12; (with_reducible refine (down_any _ _ _).mono ?_); rintro e w1 ⟨rfl, hb⟩; have n0_ := Aside0.mk (below_step HB.out hb); clear HB hb; have HB := n0_; clear n0_) | (go_at_call 16; (with_reducible refine (half_any _ _).mono ?_); rintro e w1 ⟨rfl, hb⟩; have n0_ := Aside0.mk (below_step HB.out hb); clear HB hb; have HB := n0_; clear n0_) | (go_at_call 30; (with_reducible refine (mul_any _ _ _).mono ?_); rintro e w1 ⟨rfl, hb⟩; have n0_ := Aside0.mk (below_step HB.out hb); clear HB hb; have HB := n0_; clear n0_))
          all_goals (go_meet; exact ⟨rfl, rfl, rfl, rfl, HB.out⟩)
      · have f0 : decide (A ≤ C) = false := decide_eq_false h
        clear h
        as_aux_lemma =>
          go_wp2_with (first | (go_at_call 9; (with_reducible refine (fitr_any _ _).mono ?_); rintro e w1 ⟨rfl, hb⟩; have n0_ := Aside0.mk (below_step HB.out hb); clear HB hb; have HB := n0_; clear n0_) | (go_at_call 11; (with_reducible refine (upr_any _ _ _).mono ?_); rintro e w1 ⟨rfl, hb⟩; have n0_ := Aside0.mk (below_step HB.out hb); clear HB hb; have HB := n0_; clear n0_) | (go_at_call 10; (with_reducible refine (up_any _ _ _).mono ?_); rintro e w1 ⟨rfl, hb⟩; have n0_ := Aside0.mk (below_step HB.out hb); clear HB hb; have HB := n0_; clear n0_) | (go_at_call 12; (with_reducible refine (down_any _ _ _).mono ?_); rintro e w1 ⟨rfl, hb⟩; have n0_ := Aside0.mk (below_step HB.out hb); clear HB hb; have HB := n0_; clear n0_) | (go_at_call 16; (with_reducible refine (half_any _ _).mono ?_); rintro e w1 ⟨rfl, hb⟩; have n0_ := Aside0.mk (below_step HB.out hb); clear HB hb; have HB := n0_; clear n0_) | (go_at_call 30; (with_reducible refine (mul_any _ _ _).mono ?_); rintro e w1 ⟨rfl, hb⟩; have n0_ := Aside0.mk (below_step HB.out hb); clear HB hb; have HB := n0_; clear n0_))
          all_goals (go_meet; exact ⟨rfl, rfl, rfl, rfl, HB.out⟩)
    case rest =>
      clear HB
      obtain ⟨rfl, rfl, rfl, rfl, hB⟩ := hcut
      have HB := Aside0.mk hB
      clear hB
      go_upto_region 7 with fail
      go_cut [0, 1, 7, 104] (fun s0 s1 s7 s104 wx => s0 = .int .i64 A ∧ s1 = .int .i64 B ∧ s7 = .int .i64 C ∧ s104 = .bool false ∧ Below w.heap.size w wx)
      case first =>
        by_cases h : A ≤ C
        · have f0 : decide (A ≤ C) = true := decide_eq_true h
          by_cases h1 : 0 ≤ B
          · have f1 : decide (0 ≤ B) = true := decide_eq_true h1
            have a1 := mul_mono h h1
            have f2 : decide (bmul C B < bmul A B) = false := decide_eq_false (by omega)
            by_cases h2 : B ≤ 0
            · have f3 : decide (B ≤ 0) = true := decide_eq_true h2
              have a2 := mul_anti h h2
              have f4 : decide (bmul A B < bmul C B) = false := decide_eq_false (by omega)
              clear h h1 h2 a1 a2
              as_aux_lemma =>
                go_wp2_with (first | (go_at_call 9; (with_reducible refine (fitr_any _ _).mono ?_); rintro e w1 ⟨rfl, hb⟩; have n0_ := Aside0.mk (below_step HB.out hb); clear HB hb; have HB := n0_; clear n0_) | (go_at_call 11; (with_reducible refine (upr_any _ _ _).mono ?_); rintro e w1 ⟨rfl, hb⟩; have n0_ := Aside0.mk (below_step HB.out hb); clear HB hb; have HB := n0_; clear n0_) | (go_at_call 10; (with_reducible refine (up_any _ _ _).mono ?_); rintro e w1 ⟨rfl, hb⟩; have n0_ := Aside0.mk (below_step HB.out hb); clear HB hb; have HB := n0_; clear n0_) | (go_at_call 12; (with_reducible refine (down_any _ _ _).mono ?_); rintro e w1 ⟨rfl, hb⟩; have n0_ := Aside0.mk (below_step HB.out hb); clear HB hb; have HB := n0_; clear n0_) | (go_at_call 16; (with_reducible refine (half_any _ _).mono ?_); rintro e w1 ⟨rfl, hb⟩; have n0_ := Aside0.mk (below_step HB.out hb); clear HB hb; have HB := n0_; clear n0_) | (go_at_call 30; (with_reducible refine (mul_any _ _ _).mono ?_); rintro e w1 ⟨rfl, hb⟩; have n0_ := Aside0.mk (below_step HB.out hb); clear HB hb; have HB := n0_; clear n0_))
                all_goals (go_meet; exact ⟨rfl, rfl, rfl, rfl, HB.out⟩)
            · have f3 : decide (B ≤ 0) = false := decide_eq_false h2
              clear h h1 h2 a1
              as_aux_lemma =>
                go_wp2_with (first | (go_at_call 9; (with_reducible refine (fitr_any _ _).mono ?_); rintro e w1 ⟨rfl, hb⟩; have n0_ := Aside0.mk (below_step HB.out hb); clear HB hb; have HB := n0_; clear n0_) | (go_at_call 11; (with_reducible refine (upr_any _ _ _).mono ?_); rintro e w1 ⟨rfl, hb⟩; have n0_ := Aside0.mk (below_step HB.out hb); clear HB hb; have HB := n0_; clear n0_) | (go_at_call 10; (with_reducible refine (up_any _ _ _).mono ?_); rintro e w1 ⟨rfl, hb⟩; have n0_ := Aside0.mk (below_step HB.out hb); clear HB hb; have HB := n0_; clear n0_) | (go_at_call 12; (with_reducible refine (down_any _ _ _).mono ?_); rintro e w1 ⟨rfl, hb⟩; have n0_ := Aside0.mk (below_step HB.out hb); clear HB hb; have HB := n0_; clear n0_) | (go_at_call 16; (with_reducible refine (half_any _ _).mono ?_); rintro e w1 ⟨rfl, hb⟩; have n0_ := Aside0.mk (below_step HB.out hb); clear HB hb; have HB := n0_; clear n0_) | (go_at_call 30; (with_reducible refine (mul_any _ _ _).mono ?_); rintro e w1 ⟨rfl, hb⟩; have n0_ := Aside0.mk (below_step HB.out hb); clear HB hb; have HB := n0_; clear n0_))
                all_goals (go_meet; exact ⟨rfl, rfl, rfl, rfl, HB.out⟩)
          · have f1 : decide (0 ≤ B) = false := decide_eq_false h1
            have f3 : decide (B ≤ 0) = true := decide_eq_true (by omega)
            have a2 := mul_anti (c := B) h (by omega)
            have f4 : decide (bmul A B < bmul C B) = false := decide_eq_false (by omega)
            clear h h1 a2
            as_aux_lemma =>
              go_wp2_with (first | (go_at_call 9; (with_reducible refine (fitr_any _ _).mono ?_); rintro e w1 ⟨rfl, hb⟩; have n0_ := Aside0.mk (below_step HB.out hb); clear HB hb; have HB := n0_; clear n0_) | (go_at_call 11; (with_reducible refine (upr_any _ _ _).mono ?_); rintro e w1 ⟨rfl, hb⟩; have n0_ := Aside0.mk (below_step HB.out hb); clear HB hb; have HB := n0_; clear n0_) | (go_at_call 10; (with_reducible refine (up_any _ _ _).mono ?_); rintro e w1 ⟨rfl, hb⟩; have n0_ := Aside0.mk (below_step HB.out hb); clear HB hb; have HB := n0_; clear n0_) | (go_at_call 12; (with_reducible refine (down_any _ _ _).mono ?_); rintro e w1 ⟨rfl, hb⟩; have n0_ := Aside0.mk (below_step HB.out hb); clear HB hb; have HB := n0_; clear n0_) | (go_at_call 16; (with_reducible refine (half_any _ _).mono ?_); rintro e w1 ⟨rfl, hb⟩; have n0_ := Aside0.mk (below_step HB.out hb); clear HB hb; have HB := n0_; clear n0_) | (go_at_call 30; (with_reducible refine (mul_any _ _ _).mono ?_); rintro e w1 ⟨rfl, hb⟩; have n0_ := Aside0.mk (below_step HB.out hb); clear HB hb; have HB := n0_; clear n0_))
              all_goals (go_meet; exact ⟨rfl, rfl, rfl, rfl, HB.out⟩)
        · have f0 : decide (A ≤ C) = false := decide_eq_false h
          clear h
          as_aux_lemma =>
            go_wp2_with (first | (go_at_call 9; (with_reducible refine (fitr_any _ _).mono ?_); rintro e w1 ⟨rfl, hb⟩; have n0_ := Aside0.mk (below_step HB.out hb); clear HB hb; have HB := n0_; clear n0_) | (go_at_call 11; (with_reducible refine (upr_any _ _ _).mono ?_); rintro e w1 ⟨rfl, hb⟩; have n0_ := Aside0.mk (below_step HB.out hb); clear HB hb; have HB := n0_; clear n0_) | (go_at_call 10; (with_reducible refine (up_any _ _ _).mono ?_); rintro e w1 ⟨rfl, hb⟩; have n0_ := Aside0.mk (below_step HB.out hb); clear HB hb; have HB := n0_; clear n0_) | (go_at_call 12; (with_reducible refine (down_any _ _ _).mono ?_); rintro e w1 ⟨rfl, hb⟩; have n0_ := Aside0.mk (below_step HB.out hb); clear HB hb; have HB := n0_; clear n0_) | (go_at_call 16; (with_reducible refine (half_any _ _).mono ?_); rintro e w1 ⟨rfl, hb⟩; have n0_ := Aside0.mk (below_step HB.out hb); clear HB hb; have HB := n0_; clear n0_) | (go_at_call 30; (with_reducible refine (mul_any _ _ _).mono ?_); rintro e w1 ⟨rfl, hb⟩; have n0_ := Aside0.mk (below_step HB.out hb); clear HB hb; have HB := n0_; clear n0_))
            all_goals (go_meet; exact ⟨rfl, rfl, rfl, rfl, HB.out⟩)
      case rest =>
        clear HB
        obtain ⟨rfl, rfl, rfl, rfl, hB⟩ := hcut
        have HB := Aside0.mk hB
        clear hB
        go_upto_region 9 with fail
        obtain ⟨ha1, ha2⟩ := ha
        obtain ⟨hb1, hb2⟩ := hb
        go_cut [0, 1, 7, 148] (fun s0 s1 s7 s148 wx => s0 = .int .i64 A ∧ s1 = .int .i64 B ∧ s7 = .int .i64 C ∧ s148 = .bool false ∧ Below w.heap.size w wx)
        case first =>
          by_cases h1 : -4611686018427387904 < A
          · have f1 : decide (-4611686018427387904 < A) = true := decide_eq_true h1
            by_cases h2 : A < 4611686018427387904
            · have f2 : decide (A < 4611686018427387904) = true := decide_eq_true h2
              by_cases h3 : -4611686018427387904 < B
              · have f3 : decide (-4611686018427387904 < B) = true := decide_eq_true h3
                by_cases h4 : B < 4611686018427387904
                · have f4 : decide (B < 4611686018427387904) = true := decide_eq_true h4
                  have u1 := up_ge (x := A) (y := B) (by omega) (by omega)
                  have u2 := down_le (x := A) (y := B) (by omega) (by omega)
                  by_cases h5 : bup A B < A + B
                  · have f5 : decide (bup A B < A + B) = true := decide_eq_true h5
                    have f6 : (bup A B != 4611686018427387904) = false := by rcases u1 with u1 | u1; exact absurd h5 u1; rw [u1]; rfl
                    by_cases h7 : A + B < bdown A B
                    · have f7 : decide (A + B < bdown A B) = true := decide_eq_true h7
                      have f8 : (bdown A B != -4611686018427387904) = false := by rcases u2 with u2 | u2; exact absurd h7 u2; rw [u2]; rfl
                      clear h5 h7 u1 u2
                      as_aux_lemma =>
                        go_wp2_with (first | (go_at_call 9; (with_reducible refine (fitr_any _ _).mono ?_); rintro e w1 ⟨rfl, hb⟩; have n0_ := Aside0.mk (below_step HB.out hb); clear HB hb; have HB := n0_; clear n0_) | (go_at_call 11; (with_reducible refine (upr_any _ _ _).mono ?_); rintro e w1 ⟨rfl, hb⟩; have n0_ := Aside0.mk (below_step HB.out hb); clear HB hb; have HB := n0_; clear n0_) | (go_at_call 10; (with_reducible refine (up_any _ _ _).mono ?_); rintro e w1 ⟨rfl, hb⟩; have n0_ := Aside0.mk (below_step HB.out hb); clear HB hb; have HB := n0_; clear n0_) | (go_at_call 12; (with_reducible refine (down_any _ _ _).mono ?_); rintro e w1 ⟨rfl, hb⟩; have n0_ := Aside0.mk (below_step HB.out hb); clear HB hb; have HB := n0_; clear n0_) | (go_at_call 16; (with_reducible refine (half_any _ _).mono ?_); rintro e w1 ⟨rfl, hb⟩; have n0_ := Aside0.mk (below_step HB.out hb); clear HB hb; have HB := n0_; clear n0_) | (go_at_call 30; (with_reducible refine (mul_any _ _ _).mono ?_); rintro e w1 ⟨rfl, hb⟩; have n0_ := Aside0.mk (below_step HB.out hb); clear HB hb; have HB := n0_; clear n0_))
                        all_goals (go_meet; exact ⟨rfl, rfl, rfl, rfl, HB.out⟩)
                    · have f7 : decide (A + B < bdown A B) = false := decide_eq_false h7
                      clear h5 h7 u1 u2
                      as_aux_lemma =>
                        go_wp2_with (first | (go_at_call 9; (with_reducible refine (fitr_any _ _).mono ?_); rintro e w1 ⟨rfl, hb⟩; have n0_ := Aside0.mk (below_step HB.out hb); clear HB hb; have HB := n0_; clear n0_) | (go_at_call 11; (with_reducible refine (upr_any _ _ _).mono ?_); rintro e w1 ⟨rfl, hb⟩; have n0_ := Aside0.mk (below_step HB.out hb); clear HB hb; have HB := n0_; clear n0_) | (go_at_call 10; (with_reducible refine (up_any _ _ _).mono ?_); rintro e w1 ⟨rfl, hb⟩; have n0_ := Aside0.mk (below_step HB.out hb); clear HB hb; have HB := n0_; clear n0_) | (go_at_call 12; (with_reducible refine (down_any _ _ _).mono ?_); rintro e w1 ⟨rfl, hb⟩; have n0_ := Aside0.mk (below_step HB.out hb); clear HB hb; have HB := n0_; clear n0_) | (go_at_call 16; (with_reducible refine (half_any _ _).mono ?_); rintro e w1 ⟨rfl, hb⟩; have n0_ := Aside0.mk (below_step HB.out hb); clear HB hb; have HB := n0_; clear n0_) | (go_at_call 30; (with_reducible refine (mul_any _ _ _).mono ?_); rintro e w1 ⟨rfl, hb⟩; have n0_ := Aside0.mk (below_step HB.out hb); clear HB hb; have HB := n0_; clear n0_))
                        all_goals (go_meet; exact ⟨rfl, rfl, rfl, rfl, HB.out⟩)
                  · have f5 : decide (bup A B < A + B) = false := decide_eq_false h5
                    by_cases h7 : A + B < bdown A B
                    · have f7 : decide (A + B < bdown A B) = true := decide_eq_true h7
                      have f8 : (bdown A B != -4611686018427387904) = false := by rcases u2 with u2 | u2; exact absurd h7 u2; rw [u2]; rfl
                      clear h5 h7 u1 u2
                      as_aux_lemma =>
                        go_wp2_with (first | (go_at_call 9; (with_reducible refine (fitr_any _ _).mono ?_); rintro e w1 ⟨rfl, hb⟩; have n0_ := Aside0.mk (below_step HB.out hb); clear HB hb; have HB := n0_; clear n0_) | (go_at_call 11; (with_reducible refine (upr_any _ _ _).mono ?_); rintro e w1 ⟨rfl, hb⟩; have n0_ := Aside0.mk (below_step HB.out hb); clear HB hb; have HB := n0_; clear n0_) | (go_at_call 10; (with_reducible refine (up_any _ _ _).mono ?_); rintro e w1 ⟨rfl, hb⟩; have n0_ := Aside0.mk (below_step HB.out hb); clear HB hb; have HB := n0_; clear n0_) | (go_at_call 12; (with_reducible refine (down_any _ _ _).mono ?_); rintro e w1 ⟨rfl, hb⟩; have n0_ := Aside0.mk (below_step HB.out hb); clear HB hb; have HB := n0_; clear n0_) | (go_at_call 16; (with_reducible refine (half_any _ _).mono ?_); rintro e w1 ⟨rfl, hb⟩; have n0_ := Aside0.mk (below_step HB.out hb); clear HB hb; have HB := n0_; clear n0_) | (go_at_call 30; (with_reducible refine (mul_any _ _ _).mono ?_); rintro e w1 ⟨rfl, hb⟩; have n0_ := Aside0.mk (below_step HB.out hb); clear HB hb; have HB := n0_; clear n0_))
                        all_goals (go_meet; exact ⟨rfl, rfl, rfl, rfl, HB.out⟩)
                    · have f7 : decide (A + B < bdown A B) = false := decide_eq_false h7
                      clear h5 h7 u1 u2
                      as_aux_lemma =>
                        go_wp2_with (first | (go_at_call 9; (with_reducible refine (fitr_any _ _).mono ?_); rintro e w1 ⟨rfl, hb⟩; have n0_ := Aside0.mk (below_step HB.out hb); clear HB hb; have HB := n0_; clear n0_) | (go_at_call 11; (with_reducible refine (upr_any _ _ _).mono ?_); rintro e w1 ⟨rfl, hb⟩; have n0_ := Aside0.mk (below_step HB.out hb); clear HB hb; have HB := n0_; clear n0_) | (go_at_call 10; (with_reducible refine (up_any _ _ _).mono ?_); rintro e w1 ⟨rfl, hb⟩; have n0_ := Aside0.mk (below_step HB.out hb); clear HB hb; have HB := n0_; clear n0_) | (go_at_call 12; (with_reducible refine (down_any _ _ _).mono ?_); rintro e w1 ⟨rfl, hb⟩; have n0_ := Aside0.mk (below_step HB.out hb); clear HB hb; have HB := n0_; clear n0_) | (go_at_call 16; (with_reducible refine (half_any _ _).mono ?_); rintro e w1 ⟨rfl, hb⟩; have n0_ := Aside0.mk (below_step HB.out hb); clear HB hb; have HB := n0_; clear n0_) | (go_at_call 30; (with_reducible refine (mul_any _ _ _).mono ?_); rintro e w1 ⟨rfl, hb⟩; have n0_ := Aside0.mk (below_step HB.out hb); clear HB hb; have HB := n0_; clear n0_))
                        all_goals (go_meet; exact ⟨rfl, rfl, rfl, rfl, HB.out⟩)
                · have f4 : decide (B < 4611686018427387904) = false := decide_eq_false h4
                  clear h4
                  as_aux_lemma =>
                    go_wp2_with (first | (go_at_call 9; (with_reducible refine (fitr_any _ _).mono ?_); rintro e w1 ⟨rfl, hb⟩; have n0_ := Aside0.mk (below_step HB.out hb); clear HB hb; have HB := n0_; clear n0_) | (go_at_call 11; (with_reducible refine (upr_any _ _ _).mono ?_); rintro e w1 ⟨rfl, hb⟩; have n0_ := Aside0.mk (below_step HB.out hb); clear HB hb; have HB := n0_; clear n0_) | (go_at_call 10; (with_reducible refine (up_any _ _ _).mono ?_); rintro e w1 ⟨rfl, hb⟩; have n0_ := Aside0.mk (below_step HB.out hb); clear HB hb; have HB := n0_; clear n0_) | (go_at_call 12; (with_reducible refine (down_any _ _ _).mono ?_); rintro e w1 ⟨rfl, hb⟩; have n0_ := Aside0.mk (below_step HB.out hb); clear HB hb; have HB := n0_; clear n0_) | (go_at_call 16; (with_reducible refine (half_any _ _).mono ?_); rintro e w1 ⟨rfl, hb⟩; have n0_ := Aside0.mk (below_step HB.out hb); clear HB hb; have HB := n0_; clear n0_) | (go_at_call 30; (with_reducible refine (mul_any _ _ _).mono ?_); rintro e w1 ⟨rfl, hb⟩; have n0_ := Aside0.mk (below_step HB.out hb); clear HB hb; have HB := n0_; clear n0_))
                    all_goals (go_meet; exact ⟨rfl, rfl, rfl, rfl, HB.out⟩)
              · have f3 : decide (-4611686018427387904 < B) = false := decide_eq_false h3
                clear h3
                as_aux_lemma =>
                  go_wp2_with (first | (go_at_call 9; (with_reducible refine (fitr_any _ _).mono ?_); rintro e w1 ⟨rfl, hb⟩; have n0_ := Aside0.mk (below_step HB.out hb); clear HB hb; have HB := n0_; clear n0_) | (go_at_call 11; (with_reducible refine (upr_any _ _ _).mono ?_); rintro e w1 ⟨rfl, hb⟩; have n0_ := Aside0.mk (below_step HB.out hb); clear HB hb; have HB := n0_; clear n0_) | (go_at_call 10; (with_reducible refine (up_any _ _ _).mono ?_); rintro e w1 ⟨rfl, hb⟩; have n0_ := Aside0.mk (below_step HB.out hb); clear HB hb; have HB := n0_; clear n0_) | (go_at_call 12; (with_reducible refine (down_any _ _ _).mono ?_); rintro e w1 ⟨rfl, hb⟩; have n0_ := Aside0.mk (below_step HB.out hb); clear HB hb; have HB := n0_; clear n0_) | (go_at_call 16; (with_reducible refine (half_any _ _).mono ?_); rintro e w1 ⟨rfl, hb⟩; have n0_ := Aside0.mk (below_step HB.out hb); clear HB hb; have HB := n0_; clear n0_) | (go_at_call 30; (with_reducible refine (mul_any _ _ _).mono ?_); rintro e w1 ⟨rfl, hb⟩; have n0_ := Aside0.mk (below_step HB.out hb); clear HB hb; have HB := n0_; clear n0_))
                  all_goals (go_meet; exact ⟨rfl, rfl, rfl, rfl, HB.out⟩)
            · have f2 : decide (A < 4611686018427387904) = false := decide_eq_false h2
              clear h2
              as_aux_lemma =>
                go_wp2_with (first | (go_at_call 9; (with_reducible refine (fitr_any _ _).mono ?_); rintro e w1 ⟨rfl, hb⟩; have n0_ := Aside0.mk (below_step HB.out hb); clear HB hb; have HB := n0_; clear n0_) | (go_at_call 11; (with_reducible refine (upr_any _ _ _).mono ?_); rintro e w1 ⟨rfl, hb⟩; have n0_ := Aside0.mk (below_step HB.out hb); clear HB hb; have HB := n0_; clear n0_) | (go_at_call 10; (with_reducible refine (up_any _ _ _).mono ?_); rintro e w1 ⟨rfl, hb⟩; have n0_ := Aside0.mk (below_step HB.out hb); clear HB hb; have HB := n0_; clear n0_) | (go_at_call 12; (with_reducible refine (down_any _ _ _).mono ?_); rintro e w1 ⟨rfl, hb⟩; have n0_ := Aside0.mk (below_step HB.out hb); clear HB hb; have HB := n0_; clear n0_) | (go_at_call 16; (with_reducible refine (half_any _ _).mono ?_); rintro e w1 ⟨rfl, hb⟩; have n0_ := Aside0.mk (below_step HB.out hb); clear HB hb; have HB := n0_; clear n0_) | (go_at_call 30; (with_reducible refine (mul_any _ _ _).mono ?_); rintro e w1 ⟨rfl, hb⟩; have n0_ := Aside0.mk (below_step HB.out hb); clear HB hb; have HB := n0_; clear n0_))
                all_goals (go_meet; exact ⟨rfl, rfl, rfl, rfl, HB.out⟩)
          · have f1 : decide (-4611686018427387904 < A) = false := decide_eq_false h1
            clear h1
            as_aux_lemma =>
              go_wp2_with (first | (go_at_call 9; (with_reducible refine (fitr_any _ _).mono ?_); rintro e w1 ⟨rfl, hb⟩; have n0_ := Aside0.mk (below_step HB.out hb); clear HB hb; have HB := n0_; clear n0_) | (go_at_call 11; (with_reducible refine (upr_any _ _ _).mono ?_); rintro e w1 ⟨rfl, hb⟩; have n0_ := Aside0.mk (below_step HB.out hb); clear HB hb; have HB := n0_; clear n0_) | (go_at_call 10; (with_reducible refine (up_any _ _ _).mono ?_); rintro e w1 ⟨rfl, hb⟩; have n0_ := Aside0.mk (below_step HB.out hb); clear HB hb; have HB := n0_; clear n0_) | (go_at_call 12; (with_reducible refine (down_any _ _ _).mono ?_); rintro e w1 ⟨rfl, hb⟩; have n0_ := Aside0.mk (below_step HB.out hb); clear HB hb; have HB := n0_; clear n0_) | (go_at_call 16; (with_reducible refine (half_any _ _).mono ?_); rintro e w1 ⟨rfl, hb⟩; have n0_ := Aside0.mk (below_step HB.out hb); clear HB hb; have HB := n0_; clear n0_) | (go_at_call 30; (with_reducible refine (mul_any _ _ _).mono ?_); rintro e w1 ⟨rfl, hb⟩; have n0_ := Aside0.mk (below_step HB.out hb); clear HB hb; have HB := n0_; clear n0_))
              all_goals (go_meet; exact ⟨rfl, rfl, rfl, rfl, HB.out⟩)
        case rest =>
          clear HB
          obtain ⟨rfl, rfl, rfl, rfl, hB⟩ := hcut
          have HB := Aside0.mk hB
          clear hB
          have f0 : (bup 1 2 == 3) = true := by decide
          by_cases h1 : A ≤ -4611686018427387904
          · have f1 : decide (A ≤ -4611686018427387904) = true := decide_eq_true h1
            clear h1
            as_aux_lemma =>
              go_wp2_with (first | (go_at_call 9; (with_reducible refine (fitr_any _ _).mono ?_); rintro e w1 ⟨rfl, hb⟩; have n0_ := Aside0.mk (below_step HB.out hb); clear HB hb; have HB := n0_; clear n0_) | (go_at_call 11; (with_reducible refine (upr_any _ _ _).mono ?_); rintro e w1 ⟨rfl, hb⟩; have n0_ := Aside0.mk (below_step HB.out hb); clear HB hb; have HB := n0_; clear n0_) | (go_at_call 10; (with_reducible refine (up_any _ _ _).mono ?_); rintro e w1 ⟨rfl, hb⟩; have n0_ := Aside0.mk (below_step HB.out hb); clear HB hb; have HB := n0_; clear n0_) | (go_at_call 12; (with_reducible refine (down_any _ _ _).mono ?_); rintro e w1 ⟨rfl, hb⟩; have n0_ := Aside0.mk (below_step HB.out hb); clear HB hb; have HB := n0_; clear n0_) | (go_at_call 16; (with_reducible refine (half_any _ _).mono ?_); rintro e w1 ⟨rfl, hb⟩; have n0_ := Aside0.mk (below_step HB.out hb); clear HB hb; have HB := n0_; clear n0_) | (go_at_call 30; (with_reducible refine (mul_any _ _ _).mono ?_); rintro e w1 ⟨rfl, hb⟩; have n0_ := Aside0.mk (below_step HB.out hb); clear HB hb; have HB := n0_; clear n0_))
              all_goals go_ret
              all_goals (first | exact ⟨rfl, HB.out⟩ | exact ⟨by simp [*], HB.out⟩)
          · have f1 : decide (A ≤ -4611686018427387904) = false := decide_eq_false h1
            by_cases h2 : 4611686018427387904 ≤ A
            · have f2 : decide (4611686018427387904 ≤ A) = true := decide_eq_true h2
              clear h2
              as_aux_lemma =>
                go_wp2_with (first | (go_at_call 9; (with_reducible refine (fitr_any _ _).mono ?_); rintro e w1 ⟨rfl, hb⟩; have n0_ := Aside0.mk (below_step HB.out hb); clear HB hb; have HB := n0_; clear n0_) | (go_at_call 11; (with_reducible refine (upr_any _ _ _).mono ?_); rintro e w1 ⟨rfl, hb⟩; have n0_ := Aside0.mk (below_step HB.out hb); clear HB hb; have HB := n0_; clear n0_) | (go_at_call 10; (with_reducible refine (up_any _ _ _).mono ?_); rintro e w1 ⟨rfl, hb⟩; have n0_ := Aside0.mk (below_step HB.out hb); clear HB hb; have HB := n0_; clear n0_) | (go_at_call 12; (with_reducible refine (down_any _ _ _).mono ?_); rintro e w1 ⟨rfl, hb⟩; have n0_ := Aside0.mk (below_step HB.out hb); clear HB hb; have HB := n0_; clear n0_) | (go_at_call 16; (with_reducible refine (half_any _ _).mono ?_); rintro e w1 ⟨rfl, hb⟩; have n0_ := Aside0.mk (below_step HB.out hb); clear HB hb; have HB := n0_; clear n0_) | (go_at_call 30; (with_reducible refine (mul_any _ _ _).mono ?_); rintro e w1 ⟨rfl, hb⟩; have n0_ := Aside0.mk (below_step HB.out hb); clear HB hb; have HB := n0_; clear n0_))
                all_goals go_ret
                all_goals (first | exact ⟨rfl, HB.out⟩ | exact ⟨by simp [*], HB.out⟩)
            · have f2 : decide (4611686018427387904 ≤ A) = false := decide_eq_false h2
              by_cases h3 : 4611686018427387904 ≤ bup A A
              · have f3 : decide (4611686018427387904 ≤ bup A A) = true := decide_eq_true h3
                clear h3
                as_aux_lemma =>
                  go_wp2_with (first | (go_at_call 9; (with_reducible refine (fitr_any _ _).mono ?_); rintro e w1 ⟨rfl, hb⟩; have n0_ := Aside0.mk (below_step HB.out hb); clear HB hb; have HB := n0_; clear n0_) | (go_at_call 11; (with_reducible refine (upr_any _ _ _).mono ?_); rintro e w1 ⟨rfl, hb⟩; have n0_ := Aside0.mk (below_step HB.out hb); clear HB hb; have HB := n0_; clear n0_) | (go_at_call 10; (with_reducible refine (up_any _ _ _).mono ?_); rintro e w1 ⟨rfl, hb⟩; have n0_ := Aside0.mk (below_step HB.out hb); clear HB hb; have HB := n0_; clear n0_) | (go_at_call 12; (with_reducible refine (down_any _ _ _).mono ?_); rintro e w1 ⟨rfl, hb⟩; have n0_ := Aside0.mk (below_step HB.out hb); clear HB hb; have HB := n0_; clear n0_) | (go_at_call 16; (with_reducible refine (half_any _ _).mono ?_); rintro e w1 ⟨rfl, hb⟩; have n0_ := Aside0.mk (below_step HB.out hb); clear HB hb; have HB := n0_; clear n0_) | (go_at_call 30; (with_reducible refine (mul_any _ _ _).mono ?_); rintro e w1 ⟨rfl, hb⟩; have n0_ := Aside0.mk (below_step HB.out hb); clear HB hb; have HB := n0_; clear n0_))
                  all_goals go_ret
                  all_goals (first | exact ⟨rfl, HB.out⟩ | exact ⟨by simp [*], HB.out⟩)
              · have f3 : decide (4611686018427387904 ≤ bup A A) = false := decide_eq_false h3
                by_cases h4 : bup A A ≤ -4611686018427387903
                · have f4 : decide (bup A A ≤ -4611686018427387903) = true := decide_eq_true h4
                  clear h4
                  as_aux_lemma =>
                    go_wp2_with (first | (go_at_call 9; (with_reducible refine (fitr_any _ _).mono ?_); rintro e w1 ⟨rfl, hb⟩; have n0_ := Aside0.mk (below_step HB.out hb); clear HB hb; have HB := n0_; clear n0_) | (go_at_call 11; (with_reducible refine (upr_any _ _ _).mono ?_); rintro e w1 ⟨rfl, hb⟩; have n0_ := Aside0.mk (below_step HB.out hb); clear HB hb; have HB := n0_; clear n0_) | (go_at_call 10; (with_reducible refine (up_any _ _ _).mono ?_); rintro e w1 ⟨rfl, hb⟩; have n0_ := Aside0.mk (below_step HB.out hb); clear HB hb; have HB := n0_; clear n0_) | (go_at_call 12; (with_reducible refine (down_any _ _ _).mono ?_); rintro e w1 ⟨rfl, hb⟩; have n0_ := Aside0.mk (below_step HB.out hb); clear HB hb; have HB := n0_; clear n0_) | (go_at_call 16; (with_reducible refine (half_any _ _).mono ?_); rintro e w1 ⟨rfl, hb⟩; have n0_ := Aside0.mk (below_step HB.out hb); clear HB hb; have HB := n0_; clear n0_) | (go_at_call 30; (with_reducible refine (mul_any _ _ _).mono ?_); rintro e w1 ⟨rfl, hb⟩; have n0_ := Aside0.mk (below_step HB.out hb); clear HB hb; have HB := n0_; clear n0_))
                    all_goals go_ret
                    all_goals (first | exact ⟨rfl, HB.out⟩ | exact ⟨by simp [*], HB.out⟩)
                · have f4 : decide (bup A A ≤ -4611686018427387903) = false := decide_eq_false h4
                  have f5 : (bhalf (bup A A) == A) = true := by rw [half_up (by omega) (by omega) (by omega) (by omega)]; simp
                  clear h1 h2 h3 h4
                  as_aux_lemma =>
                    go_wp2_with (first | (go_at_call 9; (with_reducible refine (fitr_any _ _).mono ?_); rintro e w1 ⟨rfl, hb⟩; have n0_ := Aside0.mk (below_step HB.out hb); clear HB hb; have HB := n0_; clear n0_) | (go_at_call 11; (with_reducible refine (upr_any _ _ _).mono ?_); rintro e w1 ⟨rfl, hb⟩; have n0_ := Aside0.mk (below_step HB.out hb); clear HB hb; have HB := n0_; clear n0_) | (go_at_call 10; (with_reducible refine (up_any _ _ _).mono ?_); rintro e w1 ⟨rfl, hb⟩; have n0_ := Aside0.mk (below_step HB.out hb); clear HB hb; have HB := n0_; clear n0_) | (go_at_call 12; (with_reducible refine (down_any _ _ _).mono ?_); rintro e w1 ⟨rfl, hb⟩; have n0_ := Aside0.mk (below_step HB.out hb); clear HB hb; have HB := n0_; clear n0_) | (go_at_call 16; (with_reducible refine (half_any _ _).mono ?_); rintro e w1 ⟨rfl, hb⟩; have n0_ := Aside0.mk (below_step HB.out hb); clear HB hb; have HB := n0_; clear n0_) | (go_at_call 30; (with_reducible refine (mul_any _ _ _).mono ?_); rintro e w1 ⟨rfl, hb⟩; have n0_ := Aside0.mk (below_step HB.out hb); clear HB hb; have HB := n0_; clear n0_))
                    all_goals go_ret
                    all_goals (first | exact ⟨rfl, HB.out⟩ | exact ⟨by simp [*], HB.out⟩)
end Go.Proofs.Ytcoiidbefjbboaa.OrderWalk
