/- Written by a program of this session out of the translation. -/
import Derived.Test.YtcoiidbefjbboaaQThx0
import Derived.Test.YtcoiidbefjbboaaQThx2
namespace Go.Proofs.Ytcoiidbefjbboaa.QTh
open Go.RowKit Go.Proofs.YtcoiidbefjbboaaW.PrintWords Go.Proofs.YtcoiidbefjbboaaW.PrintLast Go.Proofs.YtcoiidbefjbboaaW.PrintMore
attribute [local go_sem] max2_int min2_int max_two min_two max_three min_three max_four min_four   -- for this text's walks alone
set_option linter.unusedVariables false
set_option linter.unusedSimpArgs false

/-! ### thresh_Height: function 28 -/
def thresh_Height.l0 : Nat → Int → Int → List (List Int) → Int → Int → Option (Int)
  | 0, _, _, _, _, _ => none
  | k + 1, x9, x10, x30, x31, x32 => if x32 < x31 then (if 0 ≤ x32 then (if x32 < (x30.length : Int) then (thresh_Height.l0 k x9 (IntKind.u64.wrap (x10 + (IntKind.u64.wrap ((IntKind.u64.wrap ((IntKind.u64.wrap (wrap64 (2 * ((rd_L1 x30 x32).length : Int)))) * (IntKind.u64.wrap (wrap64 (2 * ((rd_L1 x30 x32).length : Int)))))) * x9)))) x30 x31 (wrap64 (x32 + 1))) else (none)) else (none)) else (some (IntKind.u64.wrap (x10 + 1)))
def thresh_Height.f (k : Nat) (l0 : List Int) (a1 : Int) (a2 : Int) (l3 : List (List Int)) : Option (Int) := (thresh_Fit.f k l0).bind fun t149 => (if t149 = true then (thresh_Height.l0 k (IntKind.u64.wrap ((l0.length : Int))) (IntKind.u64.wrap ((IntKind.u64.wrap (2 * (IntKind.u64.wrap ((l0.length : Int))))) * (IntKind.u64.wrap ((IntKind.u64.wrap ((IntKind.u64.wrap (3 * (IntKind.u64.wrap (a1)))) + (IntKind.u64.wrap (a2)))) + 1)))) l3 (l3.length : Int) 0) else (some 0))
theorem thresh_Height.mono_l : ∀ k, (∀ y0 y1 y2 y3 y4, LeO (thresh_Height.l0 k y0 y1 y2 y3 y4) (thresh_Height.l0 (k + 1) y0 y1 y2 y3 y4))
  | 0 => fun _ _ _ _ _ r h => by simp [thresh_Height.l0] at h
  | k + 1 => by
    have ih0 := thresh_Height.mono_l k
    · intro y0 y1 y2 y3 y4
      unfold thresh_Height.l0
      repeat' first
      | (with_reducible exact ih0 _ _ _ _ _)
      | (with_reducible exact thresh_Fit.mono _ _)
      | (with_reducible exact LeO.refl _)
      | (with_reducible exact LeO.none _)
      | (with_reducible refine LeO.ite ?_ ?_)
      | (with_reducible refine LeO.bind ?_ (fun _ => ?_))
      | exact ih0 _ _ _ _ _
      | exact thresh_Fit.mono _ _
      | exact LeO.none _
      | refine LeO.ite ?_ ?_
      | refine LeO.bind ?_ (fun _ => ?_)
theorem thresh_Height.mono : ∀ a0 a1 a2 a3 k, LeO (thresh_Height.f k a0 a1 a2 a3) (thresh_Height.f (k + 1) a0 a1 a2 a3) := by
  intro a0 a1 a2 a3 k
  have ih0 := thresh_Height.mono_l k
  unfold thresh_Height.f
  repeat' first
      | (with_reducible exact ih0 _ _ _ _ _)
      | (with_reducible exact thresh_Fit.mono _ _)
      | (with_reducible exact LeO.refl _)
      | (with_reducible exact LeO.none _)
      | (with_reducible refine LeO.ite ?_ ?_)
      | (with_reducible refine LeO.bind ?_ (fun _ => ?_))
      | exact ih0 _ _ _ _ _
      | exact thresh_Fit.mono _ _
      | exact LeO.none _
      | refine LeO.ite ?_ ?_
      | refine LeO.bind ?_ (fun _ => ?_)
set_option maxHeartbeats 8000000 in
set_option maxRecDepth 100000 in
theorem thresh_Height.calls (k : Nat) (A0 : Option Addr) (c0 : Nat) (l0 : List Int) (a1 : Int) (a2 : Int) (A3 : Option Addr) (c3 : Nat) (l3 : List (List Int)) (r : Int) (w : World) (hr0 : Kd.C (Kd.int .i64) w A0 l0.length l0) (hc0 : l0.length ≤ c0) (hr3 : Kd.C (Kd.slice 3 (Kd.int .i64)) w A3 l3.length l3) (hc3 : l3.length ≤ c3) (h : thresh_Height.f k l0 a1 a2 l3 = some r) :
    Calls Try.prog 28 #[.slice A0 l0.length c0, .int .i64 a1, .int .i64 a2, .slice A3 l3.length c3] w fun e w' => e = .returned (.int .u64 r) ∧ Drawn0 w w' := by
  have HR0 := Aside0.mk hr0
  have HC0 := Aside0.mk hc0
  clear hr0 hc0
  have HR3 := Aside0.mk hr3
  have HC3 := Aside0.mk hc3
  clear hr3 hc3
  have H : ((thresh_Fit.f k l0).bind fun t149 => (if t149 = true then (thresh_Height.l0 k (IntKind.u64.wrap ((l0.length : Int))) (IntKind.u64.wrap ((IntKind.u64.wrap (2 * (IntKind.u64.wrap ((l0.length : Int))))) * (IntKind.u64.wrap ((IntKind.u64.wrap ((IntKind.u64.wrap (3 * (IntKind.u64.wrap (a1)))) + (IntKind.u64.wrap (a2)))) + 1)))) l3 (l3.length : Int) 0) else (some 0))) = some r := h
  clear h
  replace H := Option.bind_eq_some_iff.mp H
  obtain ⟨t149, A50, H⟩ := H
  replace H : (if t149 = true then (thresh_Height.l0 k (IntKind.u64.wrap ((l0.length : Int))) (IntKind.u64.wrap ((IntKind.u64.wrap (2 * (IntKind.u64.wrap ((l0.length : Int))))) * (IntKind.u64.wrap ((IntKind.u64.wrap ((IntKind.u64.wrap (3 * (IntKind.u64.wrap (a1)))) + (IntKind.u64.wrap (a2)))) + 1)))) l3 (l3.length : Int) 0) else (some 0)) = some r := H
  have A5 := Aside0.mk A50
  clear A50
  by_cases c6 : t149 = true
  · subst c6
    have H1 : (thresh_Height.l0 k (IntKind.u64.wrap ((l0.length : Int))) (IntKind.u64.wrap ((IntKind.u64.wrap (2 * (IntKind.u64.wrap ((l0.length : Int))))) * (IntKind.u64.wrap ((IntKind.u64.wrap ((IntKind.u64.wrap (3 * (IntKind.u64.wrap (a1)))) + (IntKind.u64.wrap (a2)))) + 1)))) l3 (l3.length : Int) 0) = some r := by rw [if_pos rfl] at H; exact H
    clear H
    have H := H1
    clear H1
    have H' := Aside0.mk H
    clear H
    go_enter Try.func28, Try.ntmps28
    go_wp2_with (first | ((with_reducible refine gate_callee (f := 18) rfl ?_); refine goesL_ (some 15) rfl rfl Try.func18 (by kernel_rfl) rfl #[.slice A0 l0.length c0] rfl (by (try simp only [List.map_toArray, List.map_cons, List.map_nil]); first | done | rfl | (simp only [List.length_drop, List.length_take]; rfl)) ?_; (with_reducible refine (thresh_Fit.calls k _ _ l0 true _ ?side1 ?side2 A5.out).mono ?_); (case side1 => repeat (first | exact HR0.out | (with_reducible refine Kd.C_alloc ?_ _) | (with_reducible refine Kd.C_drewN ?_ _) | (with_reducible refine Kd.C_drew ?_))); (case side2 => exact HC0.out); rintro e w' ⟨rfl, ⟨nd, rfl⟩⟩; refine ⟨_, rfl, ?_⟩))
    go_loopg [10, 32] k (fun kq v10 v32 w' => ∃ (x10_1 : Int) (x32_1 : Int), v10 = .int .u64 x10_1 ∧ v32 = .int .i64 x32_1 ∧ Aside0 (thresh_Height.l0 kq (IntKind.u64.wrap ((l0.length : Int))) x10_1 l3 (l3.length : Int) x32_1 = some r) ∧ Aside0 (kq ≤ k) ∧ Drawn0 w w')
    case atStart => exact ⟨(IntKind.u64.wrap ((IntKind.u64.wrap (2 * (IntKind.u64.wrap ((l0.length : Int))))) * (IntKind.u64.wrap ((IntKind.u64.wrap ((IntKind.u64.wrap (3 * (IntKind.u64.wrap (a1)))) + (IntKind.u64.wrap (a2)))) + 1)))), (0), (by first | rfl | (simp; done) | (simp [*]; done)), (by first | rfl | (simp; done) | (simp [*]; done)), H', ⟨Nat.le_refl _⟩, by repeat (first | exact Drawn0.refl _ | apply Drawn0.step)⟩
    case round =>
      clear H'
      try clear c1
      try clear c2
      try clear p2
      try clear c3
      try clear c6
      obtain ⟨x10_1, x32_1, rfl, rfl, HA, HK1, ⟨m1, rfl⟩⟩ := hrel
      cases gk with
      | zero => exact absurd HA.out (by simp [thresh_Height.l0])
      | succ k1 =>
        have H := HA.out
        clear HA
        simp only [thresh_Height.l0] at H
        by_cases c7 : x32_1 < (l3.length : Int)
        · rw [if_pos c7] at H
          have c7b0 : decide (x32_1 < (l3.length : Int)) = true := decide_eq_true c7
          clear c7
          by_cases c8 : 0 ≤ x32_1
          · rw [if_pos c8] at H
            have c8b0 : decide (0 ≤ x32_1) = true := decide_eq_true c8
            clear c8
            by_cases c9 : x32_1 < (l3.length : Int)
            · rw [if_pos c9] at H
              have c9b0 : decide (x32_1 < (l3.length : Int)) = true := decide_eq_true c9
              clear c9
              have H' := Aside0.mk H
              clear H
              have p150 : 0 ≤ (x32_1 : Int) := of_decide_eq_true (by first | (with_reducible assumption) | assumption)
              have q150 : x32_1 < (l3.length : Int) := of_decide_eq_true (by first | (with_reducible assumption) | assumption)
              obtain ⟨ad150, A150_0, c150_0, e150, hx150_0, hl150_0, hi150_0⟩ := at_L1 HR3.out x32_1 p150 q150
              cases e150
              have HR150_0 := Aside0.mk hi150_0
              have HC150_0 := Aside0.mk hl150_0
              clear hi150_0 hl150_0
              replace p150 := eq_true p150
              replace q150 := eq_true q150
              go_wp2
              go_roundg k1
              case measure => have := HK1.out; omega
              case rel => exact ⟨(IntKind.u64.wrap (x10_1 + (IntKind.u64.wrap ((IntKind.u64.wrap ((IntKind.u64.wrap (wrap64 (2 * ((rd_L1 l3 x32_1).length : Int)))) * (IntKind.u64.wrap (wrap64 (2 * ((rd_L1 l3 x32_1).length : Int)))))) * (IntKind.u64.wrap ((l0.length : Int))))))), (wrap64 (x32_1 + 1)), (by first | rfl | (simp; done) | (simp [*]; done)), (by first | rfl | (simp; done) | (simp [*]; done)), H', ⟨by have := HK1.out; omega⟩, by repeat (first | exact Drawn0.refl _ | apply Drawn0.step)⟩
            · rw [if_neg c9] at H
              exact absurd H (by simp)
          · rw [if_neg c8] at H
            exact absurd H (by simp)
        · rw [if_neg c7] at H
          have c7b0 : decide (x32_1 < (l3.length : Int)) = false := decide_eq_false c7
          clear c7
          obtain rfl := Option.some.inj H
          go_wp2
          go_ret
          exact ⟨by first | rfl | (simp; done) | (simp [*]; done), by repeat (first | exact Drawn0.refl _ | apply Drawn0.step)⟩
  · replace c6 := Bool.eq_false_iff.mpr c6
    subst c6
    have H1 : (some 0) = some r := by rw [if_neg (show ¬ (false = true) by decide)] at H; exact H
    clear H
    have H := H1
    clear H1
    obtain rfl := Option.some.inj H
    go_enter Try.func28, Try.ntmps28
    go_wp2_with (first | ((with_reducible refine gate_callee (f := 18) rfl ?_); refine goesL_ (some 15) rfl rfl Try.func18 (by kernel_rfl) rfl #[.slice A0 l0.length c0] rfl (by (try simp only [List.map_toArray, List.map_cons, List.map_nil]); first | done | rfl | (simp only [List.length_drop, List.length_take]; rfl)) ?_; (with_reducible refine (thresh_Fit.calls k _ _ l0 false _ ?side1 ?side2 A5.out).mono ?_); (case side1 => repeat (first | exact HR0.out | (with_reducible refine Kd.C_alloc ?_ _) | (with_reducible refine Kd.C_drewN ?_ _) | (with_reducible refine Kd.C_drew ?_))); (case side2 => exact HC0.out); rintro e w' ⟨rfl, ⟨nd, rfl⟩⟩; refine ⟨_, rfl, ?_⟩))
    go_ret
    exact ⟨by first | rfl | (simp; done) | (simp [*]; done), by repeat (first | exact Drawn0.refl _ | apply Drawn0.step)⟩

end Go.Proofs.Ytcoiidbefjbboaa.QTh
