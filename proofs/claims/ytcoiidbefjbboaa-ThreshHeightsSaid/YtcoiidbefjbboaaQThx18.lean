/- Written by a program of this session out of the translation. -/
import Derived.Test.YtcoiidbefjbboaaQThx0
import Derived.Test.YtcoiidbefjbboaaQThx14
import Derived.Test.YtcoiidbefjbboaaQThx16
import Derived.Test.YtcoiidbefjbboaaQThx17
namespace Go.Proofs.Ytcoiidbefjbboaa.QTh
open Go.RowKit Go.Proofs.YtcoiidbefjbboaaW.PrintWords Go.Proofs.YtcoiidbefjbboaaW.PrintLast Go.Proofs.YtcoiidbefjbboaaW.PrintMore
attribute [local go_sem] max2_int min2_int max_two min_two max_three min_three max_four min_four   -- for this text's walks alone
set_option linter.unusedVariables false
set_option linter.unusedSimpArgs false

/-! ### gimballaw13_ThreshHeights: function 5 -/
def gimballaw13_ThreshHeights.f (k : Nat) (l0 : List Int) (a1 : Int) (a2 : Int) (l3 : List (List Int)) : Option (Bool) := (thresh_Height.f k l0 (wrap64 (Int.tmod (IntKind.u64.wrap (a1)) 65)) (wrap64 (Int.tmod (IntKind.u64.wrap (a2)) 17)) l3).bind fun t153 => ((gimbalref13_Height.f k l0 (wrap64 (Int.tmod (IntKind.u64.wrap (a1)) 65)) (wrap64 (Int.tmod (IntKind.u64.wrap (a2)) 17)) l3).bind fun t154 => (if t153 = t154 then ((gimballaw13_awake.f k).bind fun t155 => (some t155)) else (some false)))
theorem gimballaw13_ThreshHeights.mono : ∀ a0 a1 a2 a3 k, LeO (gimballaw13_ThreshHeights.f k a0 a1 a2 a3) (gimballaw13_ThreshHeights.f (k + 1) a0 a1 a2 a3) := by
  intro a0 a1 a2 a3 k
  unfold gimballaw13_ThreshHeights.f
  repeat' first
      | (with_reducible exact gimballaw13_awake.mono _)
      | (with_reducible exact gimbalref13_Height.mono _ _ _ _ _)
      | (with_reducible exact thresh_Height.mono _ _ _ _ _)
      | (with_reducible exact LeO.refl _)
      | (with_reducible exact LeO.none _)
      | (with_reducible refine LeO.ite ?_ ?_)
      | (with_reducible refine LeO.bind ?_ (fun _ => ?_))
      | exact gimballaw13_awake.mono _
      | exact gimbalref13_Height.mono _ _ _ _ _
      | exact thresh_Height.mono _ _ _ _ _
      | exact LeO.none _
      | refine LeO.ite ?_ ?_
      | refine LeO.bind ?_ (fun _ => ?_)
set_option maxHeartbeats 8000000 in
set_option maxRecDepth 100000 in
theorem gimballaw13_ThreshHeights.calls (k : Nat) (A0 : Option Addr) (c0 : Nat) (l0 : List Int) (a1 : Int) (a2 : Int) (A3 : Option Addr) (c3 : Nat) (l3 : List (List Int)) (r : Bool) (w : World) (hr0 : Kd.C (Kd.int .i64) w A0 l0.length l0) (hc0 : l0.length ≤ c0) (hr3 : Kd.C (Kd.slice 3 (Kd.int .i64)) w A3 l3.length l3) (hc3 : l3.length ≤ c3) (h : gimballaw13_ThreshHeights.f k l0 a1 a2 l3 = some r) :
    Calls Try.prog 5 #[.slice A0 l0.length c0, .int .i64 a1, .int .i64 a2, .slice A3 l3.length c3] w fun e w' => e = .returned (.bool r) ∧ Below w.heap.size w w' := by
  have HR0 := Aside0.mk hr0
  have HC0 := Aside0.mk hc0
  clear hr0 hc0
  have HR3 := Aside0.mk hr3
  have HC3 := Aside0.mk hc3
  clear hr3 hc3
  have HB := Aside0.mk (Below.refl w.heap.size w)
  have H : ((thresh_Height.f k l0 (wrap64 (Int.tmod (IntKind.u64.wrap (a1)) 65)) (wrap64 (Int.tmod (IntKind.u64.wrap (a2)) 17)) l3).bind fun t153 => ((gimbalref13_Height.f k l0 (wrap64 (Int.tmod (IntKind.u64.wrap (a1)) 65)) (wrap64 (Int.tmod (IntKind.u64.wrap (a2)) 17)) l3).bind fun t154 => (if t153 = t154 then ((gimballaw13_awake.f k).bind fun t155 => (some t155)) else (some false)))) = some r := h
  clear h
  replace H := Option.bind_eq_some_iff.mp H
  obtain ⟨t153, A50, H⟩ := H
  replace H : ((gimbalref13_Height.f k l0 (wrap64 (Int.tmod (IntKind.u64.wrap (a1)) 65)) (wrap64 (Int.tmod (IntKind.u64.wrap (a2)) 17)) l3).bind fun t154 => (if t153 = t154 then ((gimballaw13_awake.f k).bind fun t155 => (some t155)) else (some false))) = some r := H
  have A5 := Aside0.mk A50
  clear A50
  replace H := Option.bind_eq_some_iff.mp H
  obtain ⟨t154, A60, H⟩ := H
  replace H : (if t153 = t154 then ((gimballaw13_awake.f k).bind fun t155 => (some t155)) else (some false)) = some r := H
  have A6 := Aside0.mk A60
  clear A60
  by_cases c7 : t153 = t154
  · rw [if_pos c7] at H
    have c7b0 : (t153 == t154) = true := beq_iff_eq.mpr c7
    have c7b1 : (t153 != t154) = false := bne_eq_false_iff_eq.mpr c7
    clear c7
    replace H := Option.bind_eq_some_iff.mp H
    obtain ⟨t155, A80, H⟩ := H
    replace H : (some t155) = some r := H
    have A8 := Aside0.mk A80
    clear A80
    obtain rfl := Option.some.inj H
    go_enter Try.func5, Try.ntmps5
    go_wp2_with (first | ((with_reducible refine gate_callee (f := 28) rfl ?_); refine goesL_ (some 21) rfl rfl Try.func28 (by kernel_rfl) rfl #[.slice A0 l0.length c0, .int .i64 (wrap64 (Int.tmod (IntKind.u64.wrap (a1)) 65)), .int .i64 (wrap64 (Int.tmod (IntKind.u64.wrap (a2)) 17)), .slice A3 l3.length c3] rfl (by (try simp only [List.map_toArray, List.map_cons, List.map_nil]); first | done | rfl | (simp only [List.length_drop, List.length_take]; rfl)) ?_; (with_reducible refine (thresh_Height.calls k _ _ l0 (wrap64 (Int.tmod (IntKind.u64.wrap (a1)) 65)) (wrap64 (Int.tmod (IntKind.u64.wrap (a2)) 17)) _ _ l3 t153 _ ?side1 ?side2 ?side3 ?side4 A5.out).mono ?_); (case side1 => repeat (first | exact HR0.out | (with_reducible refine Kd.C_alloc ?_ _) | (with_reducible refine Kd.C_drewN ?_ _) | (with_reducible refine Kd.C_drew ?_))); (case side2 => exact HC0.out); (case side3 => repeat (first | exact HR3.out | (with_reducible refine Kd.C_alloc ?_ _) | (with_reducible refine Kd.C_drewN ?_ _) | (with_reducible refine Kd.C_drew ?_))); (case side4 => exact HC3.out); rintro e w' ⟨rfl, ⟨nd, rfl⟩⟩; refine ⟨_, rfl, ?_⟩) | ((with_reducible refine gate_callee (f := 29) rfl ?_); refine goesL_ (some 26) rfl rfl Try.func29 (by kernel_rfl) rfl #[.slice A0 l0.length c0, .int .i64 (wrap64 (Int.tmod (IntKind.u64.wrap (a1)) 65)), .int .i64 (wrap64 (Int.tmod (IntKind.u64.wrap (a2)) 17)), .slice A3 l3.length c3] rfl (by (try simp only [List.map_toArray, List.map_cons, List.map_nil]); first | done | rfl | (simp only [List.length_drop, List.length_take]; rfl)) ?_; (with_reducible refine (gimbalref13_Height.calls k _ _ l0 (wrap64 (Int.tmod (IntKind.u64.wrap (a1)) 65)) (wrap64 (Int.tmod (IntKind.u64.wrap (a2)) 17)) _ _ l3 t154 _ ?side1 ?side2 ?side3 ?side4 A6.out).mono ?_); (case side1 => repeat (first | exact HR0.out | (with_reducible refine Kd.C_alloc ?_ _) | (with_reducible refine Kd.C_drewN ?_ _) | (with_reducible refine Kd.C_drew ?_))); (case side2 => exact HC0.out); (case side3 => repeat (first | exact HR3.out | (with_reducible refine Kd.C_alloc ?_ _) | (with_reducible refine Kd.C_drewN ?_ _) | (with_reducible refine Kd.C_drew ?_))); (case side4 => exact HC3.out); rintro e w' ⟨rfl, ⟨nd, rfl⟩⟩; refine ⟨_, rfl, ?_⟩) | (go_at_call 27; (with_reducible refine (gimballaw13_awake.calls k  t155 _ A8.out).mono ?_); rintro e w9 ⟨rfl, hb⟩; have n0_ := Aside0.mk (below_step (by repeat (first | (with_reducible first | exact HB.out | apply below_alloc | apply pw_below_drewN | apply below_drew1) | exact HB.out)) hb); clear HB; have HB := n0_; clear n0_; (try clear hb); (try clear hb2); (try clear hk); (try clear hi)))
    go_ret
    exact ⟨by first | rfl | (simp [errW_none, errW_some] <;> rfl) | (simp [*, errW_none, errW_some] <;> rfl) | (simp [wrap64]; done), by repeat (first | (with_reducible first | exact HB.out | apply below_alloc | apply pw_below_drewN | apply below_drew1) | exact HB.out)⟩
  · rw [if_neg c7] at H
    have c7b0 : (t153 == t154) = false := beq_eq_false_iff_ne.mpr c7
    have c7b1 : (t153 != t154) = true := bne_iff_ne.mpr c7
    obtain rfl := Option.some.inj H
    go_enter Try.func5, Try.ntmps5
    go_wp2_with (first | ((with_reducible refine gate_callee (f := 28) rfl ?_); refine goesL_ (some 21) rfl rfl Try.func28 (by kernel_rfl) rfl #[.slice A0 l0.length c0, .int .i64 (wrap64 (Int.tmod (IntKind.u64.wrap (a1)) 65)), .int .i64 (wrap64 (Int.tmod (IntKind.u64.wrap (a2)) 17)), .slice A3 l3.length c3] rfl (by (try simp only [List.map_toArray, List.map_cons, List.map_nil]); first | done | rfl | (simp only [List.length_drop, List.length_take]; rfl)) ?_; (with_reducible refine (thresh_Height.calls k _ _ l0 (wrap64 (Int.tmod (IntKind.u64.wrap (a1)) 65)) (wrap64 (Int.tmod (IntKind.u64.wrap (a2)) 17)) _ _ l3 t153 _ ?side1 ?side2 ?side3 ?side4 A5.out).mono ?_); (case side1 => repeat (first | exact HR0.out | (with_reducible refine Kd.C_alloc ?_ _) | (with_reducible refine Kd.C_drewN ?_ _) | (with_reducible refine Kd.C_drew ?_))); (case side2 => exact HC0.out); (case side3 => repeat (first | exact HR3.out | (with_reducible refine Kd.C_alloc ?_ _) | (with_reducible refine Kd.C_drewN ?_ _) | (with_reducible refine Kd.C_drew ?_))); (case side4 => exact HC3.out); rintro e w' ⟨rfl, ⟨nd, rfl⟩⟩; refine ⟨_, rfl, ?_⟩) | ((with_reducible refine gate_callee (f := 29) rfl ?_); refine goesL_ (some 26) rfl rfl Try.func29 (by kernel_rfl) rfl #[.slice A0 l0.length c0, .int .i64 (wrap64 (Int.tmod (IntKind.u64.wrap (a1)) 65)), .int .i64 (wrap64 (Int.tmod (IntKind.u64.wrap (a2)) 17)), .slice A3 l3.length c3] rfl (by (try simp only [List.map_toArray, List.map_cons, List.map_nil]); first | done | rfl | (simp only [List.length_drop, List.length_take]; rfl)) ?_; (with_reducible refine (gimbalref13_Height.calls k _ _ l0 (wrap64 (Int.tmod (IntKind.u64.wrap (a1)) 65)) (wrap64 (Int.tmod (IntKind.u64.wrap (a2)) 17)) _ _ l3 t154 _ ?side1 ?side2 ?side3 ?side4 A6.out).mono ?_); (case side1 => repeat (first | exact HR0.out | (with_reducible refine Kd.C_alloc ?_ _) | (with_reducible refine Kd.C_drewN ?_ _) | (with_reducible refine Kd.C_drew ?_))); (case side2 => exact HC0.out); (case side3 => repeat (first | exact HR3.out | (with_reducible refine Kd.C_alloc ?_ _) | (with_reducible refine Kd.C_drewN ?_ _) | (with_reducible refine Kd.C_drew ?_))); (case side4 => exact HC3.out); rintro e w' ⟨rfl, ⟨nd, rfl⟩⟩; refine ⟨_, rfl, ?_⟩))
    go_ret
    exact ⟨by first | rfl | (simp [errW_none, errW_some] <;> rfl) | (simp [*, errW_none, errW_some] <;> rfl) | (simp [wrap64]; done), by repeat (first | (with_reducible first | exact HB.out | apply below_alloc | apply pw_below_drewN | apply below_drew1) | exact HB.out)⟩

def gimballaw13_ThreshHeights.Pure : Prop := ∀ (l0 : List Int) (a1 : Int) (a2 : Int) (l3 : List (List Int)), (l0.length * 8 ≤ 140737488351232 ∧ l0.length ≤ maxLen ∧ ∀ x ∈ l0, (Lit.int .i64 x).wf = true) → ((Lit.int .i64 a1).wf = true) → ((Lit.int .i64 a2).wf = true) → (l3.length * 24 ≤ 140737488351232 ∧ l3.length ≤ maxLen ∧ ∀ x ∈ l3, x.length * 8 ≤ 140737488351232 ∧ x.length ≤ maxLen ∧ ∀ y ∈ x, (Lit.int .i64 y).wf = true) → ∃ k, gimballaw13_ThreshHeights.f k l0 a1 a2 l3 = some true

end Go.Proofs.Ytcoiidbefjbboaa.QTh
