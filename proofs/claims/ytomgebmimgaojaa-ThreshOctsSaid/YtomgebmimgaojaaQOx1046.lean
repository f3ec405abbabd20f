/- Written by a program of this session out of the translation. -/
import Derived.Test.YtomgebmimgaojaaQOx0
namespace Go.Proofs.Ytomgebmimgaojaa.QO
open Go.RowKit Go.Proofs.YtomgebmimgaojaaW.PrintWords Go.Proofs.YtomgebmimgaojaaW.PrintLast
set_option linter.unusedVariables false
set_option linter.unusedSimpArgs false

/-! ### oct_may: function 46 -/
/-- may these be Vars? -/
def VarsOk (l : List Int) : Prop := l.length ≤ 8 ∧ ∀ i : Int, 0 ≤ i → i < l.length → 0 ≤ rd l i ∧ (0 < i → rd l (i - 1) < rd l i)
noncomputable def varsB (l : List Int) : Bool := @decide (VarsOk l) (Classical.propDecidable _)
theorem varsB_true {l : List Int} : varsB l = true ↔ VarsOk l := by unfold varsB; exact @decide_eq_true_iff _ (Classical.propDecidable _)
theorem varsB_false {l : List Int} : varsB l = false ↔ ¬ VarsOk l := by unfold varsB; exact @decide_eq_false_iff_not _ (Classical.propDecidable _)
noncomputable def oct_may.f (l0 : List Int) : Option Bool := some (varsB l0)
set_option maxHeartbeats 8000000 in
set_option maxRecDepth 100000 in
theorem oct_may.calls (A0 : Option Addr) (c0 : Nat) (l0 : List Int) (r : Bool) (w : World) (hr0 : Kd.C (Kd.int .i64) w A0 l0.length l0) (hc0 : l0.length ≤ c0) (h : oct_may.f l0 = some r) :
    Calls Try.prog 46 #[.slice A0 l0.length c0] w fun e w' => e = .returned (.bool r) ∧ Drawn0 w w' := by
  have HR0 := Aside0.mk hr0
  have HV := Aside0.mk (Option.some.inj h)
  clear hr0 hc0 h
  by_cases c1 : (8 : Int) < (l0.length : Int)
  · have f1 : decide ((8 : Int) < (l0.length : Int)) = true := decide_eq_true c1
    have f2 : decide (8 < l0.length) = true := decide_eq_true (by omega)
    have HC := Aside0.mk c1
    clear c1
    go_enter Try.func46, Try.ntmps46
    go_wp2
    go_ret
    refine ⟨?_, Drawn0.refl _⟩
    rw [← HV.out, varsB_false.2 (fun h => by have := h.1; have := HC.out; omega)]
    rfl
  · have f1 : decide ((8 : Int) < (l0.length : Int)) = false := decide_eq_false c1
    have f2 : decide (8 < l0.length) = false := decide_eq_false (by omega)
    have HC := Aside0.mk c1
    clear c1
    go_enter Try.func46, Try.ntmps46
    go_wp2
    go_loopg [3, 4, 10] l0.length (fun gg _ _ s10 wr => ∃ i : Int, s10 = .int .i64 i ∧ Aside0 (0 ≤ i ∧ i ≤ l0.length ∧ l0.length - i.toNat ≤ gg) ∧ Aside0 (∀ j : Int, 0 ≤ j → j < i → 0 ≤ rd l0 j ∧ (0 < j → rd l0 (j - 1) < rd l0 j)) ∧ Drawn0 w wr)
    case atStart => exact ⟨0, rfl, ⟨by omega, by omega, by omega⟩, ⟨fun j h0 h1 => absurd h1 (by omega)⟩, Drawn0.refl _⟩
    case round =>
      obtain ⟨i, rfl, HI, HA, ⟨m1, rfl⟩⟩ := hrel
      by_cases hlt : i < (l0.length : Int)
      · have p0 : 0 ≤ i := HI.out.1
        have hC : Kd.C (Kd.int .i64) (w.drewN m1) A0 l0.length l0 := Kd.C_drewN HR0.out _
        obtain ⟨ad, e0, hx⟩ := Kd.at_int hC i p0 hlt
        cases e0
        clear hC
        have HL := Aside0.mk hlt
        have c6b0 : decide (i < (l0.length : Int)) = true := decide_eq_true hlt
        by_cases c3 : rd l0 i < 0
        · have f3 : decide (rd l0 i < 0) = true := decide_eq_true c3
          have H3 := Aside0.mk c3
          clear c3
          replace p0 := eq_true p0
          replace hlt := eq_true hlt
          go_wp2
          go_ret
          refine ⟨?_, by repeat (first | exact Drawn0.refl _ | apply Drawn0.step)⟩
          have h1 := HI.out; have h2 := HL.out; have h3 := H3.out
          rw [← HV.out, varsB_false.2 (fun h => by have := (h.2 i h1.1 h2).1; omega)]
          rfl
        · have f3 : decide (rd l0 i < 0) = false := decide_eq_false c3
          have H3 := Aside0.mk c3
          clear c3
          by_cases c4 : 0 < i
          · have f4 : decide (0 < i) = true := decide_eq_true c4
            have hm1 : wrap64 (i - 1) = i - 1 := by have := HC.out; unfold wrap64; omega
            obtain ⟨j, hj⟩ : ∃ j : Int, i - 1 = j := ⟨_, rfl⟩
            have q0 : 0 ≤ j := by omega
            have q1 : j < (l0.length : Int) := by omega
            obtain ⟨ad', e0, hy⟩ := Kd.at_int (Kd.C_drewN HR0.out m1) j q0 q1
            cases e0
            rw [hj] at hm1
            have hm2 : IntKind.i64.wrap (i - 1) = j := by rw [IntKind.wrap_i64, ← hj]; unfold wrap64 at hm1; omega
            have HJ := Aside0.mk hj
            have H4 := Aside0.mk c4
            by_cases c5 : rd l0 i ≤ rd l0 j
            · have f5 : decide (rd l0 i ≤ rd l0 j) = true := decide_eq_true c5
              have H5 := Aside0.mk c5
              clear c5 c4
              replace p0 := eq_true p0
              replace hlt := eq_true hlt
              replace q0 := eq_true q0
              replace q1 := eq_true q1
              go_wp2
              go_ret
              refine ⟨?_, by repeat (first | exact Drawn0.refl _ | apply Drawn0.step)⟩
              have h1 := HI.out; have h2 := HL.out; have h5 := H5.out; have h4 := H4.out
              rw [← HV.out, varsB_false.2 (fun h => by have := (h.2 i h1.1 h2).2 h4; rw [HJ.out] at this; omega)]
              rfl
            · have f5 : decide (rd l0 i ≤ rd l0 j) = false := decide_eq_false c5
              have H5 := Aside0.mk c5
              clear c5 c4
              replace p0 := eq_true p0
              replace hlt := eq_true hlt
              replace q0 := eq_true q0
              replace q1 := eq_true q1
              go_wp2
              go_roundg (l0.length - (i.toNat + 1))
              case measure => have h1 := HI.out; have h2 := HL.out; omega
              case rel =>
                have h1 := HI.out; have h2 := HL.out; have h3 := H3.out; have h4 := HC.out; have h5 := H5.out; have hj := HJ.out
                have hw : wrap64 (i + 1) = i + 1 := by unfold wrap64; omega
                refine ⟨wrap64 (i + 1), rfl, ⟨by omega, by omega, by omega⟩, ⟨fun k k0 k1 => ?_⟩, by repeat (first | exact Drawn0.refl _ | apply Drawn0.step)⟩
                by_cases e : k = i
                · subst e; exact ⟨by omega, fun _ => by rw [hj]; omega⟩
                · exact HA.out k k0 (by omega)
          · have f4 : decide (0 < i) = false := decide_eq_false c4
            have H4 := Aside0.mk c4
            clear c4
            replace p0 := eq_true p0
            replace hlt := eq_true hlt
            go_wp2
            go_roundg (l0.length - (i.toNat + 1))
            case measure => have h1 := HI.out; have h2 := HL.out; omega
            case rel =>
              have h1 := HI.out; have h2 := HL.out; have h3 := H3.out; have h4 := HC.out; have h5 := H4.out
              have hw : wrap64 (i + 1) = i + 1 := by unfold wrap64; omega
              refine ⟨wrap64 (i + 1), rfl, ⟨by omega, by omega, by omega⟩, ⟨fun k k0 k1 => ?_⟩, by repeat (first | exact Drawn0.refl _ | apply Drawn0.step)⟩
              by_cases e : k = i
              · subst e; exact ⟨by omega, fun h => absurd h (by omega)⟩
              · exact HA.out k k0 (by omega)
      · have c6b0 : decide (i < (l0.length : Int)) = false := decide_eq_false hlt
        have HL := Aside0.mk hlt
        clear hlt
        go_wp2
        go_ret
        have h1 := HI.out; have h2 := HL.out; have h4 := HC.out
        refine ⟨?_, by repeat (first | exact Drawn0.refl _ | apply Drawn0.step)⟩
        rw [← HV.out, varsB_true.2 ⟨by omega, fun k k0 k1 => HA.out k k0 (by omega)⟩]
        rfl

end Go.Proofs.Ytomgebmimgaojaa.QO
