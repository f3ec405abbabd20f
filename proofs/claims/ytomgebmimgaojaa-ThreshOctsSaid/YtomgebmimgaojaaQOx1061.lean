/- Written by a program of this session out of the translation. -/
import Derived.Test.YtomgebmimgaojaaQOx0
import Derived.Test.YtomgebmimgaojaaQOx1063
import Derived.Test.YtomgebmimgaojaaQOx1083
import Derived.Test.YtomgebmimgaojaaQOx1086
noncomputable section
namespace Go.Proofs.Ytomgebmimgaojaa.QO
open Go.RowKit Go.Proofs.YtomgebmimgaojaaW.PrintWords Go.Proofs.YtomgebmimgaojaaW.PrintLast
set_option linter.unusedVariables false
set_option linter.unusedSimpArgs false

/-! ### thresh_Up: function 61 -/
/-- the least threshold that is not less -/
def thresh_Up.f (k : Nat) (l0 : List Int) (a1 : Int) : Option Int :=
  (thresh_Fit.f k l0).bind fun b => if b = true then (if firstAt (fun y => decide (y ≥ bfit a1)) l0 < l0.length ∧ l0.length ≤ 9223372036854775807 then some (rd l0 (firstAt (fun y => decide (y ≥ bfit a1)) l0)) else none) else some 4611686018427387904
theorem thresh_Up.mono : ∀ l0 a1 k, LeO (thresh_Up.f k l0 a1) (thresh_Up.f (k + 1) l0 a1) := by
  intro l0 a1 k
  unfold thresh_Up.f
  exact LeO.bind (thresh_Fit.mono _ _) (fun _ => LeO.refl _)
theorem thresh_Up.will (W : World) (B : Nat) (x : Int) (hB : B < W.heap.size) (hc : W.cell? ⟨B, 0, none⟩ = some (.int .i64 x)) :
    Will Try.prog 87 #[.pointer (some ⟨B, 0, none⟩)] (fun y => decide (y ≥ x)) W := by
  intro W1 y hb
  have hc' : W1.cell? ⟨B, 0, none⟩ = some (.int .i64 x) := (hb.cell (p := ⟨B, 0, none⟩) hB).trans hc
  go_enter Try.func87, Try.ntmps87
  go_wp2
  go_ret
  exact ⟨rfl, Below.refl _ _⟩
set_option maxHeartbeats 8000000 in
set_option maxRecDepth 100000 in
theorem thresh_Up.calls (k : Nat) (A0 : Option Addr) (c0 : Nat) (l0 : List Int) (a1 : Int) (r : Int) (w : World) (hr0 : Kd.C (Kd.int .i64) w A0 l0.length l0) (hc0 : l0.length ≤ c0) (h : thresh_Up.f k l0 a1 = some r) :
    Calls Try.prog 61 #[.slice A0 l0.length c0, .int .i64 a1] w fun e w' => e = .returned (.int .i64 r) ∧ Below w.heap.size w w' := by
  have HR0 := Aside0.mk hr0
  have HC0 := Aside0.mk hc0
  clear hr0 hc0
  unfold thresh_Up.f at h
  obtain ⟨b, hb, h⟩ := Option.bind_eq_some_iff.mp h
  have HF := Aside0.mk hb
  clear hb
  cases b with
  | false =>
    rw [if_neg (by simp)] at h
    obtain rfl := Option.some.inj h
    clear h
    go_enter Try.func61, Try.ntmps61
    go_wp2_with (first | (go_at_call 63; (with_reducible refine (thresh_Fit.calls k _ _ l0 false _ ?side1 ?side2 HF.out).mono ?_); (case side1 => exact Kd.C_alloc HR0.out _); (case side2 => exact HC0.out); rintro e w1 ⟨rfl, ⟨nd, rfl⟩⟩))
    go_ret
    exact ⟨rfl, pw_below_drewN (below_alloc (Below.refl _ _) _) _⟩
  | true =>
    rw [if_pos rfl] at h
    by_cases hlt : firstAt (fun y => decide (y ≥ bfit a1)) l0 < l0.length ∧ l0.length ≤ 9223372036854775807
    · rw [if_pos hlt] at h
      obtain rfl := Option.some.inj h
      clear h
      have HL := Aside0.mk hlt
      clear hlt
      obtain ⟨x, hx⟩ : ∃ x, bfit a1 = x := ⟨_, rfl⟩
      rw [hx] at HL ⊢
      have HX : Aside0 (bound_Fit.f a1 = some x) := ⟨by rw [← hx]; rfl⟩
      clear hx
      obtain ⟨N, hN⟩ : ∃ N : Nat, firstAt (fun y => decide (y ≥ x)) l0 = N := ⟨_, rfl⟩
      rw [hN]
      have HN := Aside0.mk hN
      clear hN
      go_enter Try.func61, Try.ntmps61
      go_wp2_with (first | (go_at_call 63; (with_reducible refine (thresh_Fit.calls k _ _ l0 true _ ?side1 ?side2 HF.out).mono ?_); (case side1 => exact Kd.C_alloc HR0.out _); (case side2 => exact HC0.out); rintro e w1 ⟨rfl, ⟨nd, rfl⟩⟩) | (go_at_call 83; (with_reducible refine (bound_Fit.calls a1 x _ HX.out).mono ?_); rintro e w1 ⟨rfl, ⟨ne, rfl⟩⟩))
      obtain ⟨hbw, hbs, hbc⟩ := box_world w (.int .i64 a1) (.int .i64 x) 2 (nd + ne)
      generalize ((w.alloc (Obj.cells #[.int .i64 a1] 2)).drewN (nd + ne)).setCell ⟨w.heap.size, 0, none⟩ (.int .i64 x) = W1 at hbw hbs hbc ⊢
      refine (thresh_find_any (fun y => decide (y ≥ x)) 87 #[.pointer (some ⟨w.heap.size, 0, none⟩)] (Go.Proofs.enters_of Try.func87 (by kernel_rfl) rfl) A0 c0 l0 W1 (thresh_Up.will W1 w.heap.size x hbs hbc) (Kd.C_below HR0.out hbw) HC0.out HL.out.2).mono ?_
      rintro e w2 ⟨rfl, hb2⟩
      have hb3 : Below w.heap.size w w2 := hbw.trans (hb2.mono hbw.size)
      have h1 := HL.out; have h2 := HN.out
      rw [h2] at h1 ⊢
      obtain ⟨ad, e0, hx⟩ := Kd.at_int (Kd.C_below HR0.out hb3) (N : Int) (by omega) (by omega)
      cases e0
      have p0 : ((0 : Int) ≤ (N : Int)) = True := eq_true (by omega)
      have p1 : ((N : Int) < (l0.length : Int)) = True := eq_true (by omega)
      have p2 : decide (N < l0.length) = true := decide_eq_true (by omega)
      rw [Int.toNat_natCast] at hx
      have HB3 := Aside0.mk hb3
      clear h1 h2 hb2 hb3
      go_wp2
      go_ret
      exact ⟨rfl, HB3.out⟩
    · rw [if_neg hlt] at h
      exact absurd h (by simp)

end Go.Proofs.Ytomgebmimgaojaa.QO
