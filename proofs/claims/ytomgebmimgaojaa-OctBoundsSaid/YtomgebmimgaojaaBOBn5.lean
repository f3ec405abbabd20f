/- Own texts of this claim, joined: QOx1063, QOx1086, QOx1061, QOx1065, QOx1064, Round, CloseFit, BndsEq, HasEq, QOx1015, QOx1021, QOx1024, Octs, PureOctBounds, Open -/
import Derived.Test.YtomgebmimgaojaaBOBn0
import Derived.Test.YtomgebmimgaojaaBOBn1
import Derived.Test.YtomgebmimgaojaaBOBn2
import Derived.Test.YtomgebmimgaojaaBOBn4
import Derived.ChangeArms
import Derived.SizedLaws
section
/- Written by a program of this session out of the translation. -/
noncomputable section
namespace Go.Proofs.Ytomgebmimgaojaa.QO
open Go.RowKit Go.Proofs.YtomgebmimgaojaaW.PrintWords Go.Proofs.YtomgebmimgaojaaW.PrintLast
set_option linter.unusedVariables false
set_option linter.unusedSimpArgs false
/-! ### thresh_Fit: function 63 -/
mutual
def thresh_Fit.j0 : Nat → List Int → Bool → Option (Bool)
 | 0, _, _ => none
 | k + 1, x0, x26 => if x26 = true then (some false) else (thresh_Fit.l0 k x0 1)
def thresh_Fit.l0 : Nat → List Int → Int → Option (Bool)
 | 0, _, _ => none
 | k + 1, x0, x3 => if x3 < (x0.length : Int) then (if 0 ≤ (wrap64 (x3 - 1)) then (if (wrap64 (x3 - 1)) < (x0.length : Int) then (if 0 ≤ x3 then (if (rd x0 (wrap64 (x3 - 1))) ≥ (rd x0 x3) then (some false) else (thresh_Fit.l0 k x0 (wrap64 (x3 + 1)))) else (none)) else (none)) else (none)) else (some true)
end
def thresh_Fit.f (k : Nat) (l0 : List Int) : Option (Bool) := if (l0.length : Int) < 2 then (thresh_Fit.j0 k l0 true) else (if (l0.length : Int) > 256 then (thresh_Fit.j0 k l0 true) else (if 0 < (l0.length : Int) then (if (rd l0 0) = (-4611686018427387904) then (if 0 ≤ (wrap64 ((l0.length : Int) - 1)) then (if (wrap64 ((l0.length : Int) - 1)) < (l0.length : Int) then (thresh_Fit.j0 k l0 ((rd l0 (wrap64 ((l0.length : Int) - 1))) != 4611686018427387904)) else (none)) else (none)) else (thresh_Fit.j0 k l0 true)) else (none)))
theorem thresh_Fit.mono_l : ∀ k, (∀ y0 y1, LeO (thresh_Fit.j0 k y0 y1) (thresh_Fit.j0 (k + 1) y0 y1)) ∧ (∀ y0 y1, LeO (thresh_Fit.l0 k y0 y1) (thresh_Fit.l0 (k + 1) y0 y1))
 | 0 => ⟨fun _ _ r h => by simp [thresh_Fit.j0] at h, fun _ _ r h => by simp [thresh_Fit.l0] at h⟩
 | k + 1 => by
  obtain ⟨ih0, ih1⟩ := thresh_Fit.mono_l k
  refine ⟨?_, ?_⟩
  ·
   intro y0 y1
   unfold thresh_Fit.j0
   repeat' first
   | (with_reducible exact ih0 _ _)
   | (with_reducible exact ih1 _ _)
   | (with_reducible exact LeO.refl _)
   | (with_reducible exact LeO.none _)
   | (with_reducible refine LeO.ite ?_ ?_)
   | (with_reducible refine LeO.bind ?_ (fun _ => ?_))
   | exact ih0 _ _
   | exact ih1 _ _
   | exact LeO.none _
   | refine LeO.ite ?_ ?_
   | refine LeO.bind ?_ (fun _ => ?_)
  ·
   intro y0 y1
   unfold thresh_Fit.l0
   repeat' first
   | (with_reducible exact ih0 _ _)
   | (with_reducible exact ih1 _ _)
   | (with_reducible exact LeO.refl _)
   | (with_reducible exact LeO.none _)
   | (with_reducible refine LeO.ite ?_ ?_)
   | (with_reducible refine LeO.bind ?_ (fun _ => ?_))
   | exact ih0 _ _
   | exact ih1 _ _
   | exact LeO.none _
   | refine LeO.ite ?_ ?_
   | refine LeO.bind ?_ (fun _ => ?_)
theorem thresh_Fit.mono : ∀ a0 k, LeO (thresh_Fit.f k a0) (thresh_Fit.f (k + 1) a0) := by
 intro a0 k
 obtain ⟨ih0, ih1⟩ := thresh_Fit.mono_l k
 unfold thresh_Fit.f
 repeat' first
  | (with_reducible exact ih0 _ _)
  | (with_reducible exact ih1 _ _)
  | (with_reducible exact LeO.refl _)
  | (with_reducible exact LeO.none _)
  | (with_reducible refine LeO.ite ?_ ?_)
  | (with_reducible refine LeO.bind ?_ (fun _ => ?_))
  | exact ih0 _ _
  | exact ih1 _ _
  | exact LeO.none _
  | refine LeO.ite ?_ ?_
  | refine LeO.bind ?_ (fun _ => ?_)
set_option maxHeartbeats 8000000 in
set_option maxRecDepth 100000 in
theorem thresh_Fit.calls (k : Nat) (A0 : Option Addr) (c0 : Nat) (l0 : List Int) (r : Bool) (w : World) (hr0 : Kd.C (Kd.int .i64) w A0 l0.length l0) (hc0 : l0.length ≤ c0) (h : thresh_Fit.f k l0 = some r) :
 Calls Try.prog 63 #[.slice A0 l0.length c0] w fun e w' => e = .returned (.bool r) ∧ Drawn0 w w' := by
 have HR0 := Aside0.mk hr0
 have HC0 := Aside0.mk hc0
 clear hr0 hc0
 have H : (if (l0.length : Int) < 2 then (thresh_Fit.j0 k l0 true) else (if (l0.length : Int) > 256 then (thresh_Fit.j0 k l0 true) else (if 0 < (l0.length : Int) then (if (rd l0 0) = (-4611686018427387904) then (if 0 ≤ (wrap64 ((l0.length : Int) - 1)) then (if (wrap64 ((l0.length : Int) - 1)) < (l0.length : Int) then (thresh_Fit.j0 k l0 ((rd l0 (wrap64 ((l0.length : Int) - 1))) != 4611686018427387904)) else (none)) else (none)) else (thresh_Fit.j0 k l0 true)) else (none)))) = some r := h
 clear h
 have HC2 := Aside0.mk H
 clear H
 go_enter Try.func63, Try.ntmps63
 go_upto_region 1 with (fail)
 repeat (go_quiet (fail); go_upto_region 1 with (fail))
 go_cut [26] (fun v26 wc => ∃ (kq : Nat) (x26_1 : Bool), v26 = .bool x26_1 ∧ Aside0 (thresh_Fit.j0 kq l0 x26_1 = some r) ∧ Aside0 (kq ≤ k) ∧ Drawn0 w wc)
 case first =>
  have H := HC2.out
  clear HC2
  by_cases c3 : (l0.length : Int) < 2
  ·
   rw [if_pos c3] at H
   have c3b0 : decide ((l0.length : Int) < 2) = true := decide_eq_true c3
   have c3b1 : decide (l0.length < 2) = true := decide_eq_true (by omega)
   clear c3
   (first | rw [c3b0] | (simp only [i64_w, i32_w]; rw [c3b0]) | skip)
   have H' := Aside0.mk H
   clear H
   go_wp2
   repeat (go_quiet (fail); try go_wp2)
   go_meet
   case rel => exact ⟨_, (true), (by first | rfl | (simp; done) | (simp [*]; done)), H', ⟨by first | omega | exact Nat.le_refl _⟩, by repeat (first | exact Drawn0.refl _ | apply Drawn0.step)⟩
  ·
   rw [if_neg c3] at H
   have c3b0 : decide ((l0.length : Int) < 2) = false := decide_eq_false c3
   have c3b1 : decide (l0.length < 2) = false := decide_eq_false (by omega)
   clear c3
   (first | rw [c3b0] | (simp only [i64_w, i32_w]; rw [c3b0]) | skip)
   by_cases c4 : (l0.length : Int) > 256
   ·
    rw [if_pos c4] at H
    have c4b0 : decide (256 < (l0.length : Int)) = true := decide_eq_true c4
    have c4b1 : decide (256 < l0.length) = true := decide_eq_true (by omega)
    clear c4
    have H' := Aside0.mk H
    clear H
    go_wp2
    repeat (go_quiet (fail); try go_wp2)
    go_meet
    case rel => exact ⟨_, (true), (by first | rfl | (simp; done) | (simp [*]; done)), H', ⟨by first | omega | exact Nat.le_refl _⟩, by repeat (first | exact Drawn0.refl _ | apply Drawn0.step)⟩
   ·
    rw [if_neg c4] at H
    have c4b0 : decide (256 < (l0.length : Int)) = false := decide_eq_false c4
    have c4b1 : decide (256 < l0.length) = false := decide_eq_false (by omega)
    clear c4
    by_cases c5 : 0 < (l0.length : Int)
    ·
     rw [if_pos c5] at H
     have c5b0 : decide (0 < (l0.length : Int)) = true := decide_eq_true c5
     have c5b1 : decide (0 < l0.length) = true := decide_eq_true (by omega)
     clear c5
     by_cases c6 : (rd l0 0) = (-4611686018427387904)
     ·
      rw [if_pos c6] at H
      have c6b0 : ((rd l0 0) == (-4611686018427387904)) = true := beq_iff_eq.mpr c6
      have c6b1 : ((rd l0 0) != (-4611686018427387904)) = false := bne_eq_false_iff_eq.mpr c6
      clear c6
      obtain ⟨ji7, hji7⟩ : ∃ j_ : Int, (wrap64 ((l0.length : Int) - 1)) = j_ := ⟨_, rfl⟩
      replace H : (if 0 ≤ (ji7) then (if (ji7) < (l0.length : Int) then (thresh_Fit.j0 k l0 ((rd l0 (ji7)) != 4611686018427387904)) else (none)) else (none)) = some r := by first | (rw [hji7] at H; exact H) | (simp only [hji7] at H ⊢; exact H)
      have hji7w : (IntKind.i64.wrap ((l0.length : Int) - 1)) = ji7 := (i64_w _).trans hji7
      by_cases c8 : 0 ≤ (ji7)
      ·
       rw [if_pos c8] at H
       have c8b0 : decide (0 ≤ (ji7)) = true := decide_eq_true c8
       clear c8
       by_cases c9 : (ji7) < (l0.length : Int)
       ·
        rw [if_pos c9] at H
        have c9b0 : decide ((ji7) < (l0.length : Int)) = true := decide_eq_true c9
        clear c9
        have H' := Aside0.mk H
        clear H
        have p557 : 0 ≤ (0 : Int) := (by omega)
        have q557 : 0 < (l0.length : Int) := of_decide_eq_true (by first | (with_reducible assumption) | assumption)
        obtain ⟨ad557, e557, hx557_0⟩ := Kd.at_int HR0.out 0 p557 q557
        cases e557
        have qi557 : (0 < l0.length) = True := eq_true (by omega)
        (try rw [show ((0 : Int)).toNat = 0 from rfl] at hx557_0)
        (try rw [Addr.add_zero'] at hx557_0)
        replace p557 := eq_true p557
        replace q557 := eq_true q557
        have p558 : 0 ≤ ((ji7) : Int) := of_decide_eq_true (by first | (with_reducible assumption) | assumption)
        have q558 : (ji7) < (l0.length : Int) := of_decide_eq_true (by first | (with_reducible assumption) | assumption)
        obtain ⟨ad558, e558, hx558_0⟩ := Kd.at_int HR0.out (ji7) p558 q558
        obtain rfl : ad557 = ad558 := (by injection e558)
        replace p558 := eq_true p558
        replace q558 := eq_true q558
        go_wp2
        repeat (go_quiet (fail); try go_wp2)
        go_meet
        case rel => exact ⟨_, (((rd l0 (ji7)) != 4611686018427387904)), (by first | rfl | (simp; done) | (simp only [← hji7] <;> (first | rfl | simp)) | (simp [*]; done)), H', ⟨by first | omega | exact Nat.le_refl _⟩, by repeat (first | exact Drawn0.refl _ | apply Drawn0.step)⟩
       ·
        rw [if_neg c9] at H
        exact absurd H (by simp)
      ·
       rw [if_neg c8] at H
       exact absurd H (by simp)
     ·
      rw [if_neg c6] at H
      have c6b0 : ((rd l0 0) == (-4611686018427387904)) = false := beq_eq_false_iff_ne.mpr c6
      have c6b1 : ((rd l0 0) != (-4611686018427387904)) = true := bne_iff_ne.mpr c6
      have H' := Aside0.mk H
      clear H
      have p557 : 0 ≤ (0 : Int) := (by omega)
      have q557 : 0 < (l0.length : Int) := of_decide_eq_true (by first | (with_reducible assumption) | assumption)
      obtain ⟨ad557, e557, hx557_0⟩ := Kd.at_int HR0.out 0 p557 q557
      cases e557
      have qi557 : (0 < l0.length) = True := eq_true (by omega)
      (try rw [show ((0 : Int)).toNat = 0 from rfl] at hx557_0)
      (try rw [Addr.add_zero'] at hx557_0)
      replace p557 := eq_true p557
      replace q557 := eq_true q557
      go_wp2
      repeat (go_quiet (fail); try go_wp2)
      go_meet
      case rel => exact ⟨_, (true), (by first | rfl | (simp; done) | (simp [*]; done)), H', ⟨by first | omega | exact Nat.le_refl _⟩, by repeat (first | exact Drawn0.refl _ | apply Drawn0.step)⟩
    ·
     rw [if_neg c5] at H
     exact absurd H (by simp)
 case rest =>
  clear HC2
  obtain ⟨kq, x26_1, rfl, HA, HJ1, ⟨mc1, rfl⟩⟩ := hcut
  cases kq with
  | zero => exact absurd HA.out (by simp [thresh_Fit.j0])
  | succ kj1 =>
   have H := HA.out
   clear HA
   simp only [thresh_Fit.j0] at H
   by_cases c10 : x26_1 = true
   ·
    subst c10
    have H1 : (some false) = some r := by rw [if_pos rfl] at H; exact H
    clear H
    have H := H1
    clear H1
    obtain rfl := Option.some.inj H
    go_wp2
    repeat (go_quiet (fail); try go_wp2)
    go_ret
    exact ⟨by first | rfl | (simp; done) | (simp [*]; done), by repeat (first | exact Drawn0.refl _ | apply Drawn0.step)⟩
   ·
    replace c10 := Bool.eq_false_iff.mpr c10
    subst c10
    have H1 : (thresh_Fit.l0 kj1 l0 1) = some r := by rw [if_neg (show ¬ (false = true) by decide)] at H; exact H
    clear H
    have H := H1
    clear H1
    have H' := Aside0.mk H
    clear H
    go_wp2
    repeat (go_quiet (fail); try go_wp2)
    go_loopg [3] kj1 (fun kq v3 w' => ∃ (x3_2 : Int), v3 = .int .i64 x3_2 ∧ Aside0 (thresh_Fit.l0 kq l0 x3_2 = some r) ∧ Aside0 (kq ≤ kj1) ∧ Drawn0 w w')
    case atStart => exact ⟨(1), (by first | rfl | (simp; done) | (simp [*]; done)), H', ⟨Nat.le_refl _⟩, by repeat (first | exact Drawn0.refl _ | apply Drawn0.step)⟩
    case round =>
     clear H'
     obtain ⟨x3_2, rfl, HA, HK2, ⟨m2, rfl⟩⟩ := hrel
     cases gk with
     | zero => exact absurd HA.out (by simp [thresh_Fit.l0])
     | succ k2 =>
      have H := HA.out
      clear HA
      simp only [thresh_Fit.l0] at H
      by_cases c11 : x3_2 < (l0.length : Int)
      ·
       rw [if_pos c11] at H
       have c11b0 : decide (x3_2 < (l0.length : Int)) = true := decide_eq_true c11
       clear c11
       obtain ⟨ji12, hji12⟩ : ∃ j_ : Int, (wrap64 (x3_2 - 1)) = j_ := ⟨_, rfl⟩
       replace H : (if 0 ≤ (ji12) then (if (ji12) < (l0.length : Int) then (if 0 ≤ x3_2 then (if (rd l0 (ji12)) ≥ (rd l0 x3_2) then (some false) else (thresh_Fit.l0 k2 l0 (wrap64 (x3_2 + 1)))) else (none)) else (none)) else (none)) = some r := by first | (rw [hji12] at H; exact H) | (simp only [hji12] at H ⊢; exact H)
       have hji12w : (IntKind.i64.wrap (x3_2 - 1)) = ji12 := (i64_w _).trans hji12
       by_cases c13 : 0 ≤ (ji12)
       ·
        rw [if_pos c13] at H
        have c13b0 : decide (0 ≤ (ji12)) = true := decide_eq_true c13
        clear c13
        by_cases c14 : (ji12) < (l0.length : Int)
        ·
         rw [if_pos c14] at H
         have c14b0 : decide ((ji12) < (l0.length : Int)) = true := decide_eq_true c14
         clear c14
         by_cases c15 : 0 ≤ x3_2
         ·
          rw [if_pos c15] at H
          have c15b0 : decide (0 ≤ x3_2) = true := decide_eq_true c15
          clear c15
          by_cases c16 : (rd l0 (ji12)) ≥ (rd l0 x3_2)
          ·
           rw [if_pos c16] at H
           have c16b0 : decide ((rd l0 x3_2) ≤ (rd l0 (ji12))) = true := decide_eq_true c16
           clear c16
           obtain rfl := Option.some.inj H
           have p559 : 0 ≤ ((ji12) : Int) := of_decide_eq_true (by first | (with_reducible assumption) | assumption)
           have q559 : (ji12) < (l0.length : Int) := of_decide_eq_true (by first | (with_reducible assumption) | assumption)
           obtain ⟨ad559, e559, hx559_0⟩ := Kd.at_int HR0.out (ji12) p559 q559
           cases e559
           replace p559 := eq_true p559
           replace q559 := eq_true q559
           have p560 : 0 ≤ (x3_2 : Int) := of_decide_eq_true (by first | (with_reducible assumption) | assumption)
           have q560 : x3_2 < (l0.length : Int) := of_decide_eq_true (by first | (with_reducible assumption) | assumption)
           obtain ⟨ad560, e560, hx560_0⟩ := Kd.at_int HR0.out x3_2 p560 q560
           obtain rfl : ad559 = ad560 := (by injection e560)
           replace p560 := eq_true p560
           replace q560 := eq_true q560
           go_wp2
           repeat (go_quiet (fail); try go_wp2)
           go_ret
           exact ⟨by first | rfl | (simp; done) | (simp only [← hji12] <;> (first | rfl | simp)) | (simp [*]; done), by repeat (first | exact Drawn0.refl _ | apply Drawn0.step)⟩
          ·
           rw [if_neg c16] at H
           have c16b0 : decide ((rd l0 x3_2) ≤ (rd l0 (ji12))) = false := decide_eq_false c16
           clear c16
           have H' := Aside0.mk H
           clear H
           have p559 : 0 ≤ ((ji12) : Int) := of_decide_eq_true (by first | (with_reducible assumption) | assumption)
           have q559 : (ji12) < (l0.length : Int) := of_decide_eq_true (by first | (with_reducible assumption) | assumption)
           obtain ⟨ad559, e559, hx559_0⟩ := Kd.at_int HR0.out (ji12) p559 q559
           cases e559
           replace p559 := eq_true p559
           replace q559 := eq_true q559
           have p560 : 0 ≤ (x3_2 : Int) := of_decide_eq_true (by first | (with_reducible assumption) | assumption)
           have q560 : x3_2 < (l0.length : Int) := of_decide_eq_true (by first | (with_reducible assumption) | assumption)
           obtain ⟨ad560, e560, hx560_0⟩ := Kd.at_int HR0.out x3_2 p560 q560
           obtain rfl : ad559 = ad560 := (by injection e560)
           replace p560 := eq_true p560
           replace q560 := eq_true q560
           go_wp2
           repeat (go_quiet (fail); try go_wp2)
           go_roundg k2
           case measure => have := HJ1.out; have := HK2.out; omega
           case rel => exact ⟨(wrap64 (x3_2 + 1)), (by first | rfl | (simp; done) | (simp [*]; done)), H', ⟨by have := HJ1.out; have := HK2.out; omega⟩, by repeat (first | exact Drawn0.refl _ | apply Drawn0.step)⟩
         ·
          rw [if_neg c15] at H
          exact absurd H (by simp)
        ·
         rw [if_neg c14] at H
         exact absurd H (by simp)
       ·
        rw [if_neg c13] at H
        exact absurd H (by simp)
      ·
       rw [if_neg c11] at H
       have c11b0 : decide (x3_2 < (l0.length : Int)) = false := decide_eq_false c11
       clear c11
       obtain rfl := Option.some.inj H
       go_wp2
       repeat (go_quiet (fail); try go_wp2)
       go_ret
       exact ⟨by first | rfl | (simp; done) | (simp [*]; done), by repeat (first | exact Drawn0.refl _ | apply Drawn0.step)⟩
end Go.Proofs.Ytomgebmimgaojaa.QO
end
end
section
/- Written by a program of this session out of the translation. -/
noncomputable section
namespace Go.Proofs.Ytomgebmimgaojaa.QO
open Go.RowKit Go.Proofs.YtomgebmimgaojaaW.PrintWords Go.Proofs.YtomgebmimgaojaaW.PrintLast
set_option linter.unusedVariables false
set_option linter.unusedSimpArgs false
/-! ### thresh_find_int64: function 86 -/
/-- the place of the first that will do; the length: none -/
def firstAt (p : Int → Bool) : List Int → Nat
 | [] => 0
 | x :: r => if p x then 0 else firstAt p r + 1
theorem firstAt_le (p : Int → Bool) : ∀ l, firstAt p l ≤ l.length
 | [] => Nat.le_refl _
 | x :: r => by have := firstAt_le p r; unfold firstAt; split <;> simp; omega
theorem firstAt_skip (p : Int → Bool) : ∀ (l : List Int) (n : Nat), (∀ j, j < n → p (l.getD j 0) = false) → n ≤ l.length → firstAt p l = n + firstAt p (l.drop n)
 | l, 0, _, _ => by simp
 | [], n + 1, _, h => by simp at h
 | x :: r, n + 1, h, hn => by
  have h0 := h 0 (by omega)
  have ih := firstAt_skip p r n (fun j hj => by have := h (j + 1) (by omega); simpa using this) (by simpa using hn)
  simp only [List.getD_cons_zero] at h0
  simp only [firstAt, h0, List.drop_succ_cons, ih]; simp; omega
theorem firstAt_hit (p : Int → Bool) (l : List Int) (n : Nat) (h : ∀ j, j < n → p (l.getD j 0) = false) (hn : n < l.length) (hp : p (l.getD n 0) = true) : firstAt p l = n := by
 rw [firstAt_skip p l n h (by omega)]
 rw [List.drop_eq_getElem_cons hn]
 have : l.getD n 0 = l[n] := by simp [List.getD, hn]
 rw [this] at hp
 simp [firstAt, hp]
theorem firstAt_miss (p : Int → Bool) (l : List Int) (h : ∀ j, j < l.length → p (l.getD j 0) = false) : firstAt p l = l.length := by
 rw [firstAt_skip p l l.length h (Nat.le_refl _)]; simp [firstAt]
/-- what is asked of the function that is handed over -/
def Will (P : Program) (g : Nat) (lb : Array Value) (p : Int → Bool) (w : World) : Prop :=
 ∀ (W : World) (x : Int), Below w.heap.size w W → Calls P g (#[.int .i64 x] ++ lb) W fun e w' => e = .returned (.bool (p x)) ∧ Below W.heap.size W w'
theorem box_world (w : World) (u v : Value) (t n : Nat) : Below w.heap.size w (((w.alloc (Obj.cells #[u] t)).drewN n).setCell ⟨w.heap.size, 0, none⟩ v) ∧
 w.heap.size < (((w.alloc (Obj.cells #[u] t)).drewN n).setCell ⟨w.heap.size, 0, none⟩ v).heap.size ∧ (((w.alloc (Obj.cells #[u] t)).drewN n).setCell ⟨w.heap.size, 0, none⟩ v).cell? ⟨w.heap.size, 0, none⟩ = some v := by
 refine ⟨(pw_below_drewN (below_alloc (Below.refl _ _) _) _).setCell (Nat.le_refl _) _, ?_, ?_⟩
 ·
  rw [World.size_setCell]; show w.heap.size < (w.alloc _).heap.size; simp
 ·
  refine World.cell?_setCell_same' _ _ _ ?_
  show ((w.alloc (Obj.cells #[u] t)).cell? _).isSome = true
  simp
set_option maxHeartbeats 8000000 in
set_option maxRecDepth 100000 in
theorem thresh_find_any (p : Int → Bool) (g : Nat) (lb : Array Value) (eg : ∀ args w, (callFunc g args).run Try.prog w = .ok (.enter g args) w) (A0 : Option Addr) (c0 : Nat) (l0 : List Int) (w : World)
 (hp : Will Try.prog g lb p w) (hr0 : Kd.C (Kd.int .i64) w A0 l0.length l0) (hc0 : l0.length ≤ c0) (hm : l0.length ≤ 9223372036854775807) :
 Calls Try.prog 86 #[.slice A0 l0.length c0, .func (.func g) #[] lb] w fun e w' => e = .returned (.int .i64 (firstAt p l0)) ∧ Below w.heap.size w w' := by
 have HR0 := Aside0.mk hr0
 have HP := Aside0.mk hp
 have HM := Aside0.mk hm
 clear hr0 hp hm hc0
 go_enter Try.func86, Try.ntmps86
 go_wp2
 go_loopg [5, 6, 9] l0.length (fun gg _ _ s9 wr => ∃ i : Int, s9 = .int .i64 i ∧ Aside0 (0 ≤ i ∧ i ≤ l0.length ∧ l0.length - i.toNat ≤ gg) ∧ Aside0 (Below w.heap.size w wr) ∧ Aside0 (∀ j : Nat, (j : Int) < i → p (l0.getD j 0) = false))
 case atStart => exact ⟨0, rfl, ⟨by omega, by omega, by omega⟩, ⟨Below.refl _ w⟩, ⟨fun j hj => absurd hj (by omega)⟩⟩
 case round =>
  obtain ⟨i, rfl, HI, BW, A⟩ := hrel
  by_cases hlt : i < (l0.length : Int)
  ·
   have p0 : 0 ≤ i := HI.out.1
   obtain ⟨ad, e0, hx⟩ := Kd.at_int (Kd.C_below HR0.out BW.out) i p0 hlt
   cases e0
   have HL := Aside0.mk hlt
   have c6b0 : decide (i < (l0.length : Int)) = true := decide_eq_true hlt
   replace p0 := eq_true p0
   replace hlt := eq_true hlt
   have hcall := HP.out wr (rd l0 i) BW.out
   cases hq : p (rd l0 i) with
   | true =>
    rw [hq] at hcall
    have HQ := Aside0.mk hq
    have HC := Aside0.mk hcall
    clear hq hcall
    go_wp2_with fail
    refine HC.out.mono ?_
    rintro e w' ⟨rfl, hb'⟩
    go_wp2_with fail
    go_ret
    refine ⟨?_, BW.out.trans (hb'.mono BW.out.size)⟩
    have h1 := HI.out; have h2 := HL.out; have h3 := HQ.out
    unfold rd at h3
    rw [firstAt_hit p l0 i.toNat (fun j hj => A.out j (by omega)) (by omega) h3]
    rw [Int.toNat_of_nonneg h1.1]
    rfl
   | false =>
    rw [hq] at hcall
    have HQ := Aside0.mk hq
    have HC := Aside0.mk hcall
    clear hq hcall
    go_wp2_with fail
    refine HC.out.mono ?_
    rintro e w' ⟨rfl, hb'⟩
    go_wp2_with fail
    go_roundg (l0.length - (i.toNat + 1))
    case measure => have h1 := HI.out; have h2 := HL.out; omega
    case rel =>
     have h1 := HI.out; have h2 := HL.out; have h3 := HQ.out; have h4 := HM.out
     have hw : wrap64 (i + 1) = i + 1 := by unfold wrap64; omega
     refine ⟨wrap64 (i + 1), rfl, ⟨by omega, by omega, by omega⟩, ⟨BW.out.trans (hb'.mono BW.out.size)⟩, ⟨fun j hj => ?_⟩⟩
     by_cases e : (j : Int) = i
     ·
      unfold rd at h3
      rw [← e] at h3; simpa using h3
     ·
      exact A.out j (by omega)
  ·
   have c6b0 : decide (i < (l0.length : Int)) = false := decide_eq_false hlt
   have HL := Aside0.mk hlt
   clear hlt
   go_wp2
   go_ret
   have h1 := HI.out; have h2 := HL.out
   refine ⟨?_, BW.out⟩
   rw [firstAt_miss p l0 (fun j hj => A.out j (by omega))]
   rfl
end Go.Proofs.Ytomgebmimgaojaa.QO
end
end
section
/- Written by a program of this session out of the translation. -/
noncomputable section
namespace Go.Proofs.Ytomgebmimgaojaa.QO
open Go.RowKit Go.Proofs.YtomgebmimgaojaaW.PrintWords Go.Proofs.YtomgebmimgaojaaW.PrintLast
set_option linter.unusedVariables false
set_option linter.unusedSimpArgs false
/-! ### thresh_Up: function 61 -/
/-- the least threshold that is not less -/
def thresh_Up.f (k : Nat) (l0 : List Int) (a1 : Int) : Option Int :=
 (thresh_Fit.f k l0).bind fun b => if b = true then (if firstAt (fun y => decide (y ≥ bfit a1)) l0 < l0.length ∧ l0.length ≤ 9223372036854775807 then some (rd l0 (firstAt (fun y => decide (y ≥ bfit a1)) l0)) else none) else some 4611686018427387904
theorem thresh_Up.mono : ∀ l0 a1 k, LeO (thresh_Up.f k l0 a1) (thresh_Up.f (k + 1) l0 a1) := by
 intro l0 a1 k
 unfold thresh_Up.f
 exact LeO.bind (thresh_Fit.mono _ _) (fun _ => LeO.refl _)
theorem thresh_Up.will (W : World) (B : Nat) (x : Int) (hB : B < W.heap.size) (hc : W.cell? ⟨B, 0, none⟩ = some (.int .i64 x)) :
 Will Try.prog 87 #[.pointer (some ⟨B, 0, none⟩)] (fun y => decide (y ≥ x)) W := by
 intro W1 y hb
 have hc' : W1.cell? ⟨B, 0, none⟩ = some (.int .i64 x) := (hb.cell (p := ⟨B, 0, none⟩) hB).trans hc
 go_enter Try.func87, Try.ntmps87
 go_wp2
 go_ret
 exact ⟨rfl, Below.refl _ _⟩
set_option maxHeartbeats 8000000 in
set_option maxRecDepth 100000 in
theorem thresh_Up.calls (k : Nat) (A0 : Option Addr) (c0 : Nat) (l0 : List Int) (a1 : Int) (r : Int) (w : World) (hr0 : Kd.C (Kd.int .i64) w A0 l0.length l0) (hc0 : l0.length ≤ c0) (h : thresh_Up.f k l0 a1 = some r) :
 Calls Try.prog 61 #[.slice A0 l0.length c0, .int .i64 a1] w fun e w' => e = .returned (.int .i64 r) ∧ Below w.heap.size w w' := by
 have HR0 := Aside0.mk hr0
 have HC0 := Aside0.mk hc0
 clear hr0 hc0
 unfold thresh_Up.f at h
 obtain ⟨b, hb, h⟩ := Option.bind_eq_some_iff.mp h
 have HF := Aside0.mk hb
 clear hb
 cases b with
 | false =>
  rw [if_neg (by simp)] at h
  obtain rfl := Option.some.inj h
  clear h
  go_enter Try.func61, Try.ntmps61
  go_wp2_with (first | (go_at_call 63; (with_reducible refine (thresh_Fit.calls k _ _ l0 false _ ?side1 ?side2 HF.out).mono ?_); (case side1 => exact Kd.C_alloc HR0.out _); (case side2 => exact HC0.out); rintro e w1 ⟨rfl, ⟨nd, rfl⟩⟩))
  go_ret
  exact ⟨rfl, pw_below_drewN (below_alloc (Below.refl _ _) _) _⟩
 | true =>
  rw [if_pos rfl] at h
  by_cases hlt : firstAt (fun y => decide (y ≥ bfit a1)) l0 < l0.length ∧ l0.length ≤ 9223372036854775807
  ·
   rw [if_pos hlt] at h
   obtain rfl := Option.some.inj h
   clear h
   have HL := Aside0.mk hlt
   clear hlt
   obtain ⟨x, hx⟩ : ∃ x, bfit a1 = x := ⟨_, rfl⟩
   rw [hx] at HL ⊢
   have HX : Aside0 (bound_Fit.f a1 = some x) := ⟨by rw [← hx]; rfl⟩
   clear hx
   obtain ⟨N, hN⟩ : ∃ N : Nat, firstAt (fun y => decide (y ≥ x)) l0 = N := ⟨_, rfl⟩
   rw [hN]
   have HN := Aside0.mk hN
   clear hN
   go_enter Try.func61, Try.ntmps61
   go_wp2_with (first | (go_at_call 63; (with_reducible refine (thresh_Fit.calls k _ _ l0 true _ ?side1 ?side2 HF.out).mono ?_); (case side1 => exact Kd.C_alloc HR0.out _); (case side2 => exact HC0.out); rintro e w1 ⟨rfl, ⟨nd, rfl⟩⟩) | (go_at_call 83; (with_reducible refine (bound_Fit.calls a1 x _ HX.out).mono ?_); rintro e w1 ⟨rfl, ⟨ne, rfl⟩⟩))
   obtain ⟨hbw, hbs, hbc⟩ := box_world w (.int .i64 a1) (.int .i64 x) 2 (nd + ne)
   generalize ((w.alloc (Obj.cells #[.int .i64 a1] 2)).drewN (nd + ne)).setCell ⟨w.heap.size, 0, none⟩ (.int .i64 x) = W1 at hbw hbs hbc ⊢
   refine (thresh_find_any (fun y => decide (y ≥ x)) 87 #[.pointer (some ⟨w.heap.size, 0, none⟩)] (Go.Proofs.enters_of Try.func87 (by kernel_rfl) rfl) A0 c0 l0 W1 (thresh_Up.will W1 w.heap.size x hbs hbc) (Kd.C_below HR0.out hbw) HC0.out HL.out.2).mono ?_
   rintro e w2 ⟨rfl, hb2⟩
   have hb3 : Below w.heap.size w w2 := hbw.trans (hb2.mono hbw.size)
   have h1 := HL.out; have h2 := HN.out
   rw [h2] at h1 ⊢
   obtain ⟨ad, e0, hx⟩ := Kd.at_int (Kd.C_below HR0.out hb3) (N : Int) (by omega) (by omega)
   cases e0
   have p0 : ((0 : Int) ≤ (N : Int)) = True := eq_true (by omega)
   have p1 : ((N : Int) < (l0.length : Int)) = True := eq_true (by omega)
   have p2 : decide (N < l0.length) = true := decide_eq_true (by omega)
   rw [Int.toNat_natCast] at hx
   have HB3 := Aside0.mk hb3
   clear h1 h2 hb2 hb3
   go_wp2
   go_ret
   exact ⟨rfl, HB3.out⟩
  ·
   rw [if_neg hlt] at h
   exact absurd h (by simp)
end Go.Proofs.Ytomgebmimgaojaa.QO
end
end
section
/- Written by a program of this session out of the translation. -/
noncomputable section
namespace Go.Proofs.Ytomgebmimgaojaa.QO
open Go.RowKit Go.Proofs.YtomgebmimgaojaaW.PrintWords Go.Proofs.YtomgebmimgaojaaW.PrintLast
set_option linter.unusedVariables false
set_option linter.unusedSimpArgs false
/-! ### thresh_clip: function 65 -/
def thresh_clip.f (a0 : Int) : Option (Int) := if a0 > 1099511627776 then (some 4611686018427387904) else (some (mx a0 (-1099511627776)))
set_option maxHeartbeats 8000000 in
set_option maxRecDepth 100000 in
theorem thresh_clip.calls (a0 : Int) (r : Int) (w : World) (h : thresh_clip.f a0 = some r) :
 Calls Try.prog 65 #[.int .i64 a0] w fun e w' => e = .returned (.int .i64 r) ∧ Below w.heap.size w w' := by
 have HB := Aside0.mk (Below.refl w.heap.size w)
 have H : (if a0 > 1099511627776 then (some 4611686018427387904) else (some (mx a0 (-1099511627776)))) = some r := h
 clear h
 by_cases c2 : a0 > 1099511627776
 ·
  rw [if_pos c2] at H
  have c2b0 : decide (1099511627776 < a0) = true := decide_eq_true c2
  clear c2
  obtain rfl := Option.some.inj H
  go_enter Try.func65, Try.ntmps65
  go_wp2
  go_ret
  exact ⟨by first | rfl | (simp [errW_none, errW_some] <;> rfl) | (simp [*, errW_none, errW_some] <;> rfl) | (simp [wrap64]; done), vW HB.out⟩
 ·
  rw [if_neg c2] at H
  have c2b0 : decide (1099511627776 < a0) = false := decide_eq_false c2
  clear c2
  obtain ⟨ji3, hji3⟩ : ∃ j_ : Int, (mx a0 (-1099511627776)) = j_ := ⟨_, rfl⟩
  replace H : (some ji3) = some r := by first | (rw [hji3] at H; exact H) | (simp only [hji3] at H ⊢; exact H)
  have hji3_ : (if a0 < (-1099511627776) then (-1099511627776) else a0) = ji3 := hji3
  obtain rfl := Option.some.inj H
  go_enter Try.func65, Try.ntmps65
  go_wp2
  go_ret
  exact ⟨by first | rfl | (simp [errW_none, errW_some] <;> rfl) | (simp only [← hji3]; first | rfl | (simp [errW_none, errW_some] <;> rfl)) | (simp [*, errW_none, errW_some] <;> rfl) | (simp [wrap64]; done), vW HB.out⟩
end Go.Proofs.Ytomgebmimgaojaa.QO
end
end
section
/- Written by a program of this session out of the translation. -/
noncomputable section
namespace Go.Proofs.Ytomgebmimgaojaa.QO
open Go.RowKit Go.Proofs.YtomgebmimgaojaaW.PrintWords Go.Proofs.YtomgebmimgaojaaW.PrintLast
set_option linter.unusedVariables false
set_option linter.unusedSimpArgs false
/-! ### thresh_twice: function 64 -/
def thresh_twice.f (a0 : Int) : Option (Int) := if a0 > 1099511627776 then (some 4611686018427387904) else ((thresh_clip.f (wrap64 (2 * (mx a0 (-1099511627776))))).bind fun t573 => (some t573))
set_option maxHeartbeats 8000000 in
set_option maxRecDepth 100000 in
theorem thresh_twice.calls (a0 : Int) (r : Int) (w : World) (h : thresh_twice.f a0 = some r) :
 Calls Try.prog 64 #[.int .i64 a0] w fun e w' => e = .returned (.int .i64 r) ∧ Below w.heap.size w w' := by
 have HB := Aside0.mk (Below.refl w.heap.size w)
 have H : (if a0 > 1099511627776 then (some 4611686018427387904) else ((thresh_clip.f (wrap64 (2 * (mx a0 (-1099511627776))))).bind fun t573 => (some t573))) = some r := h
 clear h
 by_cases c2 : a0 > 1099511627776
 ·
  rw [if_pos c2] at H
  have c2b0 : decide (1099511627776 < a0) = true := decide_eq_true c2
  clear c2
  obtain rfl := Option.some.inj H
  go_enter Try.func64, Try.ntmps64
  go_wp2
  go_ret
  exact ⟨by first | rfl | (simp [errW_none, errW_some] <;> rfl) | (simp [*, errW_none, errW_some] <;> rfl) | (simp [wrap64]; done), vW HB.out⟩
 ·
  rw [if_neg c2] at H
  have c2b0 : decide (1099511627776 < a0) = false := decide_eq_false c2
  clear c2
  obtain ⟨ji3, hji3⟩ : ∃ j_ : Int, (mx a0 (-1099511627776)) = j_ := ⟨_, rfl⟩
  replace H : ((thresh_clip.f (wrap64 (2 * (ji3)))).bind fun t573 => (some t573)) = some r := by first | (rw [hji3] at H; exact H) | (simp only [hji3] at H ⊢; exact H)
  have hji3_ : (if a0 < (-1099511627776) then (-1099511627776) else a0) = ji3 := hji3
  replace H := Option.bind_eq_some_iff.mp H
  obtain ⟨t573, A40, H⟩ := H
  replace H : (some t573) = some r := H
  have A4 := Aside0.mk A40
  clear A40
  obtain rfl := Option.some.inj H
  go_enter Try.func64, Try.ntmps64
  go_wp2_with (first | ((with_reducible refine gate_callee (f := 65) rfl ?_); refine goesL_ (some 8) rfl rfl Try.func65 (by kernel_rfl) rfl #[.int .i64 (wrap64 (2 * (ji3)))] rfl (by (try simp only [List.map_toArray, List.map_cons, List.map_nil]); first | done | (simp only [hji3]; rfl) | rfl | (simp only [List.length_drop, List.length_take]; rfl)) ?_; (with_reducible refine (thresh_clip.calls (wrap64 (2 * (ji3))) t573 _ A4.out).mono ?_); rintro e w5 ⟨rfl, hb⟩; refine ⟨_, rfl, ?_⟩; replace HB := vWs HB hb; (try clear hb); (try clear hb2); (try clear hk); (try clear hi)))
  go_ret
  exact ⟨by first | rfl | (simp [errW_none, errW_some] <;> rfl) | (simp only [← hji3]; first | rfl | (simp [errW_none, errW_some] <;> rfl)) | (simp [*, errW_none, errW_some] <;> rfl) | (simp [wrap64]; done), vW HB.out⟩
end Go.Proofs.Ytomgebmimgaojaa.QO
end
end
section
/- Rounding the entries of a closed octagon gives a sound octagon: the plain law. -/
noncomputable section
namespace Go.Proofs.Ytomgebmimgaojaa.QO
open Go.RowKit Go.Proofs.YtomgebmimgaojaaW.PrintWords Go.Proofs.YtomgebmimgaojaaW.PrintLast Go.Proofs.YtomgebmimgaojaaW.PrintMore
open OctMath (over overs plus Bd Fin' Top62 Closed Le IsClosure)
/-- the least threshold that is not less -/
def upT (t : List Int) (x : Int) : Int := rd t (firstAt (fun y => decide (y ≥ bfit x)) t)
def UpOk (t : List Int) : Prop := (∀ x : Int, firstAt (fun y => decide (y ≥ bfit x)) t < t.length) ∧ t.length ≤ 256
/-- two times a bound, as an entry -/
def twiceV (y : Int) : Int := if y > 1099511627776 then 4611686018427387904 else clipV (2 * mx y (-1099511627776))
/-- the rounded entries -/
def roundM (t : List Int) (c : Nat → Nat → Int) : Nat → Nat → Int := fun i j => if i = j then 0 else if i = nb j then twiceV (upT t (half (c i j))) else clipV (upT t (c i j))
theorem clipV_range (x : Int) : clipV x = 4611686018427387904 ∨ (-1099511627776 ≤ clipV x ∧ clipV x ≤ 1099511627776) := by
  unfold clipV; split
  · exact .inl rfl
  · split <;> (right; omega)
theorem twiceV_range (x : Int) : twiceV x = 4611686018427387904 ∨ (-1099511627776 ≤ twiceV x ∧ twiceV x ≤ 1099511627776) := by
  unfold twiceV; split
  · exact .inl rfl
  · exact clipV_range _
/-- a matrix that is its own mirror image -/
def Coh (n : Nat) (m : Nat → Nat → Int) : Prop := ∀ i j, i < n → j < n → m i j = m (nb j) (nb i)
theorem lowM_coh {vars m : List Int} (h : OFit vars m false) : Coh (2 * vars.length) (lowM vars.length m) := by
  intro i j hi hj
  have hbi := nb_lt hi; have hbj := nb_lt hj
  have e := ((h.2.2 rfl).2 (i : Int) (j : Int) (by omega) (by omega) (by omega) (by omega)).2.2
  unfold lowM
  rw [lowAt_same h (by omega) (by omega) (by omega) (by omega), lowAt_same h (by omega) (by omega) (by omega) (by omega), e, nbar_nb, nbar_nb]
theorem closure_coh {n : Nat} {m d : Nat → Nat → Int} (hn : ∀ i, i < n → nb i < n) (hm : Coh n m) (hd : IsClosure n m true d) (td : Top62 n d) : Coh n d := by
  obtain ⟨hc, hl, hg⟩ := hd.1 rfl
  have h2 : IsClosure n m true (fun i j => d (nb j) (nb i)) := by
    refine ⟨fun _ => ⟨⟨fun i hi => hc.1 _ (hn i hi), fun i j k hi hj hk => ?_⟩, fun i j hi hj => ?_, fun c cc tc lc i j hi hj => ?_⟩, fun h => (by cases h)⟩
    · have := hc.2 (nb j) (nb i) (nb k) (hn j hj) (hn i hi) (hn k hk)
      rw [OctMath.plus_comm] at this; exact this
    · show d (nb j) (nb i) ≤ m i j
      rw [hm i j hi hj]; exact hl _ _ (hn j hj) (hn i hi)
    · have h3 := hg (fun a b => c (nb b) (nb a)) ⟨fun a ha => cc.1 _ (hn a ha), fun a b k ha hb hk => by
        have := cc.2 (nb b) (nb a) (nb k) (hn b hb) (hn a ha) (hn k hk)
        rw [OctMath.plus_comm] at this; exact this⟩ (fun a b ha hb => tc _ _ (hn b hb) (hn a ha)) (fun a b ha hb => by
          show c (nb b) (nb a) ≤ m a b
          rw [hm a b ha hb]; exact lc _ _ (hn b hb) (hn a ha)) (nb j) (nb i) (hn j hj) (hn i hi)
      simp only [nb_nb] at h3
      exact h3
  intro i j hi hj
  exact (OctMath.closure_unique hd h2 (fun _ => td) (fun _ a b ha hb => td _ _ (hn b hb) (hn a ha))).2 rfl i j hi hj
theorem tig_coh {n : Nat} {d : Nat → Nat → Int} (h : Coh n d) : Coh n (tig d) := by
  intro i j hi hj
  unfold tig
  by_cases e : j = nb i
  · subst e; simp only [nb_nb]
  · have e2 : ¬ (nb i = nb (nb j)) := by rw [nb_nb]; exact fun h => e h.symm
    rw [if_neg e, if_neg e2]; exact h i j hi hj
theorem strg_coh {n : Nat} {t : Nat → Nat → Int} (h : Coh n t) : Coh n (strg t) := by
  intro i j hi hj
  unfold strg
  rw [nb_nb, nb_nb, h i j hi hj, OctMath.plus_comm (t (nb j) j)]
theorem ok_closure {vars m : List Int} (h : OFit vars m false) (hf : FloydOk (2 * vars.length) (lowM vars.length m)) : IsClosure (2 * vars.length) (lowM vars.length m) true (overs (lowM vars.length m) (2 * vars.length)) ∧ Bd (2 * vars.length) 72057594037927936 (overs (lowM vars.length m) (2 * vars.length)) := by
  obtain ⟨hM, hd⟩ := lowM_ok h
  have h8 := h.1.1
  have pw : (2 : Int) ^ (2 * vars.length) ≤ 2 ^ 16 := by
    have := Nat.pow_le_pow_right (n := 2) (by decide) (show 2 * vars.length ≤ 16 by omega)
    exact_mod_cast this
  have h16 : (1099511627776 : Int) * 2 ^ (2 * vars.length) ≤ 1099511627776 * 2 ^ 16 := Int.mul_le_mul_of_nonneg_left pw (by decide)
  exact ⟨OctMath.overs_closure hM (by decide) (by omega) hd (fun k i hk hi => hf k i hk hi), overs_bd hM (by omega)⟩
/-- the closed entries: their mirror image, their diagonal, their halves -/
theorem closeM_law {vars m : List Int} (h : OFit vars m false) (hc : CloseOk (2 * vars.length) (lowM vars.length m)) :
    Coh (2 * vars.length) (closeM (2 * vars.length) (lowM vars.length m)) ∧ (∀ i, i < 2 * vars.length → closeM (2 * vars.length) (lowM vars.length m) i i = 0) ∧
      (∀ i, i < 2 * vars.length → ∃ z, closeM (2 * vars.length) (lowM vars.length m) i (nb i) = 2 * z) := by
  obtain ⟨hcl, hbd⟩ := ok_closure h hc.1
  have hn : ∀ i, i < 2 * vars.length → nb i < 2 * vars.length := fun i hi => nb_lt hi
  have c0 := closure_coh hn (lowM_coh h) hcl (OctMath.fin_of_low hbd (by decide))
  have c1 := strg_coh (tig_coh c0)
  refine ⟨fun i j hi hj => ?_, fun i hi => ?_, fun i hi => ?_⟩
  · unfold closeM; rw [c1 i j hi hj]
  · have h0 := (hcl.1 rfl).1.1 i hi
    have hs := hc.2 i hi
    have ht : tig (overs (lowM vars.length m) (2 * vars.length)) i i = 0 := by
      unfold tig; rw [if_neg (fun e => nb_ne i e.symm)]; exact h0
    have hp : 0 ≤ half (plus (tig (overs (lowM vars.length m) (2 * vars.length)) i (nb i)) (tig (overs (lowM vars.length m) (2 * vars.length)) (nb i) i)) := by
      unfold half; split
      · exact hs
      · omega
    have e : strg (tig (overs (lowM vars.length m) (2 * vars.length))) i i = 0 := by
      unfold strg mn; rw [ht, if_neg (by omega)]
    unfold closeM; rw [e]; rfl
  · obtain ⟨x, hx⟩ : ∃ x, tig (overs (lowM vars.length m) (2 * vars.length)) i (nb i) = x := ⟨_, rfl⟩
    have hev : x = 4611686018427387904 ∨ ∃ z, x = 2 * z := by
      rw [← hx]; unfold tig; rw [if_pos rfl]; split
      · exact .inl rfl
      · exact .inr ⟨_, rfl⟩
    have hb : Fin' 72057594037927938 x := by rw [← hx]; exact tig_bd hbd (by decide) i (nb i) hi (hn i hi)
    have e : strg (tig (overs (lowM vars.length m) (2 * vars.length))) i (nb i) = x := by
      unfold strg; rw [nb_nb, hx]
      have hp : half (plus x x) = x := by
        unfold Fin' at hb
        by_cases hi : x = 4611686018427387904
        · have hpl : plus x x = 4611686018427387904 := by unfold plus; rw [if_pos (.inl hi)]
          unfold half; rw [if_pos hpl, hpl]; exact hi.symm
        · have hpl : plus x x = x + x := by unfold plus; rw [if_neg (by omega)]
          unfold half; rw [hpl, if_neg (by omega)]; omega
      rw [hp]; unfold mn; simp
    unfold closeM; rw [e]
    unfold clipV
    split
    · exact ⟨2305843009213693952, by decide⟩
    · split
      · exact ⟨-549755813888, by decide⟩
      · rcases hev with e | ⟨z, e⟩
        · exact ⟨2305843009213693952, e⟩
        · exact ⟨z, e⟩
/-- **what is rounded is a sound octagon** -/
theorem round_fit {vars m t : List Int} (h : OFit vars m false) (hc : CloseOk (2 * vars.length) (lowM vars.length m)) :
    OFit vars (lst (2 * vars.length) (roundM t (closeM (2 * vars.length) (lowM vars.length m)))) false := by
  have hcoh := (closeM_law h hc).1
  refine ⟨h.1, fun h => (by cases h), fun _ => ⟨by rw [lst_length]; push_cast; rfl, fun i j h0 h1 h2 h3 => ?_⟩⟩
  obtain ⟨a, rfl⟩ : ∃ a : Nat, i = (a : Int) := ⟨i.toNat, by omega⟩
  obtain ⟨b, rfl⟩ : ∃ b : Nat, j = (b : Int) := ⟨j.toNat, by omega⟩
  have ha : a < 2 * vars.length := by omega
  have hb : b < 2 * vars.length := by omega
  have e1 : (a : Int) * (2 * (vars.length : Int)) + (b : Int) = ((a * (2 * vars.length) + b : Nat) : Int) := by push_cast; rfl
  have e2 : nbar (b : Int) * (2 * (vars.length : Int)) + nbar (a : Int) = ((nb b * (2 * vars.length) + nb a : Nat) : Int) := by rw [nbar_nb, nbar_nb]; push_cast; rfl
  unfold EntryOk
  rw [lst_rd ha hb e1, lst_rd (nb_lt hb) (nb_lt ha) e2]
  refine ⟨?_, fun e => ?_, ?_⟩
  · unfold roundM; split
    · right; omega
    · split
      · exact twiceV_range _
      · exact clipV_range _
  · have : a = b := by omega
    unfold roundM; rw [if_pos this]
  · unfold roundM
    by_cases e : a = b
    · subst e; rw [if_pos rfl, if_pos rfl]
    · have e' : ¬ nb b = nb a := fun h => e (by rw [← nb_nb a, ← h, nb_nb])
      rw [if_neg e, if_neg e']
      by_cases f : a = nb b
      · subst f; simp only [nb_nb]
      · have f' : ¬ nb b = nb (nb a) := fun h => f (by rw [nb_nb] at h; exact h.symm)
        rw [if_neg f, if_neg f', hcoh a b ha hb]
end Go.Proofs.Ytomgebmimgaojaa.QO
end
end
section
/- A closed octagon is a sound one, and is read as a matrix. -/
namespace Go.Proofs.Ytomgebmimgaojaa.QO
open Go.RowKit Go.Proofs.YtomgebmimgaojaaW.PrintWords Go.Proofs.YtomgebmimgaojaaW.PrintLast Go.Proofs.YtomgebmimgaojaaW.PrintMore
theorem close_fit {vars m : List Int} (h : OFit vars m false) (hc : CloseOk (2 * vars.length) (lowM vars.length m)) :
    OFit vars (lst (2 * vars.length) (closeM (2 * vars.length) (lowM vars.length m))) false := by
  obtain ⟨hcoh, hdg, _⟩ := closeM_law h hc
  refine ⟨h.1, fun h => (by cases h), fun _ => ⟨by rw [lst_length]; push_cast; rfl, fun i j h0 h1 h2 h3 => ?_⟩⟩
  obtain ⟨a, rfl⟩ : ∃ a : Nat, i = (a : Int) := ⟨i.toNat, by omega⟩
  obtain ⟨b, rfl⟩ : ∃ b : Nat, j = (b : Int) := ⟨j.toNat, by omega⟩
  have ha : a < 2 * vars.length := by omega
  have hb : b < 2 * vars.length := by omega
  have e1 : (a : Int) * (2 * (vars.length : Int)) + (b : Int) = ((a * (2 * vars.length) + b : Nat) : Int) := by push_cast; rfl
  have e2 : nbar (b : Int) * (2 * (vars.length : Int)) + nbar (a : Int) = ((nb b * (2 * vars.length) + nb a : Nat) : Int) := by rw [nbar_nb, nbar_nb]; push_cast; rfl
  unfold EntryOk
  rw [lst_rd ha hb e1, lst_rd (nb_lt hb) (nb_lt ha) e2]
  refine ⟨?_, fun e => ?_, hcoh a b ha hb⟩
  · unfold closeM; exact clipV_range _
  · have : a = b := by omega
    subst this; exact hdg a ha
theorem fit_mat {vars m : List Int} (h : OFit vars m false) (h8 : vars.length ≤ 8) : Most.Mat vars.length m := by
  refine ⟨h8, (h.2.2 rfl).1, fun i j h0 h1 h2 h3 => ?_, fun i j h0 h1 h2 h3 => lowAt_same h h0 h1 h2 h3⟩
  have e := ((h.2.2 rfl).2 i j h0 h1 h2 h3).1
  unfold Arith.Sm
  rcases e with e | e
  · exact .inl e
  · right; omega
end Go.Proofs.Ytomgebmimgaojaa.QO
end
section
/- Bounds: the program's is the document's. -/
namespace Go.Proofs.Ytomgebmimgaojaa.Bnds
open Go.RowKit Go.Proofs.Ytomgebmimgaojaa.QO Go.Proofs.YtomgebmimgaojaaW.PrintWords Go.Proofs.YtomgebmimgaojaaW.PrintLast Go.Proofs.YtomgebmimgaojaaW.PrintMore
open Go.Proofs.Ytomgebmimgaojaa.Pure (bsome Ev close_ev)
open Go.Proofs.Ytomgebmimgaojaa.Most (Mat)
theorem bounds_eq {vars m : List Int} {e : Bool} (h : OFit vars m e) (x sx y sy c : Int) (hc : -4611686018427 ≤ c ∧ c ≤ 4611686018427) (h1 : -1 ≤ sx ∧ sx ≤ 1) (h2 : -1 ≤ sy ∧ sy ≤ 1) :
    ∃ r, ∃ K, ∀ k, K ≤ k → oct_Bounds.f k vars m e x sx y sy c = some r ∧ gimbalref11_Bounds.f k vars m e x sx y sy c = some r := by
  obtain ⟨K, hK⟩ := close_ev h
  replace hK : ∀ k, K ≤ k → gimbalref11_Close.f k vars m e = some (closeF vars m e) := hK
  have h8 := h.1.1
  have hC : oct_Close.f vars m e = some (closeF vars m e) := by unfold oct_Close.f; rw [if_pos (ofitB_true.2 h)]
  have hshape : (closeF vars m e).2.2 = true ∨ (closeF vars m e).2.2 = false ∧ (closeF vars m e).1 = vars ∧ Mat vars.length (closeF vars m e).2.1 := by
    unfold closeF
    by_cases he : e = true
    · rw [if_pos he]; exact .inl rfl
    · rw [if_neg he]
      have he' : e = false := by simpa using he
      subst he'
      by_cases hb : closeB (2 * vars.length) (lowM vars.length m) = true
      · right
        have hm := fit_mat (close_fit h (closeB_true.1 hb)) h8
        refine ⟨by simp [hb], rfl, ?_⟩
        unfold closeL; rw [if_pos hb]; exact hm
      · left; simp [hb]
  obtain ⟨C, hCF⟩ : ∃ C, closeF vars m e = C := ⟨_, rfl⟩
  rw [hCF] at hshape hC hK
  obtain ⟨cv, cm, ce⟩ := C
  rcases hshape with hE | ⟨hE, hV, hM⟩
  · refine ⟨(1, 0), K, fun k hk => ?_⟩
    unfold oct_Bounds.f gimbalref11_Bounds.f
    rw [hC, hK k hk, bsome, bsome, if_pos hE, if_pos hE]; exact ⟨rfl, rfl⟩
  · simp only at hE hV hM
    subst hV hE
    obtain ⟨v, v1, v2, v3, v4, _⟩ := Places.node cv cm false (by omega) x
    obtain ⟨u, u1, u2, u3, u4, _⟩ := Places.node cv cm false (by omega) y
    have dv : ∀ z : Int, -1 ≤ z → ((if 0 ≤ z ∧ (1 : Int) < 0 then 2 * z + 1 else 2 * z) < 0 ↔ z < 0) := fun z hz => by
      rw [if_neg (fun h => absurd h.2 (by decide))]; omega
    have D0 : ∀ k, oct_Bounds.j0 (k + 1) true x sx y sy c cv cm false = some ((-4611686018427387904), 4611686018427387904) ∧ gimbalref11_Bounds.j0 (k + 1) true x sx y sy c cv cm false = some ((-4611686018427387904), 4611686018427387904) := fun k => ⟨rfl, rfl⟩
    by_cases bad : (sx ≠ 0 ∧ v < 0) ∨ (sy ≠ 0 ∧ u < 0)
    · refine ⟨((-4611686018427387904), 4611686018427387904), K + cv.length + 2, fun k hk => ?_⟩
      obtain ⟨k, rfl⟩ : ∃ m, k = m + 1 := ⟨k - 1, by omega⟩
      unfold oct_Bounds.f gimbalref11_Bounds.f
      rw [hC, hK (k + 1) (by omega), bsome, bsome]
      simp only [Bool.false_eq_true, if_false, v4 1 (k + 1) (by omega), u4 1 (k + 1) (by omega), v3 (k + 1) (by omega), u3 (k + 1) (by omega), bsome, dv v v1, dv u u1]
      by_cases s1 : sx = 0
      · have s2 : sy ≠ 0 ∧ u < 0 := by rcases bad with b | b
                                       · exact absurd s1 b.1
                                       · exact b
        simp only [s1, if_true, s2.1, if_false, decide_eq_true s2.2]
        rw [s1] at D0; exact D0 k
      · by_cases s3 : v < 0
        · simp only [s1, s3, if_true, if_false]; exact D0 k
        · have s2 : sy ≠ 0 ∧ u < 0 := by rcases bad with b | b
                                         · exact absurd b.2 s3
                                         · exact b
          simp only [s1, s3, s2.1, if_false, decide_eq_true s2.2]; exact D0 k
    · obtain ⟨r, hr⟩ := j0_eq cv cm false hM x sx y sy c hc h1 h2
        (fun hs z hz => by have := (hz (cv.length + 1) (by omega)).symm.trans (v3 (cv.length + 1) (by omega)); have := Option.some.inj this; omega)
        (fun hs z hz => by have := (hz (cv.length + 1) (by omega)).symm.trans (u3 (cv.length + 1) (by omega)); have := Option.some.inj this; omega)
      refine ⟨r, K + cv.length + 2, fun k hk => ?_⟩
      obtain ⟨k, rfl⟩ : ∃ m, k = m + 1 := ⟨k - 1, by omega⟩
      have hr' := hr k (by omega)
      unfold oct_Bounds.f gimbalref11_Bounds.f
      rw [hC, hK (k + 1) (by omega), bsome, bsome]
      simp only [Bool.false_eq_true, if_false, v4 1 (k + 1) (by omega), u4 1 (k + 1) (by omega), v3 (k + 1) (by omega), u3 (k + 1) (by omega), bsome, dv v v1, dv u u1]
      by_cases s1 : sx = 0
      · by_cases s2 : sy = 0
        · simp only [s1, s2, if_true]; rw [s1, s2] at hr'; exact hr'
        · have s3 : ¬ u < 0 := fun h => bad (.inr ⟨s2, h⟩)
          simp only [s1, s2, if_true, if_false, decide_eq_false s3]; rw [s1] at hr'; exact hr'
      · have s4 : ¬ v < 0 := fun h => bad (.inl ⟨s1, h⟩)
        by_cases s2 : sy = 0
        · simp only [s1, s4, s2, if_true, if_false]; rw [s2] at hr'; exact hr'
        · have s3 : ¬ u < 0 := fun h => bad (.inr ⟨s2, h⟩)
          simp only [s1, s4, s2, if_false, decide_eq_false s3]; exact hr'
end Go.Proofs.Ytomgebmimgaojaa.Bnds
end
section
/- Has: the program's is the document's (begun). -/
namespace Go.Proofs.Ytomgebmimgaojaa.HasEq
open Go.RowKit Go.Proofs.Ytomgebmimgaojaa.QO Go.Proofs.YtomgebmimgaojaaW.PrintWords Go.Proofs.YtomgebmimgaojaaW.PrintLast Go.Proofs.YtomgebmimgaojaaW.PrintMore
theorem value_sgn {v : List Int} {i : Int} (h0 : 0 ≤ i) (h1 : i < 16) (h2 : i / 2 < v.length) (h3 : -4611686018427387904 < rd v (i / 2) ∧ rd v (i / 2) < 4611686018427387904) : gimbalref11_value.f v i = some (sgn v i) := by
  have d1 : i.tdiv 2 = i / 2 := Int.tdiv_eq_ediv_of_nonneg h0
  have d2 : i.tmod 2 = i % 2 := Int.tmod_eq_emod_of_nonneg h0
  have d3 : wrap64 (i / 2) = i / 2 := by unfold wrap64; omega
  have d4 : wrap64 (-(rd v (i / 2))) = -(rd v (i / 2)) := by unfold wrap64; omega
  unfold gimbalref11_value.f sgn
  rw [d1, d2, d3, d4]
  have z : 0 ≤ i / 2 := by omega
  by_cases e : i % 2 = 0
  · rw [if_pos e, if_pos z, if_pos h2, if_neg (by omega)]
  · rw [if_neg e, if_pos z, if_pos h2, if_pos (by omega)]
/-- what one entry says -/
def PP (n2 : Int) (m v : List Int) (i j : Int) : Prop := rd m (i * n2 + j) = 4611686018427387904 ∨ sgn v j - sgn v i ≤ rd m (i * n2 + j)
theorem sgn_fin {v : List Int} {i : Int} (h3 : -4611686018427387904 < rd v (i / 2) ∧ rd v (i / 2) < 4611686018427387904) : -4611686018427387904 < sgn v i ∧ sgn v i < 4611686018427387904 := by
  unfold sgn; split <;> omega
theorem l2_step {l v m : List Int} {e : Bool} {i j n2 : Int} (hn : n2 ≤ 16) (hl : (v.length : Int) * 2 = n2) (hm : (m.length : Int) = n2 * n2) (i0 : 0 ≤ i) (i1 : i < n2) (j0 : 0 ≤ j) (j1 : j < n2)
    (hf : ∀ k : Int, 0 ≤ k → k < v.length → -4611686018427387904 < rd v k ∧ rd v k < 4611686018427387904)
    (hr : -9223372036854775808 ≤ rd m (i * n2 + j) ∧ rd m (i * n2 + j) ≤ 9223372036854775807) (k : Nat) :
    (PP n2 m v i j → gimbalref11_Has.l2 (k + 1) v n2 i j l m e = gimbalref11_Has.l2 k v n2 i (j + 1) l m e) ∧ (¬ PP n2 m v i j → gimbalref11_Has.l2 (k + 1) v n2 i j l m e = some false) := by
  have p1 : 0 ≤ i * n2 := Int.mul_nonneg i0 (by omega)
  have p2 : (i + 1) * n2 ≤ n2 * n2 := Int.mul_le_mul_of_nonneg_right (by omega) (by omega)
  have p3 : n2 * n2 ≤ 16 * 16 := Int.mul_le_mul hn hn (by omega) (by decide)
  rw [Int.add_mul, Int.one_mul] at p2
  have w1 : wrap64 (i * n2) = i * n2 := by unfold wrap64; omega
  have w2 : wrap64 (i * n2 + j) = i * n2 + j := by unfold wrap64; omega
  have w3 : wrap64 (j + 1) = j + 1 := by unfold wrap64; omega
  have fi := hf (i / 2) (by omega) (by omega)
  have fj := hf (j / 2) (by omega) (by omega)
  have gi := sgn_fin fi
  have gj := sgn_fin fj
  have vi := value_sgn (v := v) (i := i) i0 (by omega) (by omega) fi
  have vj := value_sgn (v := v) (i := j) j0 (by omega) (by omega) fj
  have hb : gimbalref11_beyond.f (sgn v i) (sgn v j) (rd m (i * n2 + j)) = some (decide (sgn v j - sgn v i > rd m (i * n2 + j))) := by
    unfold gimbalref11_beyond.f; rw [if_pos ⟨⟨by omega, by omega⟩, ⟨by omega, by omega⟩, hr⟩]
  rw [show gimbalref11_Has.l2 (k + 1) v n2 i j l m e = _ from by rw [gimbalref11_Has.l2]]
  rw [w1, w2, w3, if_pos j1, if_pos (by omega), if_pos (by omega)]
  by_cases he : rd m (i * n2 + j) = 4611686018427387904
  · rw [if_pos he]; exact ⟨fun _ => rfl, fun h => absurd (.inl he) h⟩
  · rw [if_neg he, vi, vj]
    simp only [Option.bind_some]
    rw [hb]
    simp only [Option.bind_some, decide_eq_true_eq]
    unfold PP
    by_cases hd : sgn v j - sgn v i > rd m (i * n2 + j)
    · rw [if_pos hd]; exact ⟨fun h => by rcases h with h | h <;> omega, fun _ => rfl⟩
    · rw [if_neg hd]; exact ⟨fun _ => rfl, fun h => absurd (.inr (by omega)) h⟩
theorem l2_all {l v m : List Int} {e : Bool} {i n2 : Int} (hn : n2 ≤ 16) (hl : (v.length : Int) * 2 = n2) (hm : (m.length : Int) = n2 * n2) (i0 : 0 ≤ i) (i1 : i < n2)
    (hf : ∀ k : Int, 0 ≤ k → k < v.length → -4611686018427387904 < rd v k ∧ rd v k < 4611686018427387904)
    (hr : ∀ j, 0 ≤ j → j < n2 → -9223372036854775808 ≤ rd m (i * n2 + j) ∧ rd m (i * n2 + j) ≤ 9223372036854775807) (d : Nat) : ∀ j : Int, 0 ≤ j → n2 - j = (d : Int) →
    ((∀ j', j ≤ j' → j' < n2 → PP n2 m v i j') → ∀ k, gimbalref11_Has.l2 (k + d + 1) v n2 i j l m e = gimbalref11_Has.l1 k v n2 (wrap64 (i + 1)) l m e) ∧
    ((∃ j', j ≤ j' ∧ j' < n2 ∧ ¬ PP n2 m v i j') → ∀ k, gimbalref11_Has.l2 (k + d + 1) v n2 i j l m e = some false) := by
  induction d with
  | zero =>
    intro j j0 hd
    refine ⟨fun _ k => ?_, fun ⟨j', h1, h2, _⟩ => by omega⟩
    rw [show gimbalref11_Has.l2 (k + 0 + 1) v n2 i j l m e = _ from by rw [gimbalref11_Has.l2]]
    rw [if_neg (by omega)]
  | succ d ih =>
    intro j j0 hd
    have j1 : j < n2 := by omega
    obtain ⟨a1, a2⟩ := ih (j + 1) (by omega) (by omega)
    refine ⟨fun h k => ?_, fun ⟨j', h1, h2, h3⟩ k => ?_⟩
    · have s := (l2_step (l := l) (e := e) hn hl hm i0 i1 j0 j1 hf (hr j j0 j1) (k + d + 1)).1 (h j (by omega) j1)
      rw [show k + (d + 1) + 1 = k + d + 1 + 1 from rfl, s]
      exact a1 (fun j' h1 h2 => h j' (by omega) h2) k
    · have s := l2_step (l := l) (e := e) hn hl hm i0 i1 j0 j1 hf (hr j j0 j1) (k + d + 1)
      rw [show k + (d + 1) + 1 = k + d + 1 + 1 from rfl]
      by_cases hp : PP n2 m v i j
      · rw [s.1 hp]
        refine a2 ⟨j', ?_, h2, h3⟩ k
        rcases Int.lt_or_eq_of_le h1 with h | h
        · omega
        · subst h; exact absurd hp h3
      · exact s.2 hp
theorem l1_all {l v m : List Int} {e : Bool} {n2 : Int} (hn : n2 ≤ 16) (hl : (v.length : Int) * 2 = n2) (hm : (m.length : Int) = n2 * n2)
    (hf : ∀ k : Int, 0 ≤ k → k < v.length → -4611686018427387904 < rd v k ∧ rd v k < 4611686018427387904)
    (hr : ∀ i j, 0 ≤ i → i < n2 → 0 ≤ j → j < n2 → -9223372036854775808 ≤ rd m (i * n2 + j) ∧ rd m (i * n2 + j) ≤ 9223372036854775807) (d : Nat) : ∀ i : Int, 0 ≤ i → n2 - i = (d : Int) →
    ∃ K, ∀ k, K ≤ k → (((∀ i' j', i ≤ i' → i' < n2 → 0 ≤ j' → j' < n2 → PP n2 m v i' j') → gimbalref11_Has.l1 k v n2 i l m e = some true) ∧
      ((∃ i' j', i ≤ i' ∧ i' < n2 ∧ 0 ≤ j' ∧ j' < n2 ∧ ¬ PP n2 m v i' j') → gimbalref11_Has.l1 k v n2 i l m e = some false)) := by
  induction d with
  | zero =>
    intro i i0 hd
    refine ⟨1, fun k hk => ?_⟩
    obtain ⟨k, rfl⟩ : ∃ m, k = m + 1 := ⟨k - 1, by omega⟩
    refine ⟨fun _ => ?_, fun ⟨i', j', h1, h2, _⟩ => by omega⟩
    rw [gimbalref11_Has.l1, if_neg (by omega)]
  | succ d ih =>
    intro i i0 hd
    have i1 : i < n2 := by omega
    have w1 : wrap64 (i + 1) = i + 1 := by unfold wrap64; omega
    obtain ⟨K, hK⟩ := ih (i + 1) (by omega) (by omega)
    obtain ⟨c1, c2⟩ := l2_all (l := l) (e := e) hn hl hm i0 i1 hf (fun j a b => hr i j i0 i1 a b) n2.toNat 0 (by omega) (by omega)
    refine ⟨K + n2.toNat + 3, fun k hk => ?_⟩
    obtain ⟨k, rfl⟩ : ∃ q, k = q + n2.toNat + 1 + 1 := ⟨k - n2.toNat - 2, by omega⟩
    rw [gimbalref11_Has.l1, if_pos i1]
    obtain ⟨b1, b2⟩ := hK k (by omega)
    refine ⟨fun h => ?_, fun ⟨i', j', h1, h2, h3, h4, h5⟩ => ?_⟩
    · rw [c1 (fun j' a b => h i j' (by omega) i1 a b) k, w1]
      exact b1 (fun i' j' h1 h2 h3 h4 => h i' j' (by omega) h2 h3 h4)
    · by_cases hp : ∃ j', 0 ≤ j' ∧ j' < n2 ∧ ¬ PP n2 m v i j'
      · exact c2 hp k
      · have hp' : ∀ j', 0 ≤ j' → j' < n2 → PP n2 m v i j' := fun j' a b => Classical.byContradiction fun h => hp ⟨j', a, b, h⟩
        rw [c1 hp' k, w1]
        refine b2 ⟨i', j', ?_, h2, h3, h4, h5⟩
        rcases Int.lt_or_eq_of_le h1 with h | h
        · omega
        · subst h; exact absurd (hp' j' h3 h4) h5
theorem l0_fin {l v m : List Int} {e : Bool} {n2 : Int} (hv : v.length ≤ 8)
    (hf : ∀ k : Int, 0 ≤ k → k < v.length → -4611686018427387904 < rd v k ∧ rd v k < 4611686018427387904) (d : Nat) : ∀ i : Int, 0 ≤ i → (v.length : Int) - i = (d : Int) →
    ∀ k, gimbalref11_Has.l0 (k + d + 1) v n2 v (v.length : Int) i l m e = gimbalref11_Has.l1 k v n2 0 l m e := by
  induction d with
  | zero => intro i i0 hd k; rw [show k + 0 + 1 = k + 1 from rfl, gimbalref11_Has.l0, if_neg (by omega)]
  | succ d ih =>
    intro i i0 hd k
    have h := hf i i0 (by omega)
    have w1 : wrap64 (i + 1) = i + 1 := by unfold wrap64; omega
    rw [show k + (d + 1) + 1 = k + d + 1 + 1 from rfl, gimbalref11_Has.l0, if_pos (by omega), if_pos i0, if_pos (by omega), if_neg (by omega), if_neg (by omega), w1]
    exact ih (i + 1) (by omega) (by omega) k
theorem has_eq {l v m : List Int} {e : Bool} (h : OFit l m e) (hl : v.length = l.length)
    (hf : ∀ k : Int, 0 ≤ k → k < v.length → -4611686018427387904 < rd v k ∧ rd v k < 4611686018427387904) :
    ∃ b K, ∀ k, K ≤ k → oct_Has.f l m e v = some b ∧ gimbalref11_Has.f k l m e v = some b := by
  have h8 : l.length ≤ 8 := h.1.1
  have ho : oct_Has.f l m e v = some (hasB l m e v) := by unfold oct_Has.f; rw [if_pos (by omega)]
  refine ⟨hasB l m e v, ?_⟩
  by_cases he : e = true
  · refine ⟨1, fun k hk => ⟨ho, ?_⟩⟩
    obtain ⟨k, rfl⟩ : ∃ q, k = q + 1 := ⟨k - 1, by omega⟩
    rw [hasB_false.2 (fun H => by rw [he] at H; exact absurd H.1 (by decide))]
    unfold gimbalref11_Has.f
    rw [if_pos he, gimbalref11_Has.j0, if_pos rfl]
  · have he' : e = false := by simpa using he
    subst he'
    obtain ⟨hm, hE⟩ := h.2.2 rfl
    obtain ⟨K, hK⟩ := l1_all (l := l) (m := m) (e := false) (n2 := 2 * (l.length : Int)) (by omega) (by omega) hm hf (fun i j a b c d => by
      have := (hE i j a b c d).1; omega) (2 * l.length) 0 (by omega) (by omega)
    have w1 : wrap64 (2 * (l.length : Int)) = 2 * (l.length : Int) := by unfold wrap64; omega
    refine ⟨K + v.length + 3, fun k hk => ⟨ho, ?_⟩⟩
    obtain ⟨k, rfl⟩ : ∃ q, k = q + v.length + 1 + 1 := ⟨k - v.length - 2, by omega⟩
    obtain ⟨b1, b2⟩ := hK k (by omega)
    unfold gimbalref11_Has.f
    rw [if_neg he, gimbalref11_Has.j0, if_neg (by simp [hl]), w1, l0_fin (by omega) hf v.length 0 (by omega) (by omega)]
    by_cases hp : HasP l m false v
    · rw [hasB_true.2 hp]; exact b1 (fun i j _ a b c => hp.2.2.2.2 i j (by omega) a b c)
    · rw [hasB_false.2 hp]
      refine b2 (Classical.byContradiction fun hn => hp ⟨rfl, h, hl, hf, fun i j a b c d => ?_⟩)
      exact Classical.byContradiction fun hx => hn ⟨i, j, a, b, c, d, hx⟩
end Go.Proofs.Ytomgebmimgaojaa.HasEq
end
section
/- Written by a program of this session out of the translation. -/
noncomputable section
namespace Go.Proofs.Ytomgebmimgaojaa.QO
open Go.RowKit Go.Proofs.YtomgebmimgaojaaW.PrintWords Go.Proofs.YtomgebmimgaojaaW.PrintLast
set_option linter.unusedVariables false
set_option linter.unusedSimpArgs false
/-! ### gimbalref11_Equal: function 15 -/
mutual
def gimbalref11_Equal.j0 : Nat → Bool → List Int → List Int → Bool → List Int → List Int → Bool → Option (Bool)
 | 0, _, _, _, _, _, _, _ => none
 | k + 1, x29, x102000, x102001, x102002, x103000, x103001, x103002 => if x29 = true then (some false) else (gimbalref11_Equal.l0 k (x102000.length : Int) 0 x102000 x102001 x102002 x103000 x103001 x103002)
def gimbalref11_Equal.l0 : Nat → Int → Int → List Int → List Int → Bool → List Int → List Int → Bool → Option (Bool)
 | 0, _, _, _, _, _, _, _, _ => none
 | k + 1, x32, x33, x102000, x102001, x102002, x103000, x103001, x103002 => if x33 < x32 then (if 0 ≤ x33 then (if x33 < (x102000.length : Int) then (if x33 < (x103000.length : Int) then (if (rd x102000 x33) = (rd x103000 x33) then (gimbalref11_Equal.l0 k x32 (wrap64 (x33 + 1)) x102000 x102001 x102002 x103000 x103001 x103002) else (some false)) else (none)) else (none)) else (none)) else (gimbalref11_Equal.l1 k (x102001.length : Int) 0 x102000 x102001 x102002 x103000 x103001 x103002)
def gimbalref11_Equal.l1 : Nat → Int → Int → List Int → List Int → Bool → List Int → List Int → Bool → Option (Bool)
 | 0, _, _, _, _, _, _, _, _ => none
 | k + 1, x50, x51, x102000, x102001, x102002, x103000, x103001, x103002 => if x51 < x50 then (if 0 ≤ x51 then (if x51 < (x102001.length : Int) then (if x51 < (x103001.length : Int) then (if (rd x102001 x51) = (rd x103001 x51) then (gimbalref11_Equal.l1 k x50 (wrap64 (x51 + 1)) x102000 x102001 x102002 x103000 x103001 x103002) else (some false)) else (none)) else (none)) else (none)) else (some true)
end
def gimbalref11_Equal.f (k : Nat) (l0_0 : List Int) (l0_1 : List Int) (a0_2 : Bool) (l1_0 : List Int) (l1_1 : List Int) (a1_2 : Bool) : Option (Bool) := if (l0_0.length : Int) = (l1_0.length : Int) then (if (l0_1.length : Int) = (l1_1.length : Int) then (gimbalref11_Equal.j0 k (a0_2 != a1_2) l0_0 l0_1 a0_2 l1_0 l1_1 a1_2) else (gimbalref11_Equal.j0 k true l0_0 l0_1 a0_2 l1_0 l1_1 a1_2)) else (gimbalref11_Equal.j0 k true l0_0 l0_1 a0_2 l1_0 l1_1 a1_2)
theorem gimbalref11_Equal.mono_l : ∀ k, (∀ y0 y1 y2 y3 y4 y5 y6, LeO (gimbalref11_Equal.j0 k y0 y1 y2 y3 y4 y5 y6) (gimbalref11_Equal.j0 (k + 1) y0 y1 y2 y3 y4 y5 y6)) ∧ (∀ y0 y1 y2 y3 y4 y5 y6 y7, LeO (gimbalref11_Equal.l0 k y0 y1 y2 y3 y4 y5 y6 y7) (gimbalref11_Equal.l0 (k + 1) y0 y1 y2 y3 y4 y5 y6 y7)) ∧ (∀ y0 y1 y2 y3 y4 y5 y6 y7, LeO (gimbalref11_Equal.l1 k y0 y1 y2 y3 y4 y5 y6 y7) (gimbalref11_Equal.l1 (k + 1) y0 y1 y2 y3 y4 y5 y6 y7))
 | 0 => ⟨fun _ _ _ _ _ _ _ r h => by simp [gimbalref11_Equal.j0] at h, fun _ _ _ _ _ _ _ _ r h => by simp [gimbalref11_Equal.l0] at h, fun _ _ _ _ _ _ _ _ r h => by simp [gimbalref11_Equal.l1] at h⟩
 | k + 1 => by
  obtain ⟨ih0, ih1, ih2⟩ := gimbalref11_Equal.mono_l k
  refine ⟨?_, ?_, ?_⟩
  ·
   intro y0 y1 y2 y3 y4 y5 y6
   unfold gimbalref11_Equal.j0
   repeat' first
   | (with_reducible exact ih0 _ _ _ _ _ _ _)
   | (with_reducible exact ih1 _ _ _ _ _ _ _ _)
   | (with_reducible exact ih2 _ _ _ _ _ _ _ _)
   | (with_reducible exact LeO.refl _)
   | (with_reducible exact LeO.none _)
   | (with_reducible refine LeO.ite ?_ ?_)
   | (with_reducible refine LeO.bind ?_ (fun _ => ?_))
   | exact ih0 _ _ _ _ _ _ _
   | exact ih1 _ _ _ _ _ _ _ _
   | exact ih2 _ _ _ _ _ _ _ _
   | exact LeO.none _
   | refine LeO.ite ?_ ?_
   | refine LeO.bind ?_ (fun _ => ?_)
  ·
   intro y0 y1 y2 y3 y4 y5 y6 y7
   unfold gimbalref11_Equal.l0
   repeat' first
   | (with_reducible exact ih0 _ _ _ _ _ _ _)
   | (with_reducible exact ih1 _ _ _ _ _ _ _ _)
   | (with_reducible exact ih2 _ _ _ _ _ _ _ _)
   | (with_reducible exact LeO.refl _)
   | (with_reducible exact LeO.none _)
   | (with_reducible refine LeO.ite ?_ ?_)
   | (with_reducible refine LeO.bind ?_ (fun _ => ?_))
   | exact ih0 _ _ _ _ _ _ _
   | exact ih1 _ _ _ _ _ _ _ _
   | exact ih2 _ _ _ _ _ _ _ _
   | exact LeO.none _
   | refine LeO.ite ?_ ?_
   | refine LeO.bind ?_ (fun _ => ?_)
  ·
   intro y0 y1 y2 y3 y4 y5 y6 y7
   unfold gimbalref11_Equal.l1
   repeat' first
   | (with_reducible exact ih0 _ _ _ _ _ _ _)
   | (with_reducible exact ih1 _ _ _ _ _ _ _ _)
   | (with_reducible exact ih2 _ _ _ _ _ _ _ _)
   | (with_reducible exact LeO.refl _)
   | (with_reducible exact LeO.none _)
   | (with_reducible refine LeO.ite ?_ ?_)
   | (with_reducible refine LeO.bind ?_ (fun _ => ?_))
   | exact ih0 _ _ _ _ _ _ _
   | exact ih1 _ _ _ _ _ _ _ _
   | exact ih2 _ _ _ _ _ _ _ _
   | exact LeO.none _
   | refine LeO.ite ?_ ?_
   | refine LeO.bind ?_ (fun _ => ?_)
theorem gimbalref11_Equal.mono : ∀ a0 a1 a2 a3 a4 a5 k, LeO (gimbalref11_Equal.f k a0 a1 a2 a3 a4 a5) (gimbalref11_Equal.f (k + 1) a0 a1 a2 a3 a4 a5) := by
 intro a0 a1 a2 a3 a4 a5 k
 obtain ⟨ih0, ih1, ih2⟩ := gimbalref11_Equal.mono_l k
 unfold gimbalref11_Equal.f
 repeat' first
  | (with_reducible exact ih0 _ _ _ _ _ _ _)
  | (with_reducible exact ih1 _ _ _ _ _ _ _ _)
  | (with_reducible exact ih2 _ _ _ _ _ _ _ _)
  | (with_reducible exact LeO.refl _)
  | (with_reducible exact LeO.none _)
  | (with_reducible refine LeO.ite ?_ ?_)
  | (with_reducible refine LeO.bind ?_ (fun _ => ?_))
  | exact ih0 _ _ _ _ _ _ _
  | exact ih1 _ _ _ _ _ _ _ _
  | exact ih2 _ _ _ _ _ _ _ _
  | exact LeO.none _
  | refine LeO.ite ?_ ?_
  | refine LeO.bind ?_ (fun _ => ?_)
set_option maxHeartbeats 8000000 in
set_option maxRecDepth 100000 in
theorem gimbalref11_Equal.calls (k : Nat) (A0_0 : Option Addr) (c0_0 : Nat) (l0_0 : List Int) (A0_1 : Option Addr) (c0_1 : Nat) (l0_1 : List Int) (a0_2 : Bool) (A1_0 : Option Addr) (c1_0 : Nat) (l1_0 : List Int) (A1_1 : Option Addr) (c1_1 : Nat) (l1_1 : List Int) (a1_2 : Bool) (r : Bool) (w : World) (hr0_0 : Kd.C (Kd.int .i64) w A0_0 l0_0.length l0_0) (hc0_0 : l0_0.length ≤ c0_0) (hr0_1 : Kd.C (Kd.int .i64) w A0_1 l0_1.length l0_1) (hc0_1 : l0_1.length ≤ c0_1) (hr1_0 : Kd.C (Kd.int .i64) w A1_0 l1_0.length l1_0) (hc1_0 : l1_0.length ≤ c1_0) (hr1_1 : Kd.C (Kd.int .i64) w A1_1 l1_1.length l1_1) (hc1_1 : l1_1.length ≤ c1_1) (h : gimbalref11_Equal.f k l0_0 l0_1 a0_2 l1_0 l1_1 a1_2 = some r) :
 Calls Try.prog 15 #[.agg #[.slice A0_0 l0_0.length c0_0, .slice A0_1 l0_1.length c0_1, .bool a0_2], .agg #[.slice A1_0 l1_0.length c1_0, .slice A1_1 l1_1.length c1_1, .bool a1_2]] w fun e w' => e = .returned (.bool r) ∧ Below w.heap.size w w' := by
 have hu25 := Try.underlying25
 have HR0_0 := Aside0.mk hr0_0
 have HC0_0 := Aside0.mk hc0_0
 clear hr0_0 hc0_0
 have HR0_1 := Aside0.mk hr0_1
 have HC0_1 := Aside0.mk hc0_1
 clear hr0_1 hc0_1
 have HR1_0 := Aside0.mk hr1_0
 have HC1_0 := Aside0.mk hc1_0
 clear hr1_0 hc1_0
 have HR1_1 := Aside0.mk hr1_1
 have HC1_1 := Aside0.mk hc1_1
 clear hr1_1 hc1_1
 have HB := Aside0.mk (Below.refl w.heap.size w)
 have H : (if (l0_0.length : Int) = (l1_0.length : Int) then (if (l0_1.length : Int) = (l1_1.length : Int) then (gimbalref11_Equal.j0 k (a0_2 != a1_2) l0_0 l0_1 a0_2 l1_0 l1_1 a1_2) else (gimbalref11_Equal.j0 k true l0_0 l0_1 a0_2 l1_0 l1_1 a1_2)) else (gimbalref11_Equal.j0 k true l0_0 l0_1 a0_2 l1_0 l1_1 a1_2)) = some r := h
 clear h
 have HC3 := Aside0.mk H
 clear H
 go_enter Try.func15, Try.ntmps15
 go_upto_region 1 with (first | ((with_reducible refine gate_dst (N := 2) rfl ?_); (try (refine gate_guard (by rfl) ?_; dsimp only)); refine box_event ?hg (N := 2) ?hd (cs := #[.slice A0_0 l0_0.length c0_0, .slice A0_1 l0_1.length c0_1, .bool a0_2]) (t := 25) ?hr ?_; (case hd => rfl); (case hg => rfl); (case hr => first | (go_simp; done) | (go_simp; rfl)); intro gb101 hg w4 hbox hb; have BK101 := Aside0.mk (hbox); have GW101 := vS hg HB; have GE101 := vS hg HB; replace HB := vWs HB hb; clear hb hbox hg) | ((with_reducible refine gate_dst (N := 3) rfl ?_); (try (refine gate_guard (by rfl) ?_; dsimp only)); refine box_event ?hg (N := 3) ?hd (cs := #[.slice A1_0 l1_0.length c1_0, .slice A1_1 l1_1.length c1_1, .bool a1_2]) (t := 25) ?hr ?_; (case hd => rfl); (case hg => rfl); (case hr => first | (go_simp; done) | (go_simp; rfl)); intro gb102 hg w5 hbox hb; have BK102 := Aside0.mk (hbox); have GW102 := vS hg HB; have GE102 := vS hg HB; replace HB := vWs HB hb; have NB101_102 := vNl hg BK101; have NB102_101 := vNg hg BK101; replace BK101 := vBb BK101 hb; clear hb hbox hg))
 repeat (go_quiet (first | ((with_reducible refine gate_dst (N := 2) rfl ?_); (try (refine gate_guard (by rfl) ?_; dsimp only)); refine box_event ?hg (N := 2) ?hd (cs := #[.slice A0_0 l0_0.length c0_0, .slice A0_1 l0_1.length c0_1, .bool a0_2]) (t := 25) ?hr ?_; (case hd => rfl); (case hg => rfl); (case hr => first | (go_simp; done) | (go_simp; rfl)); intro gb101 hg w4 hbox hb; have BK101 := Aside0.mk (hbox); have GW101 := vS hg HB; have GE101 := vS hg HB; replace HB := vWs HB hb; clear hb hbox hg) | ((with_reducible refine gate_dst (N := 3) rfl ?_); (try (refine gate_guard (by rfl) ?_; dsimp only)); refine box_event ?hg (N := 3) ?hd (cs := #[.slice A1_0 l1_0.length c1_0, .slice A1_1 l1_1.length c1_1, .bool a1_2]) (t := 25) ?hr ?_; (case hd => rfl); (case hg => rfl); (case hr => first | (go_simp; done) | (go_simp; rfl)); intro gb102 hg w5 hbox hb; have BK102 := Aside0.mk (hbox); have GW102 := vS hg HB; have GE102 := vS hg HB; replace HB := vWs HB hb; have NB101_102 := vNl hg BK101; have NB102_101 := vNg hg BK101; replace BK101 := vBb BK101 hb; clear hb hbox hg)); go_upto_region 1 with fail)
 (try simp only [Act.put, List.setIfInBounds_toArray, List.set_cons_zero, List.set_cons_succ])
 go_cut [29] (fun v29 wc => ∃ (kq : Nat) (x29_2 : Bool), v29 = .bool x29_2 ∧ Aside0 (gimbalref11_Equal.j0 kq x29_2 l0_0 l0_1 a0_2 l1_0 l1_1 a1_2 = some r) ∧ Aside0 (kq ≤ k) ∧ Aside0 (wc.heap[gb101]? = some (.cells #[(.slice A0_0 l0_0.length c0_0), (.slice A0_1 l0_1.length c0_1), .bool a0_2] 25 (0, 0))) ∧ Aside0 (wc.heap[gb102]? = some (.cells #[(.slice A1_0 l1_0.length c1_0), (.slice A1_1 l1_1.length c1_1), .bool a1_2] 25 (0, 0))) ∧ Aside0 (Below w.heap.size w wc))
 case first =>
  have H := HC3.out
  clear HC3
  by_cases c6 : (l0_0.length : Int) = (l1_0.length : Int)
  ·
   rw [if_pos c6] at H
   have c6b0 : ((l0_0.length : Int) == (l1_0.length : Int)) = true := beq_iff_eq.mpr c6
   have c6b1 : ((l0_0.length : Int) != (l1_0.length : Int)) = false := bne_eq_false_iff_eq.mpr c6
   have c6b2 : (l0_0.length == l1_0.length) = true := by first | simpa using c6 | (simp at c6 ⊢; omega)
   clear c6
   (first | rw [c6b0] | (simp only [i64_w, i32_w]; rw [c6b0]) | skip)
   by_cases c7 : (l0_1.length : Int) = (l1_1.length : Int)
   ·
    rw [if_pos c7] at H
    have c7b0 : ((l0_1.length : Int) == (l1_1.length : Int)) = true := beq_iff_eq.mpr c7
    have c7b1 : ((l0_1.length : Int) != (l1_1.length : Int)) = false := bne_eq_false_iff_eq.mpr c7
    have c7b2 : (l0_1.length == l1_1.length) = true := by first | simpa using c7 | (simp at c7 ⊢; omega)
    clear c7
    have H' := Aside0.mk H
    clear H
    have hnb8 := NB101_102.out
    have hnc8 := NB102_101.out
    obtain ⟨hcz9_0, hcz9_1, hcz9_2, hfz9_0, hfz9_1, hfz9_2⟩ := vF3 BK101.out
    obtain ⟨hcz10_0, hcz10_1, hcz10_2, hfz10_0, hfz10_1, hfz10_2⟩ := vF3 BK102.out
    go_wp2
    repeat (go_quiet (fail); try go_wp2)
    go_meet
    case rel => exact ⟨_, ((a0_2 != a1_2)), (by first | rfl | (simp; done) | (simp [*]; done)), H', ⟨by first | omega | exact Nat.le_refl _⟩, ⟨vB BK101.out⟩, ⟨vB BK102.out⟩, ⟨vW HB.out⟩⟩
   ·
    rw [if_neg c7] at H
    have c7b0 : ((l0_1.length : Int) == (l1_1.length : Int)) = false := beq_eq_false_iff_ne.mpr c7
    have c7b1 : ((l0_1.length : Int) != (l1_1.length : Int)) = true := bne_iff_ne.mpr c7
    have c7b2 : (l0_1.length == l1_1.length) = false := by first | simpa using c7 | (simp at c7 ⊢; omega)
    have H' := Aside0.mk H
    clear H
    have hnb11 := NB101_102.out
    have hnc11 := NB102_101.out
    obtain ⟨hcz12_0, hcz12_1, hcz12_2, hfz12_0, hfz12_1, hfz12_2⟩ := vF3 BK101.out
    obtain ⟨hcz13_0, hcz13_1, hcz13_2, hfz13_0, hfz13_1, hfz13_2⟩ := vF3 BK102.out
    go_wp2
    repeat (go_quiet (fail); try go_wp2)
    go_meet
    case rel => exact ⟨_, (true), (by first | rfl | (simp; done) | (simp [*]; done)), H', ⟨by first | omega | exact Nat.le_refl _⟩, ⟨vB BK101.out⟩, ⟨vB BK102.out⟩, ⟨vW HB.out⟩⟩
  ·
   rw [if_neg c6] at H
   have c6b0 : ((l0_0.length : Int) == (l1_0.length : Int)) = false := beq_eq_false_iff_ne.mpr c6
   have c6b1 : ((l0_0.length : Int) != (l1_0.length : Int)) = true := bne_iff_ne.mpr c6
   have c6b2 : (l0_0.length == l1_0.length) = false := by first | simpa using c6 | (simp at c6 ⊢; omega)
   (first | rw [c6b0] | (simp only [i64_w, i32_w]; rw [c6b0]) | skip)
   have H' := Aside0.mk H
   clear H
   have hnb14 := NB101_102.out
   have hnc14 := NB102_101.out
   obtain ⟨hcz15_0, hcz15_1, hcz15_2, hfz15_0, hfz15_1, hfz15_2⟩ := vF3 BK101.out
   obtain ⟨hcz16_0, hcz16_1, hcz16_2, hfz16_0, hfz16_1, hfz16_2⟩ := vF3 BK102.out
   go_wp2
   repeat (go_quiet (fail); try go_wp2)
   go_meet
   case rel => exact ⟨_, (true), (by first | rfl | (simp; done) | (simp [*]; done)), H', ⟨by first | omega | exact Nat.le_refl _⟩, ⟨vB BK101.out⟩, ⟨vB BK102.out⟩, ⟨vW HB.out⟩⟩
 case rest =>
  clear HC3
  obtain ⟨kq, x29_2, rfl, HA, HJ2, BK101, BK102, HB⟩ := hcut
  cases kq with
  | zero => exact absurd HA.out (by simp [gimbalref11_Equal.j0])
  | succ kj2 =>
   have H := HA.out
   clear HA
   simp only [gimbalref11_Equal.j0] at H
   by_cases c17 : x29_2 = true
   ·
    subst c17
    have H1 : (some false) = some r := by rw [if_pos rfl] at H; exact H
    clear H
    have H := H1
    clear H1
    obtain rfl := Option.some.inj H
    go_wp2
    repeat (go_quiet (fail); try go_wp2)
    go_ret
    exact ⟨by first | rfl | (simp [errW_none, errW_some] <;> rfl) | (simp [*, errW_none, errW_some] <;> rfl) | (simp [wrap64]; done), vW HB.out⟩
   ·
    replace c17 := Bool.eq_false_iff.mpr c17
    subst c17
    have H1 : (gimbalref11_Equal.l0 kj2 (l0_0.length : Int) 0 l0_0 l0_1 a0_2 l1_0 l1_1 a1_2) = some r := by rw [if_neg (show ¬ (false = true) by decide)] at H; exact H
    clear H
    have H := H1
    clear H1
    have H' := Aside0.mk H
    clear H
    have hnb18 := NB101_102.out
    have hnc18 := NB102_101.out
    obtain ⟨hcz19_0, hcz19_1, hcz19_2, hfz19_0, hfz19_1, hfz19_2⟩ := vF3 BK101.out
    go_wp2
    repeat (go_quiet (fail); try go_wp2)
    go_loopg [33] kj2 (fun kq v33 w' => ∃ (x33_2 : Int), v33 = .int .i64 x33_2 ∧ Aside0 (gimbalref11_Equal.l0 kq (l0_0.length : Int) x33_2 l0_0 l0_1 a0_2 l1_0 l1_1 a1_2 = some r) ∧ Aside0 (kq ≤ kj2) ∧ Aside0 (w'.heap[gb101]? = some (.cells #[(.slice A0_0 l0_0.length c0_0), (.slice A0_1 l0_1.length c0_1), .bool a0_2] 25 (0, 0))) ∧ Aside0 (w'.heap[gb102]? = some (.cells #[(.slice A1_0 l1_0.length c1_0), (.slice A1_1 l1_1.length c1_1), .bool a1_2] 25 (0, 0))) ∧ Aside0 (Below w.heap.size w w'))
    case atStart => exact ⟨(0), (by first | rfl | (simp; done) | (simp [*]; done)), H', ⟨Nat.le_refl _⟩, ⟨vB BK101.out⟩, ⟨vB BK102.out⟩, ⟨vW HB.out⟩⟩
    case round =>
     clear H'
     try clear hcz19_0
     try clear hcz19_1
     try clear hcz19_2
     try clear hfz19_0
     try clear hfz19_1
     try clear hfz19_2
     obtain ⟨x33_2, rfl, HA, HK2, BK101, BK102, HB⟩ := hrel
     cases gk with
     | zero => exact absurd HA.out (by simp [gimbalref11_Equal.l0])
     | succ k2 =>
      have H := HA.out
      clear HA
      simp only [gimbalref11_Equal.l0] at H
      by_cases c20 : x33_2 < (l0_0.length : Int)
      ·
       rw [if_pos c20] at H
       have c20b0 : decide (x33_2 < (l0_0.length : Int)) = true := decide_eq_true c20
       clear c20
       by_cases c21 : 0 ≤ x33_2
       ·
        rw [if_pos c21] at H
        have c21b0 : decide (0 ≤ x33_2) = true := decide_eq_true c21
        clear c21
        by_cases c22 : x33_2 < (l0_0.length : Int)
        ·
         rw [if_pos c22] at H
         have c22b0 : decide (x33_2 < (l0_0.length : Int)) = true := decide_eq_true c22
         clear c22
         by_cases c23 : x33_2 < (l1_0.length : Int)
         ·
          rw [if_pos c23] at H
          have c23b0 : decide (x33_2 < (l1_0.length : Int)) = true := decide_eq_true c23
          clear c23
          by_cases c24 : (rd l0_0 x33_2) = (rd l1_0 x33_2)
          ·
           rw [if_pos c24] at H
           have c24b0 : ((rd l0_0 x33_2) == (rd l1_0 x33_2)) = true := beq_iff_eq.mpr c24
           have c24b1 : ((rd l0_0 x33_2) != (rd l1_0 x33_2)) = false := bne_eq_false_iff_eq.mpr c24
           clear c24
           have H' := Aside0.mk H
           clear H
           have hnb25 := NB101_102.out
           have hnc25 := NB102_101.out
           obtain ⟨hcz26_0, hcz26_1, hcz26_2, hfz26_0, hfz26_1, hfz26_2⟩ := vF3 BK101.out
           have p103 : 0 ≤ (x33_2 : Int) := of_decide_eq_true (by first | (with_reducible assumption) | assumption)
           have q103 : x33_2 < (l0_0.length : Int) := of_decide_eq_true (by first | (with_reducible assumption) | assumption)
           obtain ⟨ad103, e103, hx103_0⟩ := Kd.at_int HR0_0.out x33_2 p103 q103
           cases e103
           replace hx103_0 := (HB.out.cell (World.block_lt_of_cell? w _ hx103_0)).trans hx103_0
           replace p103 := eq_true p103
           replace q103 := eq_true q103
           obtain ⟨hcz27_0, hcz27_1, hcz27_2, hfz27_0, hfz27_1, hfz27_2⟩ := vF3 BK102.out
           have p104 : 0 ≤ (x33_2 : Int) := of_decide_eq_true (by first | (with_reducible assumption) | assumption)
           have q104 : x33_2 < (l1_0.length : Int) := of_decide_eq_true (by first | (with_reducible assumption) | assumption)
           obtain ⟨ad104, e104, hx104_0⟩ := Kd.at_int HR1_0.out x33_2 p104 q104
           cases e104
           replace hx104_0 := (HB.out.cell (World.block_lt_of_cell? w _ hx104_0)).trans hx104_0
           replace p104 := eq_true p104
           replace q104 := eq_true q104
           go_wp2
           repeat (go_quiet (fail); try go_wp2)
           go_roundg k2
           case measure => have := HJ2.out; have := HK2.out; omega
           case rel => exact ⟨(wrap64 (x33_2 + 1)), (by first | rfl | (simp; done) | (simp [*]; done)), H', ⟨by have := HJ2.out; have := HK2.out; omega⟩, ⟨vB BK101.out⟩, ⟨vB BK102.out⟩, ⟨vW HB.out⟩⟩
          ·
           rw [if_neg c24] at H
           have c24b0 : ((rd l0_0 x33_2) == (rd l1_0 x33_2)) = false := beq_eq_false_iff_ne.mpr c24
           have c24b1 : ((rd l0_0 x33_2) != (rd l1_0 x33_2)) = true := bne_iff_ne.mpr c24
           obtain rfl := Option.some.inj H
           have hnb28 := NB101_102.out
           have hnc28 := NB102_101.out
           obtain ⟨hcz29_0, hcz29_1, hcz29_2, hfz29_0, hfz29_1, hfz29_2⟩ := vF3 BK101.out
           have p103 : 0 ≤ (x33_2 : Int) := of_decide_eq_true (by first | (with_reducible assumption) | assumption)
           have q103 : x33_2 < (l0_0.length : Int) := of_decide_eq_true (by first | (with_reducible assumption) | assumption)
           obtain ⟨ad103, e103, hx103_0⟩ := Kd.at_int HR0_0.out x33_2 p103 q103
           cases e103
           replace hx103_0 := (HB.out.cell (World.block_lt_of_cell? w _ hx103_0)).trans hx103_0
           replace p103 := eq_true p103
           replace q103 := eq_true q103
           obtain ⟨hcz30_0, hcz30_1, hcz30_2, hfz30_0, hfz30_1, hfz30_2⟩ := vF3 BK102.out
           have p104 : 0 ≤ (x33_2 : Int) := of_decide_eq_true (by first | (with_reducible assumption) | assumption)
           have q104 : x33_2 < (l1_0.length : Int) := of_decide_eq_true (by first | (with_reducible assumption) | assumption)
           obtain ⟨ad104, e104, hx104_0⟩ := Kd.at_int HR1_0.out x33_2 p104 q104
           cases e104
           replace hx104_0 := (HB.out.cell (World.block_lt_of_cell? w _ hx104_0)).trans hx104_0
           replace p104 := eq_true p104
           replace q104 := eq_true q104
           go_wp2
           repeat (go_quiet (fail); try go_wp2)
           go_ret
           exact ⟨by first | rfl | (simp [errW_none, errW_some] <;> rfl) | (simp [*, errW_none, errW_some] <;> rfl) | (simp [wrap64]; done), vW HB.out⟩
         ·
          rw [if_neg c23] at H
          exact absurd H (by simp)
        ·
         rw [if_neg c22] at H
         exact absurd H (by simp)
       ·
        rw [if_neg c21] at H
        exact absurd H (by simp)
      ·
       rw [if_neg c20] at H
       have c20b0 : decide (x33_2 < (l0_0.length : Int)) = false := decide_eq_false c20
       clear c20
       have H' := Aside0.mk H
       clear H
       have hnb31 := NB101_102.out
       have hnc31 := NB102_101.out
       obtain ⟨hcz32_0, hcz32_1, hcz32_2, hfz32_0, hfz32_1, hfz32_2⟩ := vF3 BK101.out
       go_wp2
       repeat (go_quiet (fail); try go_wp2)
       go_loopg [51] k2 (fun kq v51 w' => ∃ (x51_3 : Int), v51 = .int .i64 x51_3 ∧ Aside0 (gimbalref11_Equal.l1 kq (l0_1.length : Int) x51_3 l0_0 l0_1 a0_2 l1_0 l1_1 a1_2 = some r) ∧ Aside0 (kq ≤ k2) ∧ Aside0 (w'.heap[gb101]? = some (.cells #[(.slice A0_0 l0_0.length c0_0), (.slice A0_1 l0_1.length c0_1), .bool a0_2] 25 (0, 0))) ∧ Aside0 (w'.heap[gb102]? = some (.cells #[(.slice A1_0 l1_0.length c1_0), (.slice A1_1 l1_1.length c1_1), .bool a1_2] 25 (0, 0))) ∧ Aside0 (Below w.heap.size w w'))
       case atStart => exact ⟨(0), (by first | rfl | (simp; done) | (simp [*]; done)), H', ⟨Nat.le_refl _⟩, ⟨vB BK101.out⟩, ⟨vB BK102.out⟩, ⟨vW HB.out⟩⟩
       case round =>
        clear H'
        try clear c20b0
        try clear hcz32_0
        try clear hcz32_1
        try clear hcz32_2
        try clear hfz32_0
        try clear hfz32_1
        try clear hfz32_2
        obtain ⟨x51_3, rfl, HA, HK3, BK101, BK102, HB⟩ := hrel
        cases gk with
        | zero => exact absurd HA.out (by simp [gimbalref11_Equal.l1])
        | succ k3 =>
         have H := HA.out
         clear HA
         simp only [gimbalref11_Equal.l1] at H
         by_cases c33 : x51_3 < (l0_1.length : Int)
         ·
          rw [if_pos c33] at H
          have c33b0 : decide (x51_3 < (l0_1.length : Int)) = true := decide_eq_true c33
          clear c33
          by_cases c34 : 0 ≤ x51_3
          ·
           rw [if_pos c34] at H
           have c34b0 : decide (0 ≤ x51_3) = true := decide_eq_true c34
           clear c34
           by_cases c35 : x51_3 < (l0_1.length : Int)
           ·
            rw [if_pos c35] at H
            have c35b0 : decide (x51_3 < (l0_1.length : Int)) = true := decide_eq_true c35
            clear c35
            by_cases c36 : x51_3 < (l1_1.length : Int)
            ·
             rw [if_pos c36] at H
             have c36b0 : decide (x51_3 < (l1_1.length : Int)) = true := decide_eq_true c36
             clear c36
             by_cases c37 : (rd l0_1 x51_3) = (rd l1_1 x51_3)
             ·
              rw [if_pos c37] at H
              have c37b0 : ((rd l0_1 x51_3) == (rd l1_1 x51_3)) = true := beq_iff_eq.mpr c37
              have c37b1 : ((rd l0_1 x51_3) != (rd l1_1 x51_3)) = false := bne_eq_false_iff_eq.mpr c37
              clear c37
              have H' := Aside0.mk H
              clear H
              have hnb38 := NB101_102.out
              have hnc38 := NB102_101.out
              obtain ⟨hcz39_0, hcz39_1, hcz39_2, hfz39_0, hfz39_1, hfz39_2⟩ := vF3 BK101.out
              have p105 : 0 ≤ (x51_3 : Int) := of_decide_eq_true (by first | (with_reducible assumption) | assumption)
              have q105 : x51_3 < (l0_1.length : Int) := of_decide_eq_true (by first | (with_reducible assumption) | assumption)
              obtain ⟨ad105, e105, hx105_0⟩ := Kd.at_int HR0_1.out x51_3 p105 q105
              cases e105
              replace hx105_0 := (HB.out.cell (World.block_lt_of_cell? w _ hx105_0)).trans hx105_0
              replace p105 := eq_true p105
              replace q105 := eq_true q105
              obtain ⟨hcz40_0, hcz40_1, hcz40_2, hfz40_0, hfz40_1, hfz40_2⟩ := vF3 BK102.out
              have p106 : 0 ≤ (x51_3 : Int) := of_decide_eq_true (by first | (with_reducible assumption) | assumption)
              have q106 : x51_3 < (l1_1.length : Int) := of_decide_eq_true (by first | (with_reducible assumption) | assumption)
              obtain ⟨ad106, e106, hx106_0⟩ := Kd.at_int HR1_1.out x51_3 p106 q106
              cases e106
              replace hx106_0 := (HB.out.cell (World.block_lt_of_cell? w _ hx106_0)).trans hx106_0
              replace p106 := eq_true p106
              replace q106 := eq_true q106
              go_wp2
              repeat (go_quiet (fail); try go_wp2)
              go_roundg k3
              case measure => have := HJ2.out; have := HK2.out; have := HK3.out; omega
              case rel => exact ⟨(wrap64 (x51_3 + 1)), (by first | rfl | (simp; done) | (simp [*]; done)), H', ⟨by have := HJ2.out; have := HK2.out; have := HK3.out; omega⟩, ⟨vB BK101.out⟩, ⟨vB BK102.out⟩, ⟨vW HB.out⟩⟩
             ·
              rw [if_neg c37] at H
              have c37b0 : ((rd l0_1 x51_3) == (rd l1_1 x51_3)) = false := beq_eq_false_iff_ne.mpr c37
              have c37b1 : ((rd l0_1 x51_3) != (rd l1_1 x51_3)) = true := bne_iff_ne.mpr c37
              obtain rfl := Option.some.inj H
              have hnb41 := NB101_102.out
              have hnc41 := NB102_101.out
              obtain ⟨hcz42_0, hcz42_1, hcz42_2, hfz42_0, hfz42_1, hfz42_2⟩ := vF3 BK101.out
              have p105 : 0 ≤ (x51_3 : Int) := of_decide_eq_true (by first | (with_reducible assumption) | assumption)
              have q105 : x51_3 < (l0_1.length : Int) := of_decide_eq_true (by first | (with_reducible assumption) | assumption)
              obtain ⟨ad105, e105, hx105_0⟩ := Kd.at_int HR0_1.out x51_3 p105 q105
              cases e105
              replace hx105_0 := (HB.out.cell (World.block_lt_of_cell? w _ hx105_0)).trans hx105_0
              replace p105 := eq_true p105
              replace q105 := eq_true q105
              obtain ⟨hcz43_0, hcz43_1, hcz43_2, hfz43_0, hfz43_1, hfz43_2⟩ := vF3 BK102.out
              have p106 : 0 ≤ (x51_3 : Int) := of_decide_eq_true (by first | (with_reducible assumption) | assumption)
              have q106 : x51_3 < (l1_1.length : Int) := of_decide_eq_true (by first | (with_reducible assumption) | assumption)
              obtain ⟨ad106, e106, hx106_0⟩ := Kd.at_int HR1_1.out x51_3 p106 q106
              cases e106
              replace hx106_0 := (HB.out.cell (World.block_lt_of_cell? w _ hx106_0)).trans hx106_0
              replace p106 := eq_true p106
              replace q106 := eq_true q106
              go_wp2
              repeat (go_quiet (fail); try go_wp2)
              go_ret
              exact ⟨by first | rfl | (simp [errW_none, errW_some] <;> rfl) | (simp [*, errW_none, errW_some] <;> rfl) | (simp [wrap64]; done), vW HB.out⟩
            ·
             rw [if_neg c36] at H
             exact absurd H (by simp)
           ·
            rw [if_neg c35] at H
            exact absurd H (by simp)
          ·
           rw [if_neg c34] at H
           exact absurd H (by simp)
         ·
          rw [if_neg c33] at H
          have c33b0 : decide (x51_3 < (l0_1.length : Int)) = false := decide_eq_false c33
          clear c33
          obtain rfl := Option.some.inj H
          go_wp2
          repeat (go_quiet (fail); try go_wp2)
          go_ret
          exact ⟨by first | rfl | (simp [errW_none, errW_some] <;> rfl) | (simp [*, errW_none, errW_some] <;> rfl) | (simp [wrap64]; done), vW HB.out⟩
end Go.Proofs.Ytomgebmimgaojaa.QO
end
end
section
/- Written by a program of this session out of the translation. -/
noncomputable section
namespace Go.Proofs.Ytomgebmimgaojaa.QO
open Go.RowKit Go.Proofs.YtomgebmimgaojaaW.PrintWords Go.Proofs.YtomgebmimgaojaaW.PrintLast
set_option linter.unusedVariables false
set_option linter.unusedSimpArgs false
/-! ### gimballaw11_copied: function 21 -/
def gimballaw11_copied.f (l0_0 : List Int) (l0_1 : List Int) (a0_2 : Bool) : Option (List Int × List Int × Bool) := if ([] : List Int).length + l0_0.length < 17592186044416 then (if ([] : List Int).length + l0_1.length < 17592186044416 then (some ((([] : List Int) ++ l0_0), (([] : List Int) ++ l0_1), a0_2)) else (none)) else (none)
set_option maxHeartbeats 8000000 in
set_option maxRecDepth 100000 in
theorem gimballaw11_copied.calls (A0_0 : Option Addr) (c0_0 : Nat) (l0_0 : List Int) (A0_1 : Option Addr) (c0_1 : Nat) (l0_1 : List Int) (a0_2 : Bool) (r1 : List Int) (r2 : List Int) (r3 : Bool) (w : World) (hr0_0 : Kd.C (Kd.int .i64) w A0_0 l0_0.length l0_0) (hc0_0 : l0_0.length ≤ c0_0) (hr0_1 : Kd.C (Kd.int .i64) w A0_1 l0_1.length l0_1) (hc0_1 : l0_1.length ≤ c0_1) (h : gimballaw11_copied.f l0_0 l0_1 a0_2 = some (r1, r2, r3)) :
 Calls Try.prog 21 #[.agg #[.slice A0_0 l0_0.length c0_0, .slice A0_1 l0_1.length c0_1, .bool a0_2]] w fun e w' => ∃ v0_ v1_ : Value, e = .returned (.agg #[v0_, v1_, .bool r3]) ∧ Kd.R (Kd.int .i64) 3 w' w.heap.size (fun _ => True) v0_ r1 ∧ Kd.R (Kd.int .i64) 2 w' w.heap.size (fun _ => True) v1_ r2 ∧ Below w.heap.size w w' := by
 have hu25 := Try.underlying25
 have HR0_0 := Aside0.mk hr0_0
 have HC0_0 := Aside0.mk hc0_0
 clear hr0_0 hc0_0
 have HR0_1 := Aside0.mk hr0_1
 have HC0_1 := Aside0.mk hc0_1
 clear hr0_1 hc0_1
 have HB := Aside0.mk (Below.refl w.heap.size w)
 have H : (if ([] : List Int).length + l0_0.length < 17592186044416 then (if ([] : List Int).length + l0_1.length < 17592186044416 then (some ((([] : List Int) ++ l0_0), (([] : List Int) ++ l0_1), a0_2)) else (none)) else (none)) = some (r1, r2, r3) := h
 clear h
 by_cases c2 : ([] : List Int).length + l0_0.length < 17592186044416
 ·
  rw [if_pos c2] at H
  have LMc2 := Aside0.mk c2
  clear c2
  obtain ⟨y140, hy140⟩ : ∃ y_ : List Int, y_ = (([] : List Int) ++ l0_0) := ⟨_, rfl⟩
  replace H : (if ([] : List Int).length + l0_1.length < 17592186044416 then (some (y140, (([] : List Int) ++ l0_1), a0_2)) else (none)) = some (r1, r2, r3) := by first | (rw [hy140]; with_reducible exact H) | (have H2_ := (Option.bind_some _ _).symm.trans H; rw [hy140]; with_reducible exact H2_) | (have H2_ := (Option.bind_some _ _).symm.trans H; with_reducible exact H2_) | with_reducible exact H | (rw [hy140]; exact H) | exact H
  have Ny140 := Aside0.mk hy140
  clear hy140
  by_cases c3 : ([] : List Int).length + l0_1.length < 17592186044416
  ·
   rw [if_pos c3] at H
   have LMc3 := Aside0.mk c3
   clear c3
   obtain ⟨y143, hy143⟩ : ∃ y_ : List Int, y_ = (([] : List Int) ++ l0_1) := ⟨_, rfl⟩
   replace H : (some (y140, y143, a0_2)) = some (r1, r2, r3) := by first | (rw [hy143]; with_reducible exact H) | (have H2_ := (Option.bind_some _ _).symm.trans H; rw [hy143]; with_reducible exact H2_) | (have H2_ := (Option.bind_some _ _).symm.trans H; with_reducible exact H2_) | with_reducible exact H | (rw [hy143]; exact H) | exact H
   have Ny143 := Aside0.mk hy143
   clear hy143
   simp only [Option.some.injEq, Prod.mk.injEq] at H
   obtain ⟨rfl, rfl, rfl⟩ := H
   go_enter Try.func21, Try.ntmps21
   go_wp2_with (first | ((with_reducible refine gate_dst (N := 1) rfl ?_); refine box_event ?hg (N := 1) ?hd (cs := #[.slice A0_0 l0_0.length c0_0, .slice A0_1 l0_1.length c0_1, .bool a0_2]) (t := 25) ?hr ?_; (case hd => rfl); (case hg => rfl); (case hr => first | (go_simp; done) | (go_simp; rfl)); intro gb137 hg w4 hbox hb; have BK137 := Aside0.mk (hbox); have GW137 := vS hg HB; have GE137 := vS hg HB; replace HB := vWs HB hb; clear hb hbox hg) | ((with_reducible refine gate_dst (N := 2) rfl ?_); refine box_event ?hg (N := 2) ?hd (cs := #[.slice none 0 0, .slice none 0 0, .bool false]) (t := 25) ?hr ?_; (case hd => rfl); (case hg => rfl); (case hr => first | (go_simp; done) | (go_simp; rfl)); intro gb138 hg w5 hbox hb; have BK138 := Aside0.mk (hbox); have GW138 := vS hg HB; have GE138 := vS hg HB; replace HB := vWs HB hb; have NB137_138 := vNl hg BK137; have NB138_137 := vNg hg BK137; replace BK137 := vBb BK137 hb; clear hb hbox hg; have hnb6 := NB137_138.out; have hnc6 := NB138_137.out; obtain ⟨hcz7_0, hcz7_1, hcz7_2, hfz7_0, hfz7_1, hfz7_2⟩ := vF3 BK137.out) | ((with_reducible refine gate_dst (N := 3) rfl ?_); refine box_event ?hg (N := 3) ?hd (cs := #[.slice none 0 0, .slice none 0 0, .bool false]) (t := 25) ?hr ?_; (case hd => rfl); (case hg => rfl); (case hr => first | (go_simp; done) | (go_simp; rfl)); intro gb139 hg w8 hbox hb; have BK139 := Aside0.mk (hbox); have GW139 := vS hg HB; have GE139 := vS hg HB; replace HB := vWs HB hb; have NB137_139 := vNl hg BK137; have NB139_137 := vNg hg BK137; replace BK137 := vBb BK137 hb; have NB138_139 := vNl hg BK138; have NB139_138 := vNg hg BK138; replace BK138 := vBb BK138 hb; clear hb hbox hg; have hnb9 := NB139_137.out; have hnc9 := NB137_139.out; have hnb10 := NB139_138.out; have hnc10 := NB138_139.out; obtain ⟨hcz11_0, hcz11_1, hcz11_2, hfz11_0, hfz11_1, hfz11_2⟩ := vF3 BK139.out; obtain ⟨hcz12_0, hcz12_1, hcz12_2, hfz12_0, hfz12_1, hfz12_2⟩ := vF3 BK137.out) | ((with_reducible refine gate_builtin (b := .append) (xs := #[.tmp 8, .tmp 10]) rfl ?_); at_builtin; refine Kd.R_append_rows (Kd.int .i64) (w0 := w) w.heap.size rfl (.tmp 8) (.tmp 10) 22 3 (.int .i64 0) 8 rfl Try.underlying22 info3 rfl (by decide) (by omega) (.slice none 0 0) ([] : List Int) l0_0 _ _ _ (fun _ => True) (fun _ => False) rfl rfl ?aO ?aR (fun _ _ h => h) (fun _ h => h.elim) ?aF ?aB ?aS ?aL ?_; (case aR => exact Kd.C_below HR0_0.out (vW HB.out)); (case aB => exact (vW HB.out)); (case aF => exact (fun _ _ => trivial)); (case aO => exact ((Kd.R_nil _ _ _ _ (fun _ => True)))); (case aS => exact (below_size (vW HB.out))); (case aL => have := LMc2.out; omega); intro v141 w13 ho hb hg hat; rw [← Ny140.out] at ho; replace BK137 := Aside0.mk (blk_grown (g := gb137) (o := .cells #[.slice A0_0 l0_0.length c0_0, .slice A0_1 l0_1.length c0_1, .bool a0_2] 25 (0, 0)) (vB BK137.out) hg (by simp [Value.ownBlock])); replace BK138 := Aside0.mk (blk_grown (g := gb138) (o := .cells #[.slice none 0 0, .slice none 0 0, .bool false] 25 (0, 0)) (vB BK138.out) hg (by simp [Value.ownBlock])); replace BK139 := Aside0.mk (blk_grown (g := gb139) (o := .cells #[.slice none 0 0, .slice none 0 0, .bool a0_2] 25 (0, 0)) (by (with_reducible repeat (first | refine blk_drewN ?_ _ | refine blk_drew ?_ | refine blk_alloc ?_ _)); refine blk_put (cs := #[.slice none 0 0, .slice none 0 0, .bool false]) ?_ 2 _ rfl; (with_reducible repeat (first | refine blk_drewN ?_ _ | refine blk_drew ?_ | refine blk_alloc ?_ _)); refine blk_put (cs := #[.slice none 0 0, .slice none 0 0, .bool false]) ?_ 1 _ rfl; (with_reducible repeat (first | refine blk_drewN ?_ _ | refine blk_drew ?_ | refine blk_alloc ?_ _)); refine blk_put (cs := #[.slice none 0 0, .slice none 0 0, .bool false]) ?_ 0 _ rfl; (with_reducible repeat (first | refine blk_drewN ?_ _ | refine blk_drew ?_ | refine blk_alloc ?_ _)); exact BK139.out) hg (by simp [Value.ownBlock])); replace HB := Aside0.mk (hb); have HO142 := Aside0.mk (ho); clear ho hb hg hat; obtain ⟨Ao14, co14, eo14⟩ := Kd.R_slice HO142.out; subst eo14; obtain ⟨hcz15_0, hcz15_1, hcz15_2, hfz15_0, hfz15_1, hfz15_2⟩ := vF3 BK139.out; obtain ⟨hcz16_0, hcz16_1, hcz16_2, hfz16_0, hfz16_1, hfz16_2⟩ := vF3 BK137.out) | ((with_reducible refine gate_builtin (b := .append) (xs := #[.tmp 14, .tmp 16]) rfl ?_); at_builtin; refine Kd.R_append_rows (Kd.int .i64) (w0 := w) w.heap.size rfl (.tmp 14) (.tmp 16) 23 2 (.int .i64 0) 8 rfl Try.underlying23 info2 rfl (by decide) (by omega) (.slice none 0 0) ([] : List Int) l0_1 _ _ _ (fun _ => True) (fun _ => False) rfl rfl ?aO ?aR (fun _ _ h => h) (fun _ h => h.elim) ?aF ?aB ?aS ?aL ?_; (case aR => exact Kd.C_below HR0_1.out (vW HB.out)); (case aB => exact (vW HB.out)); (case aF => exact (fun _ _ => trivial)); (case aO => exact ((Kd.R_nil _ _ _ _ (fun _ => True)))); (case aS => exact (below_size (vW HB.out))); (case aL => have := LMc3.out; omega); intro v144 w17 ho hb hg hat; rw [← Ny143.out] at ho; replace BK137 := Aside0.mk (blk_grown (g := gb137) (o := .cells #[.slice A0_0 l0_0.length c0_0, .slice A0_1 l0_1.length c0_1, .bool a0_2] 25 (0, 0)) (vB BK137.out) hg (by simp [Value.ownBlock])); replace BK138 := Aside0.mk (blk_grown (g := gb138) (o := .cells #[.slice none 0 0, .slice none 0 0, .bool false] 25 (0, 0)) (vB BK138.out) hg (by simp [Value.ownBlock])); replace HO142 := Aside0.mk (Kd.R_grown (vT HO142.out BK139.out) hg (fun _ _ => by simp [Value.ownBlock])); replace BK139 := Aside0.mk (blk_grown (g := gb139) (o := .cells #[.slice Ao14 y140.length co14, .slice none 0 0, .bool a0_2] 25 (0, 0)) (by (with_reducible repeat (first | refine blk_drewN ?_ _ | refine blk_drew ?_ | refine blk_alloc ?_ _)); refine blk_put (cs := #[.slice none 0 0, .slice none 0 0, .bool a0_2]) ?_ 0 _ rfl; (with_reducible repeat (first | refine blk_drewN ?_ _ | refine blk_drew ?_ | refine blk_alloc ?_ _)); exact BK139.out) hg (by simp [Value.ownBlock])); replace HB := Aside0.mk (hb); have HO145 := Aside0.mk (ho); clear ho hb hg hat; obtain ⟨Ao18, co18, eo18⟩ := Kd.R_slice HO145.out; subst eo18; obtain ⟨hcz19_0, hcz19_1, hcz19_2, hfz19_0, hfz19_1, hfz19_2⟩ := vF3 BK139.out; obtain ⟨hcz20_0, hcz20_1, hcz20_2, hfz20_0, hfz20_1, hfz20_2⟩ := vF3 BK138.out))
   refine bodyPost_ret (results_cell_row rfl _ _ gb138 25 #[.slice Ao14 y140.length co14, .slice Ao18 y143.length co18, .bool a0_2] (0, 0) _ rfl (by (with_reducible repeat (first | refine blk_drewN ?_ _ | refine blk_drew ?_ | refine blk_alloc ?_ _)); refine blk_put (cs := #[.slice Ao14 y140.length co14, .slice Ao18 y143.length co18, .bool false]) ?_ 2 _ rfl; (with_reducible repeat (first | refine blk_drewN ?_ _ | refine blk_drew ?_ | refine blk_alloc ?_ _)); refine blk_put (cs := #[.slice Ao14 y140.length co14, .slice none 0 0, .bool false]) ?_ 1 _ rfl; (with_reducible repeat (first | refine blk_drewN ?_ _ | refine blk_drew ?_ | refine blk_alloc ?_ _)); refine blk_put (cs := #[.slice none 0 0, .slice none 0 0, .bool false]) ?_ 0 _ rfl; (with_reducible repeat (first | refine blk_drewN ?_ _ | refine blk_drew ?_ | refine blk_alloc ?_ _)); refine blk_far ?_ NB138_139.out _; (with_reducible repeat (first | refine blk_drewN ?_ _ | refine blk_drew ?_ | refine blk_alloc ?_ _)); exact BK138.out) Try.underlying25 rfl (by kernel_rfl)) rfl ?_
   exact ⟨_, _, by first | rfl | (simp [errW_none, errW_some] <;> rfl) | (simp [*, errW_none, errW_some] <;> rfl) | (simp [wrap64]; done), by (with_reducible repeat (first | apply Kd.R_alloc | apply Kd.R_drewN | apply Kd.R_drew)); exact Kd.R_mono (Kd.R_far (p := ⟨gb138, 2, none⟩) (Kd.R_far (p := ⟨gb138, 1, none⟩) (Kd.R_far (p := ⟨gb138, 0, none⟩) (Kd.R_far (p := ⟨gb139, 1, none⟩) (Kd.R_types (Kd.R_types HO142.out BK139.out (by decide)) BK138.out (by decide)) (fun _ hk => hk.1.2) (.slice Ao18 y143.length co18)) (fun _ hk => hk.2) (.slice Ao14 y140.length co14)) (fun _ hk => hk.2) (.slice Ao18 y143.length co18)) (fun _ hk => hk.2) (.bool a0_2)) (fun _ hk => trivial), by (with_reducible repeat (first | apply Kd.R_alloc | apply Kd.R_drewN | apply Kd.R_drew)); exact Kd.R_mono (Kd.R_far (p := ⟨gb138, 2, none⟩) (Kd.R_far (p := ⟨gb138, 1, none⟩) (Kd.R_far (p := ⟨gb138, 0, none⟩) (Kd.R_far (p := ⟨gb139, 1, none⟩) (Kd.R_types (Kd.R_types HO145.out BK139.out (by decide)) BK138.out (by decide)) (fun _ hk => hk.1.2) (.slice Ao18 y143.length co18)) (fun _ hk => hk.2) (.slice Ao14 y140.length co14)) (fun _ hk => hk.2) (.slice Ao18 y143.length co18)) (fun _ hk => hk.2) (.bool a0_2)) (fun _ hk => trivial), vW HB.out⟩
  ·
   rw [if_neg c3] at H
   exact absurd H (by simp)
 ·
  rw [if_neg c2] at H
  exact absurd H (by simp)
end Go.Proofs.Ytomgebmimgaojaa.QO
end
end
section
/- Written by a program of this session out of the translation. -/
noncomputable section
namespace Go.Proofs.Ytomgebmimgaojaa.QO
open Go.RowKit Go.Proofs.YtomgebmimgaojaaW.PrintWords Go.Proofs.YtomgebmimgaojaaW.PrintLast
set_option linter.unusedVariables false
set_option linter.unusedSimpArgs false
/-! ### gimballaw11_spoil: function 24 -/
mutual
def gimballaw11_spoil.l0 : Nat → Int → Int → List Int → List Int → Bool → Option (List Int × List Int)
 | 0, _, _, _, _, _ => none
 | k + 1, x6, x7, x228000, x228001, x228002 => if x7 < x6 then (if 0 ≤ x7 then (if x7 < (x228001.length : Int) then (gimballaw11_spoil.l0 k x6 (wrap64 (x7 + 1)) x228000 (x228001.set (x7 : Int).toNat 77) x228002) else (none)) else (none)) else (gimballaw11_spoil.l1 k (x228000.length : Int) 0 x228000 x228001 x228002)
def gimballaw11_spoil.l1 : Nat → Int → Int → List Int → List Int → Bool → Option (List Int × List Int)
 | 0, _, _, _, _, _ => none
 | k + 1, x17, x18, x228000, x228001, x228002 => if x18 < x17 then (if 0 ≤ x18 then (if x18 < (x228000.length : Int) then (gimballaw11_spoil.l1 k x17 (wrap64 (x18 + 1)) (x228000.set (x18 : Int).toNat 88) x228001 x228002) else (none)) else (none)) else (some (x228000, x228001))
end
def gimballaw11_spoil.f (k : Nat) (l0_0 : List Int) (l0_1 : List Int) (a0_2 : Bool) : Option (List Int × List Int) := gimballaw11_spoil.l0 k (l0_1.length : Int) 0 l0_0 l0_1 a0_2
theorem gimballaw11_spoil.mono_l : ∀ k, (∀ y0 y1 y2 y3 y4, LeO (gimballaw11_spoil.l0 k y0 y1 y2 y3 y4) (gimballaw11_spoil.l0 (k + 1) y0 y1 y2 y3 y4)) ∧ (∀ y0 y1 y2 y3 y4, LeO (gimballaw11_spoil.l1 k y0 y1 y2 y3 y4) (gimballaw11_spoil.l1 (k + 1) y0 y1 y2 y3 y4))
 | 0 => ⟨fun _ _ _ _ _ r h => by simp [gimballaw11_spoil.l0] at h, fun _ _ _ _ _ r h => by simp [gimballaw11_spoil.l1] at h⟩
 | k + 1 => by
  obtain ⟨ih0, ih1⟩ := gimballaw11_spoil.mono_l k
  refine ⟨?_, ?_⟩
  ·
   intro y0 y1 y2 y3 y4
   unfold gimballaw11_spoil.l0
   repeat' first
   | (with_reducible exact ih0 _ _ _ _ _)
   | (with_reducible exact ih1 _ _ _ _ _)
   | (with_reducible exact LeO.refl _)
   | (with_reducible exact LeO.none _)
   | (with_reducible refine LeO.ite ?_ ?_)
   | (with_reducible refine LeO.bind ?_ (fun _ => ?_))
   | exact ih0 _ _ _ _ _
   | exact ih1 _ _ _ _ _
   | exact LeO.none _
   | refine LeO.ite ?_ ?_
   | refine LeO.bind ?_ (fun _ => ?_)
  ·
   intro y0 y1 y2 y3 y4
   unfold gimballaw11_spoil.l1
   repeat' first
   | (with_reducible exact ih0 _ _ _ _ _)
   | (with_reducible exact ih1 _ _ _ _ _)
   | (with_reducible exact LeO.refl _)
   | (with_reducible exact LeO.none _)
   | (with_reducible refine LeO.ite ?_ ?_)
   | (with_reducible refine LeO.bind ?_ (fun _ => ?_))
   | exact ih0 _ _ _ _ _
   | exact ih1 _ _ _ _ _
   | exact LeO.none _
   | refine LeO.ite ?_ ?_
   | refine LeO.bind ?_ (fun _ => ?_)
theorem gimballaw11_spoil.mono : ∀ a0 a1 a2 k, LeO (gimballaw11_spoil.f k a0 a1 a2) (gimballaw11_spoil.f (k + 1) a0 a1 a2) := by
 intro a0 a1 a2 k
 obtain ⟨ih0, ih1⟩ := gimballaw11_spoil.mono_l k
 unfold gimballaw11_spoil.f
 repeat' first
  | (with_reducible exact ih0 _ _ _ _ _)
  | (with_reducible exact ih1 _ _ _ _ _)
  | (with_reducible exact LeO.refl _)
  | (with_reducible exact LeO.none _)
  | (with_reducible refine LeO.ite ?_ ?_)
  | (with_reducible refine LeO.bind ?_ (fun _ => ?_))
  | exact ih0 _ _ _ _ _
  | exact ih1 _ _ _ _ _
  | exact LeO.none _
  | refine LeO.ite ?_ ?_
  | refine LeO.bind ?_ (fun _ => ?_)
set_option maxHeartbeats 8000000 in
set_option maxRecDepth 100000 in
theorem gimballaw11_spoil.calls (k : Nat) (P0_0_ : Nat → Prop) (u9000_ : Value) (l0_0 : List Int) (P0_1_ : Nat → Prop) (u9001_ : Value) (l0_1 : List Int) (a0_2 : Bool) (r1 : List Int) (r2 : List Int) (w0 w : World) (hB : Below w0.heap.size w0 w) (ho0_0 : Kd.R (Kd.int .i64) 3 w w0.heap.size P0_0_ u9000_ l0_0) (ho0_1 : Kd.R (Kd.int .i64) 2 w w0.heap.size P0_1_ u9001_ l0_1) (h : gimballaw11_spoil.f k l0_0 l0_1 a0_2 = some (r1, r2)) :
 Calls Try.prog 24 #[.agg #[u9000_, u9001_, .bool a0_2]] w fun e w' => e = .returned (.tuple #[]) ∧ Kd.R (Kd.int .i64) 3 w' w0.heap.size (fun k_ => ((P0_0_ k_ ∨ P0_1_ k_) ∨ w.heap.size ≤ k_)) u9000_ r1 ∧ Kd.R (Kd.int .i64) 2 w' w0.heap.size (fun k_ => ((P0_0_ k_ ∨ P0_1_ k_) ∨ w.heap.size ≤ k_)) u9001_ r2 ∧ Below w0.heap.size w0 w' ∧ Kept w w' (fun k_ => P0_0_ k_ ∨ P0_1_ k_) := by
 have hu25 := Try.underlying25
 have HO0_0 := Aside0.mk (show Kd.R (Kd.int .i64) 3 w w0.heap.size (fun k_ => ((P0_0_ k_ ∨ P0_1_ k_) ∨ w.heap.size ≤ k_)) u9000_ l0_0 from Kd.R_mono ho0_0 (fun k_ hk => (.inl (.inl hk))))
 have HO0_1 := Aside0.mk (show Kd.R (Kd.int .i64) 2 w w0.heap.size (fun k_ => ((P0_0_ k_ ∨ P0_1_ k_) ∨ w.heap.size ≤ k_)) u9001_ l0_1 from Kd.R_mono ho0_1 (fun k_ hk => (.inl (.inr hk))))
 have HK := Aside0.mk (Kept.refl w (fun k_ => P0_0_ k_ ∨ P0_1_ k_))
 have HW0 := Aside0.mk hB.size
 have HB := Aside0.mk hB
 clear hB
 have H : (gimballaw11_spoil.l0 k (l0_1.length : Int) 0 l0_0 l0_1 a0_2) = some (r1, r2) := h
 clear h
 have H' := Aside0.mk H
 clear H
 obtain ⟨Ao2, co2, eo2⟩ := Kd.R_slice HO0_0.out
 subst eo2
 obtain ⟨Ao3, co3, eo3⟩ := Kd.R_slice HO0_1.out
 subst eo3
 go_enter Try.func24, Try.ntmps24
 go_wp2_with ((with_reducible refine gate_dst (N := 1) rfl ?_); refine box_event ?hg (N := 1) ?hd (cs := #[.slice Ao2 l0_0.length co2, .slice Ao3 l0_1.length co3, .bool a0_2]) (t := 25) ?hr ?_; (case hd => rfl); (case hg => rfl); (case hr => first | (go_simp; done) | (go_simp; rfl)); intro gb227 hg w4 hbox hb; replace HO0_0 := vRb HO0_0 hb; replace HO0_1 := vRb HO0_1 hb; have BK227 := Aside0.mk (hbox); have GW227 := Aside0.mk ((by rw [hg]; exact (by first | exact HK.out.1 | exact (show Kept w _ (fun k_ => P0_0_ k_ ∨ P0_1_ k_) from by repeat (first | (with_reducible first | exact HK.out | apply Kept.alloc | apply Kept.drewN | apply Kept.drew) | exact HK.out)).1) : w.heap.size ≤ gb227)); replace HK := Aside0.mk (Kept.below (S := (fun k_ => P0_0_ k_ ∨ P0_1_ k_)) (by repeat (first | (with_reducible first | exact HK.out | apply Kept.alloc | apply Kept.drewN | apply Kept.drew) | exact HK.out)) hb); have GE227 := vS hg HB; replace HB := vWs HB hb; clear hb hbox hg; obtain ⟨hcz5_0, hcz5_1, hcz5_2, hfz5_0, hfz5_1, hfz5_2⟩ := vF3 BK227.out)
 go_loopg [7] k (fun kq v7 w' => ∃ (x7_1 : Int) (x228001_1 : List Int), v7 = .int .i64 x7_1 ∧ Aside0 (gimballaw11_spoil.l0 kq (l0_1.length : Int) x7_1 l0_0 x228001_1 a0_2 = some (r1, r2)) ∧ Aside0 (kq ≤ k) ∧ Aside0 (Kd.R (Kd.int .i64) 3 w' w0.heap.size (fun k_ => ((P0_0_ k_ ∨ P0_1_ k_) ∨ w.heap.size ≤ k_)) (.slice Ao2 l0_0.length co2) l0_0) ∧ Aside0 (Kd.R (Kd.int .i64) 2 w' w0.heap.size (fun k_ => ((P0_0_ k_ ∨ P0_1_ k_) ∨ w.heap.size ≤ k_)) (.slice Ao3 l0_1.length co3) x228001_1) ∧ Aside0 (w'.heap[gb227]? = some (.cells #[(.slice Ao2 l0_0.length co2), (.slice Ao3 l0_1.length co3), .bool a0_2] 25 (0, 0))) ∧ Aside0 (Kept w w' (fun k_ => P0_0_ k_ ∨ P0_1_ k_)) ∧ Aside0 (Below w0.heap.size w0 w'))
 case atStart => exact ⟨(0), (l0_1), (by first | rfl | (simp; done) | (simp [*]; done)), H', ⟨Nat.le_refl _⟩, ⟨vR HO0_0.out⟩, ⟨vR HO0_1.out⟩, ⟨vB BK227.out⟩, ⟨by repeat (first | (with_reducible first | exact HK.out | apply Kept.alloc | apply Kept.drewN | apply Kept.drew | refine Kept.setCell ?_ (.inr GW227.out) _) | exact HK.out)⟩, ⟨vW HB.out⟩⟩
 case round =>
  clear H'
  try clear hcz5_0
  try clear hcz5_1
  try clear hcz5_2
  try clear hfz5_0
  try clear hfz5_1
  try clear hfz5_2
  obtain ⟨x7_1, x228001_1, rfl, HA, HK1, HO_228000, HO_228001, BK227, HK, HB⟩ := hrel
  have hl228001_1 := (Kd.R_reads' HO_228001.out).1
  rw [hl228001_1] at HO_228001
  (try simp only [hl228001_1])
  (try simp only [hl228001_1] at BK227)
  (try simp only [hl228001_1] at HO_228000)
  cases gk with
  | zero => exact absurd HA.out (by simp [gimballaw11_spoil.l0])
  | succ k1 =>
   have H := HA.out
   clear HA
   simp only [gimballaw11_spoil.l0] at H
   by_cases c6 : x7_1 < (l0_1.length : Int)
   ·
    rw [if_pos c6] at H
    have c6b0 : decide (x7_1 < (l0_1.length : Int)) = true := decide_eq_true c6
    clear c6
    by_cases c7 : 0 ≤ x7_1
    ·
     rw [if_pos c7] at H
     have c7b0 : decide (0 ≤ x7_1) = true := decide_eq_true c7
     clear c7
     by_cases c8 : x7_1 < (x228001_1.length : Int)
     ·
      rw [if_pos c8] at H
      have c8b0 : decide (x7_1 < (x228001_1.length : Int)) = true := decide_eq_true c8
      clear c8
      obtain ⟨y228, hy228⟩ : ∃ y_ : List Int, y_ = (x228001_1.set (x7_1 : Int).toNat 77) := ⟨_, rfl⟩
      replace H : (gimballaw11_spoil.l0 k1 (l0_1.length : Int) (wrap64 (x7_1 + 1)) l0_0 y228 a0_2) = some (r1, r2) := by first | (rw [hy228]; with_reducible exact H) | (have H2_ := (Option.bind_some _ _).symm.trans H; rw [hy228]; with_reducible exact H2_) | (have H2_ := (Option.bind_some _ _).symm.trans H; with_reducible exact H2_) | with_reducible exact H | (rw [hy228]; exact H) | exact H
      have Ny228 := Aside0.mk hy228
      clear hy228
      have H' := Aside0.mk H
      clear H
      obtain ⟨hcz10_0, hcz10_1, hcz10_2, hfz10_0, hfz10_1, hfz10_2⟩ := vF3 BK227.out
      have p9 : 0 ≤ (x7_1 : Int) := of_decide_eq_true (by first | (with_reducible assumption) | assumption)
      have q9 : (x7_1 : Int) < ((x228001_1.length : Int) : Int) := of_decide_eq_true (by first | (with_reducible assumption) | assumption)
      obtain ⟨go9, co9, eo9, gb9, gl9, cl9, HG9⟩ := Kd.R_form HO_228001.out (by omega)
      (first | cases eo9 | (injection eo9 with ea_ en_ ec_; (first | subst ea_ | (injection ea_ with ea_; subst ea_)); subst ec_; clear en_))
      have GB9 := Aside0.mk gb9
      have GG9 := Aside0.mk HG9
      clear gb9 gl9 HG9
      have HMgo9 := Aside0.mk (show ((P0_0_ go9 ∨ P0_1_ go9) ∨ w.heap.size ≤ go9) from (HO_228001.out.1 _ rfl))
      obtain ⟨hx9_0, hf9_0⟩ := Kd.R_celln 0 HO_228001.out (x7_1 : Int) p9 q9
      replace p9 := eq_true p9
      replace q9 := eq_true q9
      have HP11 := Kd.R_putg HO_228001.out (x7_1 : Int) 77
      go_wp2_with ((with_reducible refine gate_store (t := 2) (p := 13) rfl ?_); refine store_event (t := 2) (p := 13) (v := ?vo_w12) (w1 := (wr.setCell ⟨go9, (x7_1 : Int).toNat, none⟩ (.int .i64 77))) ?hg ?ho ?hn ?hr ?_; (case ho => rfl); (case hg => rfl); (case hn => rfl); (case hr => first | (go_simp; done) | (go_simp; rfl)); intro w12 hw; have hg : wr.grownBy w12 (some go9) := (by rw [hw]; exact HP11.2); have hp_ : Kd.R (Kd.int .i64) 2 w12 w0.heap.size (fun k_ => ((P0_0_ k_ ∨ P0_1_ k_) ∨ w.heap.size ≤ k_)) (.slice (some ⟨go9, 0, none⟩) x228001_1.length co3) y228 := (by rw [hw, Ny228.out]; exact HP11.1); clear HP11; replace HO_228000 := Aside0.mk (Kd.R_over' (v := (.slice (some ⟨go9, 0, none⟩) x228001_1.length co3)) (vR HO_228000.out) (Kd.R_typed HO_228001.out) (by decide) hg); replace BK227 := Aside0.mk (blk_grown (g := gb227) (o := .cells #[.slice Ao2 l0_0.length co2, .slice (some ⟨go9, 0, none⟩) x228001_1.length co3, .bool a0_2] 25 (0, 0)) (vB BK227.out) hg (Kd.R_ne HO_228001.out BK227.out (by decide))); replace HB := Aside0.mk ((by rw [hw]; exact below_set (HB.out) GB9.out : Below w0.heap.size w0 w12)); replace HK := Aside0.mk (Kept.of_grown (S := (fun k_ => P0_0_ k_ ∨ P0_1_ k_)) hg (by repeat (first | (with_reducible first | exact HK.out | apply Kept.alloc | apply Kept.drewN | apply Kept.drew | refine Kept.setCell ?_ (.inr GW227.out) _) | exact HK.out)) (fun k_ e_ => (HO_228001.out.1 k_ e_))); replace HO_228001 := Aside0.mk (hp_); clear hg hw hp_)
      (try simp only [← hl228001_1])
      go_roundg k1
      case measure => have := HK1.out; omega
      case rel => exact ⟨(wrap64 (x7_1 + 1)), (y228), (by first | rfl | (simp; done) | (simp [*]; done)), H', ⟨by have := HK1.out; omega⟩, ⟨by (try simp only [hl228001_1]); (with_reducible repeat (first | apply Kd.R_alloc | apply Kd.R_drewN | apply Kd.R_drew)); exact HO_228000.out⟩, ⟨by (try simp only [hl228001_1]); (with_reducible repeat (first | apply Kd.R_alloc | apply Kd.R_drewN | apply Kd.R_drew)); exact HO_228001.out⟩, ⟨by (try simp only [hl228001_1]); (with_reducible repeat (first | refine blk_drewN ?_ _ | refine blk_drew ?_ | refine blk_alloc ?_ _)); exact BK227.out⟩, ⟨by repeat (first | (with_reducible first | exact HK.out | apply Kept.alloc | apply Kept.drewN | apply Kept.drew | refine Kept.setCell ?_ (.inr GW227.out) _) | exact HK.out)⟩, ⟨vW HB.out⟩⟩
     ·
      rw [if_neg c8] at H
      exact absurd H (by simp)
    ·
     rw [if_neg c7] at H
     exact absurd H (by simp)
   ·
    rw [if_neg c6] at H
    have c6b0 : decide (x7_1 < (l0_1.length : Int)) = false := decide_eq_false c6
    try (have c6b1 := c6b0; simp only [hl228001_1] at c6b1)
    clear c6
    have H' := Aside0.mk H
    clear H
    obtain ⟨hcz13_0, hcz13_1, hcz13_2, hfz13_0, hfz13_1, hfz13_2⟩ := vF3 BK227.out
    go_wp2
    go_loopg [18] k1 (fun kq v18 w' => ∃ (x18_2 : Int) (x228000_2 : List Int), v18 = .int .i64 x18_2 ∧ Aside0 (gimballaw11_spoil.l1 kq (l0_0.length : Int) x18_2 x228000_2 x228001_1 a0_2 = some (r1, r2)) ∧ Aside0 (kq ≤ k1) ∧ Aside0 (Kd.R (Kd.int .i64) 3 w' w0.heap.size (fun k_ => ((P0_0_ k_ ∨ P0_1_ k_) ∨ w.heap.size ≤ k_)) (.slice Ao2 l0_0.length co2) x228000_2) ∧ Aside0 (Kd.R (Kd.int .i64) 2 w' w0.heap.size (fun k_ => ((P0_0_ k_ ∨ P0_1_ k_) ∨ w.heap.size ≤ k_)) (.slice Ao3 x228001_1.length co3) x228001_1) ∧ Aside0 (w'.heap[gb227]? = some (.cells #[(.slice Ao2 l0_0.length co2), (.slice Ao3 x228001_1.length co3), .bool a0_2] 25 (0, 0))) ∧ Aside0 (Kept w w' (fun k_ => P0_0_ k_ ∨ P0_1_ k_)) ∧ Aside0 (Below w0.heap.size w0 w'))
    case atStart => exact ⟨(0), (l0_0), (by first | rfl | (simp; done) | (simp [*]; done)), H', ⟨Nat.le_refl _⟩, ⟨by (try simp only [hl228001_1]); (with_reducible repeat (first | apply Kd.R_alloc | apply Kd.R_drewN | apply Kd.R_drew)); exact HO_228000.out⟩, ⟨by (try simp only [hl228001_1]); (with_reducible repeat (first | apply Kd.R_alloc | apply Kd.R_drewN | apply Kd.R_drew)); exact HO_228001.out⟩, ⟨by (try simp only [hl228001_1]); (with_reducible repeat (first | refine blk_drewN ?_ _ | refine blk_drew ?_ | refine blk_alloc ?_ _)); exact BK227.out⟩, ⟨by repeat (first | (with_reducible first | exact HK.out | apply Kept.alloc | apply Kept.drewN | apply Kept.drew | refine Kept.setCell ?_ (.inr GW227.out) _) | exact HK.out)⟩, ⟨vW HB.out⟩⟩
    case round =>
     clear H'
     try clear c6b0
     try clear hcz13_0
     try clear hcz13_1
     try clear hcz13_2
     try clear hfz13_0
     try clear hfz13_1
     try clear hfz13_2
     obtain ⟨x18_2, x228000_2, rfl, HA, HK2, HO_228000, HO_228001, BK227, HK, HB⟩ := hrel
     have hl228000_2 := (Kd.R_reads' HO_228000.out).1
     rw [hl228000_2] at HO_228000
     (try simp only [hl228000_2])
     (try simp only [hl228000_2] at BK227)
     (try simp only [hl228000_2] at HO_228001)
     cases gk with
     | zero => exact absurd HA.out (by simp [gimballaw11_spoil.l1])
     | succ k2 =>
      have H := HA.out
      clear HA
      simp only [gimballaw11_spoil.l1] at H
      by_cases c14 : x18_2 < (l0_0.length : Int)
      ·
       rw [if_pos c14] at H
       have c14b0 : decide (x18_2 < (l0_0.length : Int)) = true := decide_eq_true c14
       clear c14
       by_cases c15 : 0 ≤ x18_2
       ·
        rw [if_pos c15] at H
        have c15b0 : decide (0 ≤ x18_2) = true := decide_eq_true c15
        clear c15
        by_cases c16 : x18_2 < (x228000_2.length : Int)
        ·
         rw [if_pos c16] at H
         have c16b0 : decide (x18_2 < (x228000_2.length : Int)) = true := decide_eq_true c16
         clear c16
         obtain ⟨y229, hy229⟩ : ∃ y_ : List Int, y_ = (x228000_2.set (x18_2 : Int).toNat 88) := ⟨_, rfl⟩
         replace H : (gimballaw11_spoil.l1 k2 (l0_0.length : Int) (wrap64 (x18_2 + 1)) y229 x228001_1 a0_2) = some (r1, r2) := by first | (rw [hy229]; with_reducible exact H) | (have H2_ := (Option.bind_some _ _).symm.trans H; rw [hy229]; with_reducible exact H2_) | (have H2_ := (Option.bind_some _ _).symm.trans H; with_reducible exact H2_) | with_reducible exact H | (rw [hy229]; exact H) | exact H
         have Ny229 := Aside0.mk hy229
         clear hy229
         have H' := Aside0.mk H
         clear H
         obtain ⟨hcz18_0, hcz18_1, hcz18_2, hfz18_0, hfz18_1, hfz18_2⟩ := vF3 BK227.out
         have p17 : 0 ≤ (x18_2 : Int) := of_decide_eq_true (by first | (with_reducible assumption) | assumption)
         have q17 : (x18_2 : Int) < ((x228000_2.length : Int) : Int) := of_decide_eq_true (by first | (with_reducible assumption) | assumption)
         obtain ⟨go17, co17, eo17, gb17, gl17, cl17, HG17⟩ := Kd.R_form HO_228000.out (by omega)
         (first | cases eo17 | (injection eo17 with ea_ en_ ec_; (first | subst ea_ | (injection ea_ with ea_; subst ea_)); subst ec_; clear en_))
         have GB17 := Aside0.mk gb17
         have GG17 := Aside0.mk HG17
         clear gb17 gl17 HG17
         have HMgo17 := Aside0.mk (show ((P0_0_ go17 ∨ P0_1_ go17) ∨ w.heap.size ≤ go17) from (HO_228000.out.1 _ rfl))
         obtain ⟨hx17_0, hf17_0⟩ := Kd.R_celln 0 HO_228000.out (x18_2 : Int) p17 q17
         replace p17 := eq_true p17
         replace q17 := eq_true q17
         have HP19 := Kd.R_putg HO_228000.out (x18_2 : Int) 88
         go_wp2_with ((with_reducible refine gate_store (t := 3) (p := 24) rfl ?_); refine store_event (t := 3) (p := 24) (v := ?vo_w20) (w1 := (wr.setCell ⟨go17, (x18_2 : Int).toNat, none⟩ (.int .i64 88))) ?hg ?ho ?hn ?hr ?_; (case ho => rfl); (case hg => rfl); (case hn => rfl); (case hr => first | (go_simp; done) | (go_simp; rfl)); intro w20 hw; have hg : wr.grownBy w20 (some go17) := (by rw [hw]; exact HP19.2); have hp_ : Kd.R (Kd.int .i64) 3 w20 w0.heap.size (fun k_ => ((P0_0_ k_ ∨ P0_1_ k_) ∨ w.heap.size ≤ k_)) (.slice (some ⟨go17, 0, none⟩) x228000_2.length co2) y229 := (by rw [hw, Ny229.out]; exact HP19.1); clear HP19; replace HO_228001 := Aside0.mk (Kd.R_over' (v := (.slice (some ⟨go17, 0, none⟩) x228000_2.length co2)) (vR HO_228001.out) (Kd.R_typed HO_228000.out) (by decide) hg); replace BK227 := Aside0.mk (blk_grown (g := gb227) (o := .cells #[.slice (some ⟨go17, 0, none⟩) x228000_2.length co2, .slice Ao3 x228001_1.length co3, .bool a0_2] 25 (0, 0)) (vB BK227.out) hg (Kd.R_ne HO_228000.out BK227.out (by decide))); replace HB := Aside0.mk ((by rw [hw]; exact below_set (HB.out) GB17.out : Below w0.heap.size w0 w20)); replace HK := Aside0.mk (Kept.of_grown (S := (fun k_ => P0_0_ k_ ∨ P0_1_ k_)) hg (by repeat (first | (with_reducible first | exact HK.out | apply Kept.alloc | apply Kept.drewN | apply Kept.drew | refine Kept.setCell ?_ (.inr GW227.out) _) | exact HK.out)) (fun k_ e_ => (HO_228000.out.1 k_ e_))); replace HO_228000 := Aside0.mk (hp_); clear hg hw hp_)
         (try simp only [← hl228000_2])
         go_roundg k2
         case measure => have := HK1.out; have := HK2.out; omega
         case rel => exact ⟨(wrap64 (x18_2 + 1)), (y229), (by first | rfl | (simp; done) | (simp [*]; done)), H', ⟨by have := HK1.out; have := HK2.out; omega⟩, ⟨by (try simp only [hl228001_1]); (try simp only [hl228000_2]); (with_reducible repeat (first | apply Kd.R_alloc | apply Kd.R_drewN | apply Kd.R_drew)); exact HO_228000.out⟩, ⟨by (try simp only [hl228001_1]); (try simp only [hl228000_2]); (with_reducible repeat (first | apply Kd.R_alloc | apply Kd.R_drewN | apply Kd.R_drew)); exact HO_228001.out⟩, ⟨by (try simp only [hl228001_1]); (try simp only [hl228000_2]); (with_reducible repeat (first | refine blk_drewN ?_ _ | refine blk_drew ?_ | refine blk_alloc ?_ _)); exact BK227.out⟩, ⟨by repeat (first | (with_reducible first | exact HK.out | apply Kept.alloc | apply Kept.drewN | apply Kept.drew | refine Kept.setCell ?_ (.inr GW227.out) _) | exact HK.out)⟩, ⟨vW HB.out⟩⟩
        ·
         rw [if_neg c16] at H
         exact absurd H (by simp)
       ·
        rw [if_neg c15] at H
        exact absurd H (by simp)
      ·
       rw [if_neg c14] at H
       have c14b0 : decide (x18_2 < (l0_0.length : Int)) = false := decide_eq_false c14
       try (have c14b1 := c14b0; simp only [hl228001_1] at c14b1)
       try (have c14b2 := c14b0; simp only [hl228000_2] at c14b2)
       clear c14
       simp only [Option.some.injEq, Prod.mk.injEq] at H
       obtain ⟨rfl, rfl⟩ := H
       go_wp2
       first | go_end0 | ((try simp only [Exit.inBlock, Exit.then]); refine bodyPost_ret (results_none rfl _ _ _) rfl ?_)
       exact ⟨by first | rfl | (simp [errW_none, errW_some] <;> rfl) | (simp [*, errW_none, errW_some] <;> rfl) | (simp [wrap64]; done), (by first | exact (vR HO_228000.out) | (simp only [hl228001_1, hl228000_2]; exact (vR HO_228000.out))), (by first | exact (vR HO_228001.out) | (simp only [hl228001_1, hl228000_2]; exact (vR HO_228001.out))), vW HB.out, by repeat (first | (with_reducible first | exact HK.out | apply Kept.alloc | apply Kept.drewN | apply Kept.drew | refine Kept.setCell ?_ (.inr GW227.out) _) | exact HK.out)⟩
end Go.Proofs.Ytomgebmimgaojaa.QO
end
end
section
/- Facts for the laws on octagons: equal octagons are told equal, the probe that the program is awake holds, what was handed out may be written over. -/
noncomputable section
namespace Go.Proofs.Ytomgebmimgaojaa.Pure
open Go.RowKit Go.Proofs.Ytomgebmimgaojaa.QO Go.Proofs.YtomgebmimgaojaaW.PrintWords Go.Proofs.YtomgebmimgaojaaW.PrintLast Go.Proofs.YtomgebmimgaojaaW.PrintMore
namespace Octs
theorem grow {α : Type} {g : Nat → Option α} (m : ∀ k, LeO (g k) (g (k + 1))) {n : Nat} {v : α} (h : g n = some v) : ∀ k, n ≤ k → g k = some v := by
  intro k hk
  induction k with
  | zero => rw [← h]; congr 1; omega
  | succ k ih =>
    by_cases e : n = k + 1
    · rw [← e]; exact h
    · exact m k _ (ih (by omega))
def M (n : Nat) : List Int := (List.range (4 * n * n)).map fun p => if p % (2 * n + 1) = 0 then 0 else 4611686018427387904
theorem news : ∀ n : Nat, n < 9 → dbm_New.f 300 (2 * (n : Int)) = some (M n) := by decide +kernel
theorem new_at (n : Nat) (h : n < 9) (k : Nat) (hk : 300 ≤ k) : dbm_New.f k (2 * (n : Int)) = some (M n) := grow (g := fun k => dbm_New.f k (2 * (n : Int))) (dbm_New.mono _) (news n h) k hk
theorem eq_l1 (a b : List Int) (e : Bool) (hb : b.length < 4611686018427387904) : ∀ d k i : Nat, i + d = b.length → gimbalref11_Equal.l1 (k + d + 1) b.length i a b e a b e = some true := by
  intro d
  induction d with
  | zero => intro k i h; unfold gimbalref11_Equal.l1; rw [if_neg (by omega)]
  | succ d ih =>
    intro k i h
    have hw : wrap64 ((i : Int) + 1) = ((i + 1 : Nat) : Int) := by unfold wrap64; omega
    unfold gimbalref11_Equal.l1
    rw [if_pos (by omega), if_pos (by omega), if_pos (by omega), if_pos (by omega), if_pos rfl, hw]
    exact ih k (i + 1) (by omega)
theorem eq_l0 (a b : List Int) (e : Bool) (ha : a.length < 4611686018427387904) (hb : b.length < 4611686018427387904) : ∀ d k i : Nat, i + d = a.length → gimbalref11_Equal.l0 (k + b.length + 1 + d + 1) a.length i a b e a b e = some true := by
  intro d
  induction d with
  | zero => intro k i h; unfold gimbalref11_Equal.l0; rw [if_neg (by omega)]; exact eq_l1 a b e hb b.length k 0 (by omega)
  | succ d ih =>
    intro k i h
    have hw : wrap64 ((i : Int) + 1) = ((i + 1 : Nat) : Int) := by unfold wrap64; omega
    unfold gimbalref11_Equal.l0
    rw [if_pos (by omega), if_pos (by omega), if_pos (by omega), if_pos (by omega), if_pos rfl, hw]
    exact ih k (i + 1) (by omega)
theorem eq_self (a b : List Int) (e : Bool) (ha : a.length < 4611686018427387904) (hb : b.length < 4611686018427387904) (k : Nat) (hk : a.length + b.length + 3 ≤ k) : gimbalref11_Equal.f k a b e a b e = some true := by
  refine grow (g := fun k => gimbalref11_Equal.f k a b e a b e) (gimbalref11_Equal.mono _ _ _ _ _ _) (n := b.length + 1 + a.length + 1 + 1) ?_ k (by omega)
  show gimbalref11_Equal.f _ _ _ _ _ _ _ = _
  have := eq_l0 a b e ha hb a.length 0 0 (by omega)
  simp only [Nat.zero_add] at this
  unfold gimbalref11_Equal.f
  rw [if_pos rfl, if_pos rfl, gimbalref11_Equal.j0, if_neg (by simp)]
  exact this
theorem v3 : VarsOk [3] := ⟨by decide, fun i h0 h1 => by
  have : i = 0 := by simp at h1; omega
  subst this; exact ⟨by decide, fun h => absurd h (by decide)⟩⟩
theorem top_v3 (k : Nat) (hk : 300 ≤ k) : oct_Top.f k [3] = some ([3], M ([3] : List Int).length, false) := by
  have h := v3
  have h8 := h.1
  have hw : wrap64 (2 * (([3] : List Int).length : Int)) = 2 * (([3] : List Int).length : Int) := by unfold wrap64; omega
  have hc : slices_Clone_int_int.f [3] = some [3] := by unfold slices_Clone_int_int.f; rw [if_pos (by decide)]
  unfold oct_Top.f oct_may.f; rw [varsB_true.2 h, Option.bind_some, if_pos rfl, hc, Option.bind_some, hw, new_at _ (by decide) k (by omega)]; rfl
theorem two {p : Int → Int → Prop} (h : ∀ a, a < 2 → ∀ b, b < 2 → p ((a : Nat) : Int) ((b : Nat) : Int)) (i j : Int) (h0 : 0 ≤ i) (h1 : i < 2) (h2 : 0 ≤ j) (h3 : j < 2) : p i j := by
  have := h i.toNat (by omega) j.toNat (by omega)
  rwa [Int.toNat_of_nonneg h0, Int.toNat_of_nonneg h2] at this
theorem has9 : HasP [3] (M 1) false [9] := by
  refine ⟨rfl, ⟨v3, fun h => (by cases h), fun _ => ⟨by decide +kernel, fun i j h0 h1 h2 h3 => ?_⟩⟩, rfl, fun k h0 h1 => ?_, fun i j h0 h1 h2 h3 => ?_⟩
  · refine two (p := fun i j => EntryOk (2 * (([3] : List Int).length : Int)) (M 1) i j) ?_ i j h0 (by simpa using h1) h2 (by simpa using h3)
    unfold EntryOk; decide +kernel
  · have : k = 0 := by simp at h1; omega
    subst this; decide +kernel
  · refine two (p := fun i j => rd (M 1) (i * (2 * (([3] : List Int).length : Int)) + j) = 4611686018427387904 ∨ sgn [9] j - sgn [9] i ≤ rd (M 1) (i * (2 * (([3] : List Int).length : Int)) + j)) ?_ i j h0 (by simpa using h1) h2 (by simpa using h3)
    decide +kernel
theorem awake_true (k : Nat) (hk : 400 ≤ k) : gimballaw11_awake.f k = some true := by
  unfold gimballaw11_awake.f
  rw [top_v3 k (by omega), Option.bind_some]
  have e : (M ([3] : List Int).length) = [0, 4611686018427387904, 4611686018427387904, 0] := by decide +kernel
  have hh : oct_Has.f [3] (M ([3] : List Int).length) false [9] = some true := by
    unfold oct_Has.f; rw [if_pos ⟨by decide, by decide⟩]; exact congrArg some (hasB_true.2 has9)
  show (if ((M ([3] : List Int).length).length : Int) = 4 then _ else _) = _
  simp only [hh]
  rw [e]
  rfl
theorem eq_ev (a b : List Int) (e : Bool) (ha : a.length < 4611686018427387904) (hb : b.length < 4611686018427387904) : Ev (fun k => gimbalref11_Equal.f k a b e a b e) true := ⟨a.length + b.length + 3, fun k hk => eq_self a b e ha hb k hk⟩
theorem awake_ev : Ev (fun k => gimballaw11_awake.f k) true := ⟨400, awake_true⟩
theorem spoil_l1 (b : List Int) (c : Bool) : ∀ (d i : Nat) (a : List Int), i + d = a.length → a.length < 4611686018427387904 → ∃ v, Ev (fun k => gimballaw11_spoil.l1 k (a.length : Int) (i : Int) a b c) v := by
  intro d
  induction d with
  | zero =>
    intro i a h _
    refine ⟨(a, b), Ev.step (fun k => by rw [gimballaw11_spoil.l1]) (Ev.congr (fun k => ?_) (Ev.of _))⟩
    rw [if_neg (by omega)]
  | succ d ih =>
    intro i a h hl
    have hw : wrap64 ((i : Int) + 1) = ((i + 1 : Nat) : Int) := by unfold wrap64; omega
    obtain ⟨v, hv⟩ := ih (i + 1) (a.set (i : Int).toNat 88) (by rw [List.length_set]; omega) (by rw [List.length_set]; omega)
    rw [List.length_set] at hv
    refine ⟨v, Ev.step (fun k => by rw [gimballaw11_spoil.l1]) (Ev.congr (fun k => ?_) hv)⟩
    rw [if_pos (by omega), if_pos (by omega), if_pos (by omega), hw]
theorem spoil_l0 (a : List Int) (c : Bool) (ha : a.length < 4611686018427387904) : ∀ (d i : Nat) (b : List Int), i + d = b.length → b.length < 4611686018427387904 → ∃ v, Ev (fun k => gimballaw11_spoil.l0 k (b.length : Int) (i : Int) a b c) v := by
  intro d
  induction d with
  | zero =>
    intro i b h _
    obtain ⟨v, hv⟩ := spoil_l1 b c a.length 0 a (by omega) ha
    refine ⟨v, Ev.step (fun k => by rw [gimballaw11_spoil.l0]) (Ev.congr (fun k => ?_) hv)⟩
    rw [if_neg (by omega)]; rfl
  | succ d ih =>
    intro i b h hl
    have hw : wrap64 ((i : Int) + 1) = ((i + 1 : Nat) : Int) := by unfold wrap64; omega
    obtain ⟨v, hv⟩ := ih (i + 1) (b.set (i : Int).toNat 77) (by rw [List.length_set]; omega) (by rw [List.length_set]; omega)
    rw [List.length_set] at hv
    refine ⟨v, Ev.step (fun k => by rw [gimballaw11_spoil.l0]) (Ev.congr (fun k => ?_) hv)⟩
    rw [if_pos (by omega), if_pos (by omega), if_pos (by omega), hw]
theorem spoil_ev (a b : List Int) (c : Bool) (ha : a.length < 4611686018427387904) (hb : b.length < 4611686018427387904) : ∃ v, Ev (fun k => gimballaw11_spoil.f k a b c) v := spoil_l0 a c ha b.length 0 b (by omega) hb
theorem closeF_len {vars m : List Int} {e : Bool} (h : OFit vars m e) : (closeF vars m e).1.length < 4611686018427387904 ∧ (closeF vars m e).2.1.length < 4611686018427387904 := by
  have h8 := h.1.1
  unfold closeF closeL
  split
  · exact ⟨by simp; omega, by simp⟩
  · refine ⟨by simp; omega, ?_⟩
    show (ite _ _ _ : List Int).length < _
    split
    · rw [lst_length]; exact Nat.lt_of_le_of_lt (Nat.mul_le_mul (show 2 * vars.length ≤ 16 by omega) (show 2 * vars.length ≤ 16 by omega)) (by decide)
    · simp
theorem copied_f {vars m : List Int} {e : Bool} (h : vars.length < 17592186044416) (h' : m.length < 17592186044416) : gimballaw11_copied.f vars m e = some (vars, m, e) := by
  unfold gimballaw11_copied.f; rw [if_pos (by simp; omega), if_pos (by simp; omega)]; rfl
theorem fit_lens {vars m : List Int} {e : Bool} (h : OFit vars m e) : vars.length ≤ 8 ∧ m.length ≤ 256 := by
  have h8 := h.1.1
  refine ⟨h8, ?_⟩
  cases e with
  | true => rw [h.2.1 rfl]; simp
  | false =>
    have h1 := (h.2.2 rfl).1
    have e1 : ((m.length : Nat) : Int) = (((2 * vars.length) * (2 * vars.length) : Nat) : Int) := by rw [h1]; push_cast; rfl
    have : (2 * vars.length) * (2 * vars.length) ≤ 16 * 16 := Nat.mul_le_mul (by omega) (by omega)
    omega
theorem oct_close_f {vars m : List Int} {e : Bool} (h : OFit vars m e) : oct_Close.f vars m e = some (closeF vars m e) := by unfold oct_Close.f; rw [if_pos (ofitB_true.2 h)]
end Octs
end Go.Proofs.Ytomgebmimgaojaa.Pure
end
end
section
namespace Go.Proofs.Ytomgebmimgaojaa.Pure
open Go.RowKit Go.Proofs.Ytomgebmimgaojaa.QO Go.Proofs.YtomgebmimgaojaaW.PrintWords Go.Proofs.YtomgebmimgaojaaW.PrintLast Go.Proofs.YtomgebmimgaojaaW.PrintMore
open Octs
namespace OBn
theorem form_j0 (b : Bool) (x sx y sy c : Int) : ∃ r, ∀ k, gimballaw11_form.j0 (k + 1) b x sx y sy c = some r := by
  by_cases h0 : b = true
  · exact ⟨false, fun k => by rw [gimballaw11_form.j0, if_pos h0]⟩
  · by_cases h1 : sx = 0
    · by_cases h2 : sy = 0
      · by_cases h3 : x = 0
        · exact ⟨y == 0, fun k => by rw [gimballaw11_form.j0, if_neg h0, if_pos h1, if_pos h2, if_pos h3]⟩
        · exact ⟨false, fun k => by rw [gimballaw11_form.j0, if_neg h0, if_pos h1, if_pos h2, if_neg h3]⟩
      · exact ⟨false, fun k => by rw [gimballaw11_form.j0, if_neg h0, if_pos h1, if_neg h2]⟩
    · by_cases h2 : sy = 0
      · by_cases h3 : y = 0
        · exact ⟨true, fun k => by rw [gimballaw11_form.j0, if_neg h0, if_neg h1, if_pos h2, if_pos h3]⟩
        · exact ⟨false, fun k => by rw [gimballaw11_form.j0, if_neg h0, if_neg h1, if_pos h2, if_neg h3]⟩
      · exact ⟨decide (x < y), fun k => by rw [gimballaw11_form.j0, if_neg h0, if_neg h1, if_neg h2]⟩
theorem form_bad (x sx y sy c : Int) (k : Nat) : gimballaw11_form.j0 (k + 1) true x sx y sy c = some false := by rw [gimballaw11_form.j0, if_pos rfl]
theorem form_ev (x sx y sy c : Int) : ∃ r, Ev (fun k => gimballaw11_form.f k x sx y sy c) r ∧ (r = true → (-1099511627776 ≤ c ∧ c ≤ 1099511627776) ∧ (-1 ≤ sx ∧ sx ≤ 1) ∧ (-1 ≤ sy ∧ sy ≤ 1)) := by
  by_cases h : (-1099511627776 ≤ c ∧ c ≤ 1099511627776) ∧ (-1 ≤ sx ∧ sx ≤ 1) ∧ (-1 ≤ sy ∧ sy ≤ 1)
  · by_cases hx : x < 0
    · refine ⟨false, ⟨1, fun k hk => ?_⟩, fun h => (by cases h)⟩
      obtain ⟨k, rfl⟩ : ∃ m, k = m + 1 := ⟨k - 1, by omega⟩
      show gimballaw11_form.f _ _ _ _ _ _ = _
      unfold gimballaw11_form.f
      simp only [form_bad, hx, if_true, ite_self]
      repeat' split
      all_goals first | rfl | omega
    · obtain ⟨r, hr⟩ := form_j0 (decide (y < 0)) x sx y sy c
      refine ⟨r, ⟨1, fun k hk => ?_⟩, fun _ => h⟩
      obtain ⟨k, rfl⟩ : ∃ m, k = m + 1 := ⟨k - 1, by omega⟩
      show gimballaw11_form.f _ _ _ _ _ _ = _
      unfold gimballaw11_form.f
      rw [if_neg (by omega), if_neg (by omega), if_neg (by omega), if_neg (by omega), if_neg (by omega), if_neg (by omega), if_neg hx, hr]
  · refine ⟨false, ⟨1, fun k hk => ?_⟩, fun h => (by cases h)⟩
    obtain ⟨k, rfl⟩ : ∃ m, k = m + 1 := ⟨k - 1, by omega⟩
    show gimballaw11_form.f _ _ _ _ _ _ = _
    unfold gimballaw11_form.f
    simp only [form_bad]
    by_cases a1 : c < -1099511627776
    · rw [if_pos a1]
    rw [if_neg a1]
    by_cases a2 : c > 1099511627776
    · rw [if_pos a2]
    rw [if_neg a2]
    by_cases a3 : sx < -1
    · rw [if_pos a3]
    rw [if_neg a3]
    by_cases a4 : sx > 1
    · rw [if_pos a4]
    rw [if_neg a4]
    by_cases a5 : sy < -1
    · rw [if_pos a5]
    rw [if_neg a5]
    by_cases a6 : sy > 1
    · rw [if_pos a6]
    exfalso; omega
/-- all values ahead of i are finite, if the flag says so -/
theorem l0_ev (l2 v m : List Int) (e : Bool) (x sx y sy c : Int) (hl : l2.length < 4611686018427387904)
    (H : ∀ b : Bool, (b = true → ∀ k : Int, 0 ≤ k → k < l2.length → -4611686018427387904 < rd l2 k ∧ rd l2 k < 4611686018427387904) → Ev (fun k => (gimballaw11_form.f k x sx y sy c).bind fun t339 => (if t339 = true then ((oct_Bounds.f k v m e x sx y sy c).bind fun bt340 => ((gimbalref11_Bounds.f k v m e x sx y sy c).bind fun bt342 => (gimballaw11_OctBounds.j1 k l2 b (!(bt340.1 == bt342.1) || (!(bt340.2 == bt342.2))) v m e))) else (gimballaw11_OctBounds.j1 k l2 b false v m e))) true) :
    ∀ (d : Nat) (i : Int) (b : Bool), 0 ≤ i → (l2.length : Int) - i = (d : Int) → (b = true → ∀ k : Int, 0 ≤ k → k < i → -4611686018427387904 < rd l2 k ∧ rd l2 k < 4611686018427387904) → Ev (fun k => gimballaw11_OctBounds.l0 k l2 b l2 (l2.length : Int) i v m e x sx y sy c) true := by
  intro d
  induction d with
  | zero =>
    intro i b i0 hd hb
    refine Ev.step (fun k => by rw [gimballaw11_OctBounds.l0]) (Ev.congr (fun k => if_neg (by omega)) (H b (fun h k h0 h1 => hb h k h0 (by omega))))
  | succ d ih =>
    intro i b i0 hd hb
    have w1 : wrap64 (i + 1) = i + 1 := by unfold wrap64; omega
    refine Ev.step (fun k => by rw [gimballaw11_OctBounds.l0]) (Ev.congr (fun k => (if_pos (by omega)).trans ((if_pos i0).trans (if_pos (by omega)))) ?_)
    rw [w1]
    cases b with
    | false => exact Ev.congr (fun k => if_neg (by decide)) (ih (i + 1) false (by omega) (by omega) (fun h => by cases h))
    | true =>
      refine Ev.congr (fun k => if_pos rfl) ?_
      by_cases h1 : rd l2 i > -4611686018427387904
      · refine Ev.congr (fun k => if_pos h1) (ih (i + 1) _ (by omega) (by omega) (fun h k h0 h2 => ?_))
        have h3 := of_decide_eq_true h
        by_cases ek : k = i
        · subst ek; exact ⟨h1, h3⟩
        · exact hb rfl k h0 (by omega)
      · exact Ev.congr (fun k => if_neg h1) (ih (i + 1) false (by omega) (by omega) (fun h => by cases h))
theorem j1_ev (l2 v m : List Int) (e : Bool) (h : OFit v m e) (b : Bool) (hb : b = true → ∀ k : Int, 0 ≤ k → k < l2.length → -4611686018427387904 < rd l2 k ∧ rd l2 k < 4611686018427387904) : Ev (fun k => gimballaw11_OctBounds.j1 k l2 b false v m e) true := by
  have aw : Ev (fun k => (gimballaw11_awake.f k).bind fun t => some t) true := Ev.bind awake_ev (Ev.of _)
  refine Ev.step (fun k => by rw [gimballaw11_OctBounds.j1]) (Ev.congr (fun k => if_neg (by decide)) ?_)
  cases b with
  | false => exact Ev.congr (fun k => if_neg (by decide)) aw
  | true =>
    refine Ev.congr (fun k => if_pos rfl) ?_
    by_cases hl : (l2.length : Int) = (v.length : Int)
    · refine Ev.congr (fun k => if_pos hl) ?_
      obtain ⟨r, K, hK⟩ := HasEq.has_eq h (v := l2) (by omega) (hb rfl)
      refine Ev.bind (f := fun _ => oct_Has.f v m e l2) ⟨K, fun k hk => (hK k hk).1⟩ (Ev.bind (f := fun k => gimbalref11_Has.f k v m e l2) ⟨K, fun k hk => (hK k hk).2⟩ ?_)
      exact Ev.congr (fun k => if_neg (by simp)) aw
    · exact Ev.congr (fun k => if_neg hl) aw
end OBn
open OBn
theorem OctBounds : gimballaw11_OctBounds.Pure := by
  intro v m e x sx y sy c l2 hv hm _ _ _ _ _ h2
  suffices h : Ev (fun k => gimballaw11_OctBounds.f k v m e x sx y sy c l2) true by
    obtain ⟨K, hK⟩ := h; exact ⟨K, hK K (Nat.le_refl _)⟩
  have aw : Ev (fun k => (gimballaw11_awake.f k).bind fun t => some t) true := Ev.bind awake_ev (Ev.of _)
  cases hf : ofitB v m e with
  | false =>
    refine Ev.congr (h := fun k => (gimballaw11_awake.f k).bind fun t => some t) (fun k => ?_) aw
    unfold gimballaw11_OctBounds.f gimbalref11_Fit.f
    rw [hf, if_pos (show v.length ≤ 17592186044416 by omega)]; rfl
  | true =>
    have h := ofitB_true.1 hf
    refine Ev.congr (h := fun k => gimballaw11_OctBounds.l0 k l2 true l2 (l2.length : Int) 0 v m e x sx y sy c) (fun k => ?_) ?_
    · unfold gimballaw11_OctBounds.f gimbalref11_Fit.f
      rw [hf, if_pos (show v.length ≤ 17592186044416 by omega)]; rfl
    · refine OBn.l0_ev l2 v m e x sx y sy c (by omega) (fun b hb => ?_) l2.length 0 true (by omega) (by omega) (fun _ k h0 h1 => by omega)
      obtain ⟨r, hr, hR⟩ := form_ev x sx y sy c
      refine Ev.bind hr ?_
      cases r with
      | false => exact Ev.congr (fun k => if_neg (by decide)) (j1_ev l2 v m e h b hb)
      | true =>
        obtain ⟨hc, h1, h2⟩ := hR rfl
        refine Ev.congr (fun k => if_pos rfl) ?_
        obtain ⟨r, K, hK⟩ := Bnds.bounds_eq h x sx y sy c (by omega) h1 h2
        refine Ev.bind (f := fun k => oct_Bounds.f k v m e x sx y sy c) ⟨K, fun k hk => (hK k hk).1⟩ (Ev.bind (f := fun k => gimbalref11_Bounds.f k v m e x sx y sy c) ⟨K, fun k hk => (hK k hk).2⟩ ?_)
        refine Ev.congr (fun k => ?_) (j1_ev l2 v m e h b hb)
        rw [show (!(r.1 == r.1) || (!(r.2 == r.2))) = false by simp]
end Go.Proofs.Ytomgebmimgaojaa.Pure
end
section
/- What a reading of an argument tells of its cells, kind by kind: for the rows of laws over structs and nested slices. -/
namespace Go.Proofs.Ytomgebmimgaojaa.Open
open Go.RowKit Go.ChangeShapes Go.WideShapes Go.Proofs.YtomgebmimgaojaaW.PrintWords Go.Proofs.YtomgebmimgaojaaW.PrintMore
/-- every reading of type t tells of an a of which R and Q hold -/
def Opens {α : Type} (P : Program) (t : TypeId) (R : World → α → List Value → Prop) (Q : α → Prop) : Prop :=
  ∀ (H : Type) (enc : TypeId × Value → H) (w : World) (base : Nat) (spare : Nat → Bool) (held : Bool) (fuel : Nat) (cs : List Value) (x : DataW H × List MemPlace),
    DataW.trod enc P w base spare held fuel t cs = some x → (∀ n ∈ DataW.weights P t x.1, n ≤ 140737488351232) → ∃ a : α, R w a cs ∧ Q a
variable {P : Program} {t e : TypeId}
theorem opens_int {k : IntKind} (ht : P.underlying t = some (.int k)) : Opens P t (Kd.int k).K (fun n => (Lit.int k n).wf = true) := by
  intro H enc w base spare held fuel cs x h _
  obtain ⟨n, rfl, _, hw⟩ := DataW.trod_int ht h
  exact ⟨n, rfl, hw⟩
theorem opens_bool (ht : P.underlying t = some .bool) : Opens P t Kd.bool.K (fun _ => True) := by
  intro H enc w base spare held fuel cs x h _
  obtain ⟨n, rfl, _⟩ := DataW.trod_bool ht h
  exact ⟨n, rfl, trivial⟩
theorem opens_string (ht : P.underlying t = some .string) : Opens P t Kd.string.K (fun s => s.size ≤ 140737488351232) := by
  intro H enc w base spare held fuel cs x h hw
  obtain ⟨s, rfl, rfl, _⟩ := DataW.trod_string ht h
  refine ⟨s, rfl, ?_⟩
  have := hw s.data.toList.length (by simp [DataW.weights])
  simpa using this
theorem weightsAll_mem {H : Type} {l : List (DataW H)} {d : DataW H} (hd : d ∈ l) {n : Nat} (hn : n ∈ DataW.weights P e d) : n ∈ DataW.weightsAll P e l := by
  induction l with
  | nil => cases hd
  | cons y r ih =>
    unfold DataW.weightsAll
    rcases List.mem_cons.1 hd with rfl | h
    · exact List.mem_append_left _ hn
    · exact List.mem_append_right _ (ih h)
theorem weightsEach_mem {H : Type} : ∀ {ts : List TypeId} {l : List (DataW H)} {i : Nat} {t : TypeId} {d : DataW H}, ts[i]? = some t → l[i]? = some d → ∀ {n : Nat}, n ∈ DataW.weights P t d → n ∈ DataW.weightsEach P ts l
  | [], _, i, _, _, h, _, _, _ => by simp at h
  | _ :: _, [], i, _, _, _, h, _, _ => by simp at h
  | t' :: ts, d' :: l, 0, t, d, h1, h2, n, hn => by
    simp at h1 h2; subst h1; subst h2
    unfold DataW.weightsEach; exact List.mem_append_left _ hn
  | t' :: ts, d' :: l, i + 1, t, d, h1, h2, n, hn => by
    simp at h1 h2
    unfold DataW.weightsEach; exact List.mem_append_right _ (weightsEach_mem h1 h2 hn)
theorem all_some {α β : Type} {Q : Nat → α → β → Prop} : ∀ (xs : List β) (_ : ∀ i y, xs[i]? = some y → ∃ a, Q i a y), ∃ l : List α, l.length = xs.length ∧ ∀ i a, l[i]? = some a → ∃ y, xs[i]? = some y ∧ Q i a y
  | [], _ => ⟨[], rfl, fun i a h => by simp at h⟩
  | y :: r, h => by
    obtain ⟨a0, h0⟩ := h 0 y rfl
    obtain ⟨l, hl, hr⟩ := all_some (Q := fun i a y => Q (i + 1) a y) r (fun i y hy => h (i + 1) y (by simpa using hy))
    refine ⟨a0 :: l, by simp [hl], fun i a hi => ?_⟩
    cases i with
    | zero => simp at hi; subst hi; exact ⟨y, rfl, h0⟩
    | succ i => obtain ⟨z, hz, hq⟩ := hr i a (by simpa using hi); exact ⟨z, by simpa using hz, hq⟩
theorem opens_slice {α : Type} {d : Kd α} {Q : α → Prop} {B : Nat} (ht : P.underlying t = some (.slice e)) (hs : P.cellsOf e = d.sz) (hB : P.bytesOf e = B) (ho : Opens P e d.K Q) :
    Opens P t (Kd.slice e d).K (fun l => l.length * B ≤ 140737488351232 ∧ l.length ≤ maxLen ∧ ∀ x ∈ l, Q x) := by
  intro H enc w base spare held fuel cs x h hw
  rcases DataW.trod_slice ht h with ⟨rfl, _⟩ | ⟨a, len, cap, elems, rest, n, _, rfl, rfl, hb, hl, hc, hlen, hel, _, _⟩
  · exact ⟨[], ⟨none, 0, rfl, Nat.le_refl _, ⟨rfl, by simp, fun h => absurd h (by simp)⟩⟩, by simp, by simp, fun x hx => by cases hx⟩
  · have hwt : ∀ m ∈ DataW.weights P t (.slice (elems.map (·.1)) (rest.map (·.1))), m ≤ 140737488351232 := hw
    have each : ∀ i y, elems[i]? = some y → ∃ a' : α, (∃ c : List Value, c.length = d.sz ∧ d.K w a' c ∧ ∀ j u, c[j]? = some u → w.cell? (a.add (i * d.sz + j)) = some u) ∧ Q a' := by
      intro i y hy
      have hi : i < len := by rw [← hlen]; exact (List.getElem?_eq_some_iff.1 hy).1
      have h1 := hel i hi
      rw [hy] at h1
      obtain ⟨c, hc1, hc2⟩ := Option.bind_eq_some_iff.1 h1
      obtain ⟨a', hk, hq⟩ := ho H enc w base spare held n c y hc2 (fun m hm => hwt m (by
        simp only [DataW.weights, ht]
        exact List.mem_cons_of_mem _ (List.mem_append_left _ (weightsAll_mem (List.mem_map_of_mem (List.mem_of_getElem? hy)) hm))))
      refine ⟨a', ⟨c, d.K_len hk, hk, fun j u hj => ?_⟩, hq⟩
      unfold World.cells? at hc1
      split at hc1
      · have hlc := mapM_some_length hc1
        have hj' : j < P.cellsOf e := by have := (List.getElem?_eq_some_iff.1 hj).1; rw [List.length_range] at hlc; omega
        have := mapM_some_get hc1 j j (by simp [hj'])
        rw [hj] at this
        rw [← hs, ← Addr.add_add]
        exact this
      · cases hc1
    obtain ⟨l, hll, hlr⟩ := all_some elems each
    refine ⟨l, ⟨some a, cap, ?_, by omega, ⟨rfl, ?_, fun _ => ⟨a, rfl, fun j p hj => ?_⟩⟩⟩, ?_, by omega, fun x hx => ?_⟩
    · rw [hll, hlen]
    · unfold maxLen at hc; omega
    · obtain ⟨_, _, ⟨c, h1, h2, h3⟩, _⟩ := hlr j p hj
      exact ⟨c, h1, h2, h3⟩
    · have := hwt (((elems.map (·.1)).length + (rest.map (·.1)).length) * P.bytesOf e) (by simp only [DataW.weights, ht]; exact List.mem_cons_self ..)
      rw [hB] at this
      simp only [List.length_map] at this
      rw [hll]
      exact Nat.le_trans (Nat.mul_le_mul_right _ (by omega)) this
    · obtain ⟨i, hi⟩ := List.getElem?_of_mem hx
      obtain ⟨_, _, _, hq⟩ := hlr i x hi
      exact hq
/-- one field of a struct -/
theorem open_field {H : Type} {enc : TypeId × Value → H} {w : World} {base : Nat} {spare : Nat → Bool} {held : Bool} {fs : Array Field} {xs : List (DataW H × List MemPlace)} {n : Nat} {cs : List Value}
    (ht : P.underlying t = some (.struct fs)) (hw : ∀ m ∈ DataW.weights P t (.agg (xs.map (·.1))), m ≤ 140737488351232) (hx : xs.length = fs.size)
    (hf : ∀ (i : Nat) (f : Field), fs[i]? = some f → DataW.trod enc P w base spare held n f.type ((cs.drop f.offset).take (P.cellsOf f.type)) = xs[i]?)
    (i : Nat) (f : Field) (hi : fs[i]? = some f) (o s : Nat) (eo : f.offset = o) (es : P.cellsOf f.type = s) {α : Type} {R : World → α → List Value → Prop} {Q : α → Prop} (ho : Opens P f.type R Q) : ∃ a : α, R w a ((cs.drop o).take s) ∧ Q a := by
  have h1 := hf i f hi
  rw [eo, es] at h1
  have hlt : i < xs.length := by rw [hx]; exact (Array.getElem?_eq_some_iff.1 hi).1
  rw [List.getElem?_eq_getElem hlt] at h1
  refine ho H enc w base spare held n _ _ h1 (fun m hm => hw m ?_)
  simp only [DataW.weights, ht]
  refine weightsEach_mem (i := i) (t := f.type) (d := xs[i].1) ?_ ?_ hm
  · simp only [List.getElem?_map, Array.getElem?_toList, hi, Option.map_some]
  · simp only [List.getElem?_map, List.getElem?_eq_getElem hlt, Option.map_some]
/-- an argument's slice -/
theorem arg_slice {H : Type} {enc : TypeId × Value → H} {w : World} {base : Nat} {spare : Nat → Bool} {held : Bool} {v : Value} {dd : DataW H} {ps : List MemPlace} {α : Type} {d : Kd α} {Q : List α → Prop}
    (ho : Opens P t (Kd.slice e d).K Q) (h : DataW.Trod enc P w base spare held t v dd ps) (hw : ∀ m ∈ DataW.weights P t dd, m ≤ 140737488351232) (hv : ∃ a n c, v = .slice a n c) :
    ∃ A c l, v = .slice A l.length c ∧ l.length ≤ c ∧ Kd.C d w A l.length l ∧ Q l := by
  obtain ⟨fuel, hf⟩ := h
  obtain ⟨l, ⟨A, c, hc, hl, hr⟩, hq⟩ := ho H enc w base spare held fuel _ _ hf hw
  obtain ⟨a, n, c', rfl⟩ := hv
  simp [Value.cells] at hc
  obtain ⟨rfl, rfl, rfl⟩ := hc
  exact ⟨_, _, l, rfl, hl, hr, hq⟩
/-- a row's data bear their weights one by one -/
theorem weights_at {H : Type} {ts : List TypeId} {ds : List (DataW H)} (hsz : (DataW.weightsEach P ts ds).all (· ≤ reachBytes) = true) {j : Nat} {d : DataW H} (h1 : ts[j]? = some t) (h2 : ds[j]? = some d) : ∀ m ∈ DataW.weights P t d, m ≤ 140737488351232 := by
  intro m hm
  exact of_decide_eq_true (List.all_eq_true.1 hsz m (weightsEach_mem h1 h2 hm))
end Go.Proofs.Ytomgebmimgaojaa.Open
end
