/- Own texts of this claim, joined: QOx1059, QOx1060, QOx1023, RefTight, Octs, OL, FX, OS, Mean, QOx1041 -/
import Derived.Test.YtomgebmimgaojaaBOO0
import Derived.Test.YtomgebmimgaojaaBOO1
import Derived.Test.YtomgebmimgaojaaBOO2
import Derived.Test.YtomgebmimgaojaaBOO3
section
/- Written by a program of this session out of the translation. -/
noncomputable section
namespace Go.Proofs.Ytomgebmimgaojaa.QO
open Go.RowKit Go.Proofs.YtomgebmimgaojaaW.PrintWords Go.Proofs.YtomgebmimgaojaaW.PrintLast
set_option linter.unusedVariables false
set_option linter.unusedSimpArgs false
/-! ### gimbalref11_Tight: function 59 -/
mutual
def gimbalref11_Tight.l0 : Nat → Int → List Int → Int → Option (List Int × Bool)
 | 0, _, _, _ => none
 | k + 1, x1, x6, x7 => if x7 ≤ (wrap64 (2 * x1)) then (if 0 ≤ (wrap64 (x1 * x1)) then (if (wrap64 (x1 * x1) : Int).toNat ≤ 35184372088832 then (gimbalref11_Tight.l1 k x1 x6 x7 (List.replicate (wrap64 (x1 * x1) : Int).toNat 0) 0) else (none)) else (none)) else (gimbalref11_Tight.l4 k x1 x6 0)
def gimbalref11_Tight.l1 : Nat → Int → List Int → Int → List Int → Int → Option (List Int × Bool)
 | 0, _, _, _, _, _ => none
 | k + 1, x1, x6, x7, x8, x9 => if x9 < x1 then (gimbalref11_Tight.l2 k x1 x6 x7 x8 x9 0) else (gimbalref11_Tight.l0 k x1 x8 (wrap64 (2 * x7)))
def gimbalref11_Tight.l2 : Nat → Int → List Int → Int → List Int → Int → Int → Option (List Int × Bool)
 | 0, _, _, _, _, _, _ => none
 | k + 1, x1, x6, x7, x8, x9, x10 => if x10 < x1 then (if 0 ≤ (wrap64 ((wrap64 (x9 * x1)) + x10)) then (if (wrap64 ((wrap64 (x9 * x1)) + x10)) < (x6.length : Int) then (gimbalref11_Tight.l3 k x1 x6 x7 x8 x9 x10 (rd x6 (wrap64 ((wrap64 (x9 * x1)) + x10))) 0) else (none)) else (none)) else (if 0 ≤ (wrap64 ((wrap64 (x9 * x1)) + x9)) then (if (wrap64 ((wrap64 (x9 * x1)) + x9)) < (x8.length : Int) then (if (rd x8 (wrap64 ((wrap64 (x9 * x1)) + x9))) < 0 then (some (([] : List Int), false)) else (gimbalref11_Tight.l1 k x1 x6 x7 x8 (wrap64 (x9 + 1)))) else (none)) else (none))
def gimbalref11_Tight.l3 : Nat → Int → List Int → Int → List Int → Int → Int → Int → Int → Option (List Int × Bool)
 | 0, _, _, _, _, _, _, _, _ => none
 | k + 1, x1, x6, x7, x8, x9, x10, x11, x12 => if x12 < x1 then (if 0 ≤ (wrap64 ((wrap64 (x9 * x1)) + x12)) then (if (wrap64 ((wrap64 (x9 * x1)) + x12)) < (x6.length : Int) then (if 0 ≤ (wrap64 ((wrap64 (x12 * x1)) + x10)) then (if (wrap64 ((wrap64 (x12 * x1)) + x10)) < (x6.length : Int) then ((gimbalref11_plus.f (rd x6 (wrap64 ((wrap64 (x9 * x1)) + x12))) (rd x6 (wrap64 ((wrap64 (x12 * x1)) + x10)))).bind fun t241 => (gimbalref11_Tight.l3 k x1 x6 x7 x8 x9 x10 (mn x11 t241) (wrap64 (x12 + 1)))) else (none)) else (none)) else (none)) else (none)) else (if 0 ≤ (wrap64 ((wrap64 (x9 * x1)) + x10)) then (if (wrap64 ((wrap64 (x9 * x1)) + x10)) < (x8.length : Int) then (gimbalref11_Tight.l2 k x1 x6 x7 (x8.set ((wrap64 ((wrap64 (x9 * x1)) + x10)) : Int).toNat x11) x9 (wrap64 (x10 + 1))) else (none)) else (none))
def gimbalref11_Tight.l4 : Nat → Int → List Int → Int → Option (List Int × Bool)
 | 0, _, _, _ => none
 | k + 1, x1, x6, x13 => if x13 < x1 then ((gimbalref11_bar.f x13).bind fun t243 => (if 0 ≤ (wrap64 ((wrap64 (x13 * x1)) + t243)) then (if (wrap64 ((wrap64 (x13 * x1)) + t243)) < (x6.length : Int) then (if (rd x6 (wrap64 ((wrap64 (x13 * x1)) + t243))) = 4611686018427387904 then (gimbalref11_Tight.l4 k x1 x6 (wrap64 (x13 + 1))) else ((gimbalref11_halved.f (rd x6 (wrap64 ((wrap64 (x13 * x1)) + t243)))).bind fun t246 => (gimbalref11_Tight.l4 k x1 (x6.set ((wrap64 ((wrap64 (x13 * x1)) + t243)) : Int).toNat (wrap64 (2 * t246))) (wrap64 (x13 + 1))))) else (none)) else (none))) else (gimbalref11_Tight.l5 k x1 x6 0)
def gimbalref11_Tight.l5 : Nat → Int → List Int → Int → Option (List Int × Bool)
 | 0, _, _, _ => none
 | k + 1, x1, x6, x15 => if x15 < x1 then ((gimbalref11_bar.f x15).bind fun t248 => (if 0 ≤ (wrap64 ((wrap64 (x15 * x1)) + t248)) then (if (wrap64 ((wrap64 (x15 * x1)) + t248)) < (x6.length : Int) then ((gimbalref11_bar.f x15).bind fun t250 => (if 0 ≤ (wrap64 ((wrap64 (t250 * x1)) + x15)) then (if (wrap64 ((wrap64 (t250 * x1)) + x15)) < (x6.length : Int) then ((gimbalref11_plus.f (rd x6 (wrap64 ((wrap64 (x15 * x1)) + t248))) (rd x6 (wrap64 ((wrap64 (t250 * x1)) + x15)))).bind fun t252 => (if t252 < 0 then (some (([] : List Int), false)) else (gimbalref11_Tight.l5 k x1 x6 (wrap64 (x15 + 1))))) else (none)) else (none))) else (none)) else (none))) else (if 0 ≤ (wrap64 (x1 * x1)) then (if (wrap64 (x1 * x1) : Int).toNat ≤ 35184372088832 then (gimbalref11_Tight.l6 k x1 x6 (List.replicate (wrap64 (x1 * x1) : Int).toNat 0) 0) else (none)) else (none))
def gimbalref11_Tight.l6 : Nat → Int → List Int → List Int → Int → Option (List Int × Bool)
 | 0, _, _, _, _ => none
 | k + 1, x1, x6, x16, x17 => if x17 < x1 then (gimbalref11_Tight.l7 k x1 x6 x16 x17 0) else (some (x16, true))
def gimbalref11_Tight.l7 : Nat → Int → List Int → List Int → Int → Int → Option (List Int × Bool)
 | 0, _, _, _, _, _ => none
 | k + 1, x1, x6, x16, x17, x18 => if x18 < x1 then (if 0 ≤ (wrap64 ((wrap64 (x17 * x1)) + x18)) then (if (wrap64 ((wrap64 (x17 * x1)) + x18)) < (x6.length : Int) then (if (wrap64 ((wrap64 (x17 * x1)) + x18)) < (x16.length : Int) then ((some (x16.set ((wrap64 ((wrap64 (x17 * x1)) + x18)) : Int).toNat (rd x6 (wrap64 ((wrap64 (x17 * x1)) + x18))) : List Int)).bind fun y257 => ((gimbalref11_bar.f x17).bind fun t258 => (if 0 ≤ (wrap64 ((wrap64 (x17 * x1)) + t258)) then (if (wrap64 ((wrap64 (x17 * x1)) + t258)) < (x6.length : Int) then ((gimbalref11_bar.f x18).bind fun t260 => (if 0 ≤ (wrap64 ((wrap64 (t260 * x1)) + x18)) then (if (wrap64 ((wrap64 (t260 * x1)) + x18)) < (x6.length : Int) then ((gimbalref11_plus.f (rd x6 (wrap64 ((wrap64 (x17 * x1)) + t258))) (rd x6 (wrap64 ((wrap64 (t260 * x1)) + x18)))).bind fun t262 => (if t262 = 4611686018427387904 then (gimbalref11_Tight.l7 k x1 x6 y257 x17 (wrap64 (x18 + 1))) else ((gimbalref11_halved.f t262).bind fun t264 => (gimbalref11_Tight.l7 k x1 x6 (y257.set ((wrap64 ((wrap64 (x17 * x1)) + x18)) : Int).toNat (mn (rd y257 (wrap64 ((wrap64 (x17 * x1)) + x18))) t264)) x17 (wrap64 (x18 + 1)))))) else (none)) else (none))) else (none)) else (none)))) else (none)) else (none)) else (none)) else (gimbalref11_Tight.l6 k x1 x6 x16 (wrap64 (x17 + 1)))
end
def gimbalref11_Tight.f (k : Nat) (l0 : List Int) (a1 : Int) : Option (List Int × Bool) := if ([] : List Int).length + l0.length < 17592186044416 then (gimbalref11_Tight.l0 k a1 (([] : List Int) ++ l0) 1) else (none)
theorem gimbalref11_Tight.mono_l : ∀ k, (∀ y0 y1 y2, LeO (gimbalref11_Tight.l0 k y0 y1 y2) (gimbalref11_Tight.l0 (k + 1) y0 y1 y2)) ∧ (∀ y0 y1 y2 y3 y4, LeO (gimbalref11_Tight.l1 k y0 y1 y2 y3 y4) (gimbalref11_Tight.l1 (k + 1) y0 y1 y2 y3 y4)) ∧ (∀ y0 y1 y2 y3 y4 y5, LeO (gimbalref11_Tight.l2 k y0 y1 y2 y3 y4 y5) (gimbalref11_Tight.l2 (k + 1) y0 y1 y2 y3 y4 y5)) ∧ (∀ y0 y1 y2 y3 y4 y5 y6 y7, LeO (gimbalref11_Tight.l3 k y0 y1 y2 y3 y4 y5 y6 y7) (gimbalref11_Tight.l3 (k + 1) y0 y1 y2 y3 y4 y5 y6 y7)) ∧ (∀ y0 y1 y2, LeO (gimbalref11_Tight.l4 k y0 y1 y2) (gimbalref11_Tight.l4 (k + 1) y0 y1 y2)) ∧ (∀ y0 y1 y2, LeO (gimbalref11_Tight.l5 k y0 y1 y2) (gimbalref11_Tight.l5 (k + 1) y0 y1 y2)) ∧ (∀ y0 y1 y2 y3, LeO (gimbalref11_Tight.l6 k y0 y1 y2 y3) (gimbalref11_Tight.l6 (k + 1) y0 y1 y2 y3)) ∧ (∀ y0 y1 y2 y3 y4, LeO (gimbalref11_Tight.l7 k y0 y1 y2 y3 y4) (gimbalref11_Tight.l7 (k + 1) y0 y1 y2 y3 y4))
 | 0 => ⟨fun _ _ _ r h => by simp [gimbalref11_Tight.l0] at h, fun _ _ _ _ _ r h => by simp [gimbalref11_Tight.l1] at h, fun _ _ _ _ _ _ r h => by simp [gimbalref11_Tight.l2] at h, fun _ _ _ _ _ _ _ _ r h => by simp [gimbalref11_Tight.l3] at h, fun _ _ _ r h => by simp [gimbalref11_Tight.l4] at h, fun _ _ _ r h => by simp [gimbalref11_Tight.l5] at h, fun _ _ _ _ r h => by simp [gimbalref11_Tight.l6] at h, fun _ _ _ _ _ r h => by simp [gimbalref11_Tight.l7] at h⟩
 | k + 1 => by
  obtain ⟨ih0, ih1, ih2, ih3, ih4, ih5, ih6, ih7⟩ := gimbalref11_Tight.mono_l k
  refine ⟨?_, ?_, ?_, ?_, ?_, ?_, ?_, ?_⟩
  ·
   intro y0 y1 y2
   unfold gimbalref11_Tight.l0
   repeat' first
   | (with_reducible exact ih0 _ _ _)
   | (with_reducible exact ih1 _ _ _ _ _)
   | (with_reducible exact ih2 _ _ _ _ _ _)
   | (with_reducible exact ih3 _ _ _ _ _ _ _ _)
   | (with_reducible exact ih4 _ _ _)
   | (with_reducible exact ih5 _ _ _)
   | (with_reducible exact ih6 _ _ _ _)
   | (with_reducible exact ih7 _ _ _ _ _)
   | (with_reducible exact LeO.refl _)
   | (with_reducible exact LeO.none _)
   | (with_reducible refine LeO.ite ?_ ?_)
   | (with_reducible refine LeO.bind ?_ (fun _ => ?_))
   | exact ih0 _ _ _
   | exact ih1 _ _ _ _ _
   | exact ih2 _ _ _ _ _ _
   | exact ih3 _ _ _ _ _ _ _ _
   | exact ih4 _ _ _
   | exact ih5 _ _ _
   | exact ih6 _ _ _ _
   | exact ih7 _ _ _ _ _
   | exact LeO.none _
   | refine LeO.ite ?_ ?_
   | refine LeO.bind ?_ (fun _ => ?_)
  ·
   intro y0 y1 y2 y3 y4
   unfold gimbalref11_Tight.l1
   repeat' first
   | (with_reducible exact ih0 _ _ _)
   | (with_reducible exact ih1 _ _ _ _ _)
   | (with_reducible exact ih2 _ _ _ _ _ _)
   | (with_reducible exact ih3 _ _ _ _ _ _ _ _)
   | (with_reducible exact ih4 _ _ _)
   | (with_reducible exact ih5 _ _ _)
   | (with_reducible exact ih6 _ _ _ _)
   | (with_reducible exact ih7 _ _ _ _ _)
   | (with_reducible exact LeO.refl _)
   | (with_reducible exact LeO.none _)
   | (with_reducible refine LeO.ite ?_ ?_)
   | (with_reducible refine LeO.bind ?_ (fun _ => ?_))
   | exact ih0 _ _ _
   | exact ih1 _ _ _ _ _
   | exact ih2 _ _ _ _ _ _
   | exact ih3 _ _ _ _ _ _ _ _
   | exact ih4 _ _ _
   | exact ih5 _ _ _
   | exact ih6 _ _ _ _
   | exact ih7 _ _ _ _ _
   | exact LeO.none _
   | refine LeO.ite ?_ ?_
   | refine LeO.bind ?_ (fun _ => ?_)
  ·
   intro y0 y1 y2 y3 y4 y5
   unfold gimbalref11_Tight.l2
   repeat' first
   | (with_reducible exact ih0 _ _ _)
   | (with_reducible exact ih1 _ _ _ _ _)
   | (with_reducible exact ih2 _ _ _ _ _ _)
   | (with_reducible exact ih3 _ _ _ _ _ _ _ _)
   | (with_reducible exact ih4 _ _ _)
   | (with_reducible exact ih5 _ _ _)
   | (with_reducible exact ih6 _ _ _ _)
   | (with_reducible exact ih7 _ _ _ _ _)
   | (with_reducible exact LeO.refl _)
   | (with_reducible exact LeO.none _)
   | (with_reducible refine LeO.ite ?_ ?_)
   | (with_reducible refine LeO.bind ?_ (fun _ => ?_))
   | exact ih0 _ _ _
   | exact ih1 _ _ _ _ _
   | exact ih2 _ _ _ _ _ _
   | exact ih3 _ _ _ _ _ _ _ _
   | exact ih4 _ _ _
   | exact ih5 _ _ _
   | exact ih6 _ _ _ _
   | exact ih7 _ _ _ _ _
   | exact LeO.none _
   | refine LeO.ite ?_ ?_
   | refine LeO.bind ?_ (fun _ => ?_)
  ·
   intro y0 y1 y2 y3 y4 y5 y6 y7
   unfold gimbalref11_Tight.l3
   repeat' first
   | (with_reducible exact ih0 _ _ _)
   | (with_reducible exact ih1 _ _ _ _ _)
   | (with_reducible exact ih2 _ _ _ _ _ _)
   | (with_reducible exact ih3 _ _ _ _ _ _ _ _)
   | (with_reducible exact ih4 _ _ _)
   | (with_reducible exact ih5 _ _ _)
   | (with_reducible exact ih6 _ _ _ _)
   | (with_reducible exact ih7 _ _ _ _ _)
   | (with_reducible exact LeO.refl _)
   | (with_reducible exact LeO.none _)
   | (with_reducible refine LeO.ite ?_ ?_)
   | (with_reducible refine LeO.bind ?_ (fun _ => ?_))
   | exact ih0 _ _ _
   | exact ih1 _ _ _ _ _
   | exact ih2 _ _ _ _ _ _
   | exact ih3 _ _ _ _ _ _ _ _
   | exact ih4 _ _ _
   | exact ih5 _ _ _
   | exact ih6 _ _ _ _
   | exact ih7 _ _ _ _ _
   | exact LeO.none _
   | refine LeO.ite ?_ ?_
   | refine LeO.bind ?_ (fun _ => ?_)
  ·
   intro y0 y1 y2
   unfold gimbalref11_Tight.l4
   repeat' first
   | (with_reducible exact ih0 _ _ _)
   | (with_reducible exact ih1 _ _ _ _ _)
   | (with_reducible exact ih2 _ _ _ _ _ _)
   | (with_reducible exact ih3 _ _ _ _ _ _ _ _)
   | (with_reducible exact ih4 _ _ _)
   | (with_reducible exact ih5 _ _ _)
   | (with_reducible exact ih6 _ _ _ _)
   | (with_reducible exact ih7 _ _ _ _ _)
   | (with_reducible exact LeO.refl _)
   | (with_reducible exact LeO.none _)
   | (with_reducible refine LeO.ite ?_ ?_)
   | (with_reducible refine LeO.bind ?_ (fun _ => ?_))
   | exact ih0 _ _ _
   | exact ih1 _ _ _ _ _
   | exact ih2 _ _ _ _ _ _
   | exact ih3 _ _ _ _ _ _ _ _
   | exact ih4 _ _ _
   | exact ih5 _ _ _
   | exact ih6 _ _ _ _
   | exact ih7 _ _ _ _ _
   | exact LeO.none _
   | refine LeO.ite ?_ ?_
   | refine LeO.bind ?_ (fun _ => ?_)
  ·
   intro y0 y1 y2
   unfold gimbalref11_Tight.l5
   repeat' first
   | (with_reducible exact ih0 _ _ _)
   | (with_reducible exact ih1 _ _ _ _ _)
   | (with_reducible exact ih2 _ _ _ _ _ _)
   | (with_reducible exact ih3 _ _ _ _ _ _ _ _)
   | (with_reducible exact ih4 _ _ _)
   | (with_reducible exact ih5 _ _ _)
   | (with_reducible exact ih6 _ _ _ _)
   | (with_reducible exact ih7 _ _ _ _ _)
   | (with_reducible exact LeO.refl _)
   | (with_reducible exact LeO.none _)
   | (with_reducible refine LeO.ite ?_ ?_)
   | (with_reducible refine LeO.bind ?_ (fun _ => ?_))
   | exact ih0 _ _ _
   | exact ih1 _ _ _ _ _
   | exact ih2 _ _ _ _ _ _
   | exact ih3 _ _ _ _ _ _ _ _
   | exact ih4 _ _ _
   | exact ih5 _ _ _
   | exact ih6 _ _ _ _
   | exact ih7 _ _ _ _ _
   | exact LeO.none _
   | refine LeO.ite ?_ ?_
   | refine LeO.bind ?_ (fun _ => ?_)
  ·
   intro y0 y1 y2 y3
   unfold gimbalref11_Tight.l6
   repeat' first
   | (with_reducible exact ih0 _ _ _)
   | (with_reducible exact ih1 _ _ _ _ _)
   | (with_reducible exact ih2 _ _ _ _ _ _)
   | (with_reducible exact ih3 _ _ _ _ _ _ _ _)
   | (with_reducible exact ih4 _ _ _)
   | (with_reducible exact ih5 _ _ _)
   | (with_reducible exact ih6 _ _ _ _)
   | (with_reducible exact ih7 _ _ _ _ _)
   | (with_reducible exact LeO.refl _)
   | (with_reducible exact LeO.none _)
   | (with_reducible refine LeO.ite ?_ ?_)
   | (with_reducible refine LeO.bind ?_ (fun _ => ?_))
   | exact ih0 _ _ _
   | exact ih1 _ _ _ _ _
   | exact ih2 _ _ _ _ _ _
   | exact ih3 _ _ _ _ _ _ _ _
   | exact ih4 _ _ _
   | exact ih5 _ _ _
   | exact ih6 _ _ _ _
   | exact ih7 _ _ _ _ _
   | exact LeO.none _
   | refine LeO.ite ?_ ?_
   | refine LeO.bind ?_ (fun _ => ?_)
  ·
   intro y0 y1 y2 y3 y4
   unfold gimbalref11_Tight.l7
   repeat' first
   | (with_reducible exact ih0 _ _ _)
   | (with_reducible exact ih1 _ _ _ _ _)
   | (with_reducible exact ih2 _ _ _ _ _ _)
   | (with_reducible exact ih3 _ _ _ _ _ _ _ _)
   | (with_reducible exact ih4 _ _ _)
   | (with_reducible exact ih5 _ _ _)
   | (with_reducible exact ih6 _ _ _ _)
   | (with_reducible exact ih7 _ _ _ _ _)
   | (with_reducible exact LeO.refl _)
   | (with_reducible exact LeO.none _)
   | (with_reducible refine LeO.ite ?_ ?_)
   | (with_reducible refine LeO.bind ?_ (fun _ => ?_))
   | exact ih0 _ _ _
   | exact ih1 _ _ _ _ _
   | exact ih2 _ _ _ _ _ _
   | exact ih3 _ _ _ _ _ _ _ _
   | exact ih4 _ _ _
   | exact ih5 _ _ _
   | exact ih6 _ _ _ _
   | exact ih7 _ _ _ _ _
   | exact LeO.none _
   | refine LeO.ite ?_ ?_
   | refine LeO.bind ?_ (fun _ => ?_)
theorem gimbalref11_Tight.mono : ∀ a0 a1 k, LeO (gimbalref11_Tight.f k a0 a1) (gimbalref11_Tight.f (k + 1) a0 a1) := by
 intro a0 a1 k
 obtain ⟨ih0, ih1, ih2, ih3, ih4, ih5, ih6, ih7⟩ := gimbalref11_Tight.mono_l k
 unfold gimbalref11_Tight.f
 repeat' first
  | (with_reducible exact ih0 _ _ _)
  | (with_reducible exact ih1 _ _ _ _ _)
  | (with_reducible exact ih2 _ _ _ _ _ _)
  | (with_reducible exact ih3 _ _ _ _ _ _ _ _)
  | (with_reducible exact ih4 _ _ _)
  | (with_reducible exact ih5 _ _ _)
  | (with_reducible exact ih6 _ _ _ _)
  | (with_reducible exact ih7 _ _ _ _ _)
  | (with_reducible exact LeO.refl _)
  | (with_reducible exact LeO.none _)
  | (with_reducible refine LeO.ite ?_ ?_)
  | (with_reducible refine LeO.bind ?_ (fun _ => ?_))
  | exact ih0 _ _ _
  | exact ih1 _ _ _ _ _
  | exact ih2 _ _ _ _ _ _
  | exact ih3 _ _ _ _ _ _ _ _
  | exact ih4 _ _ _
  | exact ih5 _ _ _
  | exact ih6 _ _ _ _
  | exact ih7 _ _ _ _ _
  | exact LeO.none _
  | refine LeO.ite ?_ ?_
  | refine LeO.bind ?_ (fun _ => ?_)
def gimbalref11_Tight.T17 : Bool × List (List Nat × List Nat) := (true, [([], []), ([], []), ([], []), ([], []), ([2, 3], [2, 3]), ([], []), ([4, 5], [4, 5]), ([1, 6], [1, 6]), ([7], [7]), ([], []), ([], []), ([], []), ([10, 11], [10, 11]), ([], []), ([12, 13], [12, 13]), ([9, 14], [9, 14]), ([15], [15]), ([8, 16], [8, 16]), ([0, 17], [0, 17]), ([18, 17, 0, 1, 2, 3, 4, 5, 6, 7, 8, 9, 10, 11, 12, 13, 14, 15, 16, 17, 18], [0, 18])])
def gimbalref11_Tight.B17 : List Nat := [0, 0, 0, 0, 12, 0, 60, 126, 254, 0, 0, 0, 3072, 0, 15360, 32256, 65024, 131070, 262143, 524287]
theorem gimbalref11_Tight.tab17 : rtab .any (opsOf Try.f59 17) = gimbalref11_Tight.T17 := by kernel_rfl
theorem gimbalref11_Tight.bits17 : waitsOk gimbalref11_Tight.T17.2 gimbalref11_Tight.B17 = true := by kernel_rfl
def gimbalref11_Tight.T31 : Bool × List (List Nat × List Nat) := (true, [([], []), ([], []), ([], []), ([1, 2], [1, 2]), ([], []), ([4], [4]), ([3, 5], [3, 5]), ([0, 6], [0, 6]), ([7], [7]), ([], []), ([], []), ([10, 5], [10]), ([], []), ([11, 12], [11, 12]), ([], []), ([13, 14], [13, 14]), ([9, 15], [9, 15]), ([16], [16]), ([8, 17, 11], [8, 17]), ([18], [18])])
def gimbalref11_Tight.B31 : List Nat := [0, 0, 0, 6, 0, 16, 62, 127, 255, 0, 0, 1072, 0, 7216, 0, 31792, 65072, 130608, 262143, 524287]
theorem gimbalref11_Tight.tab31 : rtab .any (opsOf Try.f59 31) = gimbalref11_Tight.T31 := by kernel_rfl
theorem gimbalref11_Tight.bits31 : waitsOk gimbalref11_Tight.T31.2 gimbalref11_Tight.B31 = true := by kernel_rfl
def gimbalref11_Tight.T41 : Bool × List (List Nat × List Nat) := (true, [([], []), ([], []), ([], []), ([1, 2], [1, 2]), ([], []), ([4], [4]), ([3, 5], [3, 5]), ([0, 6], [0, 6]), ([7], [7]), ([], []), ([], []), ([10, 5], [10]), ([], []), ([11, 12], [11, 12]), ([], []), ([13, 14], [13, 14]), ([9, 15], [9, 15]), ([16], [16]), ([8, 17, 11], [8, 17]), ([18, 18, 0, 1, 2, 3, 4, 5, 6, 7, 8, 9, 10, 11, 12, 13, 14, 15, 16, 17, 18], [18])])
def gimbalref11_Tight.B41 : List Nat := [0, 0, 0, 6, 0, 16, 62, 127, 255, 0, 0, 1072, 0, 7216, 0, 31792, 65072, 130608, 262143, 524287]
theorem gimbalref11_Tight.tab41 : rtab .any (opsOf Try.f59 41) = gimbalref11_Tight.T41 := by kernel_rfl
theorem gimbalref11_Tight.bits41 : waitsOk gimbalref11_Tight.T41.2 gimbalref11_Tight.B41 = true := by kernel_rfl
def gimbalref11_Tight.T43 : Bool × List (List Nat × List Nat) := (true, [([], []), ([], []), ([], []), ([1, 2], [1, 2]), ([], []), ([3, 4], [3, 4]), ([], []), ([], []), ([], []), ([7, 8], [7, 8]), ([], []), ([9, 10], [9, 10]), ([6, 11], [6, 11]), ([12], [12]), ([], []), ([14], [14]), ([13, 15], [13, 15]), ([0, 5, 0, 1, 2, 3, 4, 5, 6, 7, 8, 9, 10, 11, 12, 13, 14, 15, 16], [0, 5]), ([17, 16, 15, 0, 1, 2, 3, 4, 5, 6, 7, 8, 9, 10, 11, 12, 13, 14, 15, 16], [16, 17])])
def gimbalref11_Tight.B43 : List Nat := [0, 0, 0, 6, 0, 30, 0, 0, 0, 384, 0, 1920, 4032, 8128, 0, 16384, 65472, 131071, 262143]
theorem gimbalref11_Tight.tab43 : rtab .any (opsOf Try.f59 43) = gimbalref11_Tight.T43 := by kernel_rfl
theorem gimbalref11_Tight.bits43 : waitsOk gimbalref11_Tight.T43.2 gimbalref11_Tight.B43 = true := by kernel_rfl
set_option maxHeartbeats 8000000 in
set_option maxRecDepth 100000 in
theorem gimbalref11_Tight.calls (k : Nat) (A0 : Option Addr) (c0 : Nat) (l0 : List Int) (a1 : Int) (r1 : List Int) (r2 : Bool) (w : World) (hr0 : Kd.C (Kd.int .i64) w A0 l0.length l0) (hc0 : l0.length ≤ c0) (h : gimbalref11_Tight.f k l0 a1 = some (r1, r2)) :
 Calls Try.prog 59 #[.slice A0 l0.length c0, .int .i64 a1] w fun e w' => ∃ v0_ : Value, e = .returned (.tuple #[v0_, .bool r2]) ∧ Kd.R (Kd.int .i64) 2 w' w.heap.size (fun _ => True) v0_ r1 ∧ Below w.heap.size w w' := by
 have HR0 := Aside0.mk hr0
 have HC0 := Aside0.mk hc0
 clear hr0 hc0
 have HB := Aside0.mk (Below.refl w.heap.size w)
 have H : (if ([] : List Int).length + l0.length < 17592186044416 then (gimbalref11_Tight.l0 k a1 (([] : List Int) ++ l0) 1) else (none)) = some (r1, r2) := h
 clear h
 by_cases c3 : ([] : List Int).length + l0.length < 17592186044416
 ·
  rw [if_pos c3] at H
  have LMc3 := Aside0.mk c3
  clear c3
  obtain ⟨y231, hy231⟩ : ∃ y_ : List Int, y_ = (([] : List Int) ++ l0) := ⟨_, rfl⟩
  replace H : (gimbalref11_Tight.l0 k a1 y231 1) = some (r1, r2) := by first | (rw [hy231]; with_reducible exact H) | (have H2_ := (Option.bind_some _ _).symm.trans H; rw [hy231]; with_reducible exact H2_) | (have H2_ := (Option.bind_some _ _).symm.trans H; with_reducible exact H2_) | with_reducible exact H | (rw [hy231]; exact H) | exact H
  have Ny231 := Aside0.mk hy231
  clear hy231
  have H' := Aside0.mk H
  clear H
  go_enter Try.func59, Try.ntmps59
  go_wp2_with ((with_reducible refine gate_builtin (b := .append) (xs := #[.tmp 20, .tmp 21]) rfl ?_); at_builtin; refine Kd.R_append_rows (Kd.int .i64) (w0 := w) w.heap.size rfl (.tmp 20) (.tmp 21) 23 2 (.int .i64 0) 8 rfl Try.underlying23 info2 rfl (by decide) (by omega) (.slice none 0 0) ([] : List Int) l0 _ _ _ (fun _ => True) (fun _ => False) rfl rfl ?aO ?aR (fun _ _ h => h) (fun _ h => h.elim) ?aF ?aB ?aS ?aL ?_; (case aR => repeat (first | exact HR0.out | (with_reducible refine Kd.C_alloc ?_ _) | (with_reducible refine Kd.C_drewN ?_ _) | (with_reducible refine Kd.C_drew ?_))); (case aB => exact (vW HB.out)); (case aF => exact (fun _ _ => trivial)); (case aO => exact ((Kd.R_nil _ _ _ _ (fun _ => True)))); (case aS => exact (below_size (vW HB.out))); (case aL => have := LMc3.out; omega); intro v232 w4 ho hb hg hat; rw [← Ny231.out] at ho; replace HB := Aside0.mk (hb); have HO233 := Aside0.mk (ho); clear ho hb hg hat)
  go_loopg [6, 7] k (fun kq v6 v7 w' => ∃ (x6_1 : List Int) (x7_1 : Int), v7 = .int .i64 x7_1 ∧ Aside0 (gimbalref11_Tight.l0 kq a1 x6_1 x7_1 = some (r1, r2)) ∧ Aside0 (kq ≤ k) ∧ Aside0 (Kd.R (Kd.int .i64) 2 w' w.heap.size (fun _ => True) v6 x6_1) ∧ Aside0 (Below w.heap.size w w'))
  case atStart => exact ⟨(y231), (1), (by first | rfl | (simp; done) | (simp [*]; done)), H', ⟨Nat.le_refl _⟩, ⟨vR HO233.out⟩, ⟨vW HB.out⟩⟩
  case round =>
   clear H'
   obtain ⟨x6_1, x7_1, rfl, HA, HK1, HO_6, HB⟩ := hrel
   cases gk with
   | zero => exact absurd HA.out (by simp [gimbalref11_Tight.l0])
   | succ k1 =>
    have H := HA.out
    clear HA
    simp only [gimbalref11_Tight.l0] at H
    by_cases c5 : x7_1 ≤ (wrap64 (2 * a1))
    ·
     rw [if_pos c5] at H
     have c5b0 : decide (x7_1 ≤ (wrap64 (2 * a1))) = true := decide_eq_true c5
     clear c5
     obtain ⟨ji6, hji6⟩ : ∃ j_ : Int, (wrap64 (a1 * a1)) = j_ := ⟨_, rfl⟩
     replace H : (if 0 ≤ (ji6) then (if (ji6 : Int).toNat ≤ 35184372088832 then (gimbalref11_Tight.l1 k1 a1 x6_1 x7_1 (List.replicate (ji6 : Int).toNat 0) 0) else (none)) else (none)) = some (r1, r2) := by first | (rw [hji6] at H; exact H) | (simp only [hji6] at H ⊢; exact H)
     have hji6w : (IntKind.i64.wrap (a1 * a1)) = ji6 := (i64_w _).trans hji6
     by_cases c7 : 0 ≤ (ji6)
     ·
      rw [if_pos c7] at H
      have c7b0 := eq_true c7
      have c7b1 : decide (0 ≤ (ji6)) = true := decide_eq_true c7
      clear c7
      by_cases c8 : (ji6 : Int).toNat ≤ 35184372088832
      ·
       rw [if_pos c8] at H
       have c8b0 := eq_true c8
       have c8b1 : decide ((ji6 : Int).toNat ≤ 35184372088832) = true := decide_eq_true c8
       clear c8
       obtain ⟨y234, hy234⟩ : ∃ y_ : List Int, y_ = (List.replicate (ji6 : Int).toNat 0) := ⟨_, rfl⟩
       replace H : (gimbalref11_Tight.l1 k1 a1 x6_1 x7_1 y234 0) = some (r1, r2) := by first | (rw [hy234]; with_reducible exact H) | (have H2_ := (Option.bind_some _ _).symm.trans H; rw [hy234]; with_reducible exact H2_) | (have H2_ := (Option.bind_some _ _).symm.trans H; with_reducible exact H2_) | with_reducible exact H | (rw [hy234]; exact H) | exact H
       have Ny234 := Aside0.mk hy234
       clear hy234
       have H' := Aside0.mk H
       clear H
       go_wp2_with ((with_reducible refine gate_dst (N := 32) rfl ?_); refine Kd.R_make (Kd.int .i64) _ 2 rfl (N := 32) rfl 23 _ _ rfl ji6 rfl rfl Try.underlying23 (.int .i64 0) 8 info2 rfl (by decide) (by omega) 0 (ok := fun _ => True) (okp := fun _ => True) rfl (fun _ hk => hk) trivial (of_decide_eq_true (by first | (with_reducible assumption) | assumption)) (Nat.le_trans (Nat.mul_le_mul_right _ (of_decide_eq_true (by first | (with_reducible assumption) | assumption) : ji6.toNat ≤ 35184372088832)) (by omega)) (Below.refl _ _) (Nat.le_refl _) ?_; intro v235 w9 ho10 hb hg_ hnew_; clear hg_ hnew_; (first | rw [← Ny234.out] at ho10 | (simp only [Int.reduceToNat] at ho10; rw [← Ny234.out] at ho10)); have HO236 := Aside0.mk (Kd.R_lower (Kd.R_new' ho10 (Kd.R_lt (vR HO_6.out))) (below_size (vW HB.out))); replace HO_6 := Aside0.mk (Kd.R_elder' (vR HO_6.out) (Kd.R_base ho10) hb); replace HB := vWs HB hb; clear hb ho10)
       go_loopg [9] k1 (fun kq v9 w' => ∃ (x8_2 : List Int) (x9_2 : Int), v9 = .int .i64 x9_2 ∧ Aside0 (gimbalref11_Tight.l1 kq a1 x6_1 x7_1 x8_2 x9_2 = some (r1, r2)) ∧ Aside0 (kq ≤ k1) ∧ Aside0 (Kd.R (Kd.int .i64) 2 w' w.heap.size (fun k_ => some k_ ≠ (v235 : Value).ownBlock) u6 x6_1) ∧ Aside0 (Kd.R (Kd.int .i64) 2 w' w.heap.size (fun k_ => some k_ ≠ (u6 : Value).ownBlock) v235 x8_2) ∧ Aside0 (Below w.heap.size w w'))
       case atStart => exact ⟨(y234), (0), (by first | rfl | (simp; done) | (simp [*]; done)), H', ⟨Nat.le_refl _⟩, ⟨by (with_reducible repeat (first | apply Kd.R_alloc | apply Kd.R_drewN | apply Kd.R_drew)); exact Kd.R_mono HO_6.out (fun _ hk => hk.2)⟩, ⟨by (with_reducible repeat (first | apply Kd.R_alloc | apply Kd.R_drewN | apply Kd.R_drew)); exact Kd.R_mono HO236.out (fun _ hk => hk.2)⟩, ⟨vW HB.out⟩⟩
       case round =>
        clear H'
        try clear c5b0
        try clear c7b0
        try clear c7b1
        try clear c8b0
        try clear c8b1
        obtain ⟨x8_2, x9_2, rfl, HA, HK2, HO_6, HO_8, HB⟩ := hrel
        cases gk with
        | zero => exact absurd HA.out (by simp [gimbalref11_Tight.l1])
        | succ k2 =>
         have H := HA.out
         clear HA
         simp only [gimbalref11_Tight.l1] at H
         by_cases c11 : x9_2 < a1
         ·
          rw [if_pos c11] at H
          have c11b0 : decide (x9_2 < a1) = true := decide_eq_true c11
          clear c11
          have H' := Aside0.mk H
          clear H
          go_wp2
          go_loopg [10] k2 (fun kq v10 w' => ∃ (x8_3 : List Int) (x10_3 : Int), v10 = .int .i64 x10_3 ∧ Aside0 (gimbalref11_Tight.l2 kq a1 x6_1 x7_1 x8_3 x9_2 x10_3 = some (r1, r2)) ∧ Aside0 (kq ≤ k2) ∧ Aside0 (Kd.R (Kd.int .i64) 2 w' w.heap.size (fun k_ => some k_ ≠ (v235 : Value).ownBlock) u6 x6_1) ∧ Aside0 (Kd.R (Kd.int .i64) 2 w' w.heap.size (fun k_ => some k_ ≠ (u6 : Value).ownBlock) v235 x8_3) ∧ Aside0 (Below w.heap.size w w'))
          case atStart => exact ⟨(x8_2), (0), (by first | rfl | (simp; done) | (simp [*]; done)), H', ⟨Nat.le_refl _⟩, ⟨vR HO_6.out⟩, ⟨vR HO_8.out⟩, ⟨vW HB.out⟩⟩
          case round =>
           clear H'
           try clear c11b0
           obtain ⟨x8_3, x10_3, rfl, HA, HK3, HO_6, HO_8, HB⟩ := hrel
           cases gk with
           | zero => exact absurd HA.out (by simp [gimbalref11_Tight.l2])
           | succ k3 =>
            have H := HA.out
            clear HA
            simp only [gimbalref11_Tight.l2] at H
            by_cases c12 : x10_3 < a1
            ·
             rw [if_pos c12] at H
             have c12b0 : decide (x10_3 < a1) = true := decide_eq_true c12
             clear c12
             obtain ⟨ji13, hji13⟩ : ∃ j_ : Int, (wrap64 ((wrap64 (x9_2 * a1)) + x10_3)) = j_ := ⟨_, rfl⟩
             replace H : (if 0 ≤ (ji13) then (if (ji13) < (x6_1.length : Int) then (gimbalref11_Tight.l3 k3 a1 x6_1 x7_1 x8_3 x9_2 x10_3 (rd x6_1 (ji13)) 0) else (none)) else (none)) = some (r1, r2) := by first | (rw [hji13] at H; exact H) | (simp only [hji13] at H ⊢; exact H)
             have hji13w : (IntKind.i64.wrap ((wrap64 (x9_2 * a1)) + x10_3)) = ji13 := (i64_w _).trans hji13
             by_cases c14 : 0 ≤ (ji13)
             ·
              rw [if_pos c14] at H
              have c14b0 : decide (0 ≤ (ji13)) = true := decide_eq_true c14
              clear c14
              by_cases c15 : (ji13) < (x6_1.length : Int)
              ·
               rw [if_pos c15] at H
               have c15b0 : decide ((ji13) < (x6_1.length : Int)) = true := decide_eq_true c15
               clear c15
               have H' := Aside0.mk H
               clear H
               obtain ⟨Ao16, co16, eo16⟩ := Kd.R_slice HO_6.out
               subst eo16
               have p238 : 0 ≤ ((ji13) : Int) := of_decide_eq_true (by first | (with_reducible assumption) | assumption)
               have q238 : (ji13) < (x6_1.length : Int) := of_decide_eq_true (by first | (with_reducible assumption) | assumption)
               (try (obtain ⟨AoZ, coZ, eoZ⟩ := Kd.R_slice HO_6.out; subst eoZ))
               obtain ⟨ad238, e238, hx238_0⟩ := Kd.at_int (Kd.R_reads' HO_6.out).2.2 (ji13) p238 q238
               cases e238
               replace p238 := eq_true p238
               replace q238 := eq_true q238
               go_wp2
               go_loopg [11, 12] k3 (fun kq v11 v12 w' => ∃ (x11_4 : Int) (x12_4 : Int), v11 = .int .i64 x11_4 ∧ v12 = .int .i64 x12_4 ∧ Aside0 (gimbalref11_Tight.l3 kq a1 x6_1 x7_1 x8_3 x9_2 x10_3 x11_4 x12_4 = some (r1, r2)) ∧ Aside0 (kq ≤ k3) ∧ Aside0 (Kd.R (Kd.int .i64) 2 w' w.heap.size (fun k_ => some k_ ≠ (v235 : Value).ownBlock) (.slice (some ad238) x6_1.length co16) x6_1) ∧ Aside0 (Kd.R (Kd.int .i64) 2 w' w.heap.size (fun k_ => some k_ ≠ ((.slice (some ad238) x6_1.length co16) : Value).ownBlock) v235 x8_3) ∧ Aside0 (Below w.heap.size w w'))
               case atStart => exact ⟨(rd x6_1 (ji13)), (0), (by first | rfl | (simp; done) | (simp only [← hji13] <;> (first | rfl | simp)) | (simp [*]; done)), (by first | rfl | (simp; done) | (simp [*]; done)), H', ⟨Nat.le_refl _⟩, ⟨vR HO_6.out⟩, ⟨vR HO_8.out⟩, ⟨vW HB.out⟩⟩
               case round =>
                clear H'
                try clear c12b0
                try clear c14b0
                try clear c15b0
                try clear hx238_0
                try clear p238
                try clear q238
                obtain ⟨x11_4, x12_4, rfl, rfl, HA, HK4, HO_6, HO_8, HB⟩ := hrel
                cases gk with
                | zero => exact absurd HA.out (by simp [gimbalref11_Tight.l3])
                | succ k4 =>
                 have H := HA.out
                 clear HA
                 simp only [gimbalref11_Tight.l3] at H
                 by_cases c17 : x12_4 < a1
                 ·
                  rw [if_pos c17] at H
                  have c17b0 : decide (x12_4 < a1) = true := decide_eq_true c17
                  clear c17
                  obtain ⟨ji18, hji18⟩ : ∃ j_ : Int, (wrap64 ((wrap64 (x9_2 * a1)) + x12_4)) = j_ := ⟨_, rfl⟩
                  replace H : (if 0 ≤ (ji18) then (if (ji18) < (x6_1.length : Int) then (if 0 ≤ (wrap64 ((wrap64 (x12_4 * a1)) + x10_3)) then (if (wrap64 ((wrap64 (x12_4 * a1)) + x10_3)) < (x6_1.length : Int) then ((gimbalref11_plus.f (rd x6_1 (ji18)) (rd x6_1 (wrap64 ((wrap64 (x12_4 * a1)) + x10_3)))).bind fun t241 => (gimbalref11_Tight.l3 k4 a1 x6_1 x7_1 x8_3 x9_2 x10_3 (mn x11_4 t241) (wrap64 (x12_4 + 1)))) else (none)) else (none)) else (none)) else (none)) = some (r1, r2) := by first | (rw [hji18] at H; exact H) | (simp only [hji18] at H ⊢; exact H)
                  have hji18w : (IntKind.i64.wrap ((wrap64 (x9_2 * a1)) + x12_4)) = ji18 := (i64_w _).trans hji18
                  by_cases c19 : 0 ≤ (ji18)
                  ·
                   rw [if_pos c19] at H
                   have c19b0 : decide (0 ≤ (ji18)) = true := decide_eq_true c19
                   clear c19
                   by_cases c20 : (ji18) < (x6_1.length : Int)
                   ·
                    rw [if_pos c20] at H
                    have c20b0 : decide ((ji18) < (x6_1.length : Int)) = true := decide_eq_true c20
                    clear c20
                    obtain ⟨ji21, hji21⟩ : ∃ j_ : Int, (wrap64 ((wrap64 (x12_4 * a1)) + x10_3)) = j_ := ⟨_, rfl⟩
                    replace H : (if 0 ≤ (ji21) then (if (ji21) < (x6_1.length : Int) then ((gimbalref11_plus.f (rd x6_1 (ji18)) (rd x6_1 (ji21))).bind fun t241 => (gimbalref11_Tight.l3 k4 a1 x6_1 x7_1 x8_3 x9_2 x10_3 (mn x11_4 t241) (wrap64 (x12_4 + 1)))) else (none)) else (none)) = some (r1, r2) := by first | (rw [hji21] at H; exact H) | (simp only [hji21] at H ⊢; exact H)
                    have hji21w : (IntKind.i64.wrap ((wrap64 (x12_4 * a1)) + x10_3)) = ji21 := (i64_w _).trans hji21
                    by_cases c22 : 0 ≤ (ji21)
                    ·
                     rw [if_pos c22] at H
                     have c22b0 : decide (0 ≤ (ji21)) = true := decide_eq_true c22
                     clear c22
                     by_cases c23 : (ji21) < (x6_1.length : Int)
                     ·
                      rw [if_pos c23] at H
                      have c23b0 : decide ((ji21) < (x6_1.length : Int)) = true := decide_eq_true c23
                      clear c23
                      replace H := Option.bind_eq_some_iff.mp H
                      obtain ⟨t241, A240, H⟩ := H
                      replace H : (gimbalref11_Tight.l3 k4 a1 x6_1 x7_1 x8_3 x9_2 x10_3 (mn x11_4 t241) (wrap64 (x12_4 + 1))) = some (r1, r2) := H
                      have A24 := Aside0.mk A240
                      clear A240
                      obtain ⟨ji25, hji25⟩ : ∃ j_ : Int, (mn x11_4 t241) = j_ := ⟨_, rfl⟩
                      replace H : (gimbalref11_Tight.l3 k4 a1 x6_1 x7_1 x8_3 x9_2 x10_3 ji25 (wrap64 (x12_4 + 1))) = some (r1, r2) := by first | (rw [hji25] at H; exact H) | (simp only [hji25] at H ⊢; exact H)
                      (try rw [hji25] at A24)
                      have hji25_ : (if t241 < x11_4 then t241 else x11_4) = ji25 := hji25
                      have H' := Aside0.mk H
                      clear H
                      try go_wp2
                      replace HO_6 := Aside0.mk (Kd.R_drew HO_6.out)
                      replace HO_8 := Aside0.mk (Kd.R_drew HO_8.out)
                      replace HB := Aside0.mk (below_drew1 HB.out)
                      have p239 : 0 ≤ ((ji18) : Int) := of_decide_eq_true (by first | (with_reducible assumption) | assumption)
                      have q239 : (ji18) < (x6_1.length : Int) := of_decide_eq_true (by first | (with_reducible assumption) | assumption)
                      (try (obtain ⟨AoZ, coZ, eoZ⟩ := Kd.R_slice HO_6.out; subst eoZ))
                      obtain ⟨ad239, e239, hx239_0⟩ := Kd.at_int (Kd.R_reads' HO_6.out).2.2 (ji18) p239 q239
                      obtain rfl : ad238 = ad239 := (by injection e239)
                      replace p239 := eq_true p239
                      replace q239 := eq_true q239
                      have p240 : 0 ≤ ((ji21) : Int) := of_decide_eq_true (by first | (with_reducible assumption) | assumption)
                      have q240 : (ji21) < (x6_1.length : Int) := of_decide_eq_true (by first | (with_reducible assumption) | assumption)
                      (try (obtain ⟨AoZ, coZ, eoZ⟩ := Kd.R_slice HO_6.out; subst eoZ))
                      obtain ⟨ad240, e240, hx240_0⟩ := Kd.at_int (Kd.R_reads' HO_6.out).2.2 (ji21) p240 q240
                      obtain rfl : ad238 = ad240 := (by injection e240)
                      replace p240 := eq_true p240
                      replace q240 := eq_true q240
                      refine start_ (n := 20) (S := fun w' => w'.cell? (ad238.add ((ji18)).toNat) = some (.int .i64 (rd x6_1 (ji18))) ∧ w'.cell? (ad238.add ((ji21)).toNat) = some (.int .i64 (rd x6_1 (ji21)))) (ds := []) (mB 20 0) (by kernel_rfl) rfl rfl ⟨hx239_0, hx240_0⟩ (fun hHeld => ?_); refine with_tabW gimbalref11_Tight.tab17 gimbalref11_Tight.bits17 (fun HT_ HW_ => ?_)
                      generalize wr.drew = w26 at HO_6 HO_8 HB hx239_0 hx240_0 hHeld ⊢
                      refine pV_ 0 56 (mB 20 1) HT_ ?_
                      refine pV_ 1 57 (mB 20 3) HT_ ?_
                      refine pV_ 2 58 (mB 20 7) HT_ ?_
                      refine pV_ 3 59 (mB 20 15) HT_ ?_
                      refine pV_ 4 60 (mB 20 31) HT_ ?_
                      refine pV_ 5 61 (mB 20 63) HT_ ?_
                      refine pV_ 6 62 (mB 20 127) HT_ ?_
                      refine pV_ 7 63 (mB 20 255) HT_ ?_
                      refine pV_ 9 65 (mB 20 767) HT_ ?_
                      refine pV_ 10 66 (mB 20 1791) HT_ ?_
                      refine pV_ 11 67 (mB 20 3839) HT_ ?_
                      refine pV_ 12 68 (mB 20 7935) HT_ ?_
                      refine pV_ 13 69 (mB 20 16127) HT_ ?_
                      refine pV_ 14 70 (mB 20 32511) HT_ ?_
                      refine pV_ 15 71 (mB 20 65279) HT_ ?_
                      refine tV_ 8 64 (mB 20 65535) HT_ HW_ hHeld ?_
                      refine tV_ 16 72 (mB 20 131071) HT_ HW_ hHeld ?_
                      refine one_ (i := 17) (N := some 73) (mB 20 262143) rfl rfl (one_of HT_.out (by kernel_rfl)) (by decide) (fun K hK => ?_)
                      refine goes_ Try.func84 (by kernel_rfl) rfl #[.int .i64 (rd x6_1 (ji18)), .int .i64 (rd x6_1 (ji21))] (by rfl) rfl rfl (by (try simp only [List.map_toArray, List.map_cons, List.map_nil]); first | done | (simp only [hji18, hji21]; rfl) | rfl | (simp only [List.length_drop, List.length_take]; rfl)) ?_
                      with_reducible refine (gimbalref11_plus.calls (rd x6_1 (ji18)) (rd x6_1 (ji21)) t241 _ A24.out).mono ?_
                      rintro e w' ⟨rfl, ⟨nd, rfl⟩⟩
                      refine ⟨_, rfl, ?_⟩
                      refine hK.out _ _ ⟨hHeld.1, hHeld.2⟩ (fun hHeld => ?_)
                      clear hK K
                      refine norm_ (a' := ?_) ?_ ?_
                      rotate_left
                      ·
                       show Act.put _ (some 73) _ = _
                       simp only [Act.put, List.setIfInBounds_toArray, List.set_cons_zero, List.set_cons_succ, i64_w, i32_w]
                       rfl
                      refine pV_ 18 74 (mB 20 524287) HT_ ?_
                      refine pV_ 19 11 (mB 20 1048575) HT_ ?_
                      refine done_ (done_of HT_.out (by kernel_rfl)) ?_
                      try go_wp2
                      go_roundg k4
                      case measure => have := HK1.out; have := HK2.out; have := HK3.out; have := HK4.out; omega
                      case rel => exact ⟨(ji25), (wrap64 (x12_4 + 1)), (by first | rfl | (simp; done) | (simp only [← hji25] <;> (first | rfl | simp)) | (simp [*]; done)), (by first | rfl | (simp; done) | (simp [*]; done)), H', ⟨by have := HK1.out; have := HK2.out; have := HK3.out; have := HK4.out; omega⟩, ⟨vR HO_6.out⟩, ⟨vR HO_8.out⟩, ⟨vW HB.out⟩⟩
                     ·
                      rw [if_neg c23] at H
                      exact absurd H (by simp)
                    ·
                     rw [if_neg c22] at H
                     exact absurd H (by simp)
                   ·
                    rw [if_neg c20] at H
                    exact absurd H (by simp)
                  ·
                   rw [if_neg c19] at H
                   exact absurd H (by simp)
                 ·
                  rw [if_neg c17] at H
                  have c17b0 : decide (x12_4 < a1) = false := decide_eq_false c17
                  clear c17
                  obtain ⟨ji27, hji27⟩ : ∃ j_ : Int, (wrap64 ((wrap64 (x9_2 * a1)) + x10_3)) = j_ := ⟨_, rfl⟩
                  replace H : (if 0 ≤ (ji27) then (if (ji27) < (x8_3.length : Int) then (gimbalref11_Tight.l2 k4 a1 x6_1 x7_1 (x8_3.set ((ji27) : Int).toNat x11_4) x9_2 (wrap64 (x10_3 + 1))) else (none)) else (none)) = some (r1, r2) := by first | (rw [hji27] at H; exact H) | (simp only [hji27] at H ⊢; exact H)
                  have hji27w : (IntKind.i64.wrap ((wrap64 (x9_2 * a1)) + x10_3)) = ji27 := (i64_w _).trans hji27
                  (try (obtain rfl : ji27 = ji13 := hji27.symm.trans hji13))
                  by_cases c28 : 0 ≤ (ji27)
                  ·
                   rw [if_pos c28] at H
                   have c28b0 : decide (0 ≤ (ji27)) = true := decide_eq_true c28
                   clear c28
                   by_cases c29 : (ji27) < (x8_3.length : Int)
                   ·
                    rw [if_pos c29] at H
                    have c29b0 : decide ((ji27) < (x8_3.length : Int)) = true := decide_eq_true c29
                    clear c29
                    obtain ⟨y242, hy242⟩ : ∃ y_ : List Int, y_ = (x8_3.set ((ji27) : Int).toNat x11_4) := ⟨_, rfl⟩
                    replace H : (gimbalref11_Tight.l2 k4 a1 x6_1 x7_1 y242 x9_2 (wrap64 (x10_3 + 1))) = some (r1, r2) := by first | (rw [hy242]; with_reducible exact H) | (have H2_ := (Option.bind_some _ _).symm.trans H; rw [hy242]; with_reducible exact H2_) | (have H2_ := (Option.bind_some _ _).symm.trans H; with_reducible exact H2_) | with_reducible exact H | (rw [hy242]; exact H) | exact H
                    have Ny242 := Aside0.mk hy242
                    clear hy242
                    have H' := Aside0.mk H
                    clear H
                    have p30 : 0 ≤ ((ji27) : Int) := of_decide_eq_true (by first | (with_reducible assumption) | assumption)
                    have q30 : ((ji27) : Int) < ((x8_3.length : Int) : Int) := of_decide_eq_true (by first | (with_reducible assumption) | assumption)
                    obtain ⟨go30, co30, eo30, gb30, gl30, cl30, HG30⟩ := Kd.R_form HO_8.out (by omega)
                    (first | cases eo30 | (injection eo30 with ea_ en_ ec_; (first | subst ea_ | (injection ea_ with ea_; subst ea_)); subst ec_; clear en_))
                    have GB30 := Aside0.mk gb30
                    have GG30 := Aside0.mk HG30
                    clear gb30 gl30 HG30
                    obtain ⟨hx30_0, hf30_0⟩ := Kd.R_celln 0 HO_8.out ((ji27) : Int) p30 q30
                    replace p30 := eq_true p30
                    replace q30 := eq_true q30
                    have HP31 := Kd.R_putg HO_8.out ((ji27) : Int) x11_4
                    go_wp2_with ((with_reducible refine gate_store (t := 2) (p := 82) rfl ?_); refine store_event (t := 2) (p := 82) (v := ?vo_w32) (w1 := (wr.setCell ⟨go30, ((ji27) : Int).toNat, none⟩ (.int .i64 x11_4))) ?hg ?ho ?hn ?hr ?_; (case ho => rfl); (case hg => rfl); (case hn => rfl); (case hr => first | (go_simp; done) | (go_simp; rfl)); intro w32 hw; have hg : wr.grownBy w32 (some go30) := (by rw [hw]; exact HP31.2); have hp_ : Kd.R (Kd.int .i64) 2 w32 w.heap.size (fun k_ => some k_ ≠ (.slice (some ad238) x6_1.length co16 : Value).ownBlock) (.slice (some ⟨go30, 0, none⟩) x8_3.length co30) y242 := (by rw [hw, Ny242.out]; exact HP31.1); clear HP31; replace HO_6 := Aside0.mk (Kd.R_after (v := (.slice (some ⟨go30, 0, none⟩) x8_3.length co30)) (v1 := (.slice (some ⟨go30, 0, none⟩) x8_3.length co30)) (ok := (fun _ => True)) (by (with_reducible repeat (first | apply Kd.R_alloc | apply Kd.R_drewN | apply Kd.R_drew)); exact Kd.R_mono HO_6.out (fun _ hk => ⟨trivial, hk⟩)) hg (.inl rfl)); replace HO_8 := Aside0.mk (hp_); replace HB := Aside0.mk ((by rw [hw]; exact below_set (HB.out) GB30.out : Below w.heap.size w w32)); clear hg hw hp_)
                    go_roundg k4
                    case measure => have := HK1.out; have := HK2.out; have := HK3.out; have := HK4.out; omega
                    case rel => exact ⟨(y242), (wrap64 (x10_3 + 1)), (by first | rfl | (simp; done) | (simp [*]; done)), H', ⟨by have := HK1.out; have := HK2.out; have := HK3.out; have := HK4.out; omega⟩, ⟨by (with_reducible repeat (first | apply Kd.R_alloc | apply Kd.R_drewN | apply Kd.R_drew)); exact Kd.R_mono HO_6.out (fun _ hk => hk.2)⟩, ⟨vR HO_8.out⟩, ⟨vW HB.out⟩⟩
                   ·
                    rw [if_neg c29] at H
                    exact absurd H (by simp)
                  ·
                   rw [if_neg c28] at H
                   exact absurd H (by simp)
              ·
               rw [if_neg c15] at H
               exact absurd H (by simp)
             ·
              rw [if_neg c14] at H
              exact absurd H (by simp)
            ·
             rw [if_neg c12] at H
             have c12b0 : decide (x10_3 < a1) = false := decide_eq_false c12
             clear c12
             obtain ⟨ji33, hji33⟩ : ∃ j_ : Int, (wrap64 ((wrap64 (x9_2 * a1)) + x9_2)) = j_ := ⟨_, rfl⟩
             replace H : (if 0 ≤ (ji33) then (if (ji33) < (x8_3.length : Int) then (if (rd x8_3 (ji33)) < 0 then (some (([] : List Int), false)) else (gimbalref11_Tight.l1 k3 a1 x6_1 x7_1 x8_3 (wrap64 (x9_2 + 1)))) else (none)) else (none)) = some (r1, r2) := by first | (rw [hji33] at H; exact H) | (simp only [hji33] at H ⊢; exact H)
             have hji33w : (IntKind.i64.wrap ((wrap64 (x9_2 * a1)) + x9_2)) = ji33 := (i64_w _).trans hji33
             by_cases c34 : 0 ≤ (ji33)
             ·
              rw [if_pos c34] at H
              have c34b0 : decide (0 ≤ (ji33)) = true := decide_eq_true c34
              clear c34
              by_cases c35 : (ji33) < (x8_3.length : Int)
              ·
               rw [if_pos c35] at H
               have c35b0 : decide ((ji33) < (x8_3.length : Int)) = true := decide_eq_true c35
               clear c35
               by_cases c36 : (rd x8_3 (ji33)) < 0
               ·
                rw [if_pos c36] at H
                have c36b0 : decide ((rd x8_3 (ji33)) < 0) = true := decide_eq_true c36
                clear c36
                simp only [Option.some.injEq, Prod.mk.injEq] at H
                obtain ⟨rfl, rfl⟩ := H
                obtain ⟨Ao37, co37, eo37⟩ := Kd.R_slice HO_8.out
                subst eo37
                have p237 : 0 ≤ ((ji33) : Int) := of_decide_eq_true (by first | (with_reducible assumption) | assumption)
                have q237 : (ji33) < (x8_3.length : Int) := of_decide_eq_true (by first | (with_reducible assumption) | assumption)
                obtain ⟨ad237, e237, hx237_0⟩ := Kd.at_int (Kd.R_reads' HO_8.out).2.2 (ji33) p237 q237
                cases e237
                replace p237 := eq_true p237
                replace q237 := eq_true q237
                go_wp2
                go_ret2
                exact ⟨_, by first | rfl | (simp [errW_none, errW_some] <;> rfl) | (simp only [← hji6, ← hji33]; first | rfl | (simp [errW_none, errW_some] <;> rfl)) | (simp [*, errW_none, errW_some] <;> rfl) | (simp [wrap64]; done), by first | exact Kd.R_nil _ _ _ _ _ | exact Kd.N_nil _ _ _ _ _ | exact Kd.V_nil _ _ _ _ _ | exact Kd.Q_nil _ _ _ _ _ | exact Kd.S_nil _ _ _ _ _, vW HB.out⟩
               ·
                rw [if_neg c36] at H
                have c36b0 : decide ((rd x8_3 (ji33)) < 0) = false := decide_eq_false c36
                clear c36
                have H' := Aside0.mk H
                clear H
                obtain ⟨Ao38, co38, eo38⟩ := Kd.R_slice HO_8.out
                subst eo38
                have p237 : 0 ≤ ((ji33) : Int) := of_decide_eq_true (by first | (with_reducible assumption) | assumption)
                have q237 : (ji33) < (x8_3.length : Int) := of_decide_eq_true (by first | (with_reducible assumption) | assumption)
                obtain ⟨ad237, e237, hx237_0⟩ := Kd.at_int (Kd.R_reads' HO_8.out).2.2 (ji33) p237 q237
                cases e237
                replace p237 := eq_true p237
                replace q237 := eq_true q237
                go_wp2
                go_roundg k3
                case measure => have := HK1.out; have := HK2.out; have := HK3.out; omega
                case rel => exact ⟨(x8_3), (wrap64 (x9_2 + 1)), (by first | rfl | (simp; done) | (simp [*]; done)), H', ⟨by have := HK1.out; have := HK2.out; have := HK3.out; omega⟩, ⟨vR HO_6.out⟩, ⟨vR HO_8.out⟩, ⟨vW HB.out⟩⟩
              ·
               rw [if_neg c35] at H
               exact absurd H (by simp)
             ·
              rw [if_neg c34] at H
              exact absurd H (by simp)
         ·
          rw [if_neg c11] at H
          have c11b0 : decide (x9_2 < a1) = false := decide_eq_false c11
          clear c11
          have H' := Aside0.mk H
          clear H
          go_wp2
          go_roundg k2
          case measure => have := HK1.out; have := HK2.out; omega
          case rel => exact ⟨(x8_2), (wrap64 (2 * x7_1)), (by first | rfl | (simp; done) | (simp [*]; done)), H', ⟨by have := HK1.out; have := HK2.out; omega⟩, ⟨by (with_reducible repeat (first | apply Kd.R_alloc | apply Kd.R_drewN | apply Kd.R_drew)); exact Kd.R_mono HO_8.out (fun _ hk => trivial)⟩, ⟨vW HB.out⟩⟩
      ·
       rw [if_neg c8] at H
       exact absurd H (by simp)
     ·
      rw [if_neg c7] at H
      exact absurd H (by simp)
    ·
     rw [if_neg c5] at H
     have c5b0 : decide (x7_1 ≤ (wrap64 (2 * a1))) = false := decide_eq_false c5
     clear c5
     have H' := Aside0.mk H
     clear H
     go_wp2
     go_loopg [13] k1 (fun kq v13 w' => ∃ (x6_2 : List Int) (x13_2 : Int), v13 = .int .i64 x13_2 ∧ Aside0 (gimbalref11_Tight.l4 kq a1 x6_2 x13_2 = some (r1, r2)) ∧ Aside0 (kq ≤ k1) ∧ Aside0 (Kd.R (Kd.int .i64) 2 w' w.heap.size (fun _ => True) u6 x6_2) ∧ Aside0 (Below w.heap.size w w'))
     case atStart => exact ⟨(x6_1), (0), (by first | rfl | (simp; done) | (simp [*]; done)), H', ⟨Nat.le_refl _⟩, ⟨vR HO_6.out⟩, ⟨vW HB.out⟩⟩
     case round =>
      clear H'
      try clear c5b0
      obtain ⟨x6_2, x13_2, rfl, HA, HK2, HO_6, HB⟩ := hrel
      cases gk with
      | zero => exact absurd HA.out (by simp [gimbalref11_Tight.l4])
      | succ k2 =>
       have H := HA.out
       clear HA
       simp only [gimbalref11_Tight.l4] at H
       by_cases c39 : x13_2 < a1
       ·
        rw [if_pos c39] at H
        have c39b0 : decide (x13_2 < a1) = true := decide_eq_true c39
        clear c39
        replace H := Option.bind_eq_some_iff.mp H
        obtain ⟨t243, A400, H⟩ := H
        replace H : (if 0 ≤ (wrap64 ((wrap64 (x13_2 * a1)) + t243)) then (if (wrap64 ((wrap64 (x13_2 * a1)) + t243)) < (x6_2.length : Int) then (if (rd x6_2 (wrap64 ((wrap64 (x13_2 * a1)) + t243))) = 4611686018427387904 then (gimbalref11_Tight.l4 k2 a1 x6_2 (wrap64 (x13_2 + 1))) else ((gimbalref11_halved.f (rd x6_2 (wrap64 ((wrap64 (x13_2 * a1)) + t243)))).bind fun t246 => (gimbalref11_Tight.l4 k2 a1 (x6_2.set ((wrap64 ((wrap64 (x13_2 * a1)) + t243)) : Int).toNat (wrap64 (2 * t246))) (wrap64 (x13_2 + 1))))) else (none)) else (none)) = some (r1, r2) := H
        have A40 := Aside0.mk A400
        clear A400
        obtain ⟨ji41, hji41⟩ : ∃ j_ : Int, (wrap64 ((wrap64 (x13_2 * a1)) + t243)) = j_ := ⟨_, rfl⟩
        replace H : (if 0 ≤ (ji41) then (if (ji41) < (x6_2.length : Int) then (if (rd x6_2 (ji41)) = 4611686018427387904 then (gimbalref11_Tight.l4 k2 a1 x6_2 (wrap64 (x13_2 + 1))) else ((gimbalref11_halved.f (rd x6_2 (ji41))).bind fun t246 => (gimbalref11_Tight.l4 k2 a1 (x6_2.set ((ji41) : Int).toNat (wrap64 (2 * t246))) (wrap64 (x13_2 + 1))))) else (none)) else (none)) = some (r1, r2) := by first | (rw [hji41] at H; exact H) | (simp only [hji41] at H ⊢; exact H)
        (try rw [hji41] at A40)
        have hji41w : (IntKind.i64.wrap ((wrap64 (x13_2 * a1)) + t243)) = ji41 := (i64_w _).trans hji41
        by_cases c42 : 0 ≤ (ji41)
        ·
         rw [if_pos c42] at H
         have c42b0 : decide (0 ≤ (ji41)) = true := decide_eq_true c42
         clear c42
         by_cases c43 : (ji41) < (x6_2.length : Int)
         ·
          rw [if_pos c43] at H
          have c43b0 : decide ((ji41) < (x6_2.length : Int)) = true := decide_eq_true c43
          clear c43
          by_cases c44 : (rd x6_2 (ji41)) = 4611686018427387904
          ·
           rw [if_pos c44] at H
           have c44b0 : ((rd x6_2 (ji41)) == 4611686018427387904) = true := beq_iff_eq.mpr c44
           have c44b1 : ((rd x6_2 (ji41)) != 4611686018427387904) = false := bne_eq_false_iff_eq.mpr c44
           clear c44
           have H' := Aside0.mk H
           clear H
           go_wp2_with ((with_reducible refine gate_callee (f := 53) rfl ?_); refine goesL_ (some 102) rfl rfl Try.func53 (by kernel_rfl) rfl #[.int .i64 x13_2] rfl vL ?_; (with_reducible refine (gimbalref11_bar.calls x13_2 t243 _ A40.out).mono ?_); rintro e w' ⟨rfl, ⟨nd, rfl⟩⟩; refine ⟨_, rfl, ?_⟩; obtain ⟨Ao45, co45, eo45⟩ := Kd.R_slice HO_6.out; subst eo45; have p244 : 0 ≤ ((ji41) : Int) := of_decide_eq_true (by first | (with_reducible assumption) | assumption); have q244 : (ji41) < (x6_2.length : Int) := of_decide_eq_true (by first | (with_reducible assumption) | assumption); obtain ⟨ad244, e244, hx244_0⟩ := Kd.at_int (Kd.R_reads' HO_6.out).2.2 (ji41) p244 q244; cases e244; replace p244 := eq_true p244; replace q244 := eq_true q244)
           go_roundg k2
           case measure => have := HK1.out; have := HK2.out; omega
           case rel => exact ⟨(x6_2), (wrap64 (x13_2 + 1)), (by first | rfl | (simp; done) | (simp [*]; done)), H', ⟨by have := HK1.out; have := HK2.out; omega⟩, ⟨vR HO_6.out⟩, ⟨vW HB.out⟩⟩
          ·
           rw [if_neg c44] at H
           have c44b0 : ((rd x6_2 (ji41)) == 4611686018427387904) = false := beq_eq_false_iff_ne.mpr c44
           have c44b1 : ((rd x6_2 (ji41)) != 4611686018427387904) = true := bne_iff_ne.mpr c44
           replace H := Option.bind_eq_some_iff.mp H
           obtain ⟨t246, A460, H⟩ := H
           replace H : (gimbalref11_Tight.l4 k2 a1 (x6_2.set ((ji41) : Int).toNat (wrap64 (2 * t246))) (wrap64 (x13_2 + 1))) = some (r1, r2) := H
           have A46 := Aside0.mk A460
           clear A460
           obtain ⟨y247, hy247⟩ : ∃ y_ : List Int, y_ = (x6_2.set ((ji41) : Int).toNat (wrap64 (2 * t246))) := ⟨_, rfl⟩
           replace H : (gimbalref11_Tight.l4 k2 a1 y247 (wrap64 (x13_2 + 1))) = some (r1, r2) := by first | (rw [hy247]; with_reducible exact H) | (have H2_ := (Option.bind_some _ _).symm.trans H; rw [hy247]; with_reducible exact H2_) | (have H2_ := (Option.bind_some _ _).symm.trans H; with_reducible exact H2_) | with_reducible exact H | (rw [hy247]; exact H) | exact H
           have Ny247 := Aside0.mk hy247
           clear hy247
           have H' := Aside0.mk H
           clear H
           go_wp2_with (first | ((with_reducible refine gate_callee (f := 53) rfl ?_); refine goesL_ (some 102) rfl rfl Try.func53 (by kernel_rfl) rfl #[.int .i64 x13_2] rfl vL ?_; (with_reducible refine (gimbalref11_bar.calls x13_2 t243 _ A40.out).mono ?_); rintro e w' ⟨rfl, ⟨nd, rfl⟩⟩; refine ⟨_, rfl, ?_⟩; (try (rw [drewN_self wr]; generalize hq_ : World.drewN wr _ = wr; have n0_ : Aside0 (Kd.R (Kd.int .i64) 2 wr w.heap.size (fun _ => True) u6 x6_2) := ⟨by rw [← hq_]; exact (vR HO_6.out)⟩; have n1_ : Aside0 (Below w.heap.size w wr) := ⟨by rw [← hq_]; exact (vW HB.out)⟩; clear HO_6 HB hq_; have HO_6 := n0_; have HB := n1_; clear n0_ n1_)); obtain ⟨Ao48, co48, eo48⟩ := Kd.R_slice HO_6.out; subst eo48; have p244 : 0 ≤ ((ji41) : Int) := of_decide_eq_true (by first | (with_reducible assumption) | assumption); have q244 : (ji41) < (x6_2.length : Int) := of_decide_eq_true (by first | (with_reducible assumption) | assumption); obtain ⟨ad244, e244, hx244_0⟩ := Kd.at_int (Kd.R_reads' HO_6.out).2.2 (ji41) p244 q244; cases e244; replace p244 := eq_true p244; replace q244 := eq_true q244; have p245 : 0 ≤ ((ji41) : Int) := of_decide_eq_true (by first | (with_reducible assumption) | assumption); have q245 : (ji41) < (x6_2.length : Int) := of_decide_eq_true (by first | (with_reducible assumption) | assumption); obtain ⟨ad245, e245, hx245_0⟩ := Kd.at_int (Kd.R_reads' HO_6.out).2.2 (ji41) p245 q245; obtain rfl : ad244 = ad245 := (by injection e245); replace p245 := eq_true p245; replace q245 := eq_true q245) | ((with_reducible refine gate_callee (f := 85) rfl ?_); refine goesL_ (some 115) rfl rfl Try.func85 (by kernel_rfl) rfl #[.int .i64 (rd x6_2 (ji41))] rfl (by (try simp only [List.map_toArray, List.map_cons, List.map_nil]); first | done | (simp only [hji41]; rfl) | rfl | (simp only [List.length_drop, List.length_take]; rfl)) ?_; (with_reducible refine (gimbalref11_halved.calls (rd x6_2 (ji41)) t246 _ A46.out).mono ?_); rintro e w' ⟨rfl, ⟨nd, rfl⟩⟩; refine ⟨_, rfl, ?_⟩; (try (rw [drewN_self wr]; generalize hq_ : World.drewN wr _ = wr; have n0_ : Aside0 (Kd.R (Kd.int .i64) 2 wr w.heap.size (fun _ => True) (.slice (some ad244) x6_2.length co48) x6_2) := ⟨by rw [← hq_]; exact (vR HO_6.out)⟩; have n1_ : Aside0 (Below w.heap.size w wr) := ⟨by rw [← hq_]; exact (vW HB.out)⟩; clear HO_6 HB hq_; have HO_6 := n0_; have HB := n1_; clear n0_ n1_)); have p47 : 0 ≤ ((ji41) : Int) := of_decide_eq_true (by first | (with_reducible assumption) | assumption); have q47 : ((ji41) : Int) < ((x6_2.length : Int) : Int) := of_decide_eq_true (by first | (with_reducible assumption) | assumption); obtain ⟨go47, co47, eo47, gb47, gl47, cl47, HG47⟩ := Kd.R_form HO_6.out (by omega); (first | cases eo47 | (injection eo47 with ea_ en_ ec_; (first | subst ea_ | (injection ea_ with ea_; subst ea_)); subst ec_; clear en_)); have GB47 := Aside0.mk gb47; have GG47 := Aside0.mk HG47; clear gb47 gl47 HG47; (first | simp only [add_plain] at hx244_0 | skip); (first | simp only [add_plain] at hx245_0 | skip); obtain ⟨hx47_0, hf47_0⟩ := Kd.R_celln 0 HO_6.out ((ji41) : Int) p47 q47; replace p47 := eq_true p47; replace q47 := eq_true q47; obtain ⟨hy49_, hz49_⟩ := Kd.R_celln 0 HO_6.out ((ji41) : Int) (of_decide_eq_true (by first | (with_reducible assumption) | assumption)) (of_decide_eq_true (by first | (with_reducible assumption) | assumption)); have HP49 := Kd.R_putg HO_6.out ((ji41) : Int) (wrap64 (2 * t246))) | ((with_reducible refine gate_store (t := 2) (p := 117) rfl ?_); refine store_event (t := 2) (p := 117) (v := ?vo_w50) (w1 := (wr.setCell ⟨go47, ((ji41) : Int).toNat, none⟩ (.int .i64 (wrap64 (2 * t246))))) ?hg ?ho ?hn ?hr ?_; (case ho => rfl); (case hg => rfl); (case hn => rfl); (case hr => first | (go_simp; done) | (go_simp; rfl)); intro w50 hw; have hg : wr.grownBy w50 (some go47) := (by rw [hw]; exact HP49.2); have hp_ : Kd.R (Kd.int .i64) 2 w50 w.heap.size (fun _ => True) (.slice (some ⟨go47, 0, none⟩) x6_2.length co48) y247 := (by rw [hw, Ny247.out]; exact HP49.1); clear HP49; replace HO_6 := Aside0.mk (hp_); replace HB := Aside0.mk ((by rw [hw]; exact below_set (HB.out) GB47.out : Below w.heap.size w w50)); clear hg hw hp_))
           go_roundg k2
           case measure => have := HK1.out; have := HK2.out; omega
           case rel => exact ⟨(y247), (wrap64 (x13_2 + 1)), (by first | rfl | (simp; done) | (simp [*]; done)), H', ⟨by have := HK1.out; have := HK2.out; omega⟩, ⟨vR HO_6.out⟩, ⟨vW HB.out⟩⟩
         ·
          rw [if_neg c43] at H
          exact absurd H (by simp)
        ·
         rw [if_neg c42] at H
         exact absurd H (by simp)
       ·
        rw [if_neg c39] at H
        have c39b0 : decide (x13_2 < a1) = false := decide_eq_false c39
        clear c39
        have H' := Aside0.mk H
        clear H
        go_wp2
        go_loopg [15] k2 (fun kq v15 w' => ∃ (x15_3 : Int), v15 = .int .i64 x15_3 ∧ Aside0 (gimbalref11_Tight.l5 kq a1 x6_2 x15_3 = some (r1, r2)) ∧ Aside0 (kq ≤ k2) ∧ Aside0 (Kd.R (Kd.int .i64) 2 w' w.heap.size (fun _ => True) u6 x6_2) ∧ Aside0 (Below w.heap.size w w'))
        case atStart => exact ⟨(0), (by first | rfl | (simp; done) | (simp [*]; done)), H', ⟨Nat.le_refl _⟩, ⟨vR HO_6.out⟩, ⟨vW HB.out⟩⟩
        case round =>
         clear H'
         try clear c39b0
         obtain ⟨x15_3, rfl, HA, HK3, HO_6, HB⟩ := hrel
         cases gk with
         | zero => exact absurd HA.out (by simp [gimbalref11_Tight.l5])
         | succ k3 =>
          have H := HA.out
          clear HA
          simp only [gimbalref11_Tight.l5] at H
          by_cases c51 : x15_3 < a1
          ·
           rw [if_pos c51] at H
           have c51b0 : decide (x15_3 < a1) = true := decide_eq_true c51
           clear c51
           replace H := Option.bind_eq_some_iff.mp H
           obtain ⟨t248, A520, H⟩ := H
           replace H : (if 0 ≤ (wrap64 ((wrap64 (x15_3 * a1)) + t248)) then (if (wrap64 ((wrap64 (x15_3 * a1)) + t248)) < (x6_2.length : Int) then ((gimbalref11_bar.f x15_3).bind fun t250 => (if 0 ≤ (wrap64 ((wrap64 (t250 * a1)) + x15_3)) then (if (wrap64 ((wrap64 (t250 * a1)) + x15_3)) < (x6_2.length : Int) then ((gimbalref11_plus.f (rd x6_2 (wrap64 ((wrap64 (x15_3 * a1)) + t248))) (rd x6_2 (wrap64 ((wrap64 (t250 * a1)) + x15_3)))).bind fun t252 => (if t252 < 0 then (some (([] : List Int), false)) else (gimbalref11_Tight.l5 k3 a1 x6_2 (wrap64 (x15_3 + 1))))) else (none)) else (none))) else (none)) else (none)) = some (r1, r2) := H
           have A52 := Aside0.mk A520
           clear A520
           obtain ⟨ji53, hji53⟩ : ∃ j_ : Int, (wrap64 ((wrap64 (x15_3 * a1)) + t248)) = j_ := ⟨_, rfl⟩
           replace H : (if 0 ≤ (ji53) then (if (ji53) < (x6_2.length : Int) then ((gimbalref11_bar.f x15_3).bind fun t250 => (if 0 ≤ (wrap64 ((wrap64 (t250 * a1)) + x15_3)) then (if (wrap64 ((wrap64 (t250 * a1)) + x15_3)) < (x6_2.length : Int) then ((gimbalref11_plus.f (rd x6_2 (ji53)) (rd x6_2 (wrap64 ((wrap64 (t250 * a1)) + x15_3)))).bind fun t252 => (if t252 < 0 then (some (([] : List Int), false)) else (gimbalref11_Tight.l5 k3 a1 x6_2 (wrap64 (x15_3 + 1))))) else (none)) else (none))) else (none)) else (none)) = some (r1, r2) := by first | (rw [hji53] at H; exact H) | (simp only [hji53] at H ⊢; exact H)
           (try rw [hji53] at A52)
           have hji53w : (IntKind.i64.wrap ((wrap64 (x15_3 * a1)) + t248)) = ji53 := (i64_w _).trans hji53
           by_cases c54 : 0 ≤ (ji53)
           ·
            rw [if_pos c54] at H
            have c54b0 : decide (0 ≤ (ji53)) = true := decide_eq_true c54
            clear c54
            by_cases c55 : (ji53) < (x6_2.length : Int)
            ·
             rw [if_pos c55] at H
             have c55b0 : decide ((ji53) < (x6_2.length : Int)) = true := decide_eq_true c55
             clear c55
             replace H := Option.bind_eq_some_iff.mp H
             obtain ⟨t250, A560, H⟩ := H
             replace H : (if 0 ≤ (wrap64 ((wrap64 (t250 * a1)) + x15_3)) then (if (wrap64 ((wrap64 (t250 * a1)) + x15_3)) < (x6_2.length : Int) then ((gimbalref11_plus.f (rd x6_2 (ji53)) (rd x6_2 (wrap64 ((wrap64 (t250 * a1)) + x15_3)))).bind fun t252 => (if t252 < 0 then (some (([] : List Int), false)) else (gimbalref11_Tight.l5 k3 a1 x6_2 (wrap64 (x15_3 + 1))))) else (none)) else (none)) = some (r1, r2) := H
             have A56 := Aside0.mk A560
             clear A560
             obtain ⟨ji57, hji57⟩ : ∃ j_ : Int, (wrap64 ((wrap64 (t250 * a1)) + x15_3)) = j_ := ⟨_, rfl⟩
             replace H : (if 0 ≤ (ji57) then (if (ji57) < (x6_2.length : Int) then ((gimbalref11_plus.f (rd x6_2 (ji53)) (rd x6_2 (ji57))).bind fun t252 => (if t252 < 0 then (some (([] : List Int), false)) else (gimbalref11_Tight.l5 k3 a1 x6_2 (wrap64 (x15_3 + 1))))) else (none)) else (none)) = some (r1, r2) := by first | (rw [hji57] at H; exact H) | (simp only [hji57] at H ⊢; exact H)
             (try rw [hji57] at A52)
             (try rw [hji57] at A56)
             have hji57w : (IntKind.i64.wrap ((wrap64 (t250 * a1)) + x15_3)) = ji57 := (i64_w _).trans hji57
             by_cases c58 : 0 ≤ (ji57)
             ·
              rw [if_pos c58] at H
              have c58b0 : decide (0 ≤ (ji57)) = true := decide_eq_true c58
              clear c58
              by_cases c59 : (ji57) < (x6_2.length : Int)
              ·
               rw [if_pos c59] at H
               have c59b0 : decide ((ji57) < (x6_2.length : Int)) = true := decide_eq_true c59
               clear c59
               replace H := Option.bind_eq_some_iff.mp H
               obtain ⟨t252, A600, H⟩ := H
               replace H : (if t252 < 0 then (some (([] : List Int), false)) else (gimbalref11_Tight.l5 k3 a1 x6_2 (wrap64 (x15_3 + 1)))) = some (r1, r2) := H
               have A60 := Aside0.mk A600
               clear A600
               by_cases c61 : t252 < 0
               ·
                rw [if_pos c61] at H
                have c61b0 : decide (t252 < 0) = true := decide_eq_true c61
                clear c61
                simp only [Option.some.injEq, Prod.mk.injEq] at H
                obtain ⟨rfl, rfl⟩ := H
                try go_wp2
                replace HO_6 := Aside0.mk (Kd.R_drew HO_6.out)
                replace HB := Aside0.mk (below_drew1 HB.out)
                have p249 : 0 ≤ ((ji53) : Int) := of_decide_eq_true (by first | (with_reducible assumption) | assumption)
                have q249 : (ji53) < (x6_2.length : Int) := of_decide_eq_true (by first | (with_reducible assumption) | assumption)
                (try (obtain ⟨AoZ, coZ, eoZ⟩ := Kd.R_slice HO_6.out; subst eoZ))
                obtain ⟨ad249, e249, hx249_0⟩ := Kd.at_int (Kd.R_reads' HO_6.out).2.2 (ji53) p249 q249
                cases e249
                replace p249 := eq_true p249
                replace q249 := eq_true q249
                have p251 : 0 ≤ ((ji57) : Int) := of_decide_eq_true (by first | (with_reducible assumption) | assumption)
                have q251 : (ji57) < (x6_2.length : Int) := of_decide_eq_true (by first | (with_reducible assumption) | assumption)
                (try (obtain ⟨AoZ, coZ, eoZ⟩ := Kd.R_slice HO_6.out; subst eoZ))
                obtain ⟨ad251, e251, hx251_0⟩ := Kd.at_int (Kd.R_reads' HO_6.out).2.2 (ji57) p251 q251
                obtain rfl : ad249 = ad251 := (by injection e251)
                replace p251 := eq_true p251
                replace q251 := eq_true q251
                refine start_ (n := 20) (S := fun w' => w'.cell? (ad249.add ((ji53)).toNat) = some (.int .i64 (rd x6_2 (ji53))) ∧ w'.cell? (ad249.add ((ji57)).toNat) = some (.int .i64 (rd x6_2 (ji57)))) (ds := []) (mB 20 0) (by kernel_rfl) rfl rfl ⟨hx249_0, hx251_0⟩ (fun hHeld => ?_); refine with_tabW gimbalref11_Tight.tab31 gimbalref11_Tight.bits31 (fun HT_ HW_ => ?_)
                generalize wr.drew = w62 at HO_6 HB hx249_0 hx251_0 hHeld ⊢
                refine pV_ 0 123 (mB 20 1) HT_ ?_
                refine pV_ 1 124 (mB 20 3) HT_ ?_
                refine pV_ 2 125 (mB 20 7) HT_ ?_
                refine pV_ 3 126 (mB 20 15) HT_ ?_
                refine pV_ 4 127 (mB 20 31) HT_ ?_
                refine pV_ 9 132 (mB 20 543) HT_ ?_
                refine pV_ 10 133 (mB 20 1567) HT_ ?_
                refine pV_ 12 135 (mB 20 5663) HT_ ?_
                refine pV_ 14 137 (mB 20 22047) HT_ ?_
                refine one_ (i := 5) (N := some 128) (mB 20 22079) rfl rfl (one_of HT_.out (by kernel_rfl)) (by decide) (fun K hK => ?_)
                refine goes_ Try.func53 (by kernel_rfl) rfl #[.int .i64 x15_3] (by rfl) rfl rfl vL ?_
                with_reducible refine (gimbalref11_bar.calls x15_3 t248 _ A52.out).mono ?_
                rintro e w' ⟨rfl, ⟨nd, rfl⟩⟩
                refine ⟨_, rfl, ?_⟩
                obtain ⟨Ao63, co63, eo63⟩ := Kd.R_slice HO_6.out
                (first | subst eo63 | (injection eo63 with f1_ f2_ f3_; have f4_ := f1_.symm; have f5_ := f3_.symm; clear f1_ f2_ f3_; subst f4_; subst f5_))
                refine hK.out _ _ ⟨hHeld.1, hHeld.2⟩ (fun hHeld => ?_)
                clear hK K
                refine norm_ (a' := ?_) ?_ ?_
                rotate_left
                ·
                 show Act.put _ (some 128) _ = _
                 simp only [Act.put, List.setIfInBounds_toArray, List.set_cons_zero, List.set_cons_succ, i64_w, i32_w]
                 rfl
                refine pV_ 6 129 (mB 20 22143) HT_ ?_
                refine pV_ 7 130 (mB 20 22271) HT_ ?_
                refine tV_ 8 131 (mB 20 22527) HT_ HW_ hHeld ?_
                refine one_ (i := 11) (N := some 134) (mB 20 24575) rfl rfl (one_of HT_.out (by kernel_rfl)) (by decide) (fun K hK => ?_)
                refine goes_ Try.func53 (by kernel_rfl) rfl #[.int .i64 x15_3] (by rfl) rfl rfl vL ?_
                with_reducible refine (gimbalref11_bar.calls x15_3 t250 _ A56.out).mono ?_
                rintro e w' ⟨rfl, ⟨nd, rfl⟩⟩
                refine ⟨_, rfl, ?_⟩
                refine hK.out _ _ ⟨hHeld.1, hHeld.2⟩ (fun hHeld => ?_)
                clear hK K
                refine norm_ (a' := ?_) ?_ ?_
                rotate_left
                ·
                 show Act.put _ (some 134) _ = _
                 simp only [Act.put, List.setIfInBounds_toArray, List.set_cons_zero, List.set_cons_succ, i64_w, i32_w]
                 rfl
                refine pV_ 13 136 (mB 20 32767) HT_ ?_
                refine pV_ 15 138 (mB 20 65535) HT_ ?_
                refine pV_ 16 139 (mB 20 131071) HT_ ?_
                refine tV_ 17 140 (mB 20 262143) HT_ HW_ hHeld ?_
                refine one_ (i := 18) (N := some 141) (mB 20 524287) rfl rfl (one_of HT_.out (by kernel_rfl)) (by decide) (fun K hK => ?_)
                refine goes_ Try.func84 (by kernel_rfl) rfl #[.int .i64 (rd x6_2 (ji53)), .int .i64 (rd x6_2 (ji57))] (by rfl) rfl rfl (by (try simp only [List.map_toArray, List.map_cons, List.map_nil]); first | done | (simp only [hji53, hji57]; rfl) | rfl | (simp only [List.length_drop, List.length_take]; rfl)) ?_
                with_reducible refine (gimbalref11_plus.calls (rd x6_2 (ji53)) (rd x6_2 (ji57)) t252 _ A60.out).mono ?_
                rintro e w' ⟨rfl, ⟨nd, rfl⟩⟩
                refine ⟨_, rfl, ?_⟩
                refine hK.out _ _ ⟨hHeld.1, hHeld.2⟩ (fun hHeld => ?_)
                clear hK K
                refine norm_ (a' := ?_) ?_ ?_
                rotate_left
                ·
                 show Act.put _ (some 141) _ = _
                 simp only [Act.put, List.setIfInBounds_toArray, List.set_cons_zero, List.set_cons_succ, i64_w, i32_w]
                 rfl
                refine pV_ 19 142 (mB 20 1048575) HT_ ?_
                refine done_ (done_of HT_.out (by kernel_rfl)) ?_
                try go_wp2
                go_ret2
                exact ⟨_, by first | rfl | (simp [errW_none, errW_some] <;> rfl) | (simp only [← hji53, ← hji57]; first | rfl | (simp [errW_none, errW_some] <;> rfl)) | (simp [*, errW_none, errW_some] <;> rfl) | (simp [wrap64]; done), by first | exact Kd.R_nil _ _ _ _ _ | exact Kd.N_nil _ _ _ _ _ | exact Kd.V_nil _ _ _ _ _ | exact Kd.Q_nil _ _ _ _ _ | exact Kd.S_nil _ _ _ _ _, vW HB.out⟩
               ·
                rw [if_neg c61] at H
                have c61b0 : decide (t252 < 0) = false := decide_eq_false c61
                clear c61
                have H' := Aside0.mk H
                clear H
                try go_wp2
                replace HO_6 := Aside0.mk (Kd.R_drew HO_6.out)
                replace HB := Aside0.mk (below_drew1 HB.out)
                have p249 : 0 ≤ ((ji53) : Int) := of_decide_eq_true (by first | (with_reducible assumption) | assumption)
                have q249 : (ji53) < (x6_2.length : Int) := of_decide_eq_true (by first | (with_reducible assumption) | assumption)
                (try (obtain ⟨AoZ, coZ, eoZ⟩ := Kd.R_slice HO_6.out; subst eoZ))
                obtain ⟨ad249, e249, hx249_0⟩ := Kd.at_int (Kd.R_reads' HO_6.out).2.2 (ji53) p249 q249
                cases e249
                replace p249 := eq_true p249
                replace q249 := eq_true q249
                have p251 : 0 ≤ ((ji57) : Int) := of_decide_eq_true (by first | (with_reducible assumption) | assumption)
                have q251 : (ji57) < (x6_2.length : Int) := of_decide_eq_true (by first | (with_reducible assumption) | assumption)
                (try (obtain ⟨AoZ, coZ, eoZ⟩ := Kd.R_slice HO_6.out; subst eoZ))
                obtain ⟨ad251, e251, hx251_0⟩ := Kd.at_int (Kd.R_reads' HO_6.out).2.2 (ji57) p251 q251
                obtain rfl : ad249 = ad251 := (by injection e251)
                replace p251 := eq_true p251
                replace q251 := eq_true q251
                refine start_ (n := 20) (S := fun w' => w'.cell? (ad249.add ((ji53)).toNat) = some (.int .i64 (rd x6_2 (ji53))) ∧ w'.cell? (ad249.add ((ji57)).toNat) = some (.int .i64 (rd x6_2 (ji57)))) (ds := []) (mB 20 0) (by kernel_rfl) rfl rfl ⟨hx249_0, hx251_0⟩ (fun hHeld => ?_); refine with_tabW gimbalref11_Tight.tab31 gimbalref11_Tight.bits31 (fun HT_ HW_ => ?_)
                generalize wr.drew = w64 at HO_6 HB hx249_0 hx251_0 hHeld ⊢
                refine pV_ 0 123 (mB 20 1) HT_ ?_
                refine pV_ 1 124 (mB 20 3) HT_ ?_
                refine pV_ 2 125 (mB 20 7) HT_ ?_
                refine pV_ 3 126 (mB 20 15) HT_ ?_
                refine pV_ 4 127 (mB 20 31) HT_ ?_
                refine pV_ 9 132 (mB 20 543) HT_ ?_
                refine pV_ 10 133 (mB 20 1567) HT_ ?_
                refine pV_ 12 135 (mB 20 5663) HT_ ?_
                refine pV_ 14 137 (mB 20 22047) HT_ ?_
                refine one_ (i := 5) (N := some 128) (mB 20 22079) rfl rfl (one_of HT_.out (by kernel_rfl)) (by decide) (fun K hK => ?_)
                refine goes_ Try.func53 (by kernel_rfl) rfl #[.int .i64 x15_3] (by rfl) rfl rfl vL ?_
                with_reducible refine (gimbalref11_bar.calls x15_3 t248 _ A52.out).mono ?_
                rintro e w' ⟨rfl, ⟨nd, rfl⟩⟩
                refine ⟨_, rfl, ?_⟩
                obtain ⟨Ao65, co65, eo65⟩ := Kd.R_slice HO_6.out
                (first | subst eo65 | (injection eo65 with f1_ f2_ f3_; have f4_ := f1_.symm; have f5_ := f3_.symm; clear f1_ f2_ f3_; subst f4_; subst f5_))
                refine hK.out _ _ ⟨hHeld.1, hHeld.2⟩ (fun hHeld => ?_)
                clear hK K
                refine norm_ (a' := ?_) ?_ ?_
                rotate_left
                ·
                 show Act.put _ (some 128) _ = _
                 simp only [Act.put, List.setIfInBounds_toArray, List.set_cons_zero, List.set_cons_succ, i64_w, i32_w]
                 rfl
                refine pV_ 6 129 (mB 20 22143) HT_ ?_
                refine pV_ 7 130 (mB 20 22271) HT_ ?_
                refine tV_ 8 131 (mB 20 22527) HT_ HW_ hHeld ?_
                refine one_ (i := 11) (N := some 134) (mB 20 24575) rfl rfl (one_of HT_.out (by kernel_rfl)) (by decide) (fun K hK => ?_)
                refine goes_ Try.func53 (by kernel_rfl) rfl #[.int .i64 x15_3] (by rfl) rfl rfl vL ?_
                with_reducible refine (gimbalref11_bar.calls x15_3 t250 _ A56.out).mono ?_
                rintro e w' ⟨rfl, ⟨nd, rfl⟩⟩
                refine ⟨_, rfl, ?_⟩
                refine hK.out _ _ ⟨hHeld.1, hHeld.2⟩ (fun hHeld => ?_)
                clear hK K
                refine norm_ (a' := ?_) ?_ ?_
                rotate_left
                ·
                 show Act.put _ (some 134) _ = _
                 simp only [Act.put, List.setIfInBounds_toArray, List.set_cons_zero, List.set_cons_succ, i64_w, i32_w]
                 rfl
                refine pV_ 13 136 (mB 20 32767) HT_ ?_
                refine pV_ 15 138 (mB 20 65535) HT_ ?_
                refine pV_ 16 139 (mB 20 131071) HT_ ?_
                refine tV_ 17 140 (mB 20 262143) HT_ HW_ hHeld ?_
                refine one_ (i := 18) (N := some 141) (mB 20 524287) rfl rfl (one_of HT_.out (by kernel_rfl)) (by decide) (fun K hK => ?_)
                refine goes_ Try.func84 (by kernel_rfl) rfl #[.int .i64 (rd x6_2 (ji53)), .int .i64 (rd x6_2 (ji57))] (by rfl) rfl rfl (by (try simp only [List.map_toArray, List.map_cons, List.map_nil]); first | done | (simp only [hji53, hji57]; rfl) | rfl | (simp only [List.length_drop, List.length_take]; rfl)) ?_
                with_reducible refine (gimbalref11_plus.calls (rd x6_2 (ji53)) (rd x6_2 (ji57)) t252 _ A60.out).mono ?_
                rintro e w' ⟨rfl, ⟨nd, rfl⟩⟩
                refine ⟨_, rfl, ?_⟩
                refine hK.out _ _ ⟨hHeld.1, hHeld.2⟩ (fun hHeld => ?_)
                clear hK K
                refine norm_ (a' := ?_) ?_ ?_
                rotate_left
                ·
                 show Act.put _ (some 141) _ = _
                 simp only [Act.put, List.setIfInBounds_toArray, List.set_cons_zero, List.set_cons_succ, i64_w, i32_w]
                 rfl
                refine pV_ 19 142 (mB 20 1048575) HT_ ?_
                refine done_ (done_of HT_.out (by kernel_rfl)) ?_
                try go_wp2
                go_roundg k3
                case measure => have := HK1.out; have := HK2.out; have := HK3.out; omega
                case rel => exact ⟨(wrap64 (x15_3 + 1)), (by first | rfl | (simp; done) | (simp [*]; done)), H', ⟨by have := HK1.out; have := HK2.out; have := HK3.out; omega⟩, ⟨vR HO_6.out⟩, ⟨vW HB.out⟩⟩
              ·
               rw [if_neg c59] at H
               exact absurd H (by simp)
             ·
              rw [if_neg c58] at H
              exact absurd H (by simp)
            ·
             rw [if_neg c55] at H
             exact absurd H (by simp)
           ·
            rw [if_neg c54] at H
            exact absurd H (by simp)
          ·
           rw [if_neg c51] at H
           have c51b0 : decide (x15_3 < a1) = false := decide_eq_false c51
           clear c51
           obtain ⟨ji66, hji66⟩ : ∃ j_ : Int, (wrap64 (a1 * a1)) = j_ := ⟨_, rfl⟩
           replace H : (if 0 ≤ (ji66) then (if (ji66 : Int).toNat ≤ 35184372088832 then (gimbalref11_Tight.l6 k3 a1 x6_2 (List.replicate (ji66 : Int).toNat 0) 0) else (none)) else (none)) = some (r1, r2) := by first | (rw [hji66] at H; exact H) | (simp only [hji66] at H ⊢; exact H)
           have hji66w : (IntKind.i64.wrap (a1 * a1)) = ji66 := (i64_w _).trans hji66
           by_cases c67 : 0 ≤ (ji66)
           ·
            rw [if_pos c67] at H
            have c67b0 := eq_true c67
            have c67b1 : decide (0 ≤ (ji66)) = true := decide_eq_true c67
            clear c67
            by_cases c68 : (ji66 : Int).toNat ≤ 35184372088832
            ·
             rw [if_pos c68] at H
             have c68b0 := eq_true c68
             have c68b1 : decide ((ji66 : Int).toNat ≤ 35184372088832) = true := decide_eq_true c68
             clear c68
             obtain ⟨y253, hy253⟩ : ∃ y_ : List Int, y_ = (List.replicate (ji66 : Int).toNat 0) := ⟨_, rfl⟩
             replace H : (gimbalref11_Tight.l6 k3 a1 x6_2 y253 0) = some (r1, r2) := by first | (rw [hy253]; with_reducible exact H) | (have H2_ := (Option.bind_some _ _).symm.trans H; rw [hy253]; with_reducible exact H2_) | (have H2_ := (Option.bind_some _ _).symm.trans H; with_reducible exact H2_) | with_reducible exact H | (rw [hy253]; exact H) | exact H
             have Ny253 := Aside0.mk hy253
             clear hy253
             have H' := Aside0.mk H
             clear H
             go_wp2_with ((with_reducible refine gate_dst (N := 146) rfl ?_); refine Kd.R_make (Kd.int .i64) _ 2 rfl (N := 146) rfl 23 _ _ rfl ji66 rfl rfl Try.underlying23 (.int .i64 0) 8 info2 rfl (by decide) (by omega) 0 (ok := fun _ => True) (okp := fun _ => True) rfl (fun _ hk => hk) trivial (of_decide_eq_true (by first | (with_reducible assumption) | assumption)) (Nat.le_trans (Nat.mul_le_mul_right _ (of_decide_eq_true (by first | (with_reducible assumption) | assumption) : ji66.toNat ≤ 35184372088832)) (by omega)) (Below.refl _ _) (Nat.le_refl _) ?_; intro v254 w69 ho70 hb hg_ hnew_; clear hg_ hnew_; (first | rw [← Ny253.out] at ho70 | (simp only [Int.reduceToNat] at ho70; rw [← Ny253.out] at ho70)); have HO255 := Aside0.mk (Kd.R_lower (Kd.R_new' ho70 (Kd.R_lt (vR HO_6.out))) (below_size (vW HB.out))); replace HO_6 := Aside0.mk (Kd.R_elder' (vR HO_6.out) (Kd.R_base ho70) hb); replace HB := vWs HB hb; clear hb ho70)
             go_loopg [17] k3 (fun kq v17 w' => ∃ (x16_4 : List Int) (x17_4 : Int), v17 = .int .i64 x17_4 ∧ Aside0 (gimbalref11_Tight.l6 kq a1 x6_2 x16_4 x17_4 = some (r1, r2)) ∧ Aside0 (kq ≤ k3) ∧ Aside0 (Kd.R (Kd.int .i64) 2 w' w.heap.size (fun k_ => some k_ ≠ (v254 : Value).ownBlock) u6 x6_2) ∧ Aside0 (Kd.R (Kd.int .i64) 2 w' w.heap.size (fun k_ => some k_ ≠ (u6 : Value).ownBlock) v254 x16_4) ∧ Aside0 (Below w.heap.size w w'))
             case atStart => exact ⟨(y253), (0), (by first | rfl | (simp; done) | (simp [*]; done)), H', ⟨Nat.le_refl _⟩, ⟨by (with_reducible repeat (first | apply Kd.R_alloc | apply Kd.R_drewN | apply Kd.R_drew)); exact Kd.R_mono HO_6.out (fun _ hk => hk.2)⟩, ⟨by (with_reducible repeat (first | apply Kd.R_alloc | apply Kd.R_drewN | apply Kd.R_drew)); exact Kd.R_mono HO255.out (fun _ hk => hk.2)⟩, ⟨vW HB.out⟩⟩
             case round =>
              clear H'
              try clear c51b0
              try clear c67b0
              try clear c67b1
              try clear c68b0
              try clear c68b1
              obtain ⟨x16_4, x17_4, rfl, HA, HK4, HO_6, HO_16, HB⟩ := hrel
              cases gk with
              | zero => exact absurd HA.out (by simp [gimbalref11_Tight.l6])
              | succ k4 =>
               have H := HA.out
               clear HA
               simp only [gimbalref11_Tight.l6] at H
               by_cases c71 : x17_4 < a1
               ·
                rw [if_pos c71] at H
                have c71b0 : decide (x17_4 < a1) = true := decide_eq_true c71
                clear c71
                have H' := Aside0.mk H
                clear H
                go_wp2
                go_loopg [18] k4 (fun kq v18 w' => ∃ (x16_5 : List Int) (x18_5 : Int), v18 = .int .i64 x18_5 ∧ Aside0 (gimbalref11_Tight.l7 kq a1 x6_2 x16_5 x17_4 x18_5 = some (r1, r2)) ∧ Aside0 (kq ≤ k4) ∧ Aside0 (Kd.R (Kd.int .i64) 2 w' w.heap.size (fun k_ => some k_ ≠ (v254 : Value).ownBlock) u6 x6_2) ∧ Aside0 (Kd.R (Kd.int .i64) 2 w' w.heap.size (fun k_ => some k_ ≠ (u6 : Value).ownBlock) v254 x16_5) ∧ Aside0 (Below w.heap.size w w'))
                case atStart => exact ⟨(x16_4), (0), (by first | rfl | (simp; done) | (simp [*]; done)), H', ⟨Nat.le_refl _⟩, ⟨vR HO_6.out⟩, ⟨vR HO_16.out⟩, ⟨vW HB.out⟩⟩
                case round =>
                 clear H'
                 try clear c71b0
                 obtain ⟨x16_5, x18_5, rfl, HA, HK5, HO_6, HO_16, HB⟩ := hrel
                 cases gk with
                 | zero => exact absurd HA.out (by simp [gimbalref11_Tight.l7])
                 | succ k5 =>
                  have H := HA.out
                  clear HA
                  simp only [gimbalref11_Tight.l7] at H
                  by_cases c72 : x18_5 < a1
                  ·
                   rw [if_pos c72] at H
                   have c72b0 : decide (x18_5 < a1) = true := decide_eq_true c72
                   clear c72
                   obtain ⟨ji73, hji73⟩ : ∃ j_ : Int, (wrap64 ((wrap64 (x17_4 * a1)) + x18_5)) = j_ := ⟨_, rfl⟩
                   replace H : (if 0 ≤ (ji73) then (if (ji73) < (x6_2.length : Int) then (if (ji73) < (x16_5.length : Int) then ((some (x16_5.set ((ji73) : Int).toNat (rd x6_2 (ji73)) : List Int)).bind fun y257 => ((gimbalref11_bar.f x17_4).bind fun t258 => (if 0 ≤ (wrap64 ((wrap64 (x17_4 * a1)) + t258)) then (if (wrap64 ((wrap64 (x17_4 * a1)) + t258)) < (x6_2.length : Int) then ((gimbalref11_bar.f x18_5).bind fun t260 => (if 0 ≤ (wrap64 ((wrap64 (t260 * a1)) + x18_5)) then (if (wrap64 ((wrap64 (t260 * a1)) + x18_5)) < (x6_2.length : Int) then ((gimbalref11_plus.f (rd x6_2 (wrap64 ((wrap64 (x17_4 * a1)) + t258))) (rd x6_2 (wrap64 ((wrap64 (t260 * a1)) + x18_5)))).bind fun t262 => (if t262 = 4611686018427387904 then (gimbalref11_Tight.l7 k5 a1 x6_2 y257 x17_4 (wrap64 (x18_5 + 1))) else ((gimbalref11_halved.f t262).bind fun t264 => (gimbalref11_Tight.l7 k5 a1 x6_2 (y257.set ((ji73) : Int).toNat (mn (rd y257 (ji73)) t264)) x17_4 (wrap64 (x18_5 + 1)))))) else (none)) else (none))) else (none)) else (none)))) else (none)) else (none)) else (none)) = some (r1, r2) := by first | (rw [hji73] at H; exact H) | (simp only [hji73] at H ⊢; exact H)
                   have hji73w : (IntKind.i64.wrap ((wrap64 (x17_4 * a1)) + x18_5)) = ji73 := (i64_w _).trans hji73
                   by_cases c74 : 0 ≤ (ji73)
                   ·
                    rw [if_pos c74] at H
                    have c74b0 : decide (0 ≤ (ji73)) = true := decide_eq_true c74
                    clear c74
                    by_cases c75 : (ji73) < (x6_2.length : Int)
                    ·
                     rw [if_pos c75] at H
                     have c75b0 : decide ((ji73) < (x6_2.length : Int)) = true := decide_eq_true c75
                     clear c75
                     by_cases c76 : (ji73) < (x16_5.length : Int)
                     ·
                      rw [if_pos c76] at H
                      have c76b0 : decide ((ji73) < (x16_5.length : Int)) = true := decide_eq_true c76
                      clear c76
                      obtain ⟨y257, hy257⟩ : ∃ y_ : List Int, y_ = (x16_5.set ((ji73) : Int).toNat (rd x6_2 (ji73))) := ⟨_, rfl⟩
                      replace H : ((gimbalref11_bar.f x17_4).bind fun t258 => (if 0 ≤ (wrap64 ((wrap64 (x17_4 * a1)) + t258)) then (if (wrap64 ((wrap64 (x17_4 * a1)) + t258)) < (x6_2.length : Int) then ((gimbalref11_bar.f x18_5).bind fun t260 => (if 0 ≤ (wrap64 ((wrap64 (t260 * a1)) + x18_5)) then (if (wrap64 ((wrap64 (t260 * a1)) + x18_5)) < (x6_2.length : Int) then ((gimbalref11_plus.f (rd x6_2 (wrap64 ((wrap64 (x17_4 * a1)) + t258))) (rd x6_2 (wrap64 ((wrap64 (t260 * a1)) + x18_5)))).bind fun t262 => (if t262 = 4611686018427387904 then (gimbalref11_Tight.l7 k5 a1 x6_2 y257 x17_4 (wrap64 (x18_5 + 1))) else ((gimbalref11_halved.f t262).bind fun t264 => (gimbalref11_Tight.l7 k5 a1 x6_2 (y257.set ((ji73) : Int).toNat (mn (rd y257 (ji73)) t264)) x17_4 (wrap64 (x18_5 + 1)))))) else (none)) else (none))) else (none)) else (none))) = some (r1, r2) := by first | (rw [hy257]; with_reducible exact H) | (have H2_ := (Option.bind_some _ _).symm.trans H; rw [hy257]; with_reducible exact H2_) | (have H2_ := (Option.bind_some _ _).symm.trans H; with_reducible exact H2_) | with_reducible exact H | (rw [hy257]; exact H) | exact H
                      have Ny257 := Aside0.mk hy257
                      clear hy257
                      replace H := Option.bind_eq_some_iff.mp H
                      obtain ⟨t258, A780, H⟩ := H
                      replace H : (if 0 ≤ (wrap64 ((wrap64 (x17_4 * a1)) + t258)) then (if (wrap64 ((wrap64 (x17_4 * a1)) + t258)) < (x6_2.length : Int) then ((gimbalref11_bar.f x18_5).bind fun t260 => (if 0 ≤ (wrap64 ((wrap64 (t260 * a1)) + x18_5)) then (if (wrap64 ((wrap64 (t260 * a1)) + x18_5)) < (x6_2.length : Int) then ((gimbalref11_plus.f (rd x6_2 (wrap64 ((wrap64 (x17_4 * a1)) + t258))) (rd x6_2 (wrap64 ((wrap64 (t260 * a1)) + x18_5)))).bind fun t262 => (if t262 = 4611686018427387904 then (gimbalref11_Tight.l7 k5 a1 x6_2 y257 x17_4 (wrap64 (x18_5 + 1))) else ((gimbalref11_halved.f t262).bind fun t264 => (gimbalref11_Tight.l7 k5 a1 x6_2 (y257.set ((ji73) : Int).toNat (mn (rd y257 (ji73)) t264)) x17_4 (wrap64 (x18_5 + 1)))))) else (none)) else (none))) else (none)) else (none)) = some (r1, r2) := H
                      have A78 := Aside0.mk A780
                      clear A780
                      obtain ⟨ji79, hji79⟩ : ∃ j_ : Int, (wrap64 ((wrap64 (x17_4 * a1)) + t258)) = j_ := ⟨_, rfl⟩
                      replace H : (if 0 ≤ (ji79) then (if (ji79) < (x6_2.length : Int) then ((gimbalref11_bar.f x18_5).bind fun t260 => (if 0 ≤ (wrap64 ((wrap64 (t260 * a1)) + x18_5)) then (if (wrap64 ((wrap64 (t260 * a1)) + x18_5)) < (x6_2.length : Int) then ((gimbalref11_plus.f (rd x6_2 (ji79)) (rd x6_2 (wrap64 ((wrap64 (t260 * a1)) + x18_5)))).bind fun t262 => (if t262 = 4611686018427387904 then (gimbalref11_Tight.l7 k5 a1 x6_2 y257 x17_4 (wrap64 (x18_5 + 1))) else ((gimbalref11_halved.f t262).bind fun t264 => (gimbalref11_Tight.l7 k5 a1 x6_2 (y257.set ((ji73) : Int).toNat (mn (rd y257 (ji73)) t264)) x17_4 (wrap64 (x18_5 + 1)))))) else (none)) else (none))) else (none)) else (none)) = some (r1, r2) := by first | (rw [hji79] at H; exact H) | (simp only [hji79] at H ⊢; exact H)
                      (try rw [hji79] at A78)
                      have hji79w : (IntKind.i64.wrap ((wrap64 (x17_4 * a1)) + t258)) = ji79 := (i64_w _).trans hji79
                      by_cases c80 : 0 ≤ (ji79)
                      ·
                       rw [if_pos c80] at H
                       have c80b0 : decide (0 ≤ (ji79)) = true := decide_eq_true c80
                       clear c80
                       by_cases c81 : (ji79) < (x6_2.length : Int)
                       ·
                        rw [if_pos c81] at H
                        have c81b0 : decide ((ji79) < (x6_2.length : Int)) = true := decide_eq_true c81
                        clear c81
                        replace H := Option.bind_eq_some_iff.mp H
                        obtain ⟨t260, A820, H⟩ := H
                        replace H : (if 0 ≤ (wrap64 ((wrap64 (t260 * a1)) + x18_5)) then (if (wrap64 ((wrap64 (t260 * a1)) + x18_5)) < (x6_2.length : Int) then ((gimbalref11_plus.f (rd x6_2 (ji79)) (rd x6_2 (wrap64 ((wrap64 (t260 * a1)) + x18_5)))).bind fun t262 => (if t262 = 4611686018427387904 then (gimbalref11_Tight.l7 k5 a1 x6_2 y257 x17_4 (wrap64 (x18_5 + 1))) else ((gimbalref11_halved.f t262).bind fun t264 => (gimbalref11_Tight.l7 k5 a1 x6_2 (y257.set ((ji73) : Int).toNat (mn (rd y257 (ji73)) t264)) x17_4 (wrap64 (x18_5 + 1)))))) else (none)) else (none)) = some (r1, r2) := H
                        have A82 := Aside0.mk A820
                        clear A820
                        obtain ⟨ji83, hji83⟩ : ∃ j_ : Int, (wrap64 ((wrap64 (t260 * a1)) + x18_5)) = j_ := ⟨_, rfl⟩
                        replace H : (if 0 ≤ (ji83) then (if (ji83) < (x6_2.length : Int) then ((gimbalref11_plus.f (rd x6_2 (ji79)) (rd x6_2 (ji83))).bind fun t262 => (if t262 = 4611686018427387904 then (gimbalref11_Tight.l7 k5 a1 x6_2 y257 x17_4 (wrap64 (x18_5 + 1))) else ((gimbalref11_halved.f t262).bind fun t264 => (gimbalref11_Tight.l7 k5 a1 x6_2 (y257.set ((ji73) : Int).toNat (mn (rd y257 (ji73)) t264)) x17_4 (wrap64 (x18_5 + 1)))))) else (none)) else (none)) = some (r1, r2) := by first | (rw [hji83] at H; exact H) | (simp only [hji83] at H ⊢; exact H)
                        (try rw [hji83] at A78)
                        (try rw [hji83] at A82)
                        have hji83w : (IntKind.i64.wrap ((wrap64 (t260 * a1)) + x18_5)) = ji83 := (i64_w _).trans hji83
                        by_cases c84 : 0 ≤ (ji83)
                        ·
                         rw [if_pos c84] at H
                         have c84b0 : decide (0 ≤ (ji83)) = true := decide_eq_true c84
                         clear c84
                         by_cases c85 : (ji83) < (x6_2.length : Int)
                         ·
                          rw [if_pos c85] at H
                          have c85b0 : decide ((ji83) < (x6_2.length : Int)) = true := decide_eq_true c85
                          clear c85
                          replace H := Option.bind_eq_some_iff.mp H
                          obtain ⟨t262, A860, H⟩ := H
                          replace H : (if t262 = 4611686018427387904 then (gimbalref11_Tight.l7 k5 a1 x6_2 y257 x17_4 (wrap64 (x18_5 + 1))) else ((gimbalref11_halved.f t262).bind fun t264 => (gimbalref11_Tight.l7 k5 a1 x6_2 (y257.set ((ji73) : Int).toNat (mn (rd y257 (ji73)) t264)) x17_4 (wrap64 (x18_5 + 1))))) = some (r1, r2) := H
                          have A86 := Aside0.mk A860
                          clear A860
                          by_cases c87 : t262 = 4611686018427387904
                          ·
                           rw [if_pos c87] at H
                           have c87b0 : (t262 == 4611686018427387904) = true := beq_iff_eq.mpr c87
                           have c87b1 : (t262 != 4611686018427387904) = false := bne_eq_false_iff_eq.mpr c87
                           clear c87
                           have H' := Aside0.mk H
                           clear H
                           obtain ⟨Ao88, co88, eo88⟩ := Kd.R_slice HO_6.out
                           subst eo88
                           have p256 : 0 ≤ ((ji73) : Int) := of_decide_eq_true (by first | (with_reducible assumption) | assumption)
                           have q256 : (ji73) < (x6_2.length : Int) := of_decide_eq_true (by first | (with_reducible assumption) | assumption)
                           (try (obtain ⟨AoZ, coZ, eoZ⟩ := Kd.R_slice HO_6.out; subst eoZ))
                           obtain ⟨ad256, e256, hx256_0⟩ := Kd.at_int (Kd.R_reads' HO_6.out).2.2 (ji73) p256 q256
                           cases e256
                           replace p256 := eq_true p256
                           replace q256 := eq_true q256
                           have p77 : 0 ≤ ((ji73) : Int) := of_decide_eq_true (by first | (with_reducible assumption) | assumption)
                           have q77 : ((ji73) : Int) < ((x16_5.length : Int) : Int) := of_decide_eq_true (by first | (with_reducible assumption) | assumption)
                           obtain ⟨go77, co77, eo77, gb77, gl77, cl77, HG77⟩ := Kd.R_form HO_16.out (by omega)
                           (first | cases eo77 | (injection eo77 with ea_ en_ ec_; (first | subst ea_ | (injection ea_ with ea_; subst ea_)); subst ec_; clear en_))
                           have GB77 := Aside0.mk gb77
                           have GG77 := Aside0.mk HG77
                           clear gb77 gl77 HG77
                           obtain ⟨hx77_0, hf77_0⟩ := Kd.R_celln 0 HO_16.out ((ji73) : Int) p77 q77
                           replace p77 := eq_true p77
                           replace q77 := eq_true q77
                           have HP89 := Kd.R_putg HO_16.out ((ji73) : Int) (rd x6_2 (ji73))
                           try go_wp2_with ((with_reducible refine gate_store (t := 2) (p := 171) rfl ?_); refine store_event (t := 2) (p := 171) (v := ?vo_w90) (w1 := (wr.setCell ⟨go77, ((ji73) : Int).toNat, none⟩ (.int .i64 (rd x6_2 (ji73))))) ?hg ?ho ?hn ?hr ?_; (case ho => rfl); (case hg => rfl); (case hn => rfl); (case hr => first | (go_simp; done) | (go_simp; rfl)); intro w90 hw; have hg : wr.grownBy w90 (some go77) := (by rw [hw]; exact HP89.2); have hp_ : Kd.R (Kd.int .i64) 2 w90 w.heap.size (fun k_ => some k_ ≠ (.slice (some ad256) x6_2.length co88 : Value).ownBlock) (.slice (some ⟨go77, 0, none⟩) x16_5.length co77) y257 := (by rw [hw, Ny257.out]; exact HP89.1); clear HP89; replace HO_6 := Aside0.mk (Kd.R_after (v := (.slice (some ⟨go77, 0, none⟩) x16_5.length co77)) (v1 := (.slice (some ⟨go77, 0, none⟩) x16_5.length co77)) (ok := (fun _ => True)) (by (with_reducible repeat (first | apply Kd.R_alloc | apply Kd.R_drewN | apply Kd.R_drew)); exact Kd.R_mono HO_6.out (fun _ hk => ⟨trivial, hk⟩)) hg (.inl rfl)); replace HO_16 := Aside0.mk (hp_); replace HB := Aside0.mk ((by rw [hw]; exact below_set (HB.out) GB77.out : Below w.heap.size w w90)); clear hg hw hp_)
                           replace HO_6 := Aside0.mk (Kd.R_drew HO_6.out)
                           replace HO_16 := Aside0.mk (Kd.R_drew HO_16.out)
                           replace HB := Aside0.mk (below_drew1 HB.out)
                           have p259 : 0 ≤ ((ji79) : Int) := of_decide_eq_true (by first | (with_reducible assumption) | assumption)
                           have q259 : (ji79) < (x6_2.length : Int) := of_decide_eq_true (by first | (with_reducible assumption) | assumption)
                           (try (obtain ⟨AoZ, coZ, eoZ⟩ := Kd.R_slice HO_6.out; subst eoZ))
                           obtain ⟨ad259, e259, hx259_0⟩ := Kd.at_int (Kd.R_reads' HO_6.out).2.2 (ji79) p259 q259
                           obtain rfl : ad256 = ad259 := (by injection e259)
                           replace p259 := eq_true p259
                           replace q259 := eq_true q259
                           have p261 : 0 ≤ ((ji83) : Int) := of_decide_eq_true (by first | (with_reducible assumption) | assumption)
                           have q261 : (ji83) < (x6_2.length : Int) := of_decide_eq_true (by first | (with_reducible assumption) | assumption)
                           (try (obtain ⟨AoZ, coZ, eoZ⟩ := Kd.R_slice HO_6.out; subst eoZ))
                           obtain ⟨ad261, e261, hx261_0⟩ := Kd.at_int (Kd.R_reads' HO_6.out).2.2 (ji83) p261 q261
                           obtain rfl : ad256 = ad261 := (by injection e261)
                           replace p261 := eq_true p261
                           replace q261 := eq_true q261
                           refine start_ (n := 20) (S := fun w' => w'.cell? (ad256.add ((ji79)).toNat) = some (.int .i64 (rd x6_2 (ji79))) ∧ w'.cell? (ad256.add ((ji83)).toNat) = some (.int .i64 (rd x6_2 (ji83)))) (ds := []) (mB 20 0) (by kernel_rfl) rfl rfl ⟨hx259_0, hx261_0⟩ (fun hHeld => ?_); refine with_tabW gimbalref11_Tight.tab41 gimbalref11_Tight.bits41 (fun HT_ HW_ => ?_)
                           generalize w90.drew = w91 at HO_6 HO_16 HB hx259_0 hx261_0 hHeld ⊢
                           refine pV_ 0 172 (mB 20 1) HT_ ?_
                           refine pV_ 1 173 (mB 20 3) HT_ ?_
                           refine pV_ 2 174 (mB 20 7) HT_ ?_
                           refine pV_ 3 175 (mB 20 15) HT_ ?_
                           refine pV_ 4 176 (mB 20 31) HT_ ?_
                           refine pV_ 9 181 (mB 20 543) HT_ ?_
                           refine pV_ 10 182 (mB 20 1567) HT_ ?_
                           refine pV_ 12 184 (mB 20 5663) HT_ ?_
                           refine pV_ 14 186 (mB 20 22047) HT_ ?_
                           refine one_ (i := 5) (N := some 177) (mB 20 22079) rfl rfl (one_of HT_.out (by kernel_rfl)) (by decide) (fun K hK => ?_)
                           refine goes_ Try.func53 (by kernel_rfl) rfl #[.int .i64 x17_4] (by rfl) rfl rfl vL ?_
                           with_reducible refine (gimbalref11_bar.calls x17_4 t258 _ A78.out).mono ?_
                           rintro e w' ⟨rfl, ⟨nd, rfl⟩⟩
                           refine ⟨_, rfl, ?_⟩
                           refine hK.out _ _ ⟨hHeld.1, hHeld.2⟩ (fun hHeld => ?_)
                           clear hK K
                           refine norm_ (a' := ?_) ?_ ?_
                           rotate_left
                           ·
                            show Act.put _ (some 177) _ = _
                            simp only [Act.put, List.setIfInBounds_toArray, List.set_cons_zero, List.set_cons_succ, i64_w, i32_w]
                            rfl
                           refine pV_ 6 178 (mB 20 22143) HT_ ?_
                           refine pV_ 7 179 (mB 20 22271) HT_ ?_
                           refine tV_ 8 180 (mB 20 22527) HT_ HW_ hHeld ?_
                           refine one_ (i := 11) (N := some 183) (mB 20 24575) rfl rfl (one_of HT_.out (by kernel_rfl)) (by decide) (fun K hK => ?_)
                           refine goes_ Try.func53 (by kernel_rfl) rfl #[.int .i64 x18_5] (by rfl) rfl rfl vL ?_
                           with_reducible refine (gimbalref11_bar.calls x18_5 t260 _ A82.out).mono ?_
                           rintro e w' ⟨rfl, ⟨nd, rfl⟩⟩
                           refine ⟨_, rfl, ?_⟩
                           refine hK.out _ _ ⟨hHeld.1, hHeld.2⟩ (fun hHeld => ?_)
                           clear hK K
                           refine norm_ (a' := ?_) ?_ ?_
                           rotate_left
                           ·
                            show Act.put _ (some 183) _ = _
                            simp only [Act.put, List.setIfInBounds_toArray, List.set_cons_zero, List.set_cons_succ, i64_w, i32_w]
                            rfl
                           refine pV_ 13 185 (mB 20 32767) HT_ ?_
                           refine pV_ 15 187 (mB 20 65535) HT_ ?_
                           refine pV_ 16 188 (mB 20 131071) HT_ ?_
                           refine tV_ 17 189 (mB 20 262143) HT_ HW_ hHeld ?_
                           refine one_ (i := 18) (N := some 190) (mB 20 524287) rfl rfl (one_of HT_.out (by kernel_rfl)) (by decide) (fun K hK => ?_)
                           refine goes_ Try.func84 (by kernel_rfl) rfl #[.int .i64 (rd x6_2 (ji79)), .int .i64 (rd x6_2 (ji83))] (by rfl) rfl rfl (by (try simp only [List.map_toArray, List.map_cons, List.map_nil]); first | done | (simp only [hji79, hji83]; rfl) | rfl | (simp only [List.length_drop, List.length_take]; rfl)) ?_
                           with_reducible refine (gimbalref11_plus.calls (rd x6_2 (ji79)) (rd x6_2 (ji83)) t262 _ A86.out).mono ?_
                           rintro e w' ⟨rfl, ⟨nd, rfl⟩⟩
                           refine ⟨_, rfl, ?_⟩
                           refine hK.out _ _ ⟨hHeld.1, hHeld.2⟩ (fun hHeld => ?_)
                           clear hK K
                           refine norm_ (a' := ?_) ?_ ?_
                           rotate_left
                           ·
                            show Act.put _ (some 190) _ = _
                            simp only [Act.put, List.setIfInBounds_toArray, List.set_cons_zero, List.set_cons_succ, i64_w, i32_w]
                            rfl
                           refine pV_ 19 19 (mB 20 1048575) HT_ ?_
                           refine done_ (done_of HT_.out (by kernel_rfl)) ?_
                           try go_wp2
                           go_roundg k5
                           case measure => have := HK1.out; have := HK2.out; have := HK3.out; have := HK4.out; have := HK5.out; omega
                           case rel => exact ⟨(y257), (wrap64 (x18_5 + 1)), (by first | rfl | (simp; done) | (simp [*]; done)), H', ⟨by have := HK1.out; have := HK2.out; have := HK3.out; have := HK4.out; have := HK5.out; omega⟩, ⟨by (with_reducible repeat (first | apply Kd.R_alloc | apply Kd.R_drewN | apply Kd.R_drew)); exact Kd.R_mono HO_6.out (fun _ hk => hk.2)⟩, ⟨vR HO_16.out⟩, ⟨vW HB.out⟩⟩
                          ·
                           rw [if_neg c87] at H
                           have c87b0 : (t262 == 4611686018427387904) = false := beq_eq_false_iff_ne.mpr c87
                           have c87b1 : (t262 != 4611686018427387904) = true := bne_iff_ne.mpr c87
                           replace H := Option.bind_eq_some_iff.mp H
                           obtain ⟨t264, A920, H⟩ := H
                           replace H : (gimbalref11_Tight.l7 k5 a1 x6_2 (y257.set ((ji73) : Int).toNat (mn (rd y257 (ji73)) t264)) x17_4 (wrap64 (x18_5 + 1))) = some (r1, r2) := H
                           have A92 := Aside0.mk A920
                           clear A920
                           obtain ⟨ji93, hji93⟩ : ∃ j_ : Int, (mn (rd y257 (ji73)) t264) = j_ := ⟨_, rfl⟩
                           replace H : (gimbalref11_Tight.l7 k5 a1 x6_2 (y257.set ((ji73) : Int).toNat (ji93)) x17_4 (wrap64 (x18_5 + 1))) = some (r1, r2) := by first | (rw [hji93] at H; exact H) | (simp only [hji93] at H ⊢; exact H)
                           (try rw [hji93] at A78)
                           (try rw [hji93] at A82)
                           (try rw [hji93] at A86)
                           (try rw [hji93] at A92)
                           have hji93_ : (if t264 < (rd y257 (ji73)) then t264 else (rd y257 (ji73))) = ji93 := hji93
                           obtain ⟨y265, hy265⟩ : ∃ y_ : List Int, y_ = (y257.set ((ji73) : Int).toNat (ji93)) := ⟨_, rfl⟩
                           replace H : (gimbalref11_Tight.l7 k5 a1 x6_2 y265 x17_4 (wrap64 (x18_5 + 1))) = some (r1, r2) := by first | (rw [hy265]; with_reducible exact H) | (have H2_ := (Option.bind_some _ _).symm.trans H; rw [hy265]; with_reducible exact H2_) | (have H2_ := (Option.bind_some _ _).symm.trans H; with_reducible exact H2_) | with_reducible exact H | (rw [hy265]; exact H) | exact H
                           have Ny265 := Aside0.mk hy265
                           clear hy265
                           have H' := Aside0.mk H
                           clear H
                           obtain ⟨Ao95, co95, eo95⟩ := Kd.R_slice HO_6.out
                           subst eo95
                           have p256 : 0 ≤ ((ji73) : Int) := of_decide_eq_true (by first | (with_reducible assumption) | assumption)
                           have q256 : (ji73) < (x6_2.length : Int) := of_decide_eq_true (by first | (with_reducible assumption) | assumption)
                           (try (obtain ⟨AoZ, coZ, eoZ⟩ := Kd.R_slice HO_6.out; subst eoZ))
                           obtain ⟨ad256, e256, hx256_0⟩ := Kd.at_int (Kd.R_reads' HO_6.out).2.2 (ji73) p256 q256
                           cases e256
                           replace p256 := eq_true p256
                           replace q256 := eq_true q256
                           have p77 : 0 ≤ ((ji73) : Int) := of_decide_eq_true (by first | (with_reducible assumption) | assumption)
                           have q77 : ((ji73) : Int) < ((x16_5.length : Int) : Int) := of_decide_eq_true (by first | (with_reducible assumption) | assumption)
                           obtain ⟨go77, co77, eo77, gb77, gl77, cl77, HG77⟩ := Kd.R_form HO_16.out (by omega)
                           (first | cases eo77 | (injection eo77 with ea_ en_ ec_; (first | subst ea_ | (injection ea_ with ea_; subst ea_)); subst ec_; clear en_))
                           have GB77 := Aside0.mk gb77
                           have GG77 := Aside0.mk HG77
                           clear gb77 gl77 HG77
                           obtain ⟨hx77_0, hf77_0⟩ := Kd.R_celln 0 HO_16.out ((ji73) : Int) p77 q77
                           replace p77 := eq_true p77
                           replace q77 := eq_true q77
                           have HP96 := Kd.R_putg HO_16.out ((ji73) : Int) (rd x6_2 (ji73))
                           try go_wp2_with ((with_reducible refine gate_store (t := 2) (p := 171) rfl ?_); refine store_event (t := 2) (p := 171) (v := ?vo_w97) (w1 := (wr.setCell ⟨go77, ((ji73) : Int).toNat, none⟩ (.int .i64 (rd x6_2 (ji73))))) ?hg ?ho ?hn ?hr ?_; (case ho => rfl); (case hg => rfl); (case hn => rfl); (case hr => first | (go_simp; done) | (go_simp; rfl)); intro w97 hw; have hg : wr.grownBy w97 (some go77) := (by rw [hw]; exact HP96.2); have hp_ : Kd.R (Kd.int .i64) 2 w97 w.heap.size (fun k_ => some k_ ≠ (.slice (some ad256) x6_2.length co95 : Value).ownBlock) (.slice (some ⟨go77, 0, none⟩) x16_5.length co77) y257 := (by rw [hw, Ny257.out]; exact HP96.1); clear HP96; replace HO_6 := Aside0.mk (Kd.R_after (v := (.slice (some ⟨go77, 0, none⟩) x16_5.length co77)) (v1 := (.slice (some ⟨go77, 0, none⟩) x16_5.length co77)) (ok := (fun _ => True)) (by (with_reducible repeat (first | apply Kd.R_alloc | apply Kd.R_drewN | apply Kd.R_drew)); exact Kd.R_mono HO_6.out (fun _ hk => ⟨trivial, hk⟩)) hg (.inl rfl)); replace HO_16 := Aside0.mk (hp_); replace HB := Aside0.mk ((by rw [hw]; exact below_set (HB.out) GB77.out : Below w.heap.size w w97)); clear hg hw hp_)
                           replace HO_6 := Aside0.mk (Kd.R_drew HO_6.out)
                           replace HO_16 := Aside0.mk (Kd.R_drew HO_16.out)
                           replace HB := Aside0.mk (below_drew1 HB.out)
                           have p259 : 0 ≤ ((ji79) : Int) := of_decide_eq_true (by first | (with_reducible assumption) | assumption)
                           have q259 : (ji79) < (x6_2.length : Int) := of_decide_eq_true (by first | (with_reducible assumption) | assumption)
                           (try (obtain ⟨AoZ, coZ, eoZ⟩ := Kd.R_slice HO_6.out; subst eoZ))
                           obtain ⟨ad259, e259, hx259_0⟩ := Kd.at_int (Kd.R_reads' HO_6.out).2.2 (ji79) p259 q259
                           obtain rfl : ad256 = ad259 := (by injection e259)
                           replace p259 := eq_true p259
                           replace q259 := eq_true q259
                           have p261 : 0 ≤ ((ji83) : Int) := of_decide_eq_true (by first | (with_reducible assumption) | assumption)
                           have q261 : (ji83) < (x6_2.length : Int) := of_decide_eq_true (by first | (with_reducible assumption) | assumption)
                           (try (obtain ⟨AoZ, coZ, eoZ⟩ := Kd.R_slice HO_6.out; subst eoZ))
                           obtain ⟨ad261, e261, hx261_0⟩ := Kd.at_int (Kd.R_reads' HO_6.out).2.2 (ji83) p261 q261
                           obtain rfl : ad256 = ad261 := (by injection e261)
                           replace p261 := eq_true p261
                           replace q261 := eq_true q261
                           refine start_ (n := 20) (S := fun w' => w'.cell? (ad256.add ((ji79)).toNat) = some (.int .i64 (rd x6_2 (ji79))) ∧ w'.cell? (ad256.add ((ji83)).toNat) = some (.int .i64 (rd x6_2 (ji83)))) (ds := []) (mB 20 0) (by kernel_rfl) rfl rfl ⟨hx259_0, hx261_0⟩ (fun hHeld => ?_); refine with_tabW gimbalref11_Tight.tab41 gimbalref11_Tight.bits41 (fun HT_ HW_ => ?_)
                           generalize w97.drew = w98 at HO_6 HO_16 HB hx259_0 hx261_0 hHeld ⊢
                           refine pV_ 0 172 (mB 20 1) HT_ ?_
                           refine pV_ 1 173 (mB 20 3) HT_ ?_
                           refine pV_ 2 174 (mB 20 7) HT_ ?_
                           refine pV_ 3 175 (mB 20 15) HT_ ?_
                           refine pV_ 4 176 (mB 20 31) HT_ ?_
                           refine pV_ 9 181 (mB 20 543) HT_ ?_
                           refine pV_ 10 182 (mB 20 1567) HT_ ?_
                           refine pV_ 12 184 (mB 20 5663) HT_ ?_
                           refine pV_ 14 186 (mB 20 22047) HT_ ?_
                           refine one_ (i := 5) (N := some 177) (mB 20 22079) rfl rfl (one_of HT_.out (by kernel_rfl)) (by decide) (fun K hK => ?_)
                           refine goes_ Try.func53 (by kernel_rfl) rfl #[.int .i64 x17_4] (by rfl) rfl rfl vL ?_
                           with_reducible refine (gimbalref11_bar.calls x17_4 t258 _ A78.out).mono ?_
                           rintro e w' ⟨rfl, ⟨nd, rfl⟩⟩
                           refine ⟨_, rfl, ?_⟩
                           refine hK.out _ _ ⟨hHeld.1, hHeld.2⟩ (fun hHeld => ?_)
                           clear hK K
                           refine norm_ (a' := ?_) ?_ ?_
                           rotate_left
                           ·
                            show Act.put _ (some 177) _ = _
                            simp only [Act.put, List.setIfInBounds_toArray, List.set_cons_zero, List.set_cons_succ, i64_w, i32_w]
                            rfl
                           refine pV_ 6 178 (mB 20 22143) HT_ ?_
                           refine pV_ 7 179 (mB 20 22271) HT_ ?_
                           refine tV_ 8 180 (mB 20 22527) HT_ HW_ hHeld ?_
                           refine one_ (i := 11) (N := some 183) (mB 20 24575) rfl rfl (one_of HT_.out (by kernel_rfl)) (by decide) (fun K hK => ?_)
                           refine goes_ Try.func53 (by kernel_rfl) rfl #[.int .i64 x18_5] (by rfl) rfl rfl vL ?_
                           with_reducible refine (gimbalref11_bar.calls x18_5 t260 _ A82.out).mono ?_
                           rintro e w' ⟨rfl, ⟨nd, rfl⟩⟩
                           refine ⟨_, rfl, ?_⟩
                           refine hK.out _ _ ⟨hHeld.1, hHeld.2⟩ (fun hHeld => ?_)
                           clear hK K
                           refine norm_ (a' := ?_) ?_ ?_
                           rotate_left
                           ·
                            show Act.put _ (some 183) _ = _
                            simp only [Act.put, List.setIfInBounds_toArray, List.set_cons_zero, List.set_cons_succ, i64_w, i32_w]
                            rfl
                           refine pV_ 13 185 (mB 20 32767) HT_ ?_
                           refine pV_ 15 187 (mB 20 65535) HT_ ?_
                           refine pV_ 16 188 (mB 20 131071) HT_ ?_
                           refine tV_ 17 189 (mB 20 262143) HT_ HW_ hHeld ?_
                           refine one_ (i := 18) (N := some 190) (mB 20 524287) rfl rfl (one_of HT_.out (by kernel_rfl)) (by decide) (fun K hK => ?_)
                           refine goes_ Try.func84 (by kernel_rfl) rfl #[.int .i64 (rd x6_2 (ji79)), .int .i64 (rd x6_2 (ji83))] (by rfl) rfl rfl (by (try simp only [List.map_toArray, List.map_cons, List.map_nil]); first | done | (simp only [hji79, hji83]; rfl) | rfl | (simp only [List.length_drop, List.length_take]; rfl)) ?_
                           with_reducible refine (gimbalref11_plus.calls (rd x6_2 (ji79)) (rd x6_2 (ji83)) t262 _ A86.out).mono ?_
                           rintro e w' ⟨rfl, ⟨nd, rfl⟩⟩
                           refine ⟨_, rfl, ?_⟩
                           refine hK.out _ _ ⟨hHeld.1, hHeld.2⟩ (fun hHeld => ?_)
                           clear hK K
                           refine norm_ (a' := ?_) ?_ ?_
                           rotate_left
                           ·
                            show Act.put _ (some 190) _ = _
                            simp only [Act.put, List.setIfInBounds_toArray, List.set_cons_zero, List.set_cons_succ, i64_w, i32_w]
                            rfl
                           refine pV_ 19 19 (mB 20 1048575) HT_ ?_
                           refine done_ (done_of HT_.out (by kernel_rfl)) ?_
                           try go_wp2
                           (try (rw [drewN_self w98]; generalize hq_ : World.drewN w98 _ = w98; have n0_ : Aside0 (Kd.R (Kd.int .i64) 2 w98 w.heap.size (fun k_ => some k_ ≠ (.slice (some ad256) x6_2.length co95 : Value).ownBlock) (.slice (some ⟨go77, 0, none⟩) x16_5.length co77) y257) := ⟨by rw [← hq_]; exact (vR HO_16.out)⟩; have n1_ : Aside0 (Kd.R (Kd.int .i64) 2 w98 w.heap.size (fun k_ => some k_ ≠ (.slice (some ⟨go77, 0, none⟩) x16_5.length co77 : Value).ownBlock) (.slice (some ad256) x6_2.length co95) x6_2) := ⟨by rw [← hq_]; exact (by (with_reducible repeat (first | apply Kd.R_alloc | apply Kd.R_drewN | apply Kd.R_drew)); exact Kd.R_mono HO_6.out (fun _ hk => hk.2))⟩; have n2_ : Aside0 (Below w.heap.size w w98) := ⟨by rw [← hq_]; exact (vW HB.out)⟩; clear HO_16 HO_6 HB hq_; have HO_16 := n0_; have HO_6 := n1_; have HB := n2_; clear n0_ n1_ n2_))
                           replace HO_6 := Aside0.mk (Kd.R_drew HO_6.out)
                           replace HO_16 := Aside0.mk (Kd.R_drew HO_16.out)
                           replace HB := Aside0.mk (below_drew1 HB.out)
                           have p263 : 0 ≤ ((ji73) : Int) := of_decide_eq_true (by first | (with_reducible assumption) | assumption)
                           have q263 : (ji73) < (y257.length : Int) := (by have h_ : ((ji73) : Int) < ((x16_5.length : Int) : Int) := of_decide_eq_true (by first | (with_reducible assumption) | assumption); first | (have e_ := (Kd.R_reads' HO_16.out).1; omega) | simpa only [Ny257.out, List.length_set] using h_)
                           have ql263 : (((ji73) : Int) < ((x16_5.length : Int) : Int)) = True := eq_true (of_decide_eq_true (by first | (with_reducible assumption) | assumption))
                           obtain ⟨ad263, e263, hx263_0⟩ := Kd.at_int (Kd.R_reads' HO_16.out).2.2 (ji73) p263 q263
                           obtain rfl : (⟨go77, 0, none⟩ : Addr) = ad263 := (by injection e263)
                           (first | simp only [add_plain] at hx263_0 | simp only [add_at] at hx263_0 | simp only [Addr.add, Nat.zero_add] at hx263_0 | skip)
                           replace p263 := eq_true p263
                           replace q263 := eq_true q263
                           refine start_ (n := 19) (S := fun w' => w'.cell? ⟨go77, ((ji73)).toNat, none⟩ = some (.int .i64 (rd y257 (ji73)))) (ds := [18]) (mB 19 0) (by kernel_rfl) rfl rfl (hx263_0) (fun hHeld => ?_); refine with_tabW gimbalref11_Tight.tab43 gimbalref11_Tight.bits43 (fun HT_ HW_ => ?_)
                           generalize w98.drew = w99 at HO_6 HO_16 HB hx263_0 hHeld ⊢
                           refine pV_ 0 193 (mB 19 1) HT_ ?_
                           refine pV_ 1 194 (mB 19 3) HT_ ?_
                           refine pV_ 2 195 (mB 19 7) HT_ ?_
                           refine pV_ 3 196 (mB 19 15) HT_ ?_
                           refine pV_ 4 197 (mB 19 31) HT_ ?_
                           refine pV_ 5 198 (mB 19 63) HT_ ?_
                           refine pV_ 6 199 (mB 19 127) HT_ ?_
                           refine pV_ 7 200 (mB 19 255) HT_ ?_
                           refine pV_ 8 201 (mB 19 511) HT_ ?_
                           refine pV_ 9 202 (mB 19 1023) HT_ ?_
                           refine pV_ 10 203 (mB 19 2047) HT_ ?_
                           refine pV_ 11 204 (mB 19 4095) HT_ ?_
                           refine pV_ 12 205 (mB 19 8191) HT_ ?_
                           refine pV_ 14 207 (mB 19 24575) HT_ ?_
                           refine tV_ 13 206 (mB 19 32767) HT_ HW_ hHeld ?_
                           refine one_ (i := 15) (N := some 208) (mB 19 65535) rfl rfl (one_of HT_.out (by kernel_rfl)) (by decide) (fun K hK => ?_)
                           refine goes_ Try.func85 (by kernel_rfl) rfl #[.int .i64 t262] (by rfl) rfl rfl vL ?_
                           with_reducible refine (gimbalref11_halved.calls t262 t264 _ A92.out).mono ?_
                           rintro e w' ⟨rfl, ⟨nd, rfl⟩⟩
                           refine ⟨_, rfl, ?_⟩
                           have p94 : 0 ≤ ((ji73) : Int) := of_decide_eq_true (by first | (with_reducible assumption) | assumption)
                           have q94 : ((ji73) : Int) < ((x16_5.length : Int) : Int) := of_decide_eq_true (by first | (with_reducible assumption) | assumption)
                           obtain ⟨hx94_0, hf94_0⟩ := Kd.R_celln 0 HO_16.out ((ji73) : Int) p94 q94
                           replace p94 := eq_true p94
                           replace q94 := eq_true q94
                           have HP100 := Kd.R_putn HO_16.out ((ji73) : Int) ji93
                           rw [← Ny265.out] at HP100
                           have HQ100 := Aside0.mk HP100
                           clear HP100
                           refine hK.out _ _ (hHeld) (fun hHeld => ?_)
                           clear hK K
                           refine norm_ (a' := ?_) ?_ ?_
                           rotate_left
                           ·
                            show Act.put _ (some 208) _ = _
                            simp only [Act.put, List.setIfInBounds_toArray, List.set_cons_zero, List.set_cons_succ, i64_w, i32_w]
                            rfl
                           refine pV_ 16 209 (mB 19 131071) HT_ ?_
                           refine pV_ 17 210 (mB 19 262143) HT_ ?_
                           refine last_ (i := 18) (N := none) (mB 19 524287) rfl rfl (one_of HT_.out (by kernel_rfl)) (by decide) (fun K hK => ?_)
                           refine skip_ (w1 := ?_) (by rfl) rfl ?_ ?_
                           rotate_left
                           ·
                            go_simp
                            rfl
                           refine hK.out _ _ ?_
                           clear hK K
                           refine done_ (done_of HT_.out (by kernel_rfl)) ?_
                           try go_wp2
                           go_roundg k5
                           case measure => have := HK1.out; have := HK2.out; have := HK3.out; have := HK4.out; have := HK5.out; omega
                           case rel => exact ⟨(y265), (wrap64 (x18_5 + 1)), (by first | rfl | (simp; done) | (simp [*]; done)), H', ⟨by have := HK1.out; have := HK2.out; have := HK3.out; have := HK4.out; have := HK5.out; omega⟩, ⟨by (with_reducible repeat (first | apply Kd.R_alloc | apply Kd.R_drewN | apply Kd.R_drew)); exact Kd.R_mono (Kd.R_far (p := ⟨go77, ((ji73) : Int).toNat, none⟩) (Kd.R_mono HO_6.out (fun k_ hk => (⟨hk, fun e_ => hk (by rw [e_]; rfl)⟩ : _ ∧ k_ ≠ go77))) (fun _ hk => hk.2) (.int .i64 ji93)) (fun _ hk => hk.1)⟩, ⟨vR HQ100.out⟩, ⟨vW HB.out⟩⟩
                         ·
                          rw [if_neg c85] at H
                          exact absurd H (by simp)
                        ·
                         rw [if_neg c84] at H
                         exact absurd H (by simp)
                       ·
                        rw [if_neg c81] at H
                        exact absurd H (by simp)
                      ·
                       rw [if_neg c80] at H
                       exact absurd H (by simp)
                     ·
                      rw [if_neg c76] at H
                      exact absurd H (by simp)
                    ·
                     rw [if_neg c75] at H
                     exact absurd H (by simp)
                   ·
                    rw [if_neg c74] at H
                    exact absurd H (by simp)
                  ·
                   rw [if_neg c72] at H
                   have c72b0 : decide (x18_5 < a1) = false := decide_eq_false c72
                   clear c72
                   have H' := Aside0.mk H
                   clear H
                   go_wp2
                   go_roundg k5
                   case measure => have := HK1.out; have := HK2.out; have := HK3.out; have := HK4.out; have := HK5.out; omega
                   case rel => exact ⟨(x16_5), (wrap64 (x17_4 + 1)), (by first | rfl | (simp; done) | (simp [*]; done)), H', ⟨by have := HK1.out; have := HK2.out; have := HK3.out; have := HK4.out; have := HK5.out; omega⟩, ⟨vR HO_6.out⟩, ⟨vR HO_16.out⟩, ⟨vW HB.out⟩⟩
               ·
                rw [if_neg c71] at H
                have c71b0 : decide (x17_4 < a1) = false := decide_eq_false c71
                clear c71
                simp only [Option.some.injEq, Prod.mk.injEq] at H
                obtain ⟨rfl, rfl⟩ := H
                go_wp2
                go_ret2
                exact ⟨_, by first | rfl | (simp [errW_none, errW_some] <;> rfl) | (simp only [← hji66]; first | rfl | (simp [errW_none, errW_some] <;> rfl)) | (simp [*, errW_none, errW_some] <;> rfl) | (simp [wrap64]; done), by (with_reducible repeat (first | apply Kd.R_alloc | apply Kd.R_drewN | apply Kd.R_drew)); exact Kd.R_mono HO_16.out (fun _ hk => trivial), vW HB.out⟩
            ·
             rw [if_neg c68] at H
             exact absurd H (by simp)
           ·
            rw [if_neg c67] at H
            exact absurd H (by simp)
 ·
  rw [if_neg c3] at H
  exact absurd H (by simp)
end Go.Proofs.Ytomgebmimgaojaa.QO
end
end
section
/- Written by a program of this session out of the translation. -/
noncomputable section
namespace Go.Proofs.Ytomgebmimgaojaa.QO
open Go.RowKit Go.Proofs.YtomgebmimgaojaaW.PrintWords Go.Proofs.YtomgebmimgaojaaW.PrintLast
set_option linter.unusedVariables false
set_option linter.unusedSimpArgs false
/-! ### gimbalref11_clip: function 60 -/
def gimbalref11_clip.f (a0 : Int) : Option (Int) := if a0 > 1099511627776 then (some 4611686018427387904) else (if a0 < (-1099511627776) then (some (-1099511627776)) else (some a0))
set_option maxHeartbeats 8000000 in
set_option maxRecDepth 100000 in
theorem gimbalref11_clip.calls (a0 : Int) (r : Int) (w : World) (h : gimbalref11_clip.f a0 = some r) :
 Calls Try.prog 60 #[.int .i64 a0] w fun e w' => e = .returned (.int .i64 r) ∧ Drawn0 w w' := by
 have H : (if a0 > 1099511627776 then (some 4611686018427387904) else (if a0 < (-1099511627776) then (some (-1099511627776)) else (some a0))) = some r := h
 clear h
 by_cases c2 : a0 > 1099511627776
 ·
  rw [if_pos c2] at H
  have c2b0 : decide (1099511627776 < a0) = true := decide_eq_true c2
  clear c2
  obtain rfl := Option.some.inj H
  go_enter Try.func60, Try.ntmps60
  go_wp2
  go_ret
  exact ⟨by first | rfl | (simp; done) | (simp [*]; done), by repeat (first | exact Drawn0.refl _ | apply Drawn0.step)⟩
 ·
  rw [if_neg c2] at H
  have c2b0 : decide (1099511627776 < a0) = false := decide_eq_false c2
  clear c2
  by_cases c3 : a0 < (-1099511627776)
  ·
   rw [if_pos c3] at H
   have c3b0 : decide (a0 < (-1099511627776)) = true := decide_eq_true c3
   clear c3
   obtain rfl := Option.some.inj H
   go_enter Try.func60, Try.ntmps60
   go_wp2
   go_ret
   exact ⟨by first | rfl | (simp; done) | (simp [*]; done), by repeat (first | exact Drawn0.refl _ | apply Drawn0.step)⟩
  ·
   rw [if_neg c3] at H
   have c3b0 : decide (a0 < (-1099511627776)) = false := decide_eq_false c3
   clear c3
   obtain rfl := Option.some.inj H
   go_enter Try.func60, Try.ntmps60
   go_wp2
   go_ret
   exact ⟨by first | rfl | (simp; done) | (simp [*]; done), by repeat (first | exact Drawn0.refl _ | apply Drawn0.step)⟩
end Go.Proofs.Ytomgebmimgaojaa.QO
end
end
section
/- Written by a program of this session out of the translation. -/
noncomputable section
namespace Go.Proofs.Ytomgebmimgaojaa.QO
open Go.RowKit Go.Proofs.YtomgebmimgaojaaW.PrintWords Go.Proofs.YtomgebmimgaojaaW.PrintLast
set_option linter.unusedVariables false
set_option linter.unusedSimpArgs false
/-! ### gimbalref11_Close: function 23 -/
def gimbalref11_Close.l0 : Nat → List Int → Int → Int → List Int → List Int → Bool → Option (List Int × List Int × Bool)
 | 0, _, _, _, _, _, _ => none
 | k + 1, x32, x33, x34, x290000, x290001, x290002 => if x34 < x33 then (if 0 ≤ x34 then (if x34 < (x32.length : Int) then ((gimbalref11_clip.f (rd x32 x34)).bind fun t291 => (if x290001.length < 17592186044416 then (gimbalref11_Close.l0 k x32 x33 (wrap64 (x34 + 1)) x290000 (x290001 ++ [t291]) x290002) else (none))) else (none)) else (none)) else (some (x290000, x290001, x290002))
def gimbalref11_Close.f (k : Nat) (l0_0 : List Int) (l0_1 : List Int) (a0_2 : Bool) : Option (List Int × List Int × Bool) := if a0_2 = true then ((gimbalref11_Bottom.f l0_0).bind fun bt268 => (some (bt268.1, bt268.2.1, bt268.2.2))) else ((gimbalref11_Tight.f k l0_1 (wrap64 (2 * (l0_0.length : Int)))).bind fun bt275 => (if bt275.2 = true then ((gimbalref11_copied.f l0_0).bind fun t286 => (gimbalref11_Close.l0 k bt275.1 (bt275.1.length : Int) 0 t286 ([] : List Int) false)) else ((gimbalref11_Bottom.f l0_0).bind fun bt279 => (some (bt279.1, bt279.2.1, bt279.2.2)))))
theorem gimbalref11_Close.mono_l : ∀ k, (∀ y0 y1 y2 y3 y4 y5, LeO (gimbalref11_Close.l0 k y0 y1 y2 y3 y4 y5) (gimbalref11_Close.l0 (k + 1) y0 y1 y2 y3 y4 y5))
 | 0 => fun _ _ _ _ _ _ r h => by simp [gimbalref11_Close.l0] at h
 | k + 1 => by
  have ih0 := gimbalref11_Close.mono_l k
  ·
   intro y0 y1 y2 y3 y4 y5
   unfold gimbalref11_Close.l0
   repeat' first
   | (with_reducible exact ih0 _ _ _ _ _ _)
   | (with_reducible exact gimbalref11_Tight.mono _ _ _)
   | (with_reducible exact LeO.refl _)
   | (with_reducible exact LeO.none _)
   | (with_reducible refine LeO.ite ?_ ?_)
   | (with_reducible refine LeO.bind ?_ (fun _ => ?_))
   | exact ih0 _ _ _ _ _ _
   | exact gimbalref11_Tight.mono _ _ _
   | exact LeO.none _
   | refine LeO.ite ?_ ?_
   | refine LeO.bind ?_ (fun _ => ?_)
theorem gimbalref11_Close.mono : ∀ a0 a1 a2 k, LeO (gimbalref11_Close.f k a0 a1 a2) (gimbalref11_Close.f (k + 1) a0 a1 a2) := by
 intro a0 a1 a2 k
 have ih0 := gimbalref11_Close.mono_l k
 unfold gimbalref11_Close.f
 repeat' first
  | (with_reducible exact ih0 _ _ _ _ _ _)
  | (with_reducible exact gimbalref11_Tight.mono _ _ _)
  | (with_reducible exact LeO.refl _)
  | (with_reducible exact LeO.none _)
  | (with_reducible refine LeO.ite ?_ ?_)
  | (with_reducible refine LeO.bind ?_ (fun _ => ?_))
  | exact ih0 _ _ _ _ _ _
  | exact gimbalref11_Tight.mono _ _ _
  | exact LeO.none _
  | refine LeO.ite ?_ ?_
  | refine LeO.bind ?_ (fun _ => ?_)
def gimbalref11_Close.T10 : Bool × List (List Nat × List Nat) := (true, [([], []), ([0], [0]), ([], []), ([2], [2]), ([3], [3]), ([1, 4, 3], [1, 4]), ([0, 1, 2, 3, 4, 5], []), ([6, 5, 5, 0, 1, 2, 3, 4, 5], [5, 6])])
def gimbalref11_Close.B10 : List Nat := [0, 1, 0, 4, 12, 31, 63, 127]
theorem gimbalref11_Close.tab10 : rtab .any (opsOf Try.f23 10) = gimbalref11_Close.T10 := by kernel_rfl
theorem gimbalref11_Close.bits10 : waitsOk gimbalref11_Close.T10.2 gimbalref11_Close.B10 = true := by kernel_rfl
set_option maxHeartbeats 8000000 in
set_option maxRecDepth 100000 in
theorem gimbalref11_Close.calls (k : Nat) (A0_0 : Option Addr) (c0_0 : Nat) (l0_0 : List Int) (A0_1 : Option Addr) (c0_1 : Nat) (l0_1 : List Int) (a0_2 : Bool) (r1 : List Int) (r2 : List Int) (r3 : Bool) (w : World) (hr0_0 : Kd.C (Kd.int .i64) w A0_0 l0_0.length l0_0) (hc0_0 : l0_0.length ≤ c0_0) (hr0_1 : Kd.C (Kd.int .i64) w A0_1 l0_1.length l0_1) (hc0_1 : l0_1.length ≤ c0_1) (h : gimbalref11_Close.f k l0_0 l0_1 a0_2 = some (r1, r2, r3)) :
 Calls Try.prog 23 #[.agg #[.slice A0_0 l0_0.length c0_0, .slice A0_1 l0_1.length c0_1, .bool a0_2]] w fun e w' => ∃ v0_ v1_ : Value, e = .returned (.agg #[v0_, v1_, .bool r3]) ∧ Kd.R (Kd.int .i64) 3 w' w.heap.size (fun _ => True) v0_ r1 ∧ Kd.R (Kd.int .i64) 2 w' w.heap.size (fun _ => True) v1_ r2 ∧ Below w.heap.size w w' := by
 have hu25 := Try.underlying25
 have HR0_0 := Aside0.mk hr0_0
 have HC0_0 := Aside0.mk hc0_0
 clear hr0_0 hc0_0
 have HR0_1 := Aside0.mk hr0_1
 have HC0_1 := Aside0.mk hc0_1
 clear hr0_1 hc0_1
 have HB := Aside0.mk (Below.refl w.heap.size w)
 have H : (if a0_2 = true then ((gimbalref11_Bottom.f l0_0).bind fun bt268 => (some (bt268.1, bt268.2.1, bt268.2.2))) else ((gimbalref11_Tight.f k l0_1 (wrap64 (2 * (l0_0.length : Int)))).bind fun bt275 => (if bt275.2 = true then ((gimbalref11_copied.f l0_0).bind fun t286 => (gimbalref11_Close.l0 k bt275.1 (bt275.1.length : Int) 0 t286 ([] : List Int) false)) else ((gimbalref11_Bottom.f l0_0).bind fun bt279 => (some (bt279.1, bt279.2.1, bt279.2.2)))))) = some (r1, r2, r3) := h
 clear h
 by_cases c2 : a0_2 = true
 ·
  subst c2
  have H1 : ((gimbalref11_Bottom.f l0_0).bind fun bt268 => (some (bt268.1, bt268.2.1, bt268.2.2))) = some (r1, r2, r3) := by rw [if_pos rfl] at H; exact H
  clear H
  have H := H1
  clear H1
  replace H := Option.bind_eq_some_iff.mp H
  obtain ⟨⟨t268, t271, t274⟩, A30, H⟩ := H
  replace H : (some (t268, t271, t274)) = some (r1, r2, r3) := H
  have A3 := Aside0.mk A30
  clear A30
  simp only [Option.some.injEq, Prod.mk.injEq] at H
  obtain ⟨rfl, rfl, rfl⟩ := H
  go_enter Try.func23, Try.ntmps23
  go_wp2_with (first | ((with_reducible refine gate_dst (N := 1) rfl ?_); refine box_event ?hg (N := 1) ?hd (cs := #[.slice A0_0 l0_0.length c0_0, .slice A0_1 l0_1.length c0_1, .bool true]) (t := 25) ?hr ?_; (case hd => rfl); (case hg => rfl); (case hr => first | (go_simp; done) | (go_simp; rfl)); intro gb266 hg w4 hbox hb; have BK266 := Aside0.mk (hbox); have GW266 := vS hg HB; have GE266 := vS hg HB; replace HB := vWs HB hb; clear hb hbox hg) | ((with_reducible refine gate_dst (N := 2) rfl ?_); refine box_event ?hg (N := 2) ?hd (cs := #[.slice none 0 0, .slice none 0 0, .bool false]) (t := 25) ?hr ?_; (case hd => rfl); (case hg => rfl); (case hr => first | (go_simp; done) | (go_simp; rfl)); intro gb267 hg w5 hbox hb; have BK267 := Aside0.mk (hbox); have GW267 := vS hg HB; have GE267 := vS hg HB; replace HB := vWs HB hb; have NB266_267 := vNl hg BK266; have NB267_266 := vNg hg BK266; replace BK266 := vBb BK266 hb; clear hb hbox hg; have hnb6 := NB266_267.out; have hnc6 := NB267_266.out; obtain ⟨hcz7_0, hcz7_1, hcz7_2, hfz7_0, hfz7_1, hfz7_2⟩ := vF3 BK266.out) | ((with_reducible refine gate_callee (f := 17) rfl ?_); refine goesL_ (some 12) rfl rfl Try.func17 (by kernel_rfl) rfl #[.slice A0_0 l0_0.length c0_0] rfl vL ?_; (with_reducible refine (gimbalref11_Bottom.calls _ _ l0_0 t268 t271 t274 _ ?side1 ?side2 A3.out).mono ?_); (case side1 => exact vC (Kd.C_below HR0_0.out HB.out)); (case side2 => exact HC0_0.out); rintro e w8 ⟨v269, v272, rfl, ho0, ho1, hb⟩; refine ⟨_, rfl, ?_⟩; have HO270 := Aside0.mk (Kd.R_lower ho0 (below_size (vW HB.out))); have HO273 := Aside0.mk (Kd.R_lower ho1 (below_size (vW HB.out))); replace BK266 := vBb BK266 hb; replace BK267 := vBb BK267 hb; replace HB := vWs HB hb; (try clear hb); (try clear hb2); (try clear hk); (try clear hi); (try clear ho0); (try clear ho1); obtain ⟨Ao9, co9, eo9⟩ := Kd.R_slice HO270.out; subst eo9; obtain ⟨hcz10_0, hcz10_1, hcz10_2, hfz10_0, hfz10_1, hfz10_2⟩ := vF3 BK267.out; obtain ⟨Ao11, co11, eo11⟩ := Kd.R_slice HO273.out; subst eo11))
  refine bodyPost_ret (results_cell_row rfl _ _ gb267 25 #[.slice Ao9 t268.length co9, .slice Ao11 t271.length co11, .bool t274] (0, 0) _ rfl (by (with_reducible repeat (first | refine blk_drewN ?_ _ | refine blk_drew ?_ | refine blk_alloc ?_ _)); refine blk_put (cs := #[.slice Ao9 t268.length co9, .slice Ao11 t271.length co11, .bool false]) ?_ 2 _ rfl; (with_reducible repeat (first | refine blk_drewN ?_ _ | refine blk_drew ?_ | refine blk_alloc ?_ _)); refine blk_put (cs := #[.slice Ao9 t268.length co9, .slice none 0 0, .bool false]) ?_ 1 _ rfl; (with_reducible repeat (first | refine blk_drewN ?_ _ | refine blk_drew ?_ | refine blk_alloc ?_ _)); refine blk_put (cs := #[.slice none 0 0, .slice none 0 0, .bool false]) ?_ 0 _ rfl; (with_reducible repeat (first | refine blk_drewN ?_ _ | refine blk_drew ?_ | refine blk_alloc ?_ _)); exact BK267.out) Try.underlying25 rfl (by kernel_rfl)) rfl ?_
  exact ⟨_, _, by first | rfl | (simp [errW_none, errW_some] <;> rfl) | (simp [*, errW_none, errW_some] <;> rfl) | (simp [wrap64]; done), by (with_reducible repeat (first | apply Kd.R_alloc | apply Kd.R_drewN | apply Kd.R_drew)); exact Kd.R_mono (Kd.R_far (p := ⟨gb267, 2, none⟩) (Kd.R_far (p := ⟨gb267, 1, none⟩) (Kd.R_far (p := ⟨gb267, 0, none⟩) (Kd.R_types HO270.out BK267.out (by decide)) (fun _ hk => hk.2) (.slice Ao9 t268.length co9)) (fun _ hk => hk.2) (.slice Ao11 t271.length co11)) (fun _ hk => hk.2) (.bool t274)) (fun _ hk => trivial), by (with_reducible repeat (first | apply Kd.R_alloc | apply Kd.R_drewN | apply Kd.R_drew)); exact Kd.R_mono (Kd.R_far (p := ⟨gb267, 2, none⟩) (Kd.R_far (p := ⟨gb267, 1, none⟩) (Kd.R_far (p := ⟨gb267, 0, none⟩) (Kd.R_types HO273.out BK267.out (by decide)) (fun _ hk => hk.2) (.slice Ao9 t268.length co9)) (fun _ hk => hk.2) (.slice Ao11 t271.length co11)) (fun _ hk => hk.2) (.bool t274)) (fun _ hk => trivial), vW HB.out⟩
 ·
  replace c2 := Bool.eq_false_iff.mpr c2
  subst c2
  have H1 : ((gimbalref11_Tight.f k l0_1 (wrap64 (2 * (l0_0.length : Int)))).bind fun bt275 => (if bt275.2 = true then ((gimbalref11_copied.f l0_0).bind fun t286 => (gimbalref11_Close.l0 k bt275.1 (bt275.1.length : Int) 0 t286 ([] : List Int) false)) else ((gimbalref11_Bottom.f l0_0).bind fun bt279 => (some (bt279.1, bt279.2.1, bt279.2.2))))) = some (r1, r2, r3) := by rw [if_neg (show ¬ (false = true) by decide)] at H; exact H
  clear H
  have H := H1
  clear H1
  replace H := Option.bind_eq_some_iff.mp H
  obtain ⟨⟨t275, t276⟩, A120, H⟩ := H
  replace H : (if t276 = true then ((gimbalref11_copied.f l0_0).bind fun t286 => (gimbalref11_Close.l0 k t275 (t275.length : Int) 0 t286 ([] : List Int) false)) else ((gimbalref11_Bottom.f l0_0).bind fun bt279 => (some (bt279.1, bt279.2.1, bt279.2.2)))) = some (r1, r2, r3) := H
  have A12 := Aside0.mk A120
  clear A120
  by_cases c13 : t276 = true
  ·
   subst c13
   have H1 : ((gimbalref11_copied.f l0_0).bind fun t286 => (gimbalref11_Close.l0 k t275 (t275.length : Int) 0 t286 ([] : List Int) false)) = some (r1, r2, r3) := by rw [if_pos rfl] at H; exact H
   clear H
   have H := H1
   clear H1
   replace H := Option.bind_eq_some_iff.mp H
   obtain ⟨t286, A140, H⟩ := H
   replace H : (gimbalref11_Close.l0 k t275 (t275.length : Int) 0 t286 ([] : List Int) false) = some (r1, r2, r3) := H
   have A14 := Aside0.mk A140
   clear A140
   have H' := Aside0.mk H
   clear H
   go_enter Try.func23, Try.ntmps23
   go_wp2_with (first | ((with_reducible refine gate_dst (N := 1) rfl ?_); refine box_event ?hg (N := 1) ?hd (cs := #[.slice A0_0 l0_0.length c0_0, .slice A0_1 l0_1.length c0_1, .bool false]) (t := 25) ?hr ?_; (case hd => rfl); (case hg => rfl); (case hr => first | (go_simp; done) | (go_simp; rfl)); intro gb266 hg w15 hbox hb; have BK266 := Aside0.mk (hbox); have GW266 := vS hg HB; have GE266 := vS hg HB; replace HB := vWs HB hb; clear hb hbox hg) | ((with_reducible refine gate_dst (N := 2) rfl ?_); refine box_event ?hg (N := 2) ?hd (cs := #[.slice none 0 0, .slice none 0 0, .bool false]) (t := 25) ?hr ?_; (case hd => rfl); (case hg => rfl); (case hr => first | (go_simp; done) | (go_simp; rfl)); intro gb267 hg w16 hbox hb; have BK267 := Aside0.mk (hbox); have GW267 := vS hg HB; have GE267 := vS hg HB; replace HB := vWs HB hb; have NB266_267 := vNl hg BK266; have NB267_266 := vNg hg BK266; replace BK266 := vBb BK266 hb; clear hb hbox hg; have hnb17 := NB266_267.out; have hnc17 := NB267_266.out; obtain ⟨hcz18_0, hcz18_1, hcz18_2, hfz18_0, hfz18_1, hfz18_2⟩ := vF3 BK266.out) | ((with_reducible refine gate_callee (f := 59) rfl ?_); refine goesL_ (some 20) rfl rfl Try.func59 (by kernel_rfl) rfl #[.slice A0_1 l0_1.length c0_1, .int .i64 (wrap64 (2 * (l0_0.length : Int)))] rfl vL ?_; (with_reducible refine (gimbalref11_Tight.calls k _ _ l0_1 (wrap64 (2 * (l0_0.length : Int))) t275 true _ ?side1 ?side2 A12.out).mono ?_); (case side1 => exact vC (Kd.C_below HR0_1.out HB.out)); (case side2 => exact HC0_1.out); rintro e w19 ⟨v277, rfl, ho0, hb⟩; refine ⟨_, rfl, ?_⟩; have HO278 := Aside0.mk (Kd.R_lower ho0 (below_size (vW HB.out))); replace BK266 := vBb BK266 hb; replace BK267 := vBb BK267 hb; replace HB := vWs HB hb; (try clear hb); (try clear hb2); (try clear hk); (try clear hi); (try clear ho0); obtain ⟨hcz20_0, hcz20_1, hcz20_2, hfz20_0, hfz20_1, hfz20_2⟩ := vF3 BK266.out) | ((with_reducible refine gate_callee (f := 50) rfl ?_); refine goesL_ (some 30) rfl rfl Try.func50 (by kernel_rfl) rfl #[.slice A0_0 l0_0.length c0_0] rfl vL ?_; (with_reducible refine (gimbalref11_copied.calls _ _ l0_0 t286 _ ?side1 ?side2 A14.out).mono ?_); (case side1 => exact vC (Kd.C_below HR0_0.out HB.out)); (case side2 => exact HC0_0.out); rintro e w21 ⟨v287, rfl, ho0, hb⟩; refine ⟨_, rfl, ?_⟩; replace HO278 := vRb HO278 hb; have HO288 := Aside0.mk (Kd.R_lower ho0 (below_size (vW HB.out))); replace BK266 := vBb BK266 hb; replace BK267 := vBb BK267 hb; replace HB := vWs HB hb; (try clear hb); (try clear hb2); (try clear hk); (try clear hi); (try clear ho0); obtain ⟨Ao22, co22, eo22⟩ := Kd.R_slice HO288.out; subst eo22) | ((with_reducible refine gate_dst (N := 5) rfl ?_); refine box_event ?hg (N := 5) ?hd (cs := #[.slice none 0 0, .slice none 0 0, .bool false]) (t := 25) ?hr ?_; (case hd => rfl); (case hg => rfl); (case hr => first | (go_simp; done) | (go_simp; rfl)); intro gb289 hg w23 hbox hb; replace HO278 := vRb HO278 hb; replace HO288 := vRb HO288 hb; have BK289 := Aside0.mk (hbox); have GW289 := vS hg HB; have GE289 := vS hg HB; replace HB := vWs HB hb; have NB266_289 := vNl hg BK266; have NB289_266 := vNg hg BK266; replace BK266 := vBb BK266 hb; have NB267_289 := vNl hg BK267; have NB289_267 := vNg hg BK267; replace BK267 := vBb BK267 hb; clear hb hbox hg; have hnb24 := NB289_266.out; have hnc24 := NB266_289.out; have hnb25 := NB289_267.out; have hnc25 := NB267_289.out; obtain ⟨hcz26_0, hcz26_1, hcz26_2, hfz26_0, hfz26_1, hfz26_2⟩ := vF3 BK289.out; obtain ⟨Ao27, co27, eo27⟩ := Kd.R_slice HO278.out; subst eo27))
   go_loopg [34] k (fun kq v34 w' => ∃ (x34_1 : Int) (x290001_1 : List Int) (u290001 : Value), v34 = .int .i64 x34_1 ∧ Aside0 (gimbalref11_Close.l0 kq t275 (t275.length : Int) x34_1 t286 x290001_1 false = some (r1, r2, r3)) ∧ Aside0 (kq ≤ k) ∧ Aside0 (Kd.R (Kd.int .i64) 2 w' w.heap.size (fun k_ => some k_ ≠ (u290001 : Value).ownBlock) (.slice Ao27 t275.length co27) t275) ∧ Aside0 (Kd.R (Kd.int .i64) 3 w' w.heap.size (fun _ => True) (.slice Ao22 t286.length co22) t286) ∧ Aside0 (Kd.R (Kd.int .i64) 2 w' w.heap.size (fun k_ => some k_ ≠ ((.slice Ao27 t275.length co27) : Value).ownBlock) u290001 x290001_1) ∧ Aside0 (w'.heap[gb266]? = some (.cells #[(.slice A0_0 l0_0.length c0_0), (.slice A0_1 l0_1.length c0_1), .bool false] 25 (0, 0))) ∧ Aside0 (w'.heap[gb267]? = some (.cells #[(.slice none 0 0), (.slice none 0 0), .bool false] 25 (0, 0))) ∧ Aside0 (w'.heap[gb289]? = some (.cells #[(.slice Ao22 t286.length co22), u290001, .bool false] 25 (0, 0))) ∧ Aside0 (Below w.heap.size w w'))
   case atStart => exact ⟨(0), (([] : List Int)), (.slice none 0 0), (by first | rfl | (simp; done) | (simp [*]; done)), H', ⟨Nat.le_refl _⟩, ⟨by (with_reducible repeat (first | apply Kd.R_alloc | apply Kd.R_drewN | apply Kd.R_drew)); exact Kd.R_mono (Kd.R_far (p := ⟨gb289, 2, none⟩) (Kd.R_far (p := ⟨gb289, 1, none⟩) (Kd.R_far (p := ⟨gb289, 0, none⟩) (Kd.R_types HO278.out BK289.out (by decide)) (fun _ hk => hk.2) (.slice Ao22 t286.length co22)) (fun _ hk => hk.2) (.slice none 0 0)) (fun _ hk => hk.2) (.bool false)) (fun _ hk => (by simp [Value.ownBlock]))⟩, ⟨by (with_reducible repeat (first | apply Kd.R_alloc | apply Kd.R_drewN | apply Kd.R_drew)); exact Kd.R_mono (Kd.R_far (p := ⟨gb289, 2, none⟩) (Kd.R_far (p := ⟨gb289, 1, none⟩) (Kd.R_far (p := ⟨gb289, 0, none⟩) (Kd.R_types HO288.out BK289.out (by decide)) (fun _ hk => hk.2) (.slice Ao22 t286.length co22)) (fun _ hk => hk.2) (.slice none 0 0)) (fun _ hk => hk.2) (.bool false)) (fun _ hk => trivial)⟩, ⟨by first | exact Kd.R_nil _ _ _ _ _ | exact Kd.N_nil _ _ _ _ _ | exact Kd.V_nil _ _ _ _ _ | exact Kd.Q_nil _ _ _ _ _ | exact Kd.S_nil _ _ _ _ _⟩, ⟨vB BK266.out⟩, ⟨vB BK267.out⟩, ⟨by (with_reducible repeat (first | refine blk_drewN ?_ _ | refine blk_drew ?_ | refine blk_alloc ?_ _)); refine blk_put (cs := #[.slice Ao22 t286.length co22, .slice none 0 0, .bool false]) ?_ 2 _ rfl; (with_reducible repeat (first | refine blk_drewN ?_ _ | refine blk_drew ?_ | refine blk_alloc ?_ _)); refine blk_put (cs := #[.slice Ao22 t286.length co22, .slice none 0 0, .bool false]) ?_ 1 _ rfl; (with_reducible repeat (first | refine blk_drewN ?_ _ | refine blk_drew ?_ | refine blk_alloc ?_ _)); refine blk_put (cs := #[.slice none 0 0, .slice none 0 0, .bool false]) ?_ 0 _ rfl; (with_reducible repeat (first | refine blk_drewN ?_ _ | refine blk_drew ?_ | refine blk_alloc ?_ _)); exact BK289.out⟩, ⟨vW HB.out⟩⟩
   case round =>
    clear H'
    try clear hcz18_0
    try clear hcz18_1
    try clear hcz18_2
    try clear hcz20_0
    try clear hcz20_1
    try clear hcz20_2
    try clear hcz26_0
    try clear hcz26_1
    try clear hcz26_2
    try clear hfz18_0
    try clear hfz18_1
    try clear hfz18_2
    try clear hfz20_0
    try clear hfz20_1
    try clear hfz20_2
    try clear hfz26_0
    try clear hfz26_1
    try clear hfz26_2
    obtain ⟨x34_1, x290001_1, u290001, rfl, HA, HK1, HO_32, HO_290000, HO_290001, BK266, BK267, BK289, HB⟩ := hrel
    cases gk with
    | zero => exact absurd HA.out (by simp [gimbalref11_Close.l0])
    | succ k1 =>
     have H := HA.out
     clear HA
     simp only [gimbalref11_Close.l0] at H
     by_cases c28 : x34_1 < (t275.length : Int)
     ·
      rw [if_pos c28] at H
      have c28b0 : decide (x34_1 < (t275.length : Int)) = true := decide_eq_true c28
      clear c28
      by_cases c29 : 0 ≤ x34_1
      ·
       rw [if_pos c29] at H
       have c29b0 : decide (0 ≤ x34_1) = true := decide_eq_true c29
       clear c29
       by_cases c30 : x34_1 < (t275.length : Int)
       ·
        rw [if_pos c30] at H
        have c30b0 : decide (x34_1 < (t275.length : Int)) = true := decide_eq_true c30
        clear c30
        replace H := Option.bind_eq_some_iff.mp H
        obtain ⟨t291, A310, H⟩ := H
        replace H : (if x290001_1.length < 17592186044416 then (gimbalref11_Close.l0 k1 t275 (t275.length : Int) (wrap64 (x34_1 + 1)) t286 (x290001_1 ++ [t291]) false) else (none)) = some (r1, r2, r3) := H
        have A31 := Aside0.mk A310
        clear A310
        by_cases c32 : x290001_1.length < 17592186044416
        ·
         rw [if_pos c32] at H
         have LMc32 := Aside0.mk c32
         clear c32
         obtain ⟨y292, hy292⟩ : ∃ y_ : List Int, y_ = (x290001_1 ++ [t291]) := ⟨_, rfl⟩
         replace H : (gimbalref11_Close.l0 k1 t275 (t275.length : Int) (wrap64 (x34_1 + 1)) t286 y292 false) = some (r1, r2, r3) := by first | (rw [hy292]; with_reducible exact H) | (have H2_ := (Option.bind_some _ _).symm.trans H; rw [hy292]; with_reducible exact H2_) | (have H2_ := (Option.bind_some _ _).symm.trans H; with_reducible exact H2_) | with_reducible exact H | (rw [hy292]; exact H) | exact H
         have Ny292 := Aside0.mk hy292
         clear hy292
         have H' := Aside0.mk H
         clear H
         have p290 : 0 ≤ (x34_1 : Int) := of_decide_eq_true (by first | (with_reducible assumption) | assumption)
         have q290 : x34_1 < (t275.length : Int) := of_decide_eq_true (by first | (with_reducible assumption) | assumption)
         obtain ⟨ad290, e290, hx290_0⟩ := Kd.at_int (Kd.R_reads' HO_32.out).2.2 x34_1 p290 q290
         cases e290
         replace p290 := eq_true p290
         replace q290 := eq_true q290
         try go_wp2
         replace HO_32 := Aside0.mk (Kd.R_drew HO_32.out)
         replace HO_290000 := Aside0.mk (Kd.R_drew HO_290000.out)
         replace HO_290001 := Aside0.mk (Kd.R_drew HO_290001.out)
         replace BK266 := Aside0.mk (blk_drew BK266.out)
         replace BK267 := Aside0.mk (blk_drew BK267.out)
         replace BK289 := Aside0.mk (blk_drew BK289.out)
         replace HB := Aside0.mk (below_drew1 HB.out)
         refine start_ (n := 8) (S := fun w' => w'.cell? ⟨gb289, 0, none⟩ = some (.slice Ao22 t286.length co22) ∧ w'.cell? ⟨gb289, 1, none⟩ = some (u290001) ∧ w'.cell? ⟨gb289, 2, none⟩ = some (.bool false)) (ds := [7]) (mB 8 0) (by kernel_rfl) rfl rfl ⟨(blk_cell BK289.out 0).trans rfl, (blk_cell BK289.out 1).trans rfl, (blk_cell BK289.out 2).trans rfl⟩ (fun hHeld => ?_); refine with_tabW gimbalref11_Close.tab10 gimbalref11_Close.bits10 (fun HT_ HW_ => ?_)
         generalize wr.drew = w33 at HO_32 HO_290000 HO_290001 BK266 BK267 BK289 HB hHeld ⊢
         refine pV_ 0 38 (mB 8 1) HT_ ?_
         refine pV_ 2 40 (mB 8 5) HT_ ?_
         refine tV_ 1 39 (mB 8 7) HT_ HW_ hHeld ?_
         refine one_ (i := 3) (N := some 41) (mB 8 15) rfl rfl (one_of HT_.out (by kernel_rfl)) (by decide) (fun K hK => ?_)
         refine goes_ Try.func60 (by kernel_rfl) rfl #[.int .i64 (rd t275 x34_1)] (by rfl) rfl rfl vL ?_
         with_reducible refine (gimbalref11_clip.calls (rd t275 x34_1) t291 _ A31.out).mono ?_
         rintro e w' ⟨rfl, ⟨nd, rfl⟩⟩
         refine ⟨_, rfl, ?_⟩
         refine hK.out _ _ ⟨(blk_cell BK289.out 0).trans rfl, (blk_cell BK289.out 1).trans rfl, (blk_cell BK289.out 2).trans rfl⟩ (fun hHeld => ?_)
         clear hK K
         refine norm_ (a' := ?_) ?_ ?_
         rotate_left
         ·
          show Act.put _ (some 41) _ = _
          simp only [Act.put, List.setIfInBounds_toArray, List.set_cons_zero, List.set_cons_succ, i64_w, i32_w]
          rfl
         refine one_ (i := 4) (N := some 42) (mB 8 31) rfl rfl (one_of HT_.out (by kernel_rfl)) (by decide) (fun K hK => ?_)
         refine value_ (w1 := ?_) (v := ?_) (by rfl) rfl ?_ ?_
         rotate_left 2
         ·
          go_simp
          constructor
          ·
           rfl
          ·
           rfl
         refine hK.out _ _ ⟨(blk_cell (blk_alloc BK289.out _) 0).trans rfl, (blk_cell (blk_alloc BK289.out _) 1).trans rfl, (blk_cell (blk_alloc BK289.out _) 2).trans rfl⟩ (fun hHeld => ?_)
         clear hK K
         refine norm_ (a' := ?_) ?_ ?_
         rotate_left
         ·
          show Act.put _ (some 42) _ = _
          simp only [Act.put, List.setIfInBounds_toArray, List.set_cons_zero, List.set_cons_succ, i64_w, i32_w]
          rfl
         refine one_ (i := 5) (N := some 43) (mB 8 63) rfl rfl (one_of HT_.out (by kernel_rfl)) (by decide) (fun K hK => ?_)
         refine Kd.R_append_step (Kd.int .i64) (w0 := w) w.heap.size (by rfl) (.tmp 39) (.tmp 42) 23 2 (.int .i64 0) 8 rfl Try.underlying23 info2 rfl (by decide) (by omega) u290001 x290001_1 t291 [.int .i64 t291] (fun k_ => some k_ ≠ (.slice (some ad290) t275.length co27 : Value).ownBlock) (fun _ => False) rfl rfl ?aP (fun _ hk => hk.elim) ?aF ?aO ?aB ?aS ?aL ?_
         (case aP => exact rfl)
         (case aB => exact (vW HB.out))
         (case aF => exact (fun k_ hk => Kd.fresh' (Kd.R_lt (vR HO_32.out)) k_ hk))
         (case aO => exact (vR HO_290001.out))
         (case aS => exact (below_size (vW HB.out)))
         (case aL => have := LMc32.out; omega)
         intro v293 w34 ho hb hg hat
         rw [← Ny292.out] at ho
         replace HO_32 := Aside0.mk (Kd.R_after (ok := (fun _ => True)) (by (with_reducible repeat (first | apply Kd.R_alloc | apply Kd.R_drewN | apply Kd.R_drew)); exact Kd.R_mono HO_32.out (fun _ hk => ⟨trivial, hk⟩)) hg hat)
         replace HO_290000 := Aside0.mk (Kd.R_over' (vR HO_290000.out) (Kd.R_typed (vR HO_290001.out)) (by decide) hg)
         replace BK266 := Aside0.mk (blk_grown (g := gb266) (o := .cells #[.slice A0_0 l0_0.length c0_0, .slice A0_1 l0_1.length c0_1, .bool false] 25 (0, 0)) (vB BK266.out) hg (Kd.R_ne HO_290001.out BK266.out (by decide)))
         replace BK267 := Aside0.mk (blk_grown (g := gb267) (o := .cells #[.slice none 0 0, .slice none 0 0, .bool false] 25 (0, 0)) (vB BK267.out) hg (Kd.R_ne HO_290001.out BK267.out (by decide)))
         replace BK289 := Aside0.mk (blk_grown (g := gb289) (o := .cells #[.slice Ao22 t286.length co22, u290001, .bool false] 25 (0, 0)) (vB BK289.out) hg (Kd.R_ne HO_290001.out BK289.out (by decide)))
         replace HB := Aside0.mk (hb)
         have HO294 := Aside0.mk (ho)
         clear HO_290001
         clear ho hb hg hat
         obtain ⟨Ao35, co35, eo35⟩ := Kd.R_slice HO294.out
         (first | subst eo35 | (injection eo35 with f1_ f2_ f3_; have f4_ := f1_.symm; have f5_ := f3_.symm; clear f1_ f2_ f3_; subst f4_; subst f5_))
         refine hK.out _ _ ⟨(blk_cell BK289.out 0).trans rfl, (blk_cell BK289.out 1).trans rfl, (blk_cell BK289.out 2).trans rfl⟩ (fun hHeld => ?_)
         clear hK K
         refine norm_ (a' := ?_) ?_ ?_
         rotate_left
         ·
          show Act.put _ (some 43) _ = _
          simp only [Act.put, List.setIfInBounds_toArray, List.set_cons_zero, List.set_cons_succ, i64_w, i32_w]
          rfl
         refine pV_ 6 44 (mB 8 127) HT_ ?_
         refine last_ (i := 7) (N := none) (mB 8 255) rfl rfl (one_of HT_.out (by kernel_rfl)) (by decide) (fun K hK => ?_)
         have hs36 : w34.cell? ⟨gb289, 1, none⟩ = some (u290001) := (blk_cell BK289.out 1).trans rfl
         have hfs36 := blk_frozen BK289.out 1
         have hns36_0 := NB266_289.out
         have hns36_1 := NB267_289.out
         have hms36_0 := NB289_266.out
         have hms36_1 := NB289_267.out
         refine skip_ (w1 := ?_) (by rfl) rfl ?_ ?_
         rotate_left
         ·
          go_simp
          rfl
         refine hK.out _ _ ?_
         clear hK K
         refine done_ (done_of HT_.out (by kernel_rfl)) ?_
         try go_wp2
         go_roundg k1
         case measure => have := HK1.out; omega
         case rel => exact ⟨(wrap64 (x34_1 + 1)), (y292), (.slice Ao35 y292.length co35), (by first | rfl | (simp; done) | (simp [*]; done)), H', ⟨by have := HK1.out; omega⟩, ⟨by (with_reducible repeat (first | apply Kd.R_alloc | apply Kd.R_drewN | apply Kd.R_drew)); exact Kd.R_mono (Kd.R_far (p := ⟨gb289, 1, none⟩) (Kd.R_types HO_32.out BK289.out (by decide)) (fun _ hk => hk.2) (.slice Ao35 y292.length co35)) (fun _ hk => hk.1.2)⟩, ⟨by (with_reducible repeat (first | apply Kd.R_alloc | apply Kd.R_drewN | apply Kd.R_drew)); exact Kd.R_mono (Kd.R_far (p := ⟨gb289, 1, none⟩) (Kd.R_types HO_290000.out BK289.out (by decide)) (fun _ hk => hk.2) (.slice Ao35 y292.length co35)) (fun _ hk => trivial)⟩, ⟨by (with_reducible repeat (first | apply Kd.R_alloc | apply Kd.R_drewN | apply Kd.R_drew)); exact Kd.R_mono (Kd.R_far (p := ⟨gb289, 1, none⟩) (Kd.R_types HO294.out BK289.out (by decide)) (fun _ hk => hk.2) (.slice Ao35 y292.length co35)) (fun _ hk => hk.1)⟩, ⟨vB BK266.out⟩, ⟨vB BK267.out⟩, ⟨by (with_reducible repeat (first | refine blk_drewN ?_ _ | refine blk_drew ?_ | refine blk_alloc ?_ _)); refine blk_put (cs := #[.slice Ao22 t286.length co22, u290001, .bool false]) ?_ 1 _ rfl; (with_reducible repeat (first | refine blk_drewN ?_ _ | refine blk_drew ?_ | refine blk_alloc ?_ _)); exact BK289.out⟩, ⟨vW HB.out⟩⟩
        ·
         rw [if_neg c32] at H
         exact absurd H (by simp)
       ·
        rw [if_neg c30] at H
        exact absurd H (by simp)
      ·
       rw [if_neg c29] at H
       exact absurd H (by simp)
     ·
      rw [if_neg c28] at H
      have c28b0 : decide (x34_1 < (t275.length : Int)) = false := decide_eq_false c28
      clear c28
      simp only [Option.some.injEq, Prod.mk.injEq] at H
      obtain ⟨rfl, rfl, rfl⟩ := H
      have hnb37 := NB289_266.out
      have hnc37 := NB266_289.out
      have hnb38 := NB289_267.out
      have hnc38 := NB267_289.out
      obtain ⟨hcz39_0, hcz39_1, hcz39_2, hfz39_0, hfz39_1, hfz39_2⟩ := vF3 BK289.out
      have hnb40 := NB267_266.out
      have hnc40 := NB266_267.out
      obtain ⟨hcz41_0, hcz41_1, hcz41_2, hfz41_0, hfz41_1, hfz41_2⟩ := vF3 BK267.out
      obtain ⟨Ao42, co42, eo42⟩ := Kd.R_slice HO_290001.out
      subst eo42
      go_wp2
      refine bodyPost_ret (results_cell_row rfl _ _ gb267 25 #[.slice Ao22 t286.length co22, .slice Ao42 x290001_1.length co42, .bool false] (0, 0) _ rfl (by (with_reducible repeat (first | refine blk_drewN ?_ _ | refine blk_drew ?_ | refine blk_alloc ?_ _)); refine blk_put (cs := #[.slice Ao22 t286.length co22, .slice Ao42 x290001_1.length co42, .bool false]) ?_ 2 _ rfl; (with_reducible repeat (first | refine blk_drewN ?_ _ | refine blk_drew ?_ | refine blk_alloc ?_ _)); refine blk_put (cs := #[.slice Ao22 t286.length co22, .slice none 0 0, .bool false]) ?_ 1 _ rfl; (with_reducible repeat (first | refine blk_drewN ?_ _ | refine blk_drew ?_ | refine blk_alloc ?_ _)); refine blk_put (cs := #[.slice none 0 0, .slice none 0 0, .bool false]) ?_ 0 _ rfl; (with_reducible repeat (first | refine blk_drewN ?_ _ | refine blk_drew ?_ | refine blk_alloc ?_ _)); exact BK267.out) Try.underlying25 rfl (by kernel_rfl)) rfl ?_
      exact ⟨_, _, by first | rfl | (simp [errW_none, errW_some] <;> rfl) | (simp [*, errW_none, errW_some] <;> rfl) | (simp [wrap64]; done), by (with_reducible repeat (first | apply Kd.R_alloc | apply Kd.R_drewN | apply Kd.R_drew)); exact Kd.R_mono (Kd.R_far (p := ⟨gb267, 2, none⟩) (Kd.R_far (p := ⟨gb267, 1, none⟩) (Kd.R_far (p := ⟨gb267, 0, none⟩) (Kd.R_types HO_290000.out BK267.out (by decide)) (fun _ hk => hk.2) (.slice Ao22 t286.length co22)) (fun _ hk => hk.2) (.slice Ao42 x290001_1.length co42)) (fun _ hk => hk.2) (.bool false)) (fun _ hk => trivial), by (with_reducible repeat (first | apply Kd.R_alloc | apply Kd.R_drewN | apply Kd.R_drew)); exact Kd.R_mono (Kd.R_far (p := ⟨gb267, 2, none⟩) (Kd.R_far (p := ⟨gb267, 1, none⟩) (Kd.R_far (p := ⟨gb267, 0, none⟩) (Kd.R_types HO_290001.out BK267.out (by decide)) (fun _ hk => hk.2) (.slice Ao22 t286.length co22)) (fun _ hk => hk.2) (.slice Ao42 x290001_1.length co42)) (fun _ hk => hk.2) (.bool false)) (fun _ hk => trivial), vW HB.out⟩
  ·
   replace c13 := Bool.eq_false_iff.mpr c13
   subst c13
   have H1 : ((gimbalref11_Bottom.f l0_0).bind fun bt279 => (some (bt279.1, bt279.2.1, bt279.2.2))) = some (r1, r2, r3) := by rw [if_neg (show ¬ (false = true) by decide)] at H; exact H
   clear H
   have H := H1
   clear H1
   replace H := Option.bind_eq_some_iff.mp H
   obtain ⟨⟨t279, t282, t285⟩, A430, H⟩ := H
   replace H : (some (t279, t282, t285)) = some (r1, r2, r3) := H
   have A43 := Aside0.mk A430
   clear A430
   simp only [Option.some.injEq, Prod.mk.injEq] at H
   obtain ⟨rfl, rfl, rfl⟩ := H
   go_enter Try.func23, Try.ntmps23
   go_wp2_with (first | ((with_reducible refine gate_dst (N := 1) rfl ?_); refine box_event ?hg (N := 1) ?hd (cs := #[.slice A0_0 l0_0.length c0_0, .slice A0_1 l0_1.length c0_1, .bool false]) (t := 25) ?hr ?_; (case hd => rfl); (case hg => rfl); (case hr => first | (go_simp; done) | (go_simp; rfl)); intro gb266 hg w44 hbox hb; have BK266 := Aside0.mk (hbox); have GW266 := vS hg HB; have GE266 := vS hg HB; replace HB := vWs HB hb; clear hb hbox hg) | ((with_reducible refine gate_dst (N := 2) rfl ?_); refine box_event ?hg (N := 2) ?hd (cs := #[.slice none 0 0, .slice none 0 0, .bool false]) (t := 25) ?hr ?_; (case hd => rfl); (case hg => rfl); (case hr => first | (go_simp; done) | (go_simp; rfl)); intro gb267 hg w45 hbox hb; have BK267 := Aside0.mk (hbox); have GW267 := vS hg HB; have GE267 := vS hg HB; replace HB := vWs HB hb; have NB266_267 := vNl hg BK266; have NB267_266 := vNg hg BK266; replace BK266 := vBb BK266 hb; clear hb hbox hg; have hnb46 := NB266_267.out; have hnc46 := NB267_266.out; obtain ⟨hcz47_0, hcz47_1, hcz47_2, hfz47_0, hfz47_1, hfz47_2⟩ := vF3 BK266.out) | ((with_reducible refine gate_callee (f := 59) rfl ?_); refine goesL_ (some 20) rfl rfl Try.func59 (by kernel_rfl) rfl #[.slice A0_1 l0_1.length c0_1, .int .i64 (wrap64 (2 * (l0_0.length : Int)))] rfl vL ?_; (with_reducible refine (gimbalref11_Tight.calls k _ _ l0_1 (wrap64 (2 * (l0_0.length : Int))) t275 false _ ?side1 ?side2 A12.out).mono ?_); (case side1 => exact vC (Kd.C_below HR0_1.out HB.out)); (case side2 => exact HC0_1.out); rintro e w48 ⟨v277, rfl, ho0, hb⟩; refine ⟨_, rfl, ?_⟩; have HO278 := Aside0.mk (Kd.R_lower ho0 (below_size (vW HB.out))); replace BK266 := vBb BK266 hb; replace BK267 := vBb BK267 hb; replace HB := vWs HB hb; (try clear hb); (try clear hb2); (try clear hk); (try clear hi); (try clear ho0); obtain ⟨hcz49_0, hcz49_1, hcz49_2, hfz49_0, hfz49_1, hfz49_2⟩ := vF3 BK266.out) | ((with_reducible refine gate_callee (f := 17) rfl ?_); refine goesL_ (some 27) rfl rfl Try.func17 (by kernel_rfl) rfl #[.slice A0_0 l0_0.length c0_0] rfl vL ?_; (with_reducible refine (gimbalref11_Bottom.calls _ _ l0_0 t279 t282 t285 _ ?side1 ?side2 A43.out).mono ?_); (case side1 => exact vC (Kd.C_below HR0_0.out HB.out)); (case side2 => exact HC0_0.out); rintro e w50 ⟨v280, v283, rfl, ho0, ho1, hb⟩; refine ⟨_, rfl, ?_⟩; have HO281 := Aside0.mk (Kd.R_lower ho0 (below_size (vW HB.out))); have HO284 := Aside0.mk (Kd.R_lower (Kd.R_new' ho1 (Kd.R_lt (vR HO278.out))) (below_size (vW HB.out))); replace HO278 := Aside0.mk (Kd.R_elder' (vR HO278.out) (Kd.R_base ho1) hb); replace BK266 := vBb BK266 hb; replace BK267 := vBb BK267 hb; replace HB := vWs HB hb; (try clear hb); (try clear hb2); (try clear hk); (try clear hi); (try clear ho0); (try clear ho1); obtain ⟨Ao51, co51, eo51⟩ := Kd.R_slice HO281.out; subst eo51; obtain ⟨hcz52_0, hcz52_1, hcz52_2, hfz52_0, hfz52_1, hfz52_2⟩ := vF3 BK267.out; obtain ⟨Ao53, co53, eo53⟩ := Kd.R_slice HO284.out; subst eo53))
   refine bodyPost_ret (results_cell_row rfl _ _ gb267 25 #[.slice Ao51 t279.length co51, .slice Ao53 t282.length co53, .bool t285] (0, 0) _ rfl (by (with_reducible repeat (first | refine blk_drewN ?_ _ | refine blk_drew ?_ | refine blk_alloc ?_ _)); refine blk_put (cs := #[.slice Ao51 t279.length co51, .slice Ao53 t282.length co53, .bool false]) ?_ 2 _ rfl; (with_reducible repeat (first | refine blk_drewN ?_ _ | refine blk_drew ?_ | refine blk_alloc ?_ _)); refine blk_put (cs := #[.slice Ao51 t279.length co51, .slice none 0 0, .bool false]) ?_ 1 _ rfl; (with_reducible repeat (first | refine blk_drewN ?_ _ | refine blk_drew ?_ | refine blk_alloc ?_ _)); refine blk_put (cs := #[.slice none 0 0, .slice none 0 0, .bool false]) ?_ 0 _ rfl; (with_reducible repeat (first | refine blk_drewN ?_ _ | refine blk_drew ?_ | refine blk_alloc ?_ _)); exact BK267.out) Try.underlying25 rfl (by kernel_rfl)) rfl ?_
   exact ⟨_, _, by first | rfl | (simp [errW_none, errW_some] <;> rfl) | (simp [*, errW_none, errW_some] <;> rfl) | (simp [wrap64]; done), by (with_reducible repeat (first | apply Kd.R_alloc | apply Kd.R_drewN | apply Kd.R_drew)); exact Kd.R_mono (Kd.R_far (p := ⟨gb267, 2, none⟩) (Kd.R_far (p := ⟨gb267, 1, none⟩) (Kd.R_far (p := ⟨gb267, 0, none⟩) (Kd.R_types HO281.out BK267.out (by decide)) (fun _ hk => hk.2) (.slice Ao51 t279.length co51)) (fun _ hk => hk.2) (.slice Ao53 t282.length co53)) (fun _ hk => hk.2) (.bool t285)) (fun _ hk => trivial), by (with_reducible repeat (first | apply Kd.R_alloc | apply Kd.R_drewN | apply Kd.R_drew)); exact Kd.R_mono (Kd.R_far (p := ⟨gb267, 2, none⟩) (Kd.R_far (p := ⟨gb267, 1, none⟩) (Kd.R_far (p := ⟨gb267, 0, none⟩) (Kd.R_types HO284.out BK267.out (by decide)) (fun _ hk => hk.2) (.slice Ao51 t279.length co51)) (fun _ hk => hk.2) (.slice Ao53 t282.length co53)) (fun _ hk => hk.2) (.bool t285)) (fun _ hk => trivial), vW HB.out⟩
end Go.Proofs.Ytomgebmimgaojaa.QO
end
end
section
/- The document's own closing, ways doubled in length, comes to what the program's closing comes to. -/
noncomputable section
namespace Go.Proofs.Ytomgebmimgaojaa.Pure
open Go.RowKit Go.Proofs.Ytomgebmimgaojaa.QO Go.Proofs.YtomgebmimgaojaaW.PrintWords Go.Proofs.YtomgebmimgaojaaW.PrintLast Go.Proofs.YtomgebmimgaojaaW.PrintMore
open Go.Proofs.Ytomgebmimgaojaa.OctMath (over overs plus Bd Fin' Top62 dbl dbls least IsClosure)
theorem idx {n i j : Nat} (hn : n ≤ 16) (hi : i ≤ 16) (hj : j ≤ 16) : wrap64 (wrap64 ((i : Int) * (n : Int)) + (j : Int)) = ((i * n + j : Nat) : Int) := by
  have m : i * n ≤ 16 * 16 := Nat.mul_le_mul hi hn
  have e : (i : Int) * (n : Int) = ((i * n : Nat) : Int) := by push_cast; rfl
  rw [e]
  have h1 : wrap64 ((i * n : Nat) : Int) = ((i * n : Nat) : Int) := by unfold wrap64; omega
  rw [h1]; unfold wrap64; omega
theorem sq {n : Nat} (hn : n ≤ 16) : wrap64 ((n : Int) * (n : Int)) = ((n * n : Nat) : Int) := by
  have m : n * n ≤ 16 * 16 := Nat.mul_le_mul hn hn
  have e : (n : Int) * (n : Int) = ((n * n : Nat) : Int) := by push_cast; rfl
  rw [e]; unfold wrap64; omega
theorem suc {i : Nat} (hi : i ≤ 100) : wrap64 ((i : Int) + 1) = ((i + 1 : Nat) : Int) := by unfold wrap64; omega
theorem plus_f {B a b : Int} (hB : B ≤ 1152921504606846976) (ha : Fin' B a) (hb : Fin' B b) : gimbalref11_plus.f a b = some (plus a b) := by
  unfold gimbalref11_plus.f plus
  by_cases h1 : a = 4611686018427387904
  · rw [if_pos h1, if_pos (.inl h1)]
  · rw [if_neg h1]
    by_cases h2 : b = 4611686018427387904
    · rw [if_pos h2, if_pos (.inr h2)]
    · rw [if_neg h2, if_neg (by rintro (h | h) <;> contradiction)]
      unfold Fin' at ha hb
      congr 1; unfold wrap64; omega
theorem in_row {n i j : Nat} {d : Nat → Nat → Int} (hi : i < n) (hj : j < n) : 0 ≤ ((i * n + j : Nat) : Int) ∧ ((i * n + j : Nat) : Int) < ((lst n d).length : Int) := by
  have := ij_lt hi hj
  rw [lst_length]; omega
/-- over the middle nodes -/
theorem l3_ev {n i j : Nat} {A b : Nat → Nat → Int} {B long : Int} {v : List Int × Bool} (hn : n ≤ 16) (hi : i < n) (hj : j < n) (hB : B ≤ 1152921504606846976) (hA : Bd n B A)
    (hv : Ev (fun k => gimbalref11_Tight.l2 k (n : Int) (lst n A) long ((lst n b).set (i * n + j) (dbl n A i j)) (i : Int) ((j + 1 : Nat) : Int)) v) :
    ∀ d kk, kk + d = n → Ev (fun k => gimbalref11_Tight.l3 k (n : Int) (lst n A) long (lst n b) (i : Int) (j : Int) (least A i j kk) (kk : Int)) v := by
  intro d
  induction d with
  | zero =>
    intro kk h
    obtain rfl : kk = n := by omega
    refine Ev.step (fun k => by rw [gimbalref11_Tight.l3]) ?_
    have r := in_row (d := b) hi hj
    simp only [Int.lt_irrefl, if_false, idx hn (by omega : i ≤ 16) (by omega : j ≤ 16), r.1, r.2, if_true, suc (show j ≤ 100 by omega), Int.toNat_natCast]
    exact hv
  | succ d ih =>
    intro kk h
    refine Ev.step (fun k => by rw [gimbalref11_Tight.l3]) ?_
    have r1 := in_row (d := A) hi (show kk < n by omega)
    have r2 := in_row (d := A) (show kk < n by omega) hj
    have hlt : (kk : Int) < (n : Int) := by omega
    simp only [hlt, if_true, idx hn (by omega : i ≤ 16) (by omega : kk ≤ 16), idx hn (by omega : kk ≤ 16) (by omega : j ≤ 16), r1.1, r1.2, r2.1, r2.2, lst_rd (d := A) hi (show kk < n by omega) rfl, lst_rd (d := A) (show kk < n by omega) hj rfl,
      plus_f hB (hA i kk hi (by omega)) (hA kk j (by omega) hj), bsome, suc (show kk ≤ 100 by omega)]
    have := ih (kk + 1) (by omega)
    have e : least A i j (kk + 1) = mn (least A i j kk) (plus (A i kk) (A kk j)) := rfl
    rw [e] at this
    exact this
/-- over a row -/
theorem l2_ev {n i : Nat} {A : Nat → Nat → Int} {B long : Int} {v : List Int × Bool} (hn : n ≤ 16) (hi : i < n) (hB : B ≤ 1152921504606846976) (hA : Bd n B A)
    (hbad : dbl n A i i < 0 → v = ([], false)) (hv : 0 ≤ dbl n A i i → Ev (fun k => gimbalref11_Tight.l1 k (n : Int) (lst n A) long (lst n (upTo (dbl n A) (i + 1) 0)) ((i + 1 : Nat) : Int)) v) :
    ∀ d j, j + d = n → Ev (fun k => gimbalref11_Tight.l2 k (n : Int) (lst n A) long (lst n (upTo (dbl n A) i j)) (i : Int) (j : Int)) v := by
  intro d
  induction d with
  | zero =>
    intro j h
    obtain rfl : j = n := by omega
    refine Ev.step (fun k => by rw [gimbalref11_Tight.l2]) ?_
    have r := in_row (d := upTo (dbl j A) i j) hi hi
    have e : upTo (dbl j A) i j i i = dbl j A i i := by unfold upTo; rw [if_pos (.inr ⟨rfl, hi⟩)]
    simp only [Int.lt_irrefl, if_false, idx hn (by omega : i ≤ 16) (by omega : i ≤ 16), r.1, r.2, if_true, lst_rd (d := upTo (dbl j A) i j) hi hi rfl, e, suc (show i ≤ 100 by omega)]
    by_cases hneg : dbl j A i i < 0
    · rw [hbad hneg]; exact Ev.congr (fun k => if_pos hneg) (Ev.of _)
    · have := hv (by omega)
      rw [lst_congr (fun a b _ hb => (upTo_row (c := dbl j A) (i := i) a b hb).symm)] at this
      exact Ev.congr (fun k => if_neg hneg) this
  | succ d ih =>
    intro j h
    refine Ev.step (fun k => by rw [gimbalref11_Tight.l2]) ?_
    have hj : j < n := by omega
    have r := in_row (d := A) hi hj
    have hlt : (j : Int) < (n : Int) := by omega
    simp only [hlt, if_true, idx hn (by omega : i ≤ 16) (by omega : j ≤ 16), r.1, r.2, lst_rd (d := A) hi hj rfl]
    have h1 := ih (j + 1) (by omega)
    have h2 := lst_set (d := upTo (dbl n A) i j) (v := dbl n A i j) hi hj (q := ((i * n + j : Nat) : Int)) rfl
    rw [Int.toNat_natCast, lst_congr (fun a b _ _ => (upTo_step (c := dbl n A) (i := i) (j := j) a b).symm)] at h2
    rw [← h2] at h1
    exact l3_ev hn hi hj hB hA h1 n 0 (by omega)
/-- over all rows -/
theorem l1_ev {n : Nat} {A : Nat → Nat → Int} {B long : Int} {v : List Int × Bool} (hn : n ≤ 16) (hB : B ≤ 1152921504606846976) (hA : Bd n B A)
    (hbad : (∃ i, i < n ∧ dbl n A i i < 0) → v = ([], false)) (hv : (∀ i, i < n → 0 ≤ dbl n A i i) → Ev (fun k => gimbalref11_Tight.l0 k (n : Int) (lst n (dbl n A)) (wrap64 (2 * long))) v) :
    ∀ d i, i + d = n → (∀ a, a < i → 0 ≤ dbl n A a a) → Ev (fun k => gimbalref11_Tight.l1 k (n : Int) (lst n A) long (lst n (upTo (dbl n A) i 0)) (i : Int)) v := by
  intro d
  induction d with
  | zero =>
    intro i h hp
    obtain rfl : i = n := by omega
    refine Ev.step (fun k => by rw [gimbalref11_Tight.l1]) ?_
    simp only [Int.lt_irrefl, if_false]
    rw [lst_congr (fun a b ha _ => upTo_all a b ha)]
    exact hv hp
  | succ d ih =>
    intro i h hp
    refine Ev.step (fun k => by rw [gimbalref11_Tight.l1]) ?_
    have hlt : (i : Int) < (n : Int) := by omega
    simp only [hlt, if_true]
    refine l2_ev hn (by omega) hB hA (fun hb => hbad ⟨i, by omega, hb⟩) (fun hg => ih (i + 1) (by omega) (fun a ha => ?_)) n 0 (by omega)
    by_cases e : a = i
    · rw [e]; exact hg
    · exact hp a (by omega)
theorem half_f {x : Int} (h : Fin' 1152921504606846976 x) (hx : x ≠ 4611686018427387904) : gimbalref11_halved.f x = some (half x) := by
  unfold gimbalref11_halved.f half
  unfold Fin' at h
  rw [if_neg hx]
  by_cases h0 : x ≥ 0
  · rw [if_pos h0, Int.tdiv_eq_ediv_of_nonneg h0]; congr 1; unfold wrap64; omega
  · rw [if_neg h0]
    have e : wrap64 (1 - x) = 1 - x := by unfold wrap64; omega
    rw [e, Int.tdiv_eq_ediv_of_nonneg (by omega)]; congr 1; unfold wrap64; omega
theorem bar_f {i n : Nat} (hn : n ≤ 16) (hi : i < n) : gimbalref11_bar.f (i : Int) = some ((nb i : Nat) : Int) := by
  unfold gimbalref11_bar.f; rw [if_pos (by omega), nbar_nb]
theorem plus_fin {a b : Int} (ha : Fin' 288230376151711744 a) (hb : Fin' 288230376151711744 b) : Fin' 1152921504606846976 (plus a b) := by
  unfold plus Fin' at *; split <;> omega
theorem strg_inf {T : Nat → Nat → Int} {i j : Nat} (hx : Fin' 288230376151711744 (T i j)) (hs : plus (T i (nb i)) (T (nb j) j) = 4611686018427387904) : strg T i j = T i j := by
  unfold strg half mn; rw [if_pos hs, hs]
  unfold Fin' at hx; rw [if_neg (by omega)]
/-- the last loops: by way of the scalars' own bounds -/
theorem l7_ev {n i : Nat} {T : Nat → Nat → Int} {v : List Int × Bool} (hn : n ≤ 16) (he : ∀ a, a < n → nb a < n) (hi : i < n) (hT : Bd n 288230376151711744 T)
    (hv : Ev (fun k => gimbalref11_Tight.l6 k (n : Int) (lst n T) (lst n (upTo (strg T) (i + 1) 0)) ((i + 1 : Nat) : Int)) v) :
    ∀ d j, j + d = n → Ev (fun k => gimbalref11_Tight.l7 k (n : Int) (lst n T) (lst n (upTo (strg T) i j)) (i : Int) (j : Int)) v := by
  intro d
  induction d with
  | zero =>
    intro j h
    obtain rfl : j = n := by omega
    refine Ev.step (fun k => by rw [gimbalref11_Tight.l7]) ?_
    simp only [Int.lt_irrefl, if_false, suc (show i ≤ 100 by omega)]
    rw [lst_congr (fun a b _ hb => (upTo_row (c := strg T) (i := i) a b hb).symm)] at hv
    exact hv
  | succ d ih =>
    intro j h
    refine Ev.step (fun k => by rw [gimbalref11_Tight.l7]) ?_
    have hj : j < n := by omega
    have hlt : (j : Int) < (n : Int) := by omega
    have r0 := in_row (d := T) hi hj
    have r1 := in_row (d := upTo (strg T) i j) hi hj
    have r2 := in_row (d := T) hi (he i hi)
    have r3 := in_row (d := T) (he j hj) hj
    have l1 := he i hi; have l2 := he j hj
    have hp := plus_f (B := 1152921504606846976) (by decide) (OctMath.fin_mono (hT i (nb i) hi l1) (by decide)) (OctMath.fin_mono (hT (nb j) j l2 hj) (by decide))
    simp only [hlt, if_true, idx hn (by omega : i ≤ 16) (by omega : j ≤ 16), r0.1, r0.2, r1.2, lst_rd (d := T) hi hj rfl, bsome, bar_f hn hi, bar_f hn hj, idx hn (by omega : i ≤ 16) (by omega : nb i ≤ 16), r2.1, r2.2,
      idx hn (by omega : nb j ≤ 16) (by omega : j ≤ 16), r3.1, r3.2, lst_rd (d := T) hi l1 rfl, lst_rd (d := T) l2 hj rfl, hp, suc (show j ≤ 100 by omega), Int.toNat_natCast]
    have h1 := ih (j + 1) (by omega)
    have s1 : ∀ w : Int, (lst n (upTo (strg T) i j)).set (i * n + j) w = lst n (fun a b => if a = i ∧ b = j then w else upTo (strg T) i j a b) := fun w => by
      have := lst_set (d := upTo (strg T) i j) (v := w) hi hj (q := ((i * n + j : Nat) : Int)) rfl
      rwa [Int.toNat_natCast] at this
    have hx := hT i j hi hj
    clear h
    have hq1 := hT i (nb i) hi l1; have hq2 := hT (nb j) j l2 hj
    by_cases hs : plus (T i (nb i)) (T (nb j) j) = 4611686018427387904
    · refine Ev.congr (fun k => if_pos hs) ?_
      have e : strg T i j = T i j := strg_inf hx hs
      rw [s1, ← e, lst_congr (fun a b _ _ => (upTo_step (c := strg T) (i := i) (j := j) a b).symm)]
      exact h1
    · refine Ev.congr (fun k => if_neg hs) ?_
      have hb := plus_fin hq1 hq2
      rw [half_f hb hs]
      simp only [bsome]
      rw [s1, lst_rd hi hj rfl, if_pos ⟨rfl, rfl⟩]
      have s2 := lst_set (d := fun a b => if a = i ∧ b = j then T i j else upTo (strg T) i j a b) (v := mn (T i j) (half (plus (T i (nb i)) (T (nb j) j)))) hi hj (q := ((i * n + j : Nat) : Int)) rfl
      rw [Int.toNat_natCast] at s2
      have s3 : lst n (fun a b => if a = i ∧ b = j then mn (T i j) (half (plus (T i (nb i)) (T (nb j) j))) else if a = i ∧ b = j then T i j else upTo (strg T) i j a b) = lst n (upTo (strg T) i (j + 1)) := lst_congr (fun a b _ _ => by
        rw [upTo_step]
        by_cases h : a = i ∧ b = j
        · rw [if_pos h, if_pos h]; rfl
        · rw [if_neg h, if_neg h, if_neg h])
      rw [s2, s3]
      exact h1
theorem l6_ev {n : Nat} {T : Nat → Nat → Int} (hn : n ≤ 16) (he : ∀ a, a < n → nb a < n) (hT : Bd n 288230376151711744 T) :
    ∀ d i, i + d = n → Ev (fun k => gimbalref11_Tight.l6 k (n : Int) (lst n T) (lst n (upTo (strg T) i 0)) (i : Int)) (lst n (strg T), true) := by
  intro d
  induction d with
  | zero =>
    intro i h
    obtain rfl : i = n := by omega
    refine Ev.step (fun k => by rw [gimbalref11_Tight.l6]) ?_
    simp only [Int.lt_irrefl, if_false]
    rw [lst_congr (fun a b ha _ => upTo_all a b ha)]
    exact Ev.of _
  | succ d ih =>
    intro i h
    refine Ev.step (fun k => by rw [gimbalref11_Tight.l6]) ?_
    have hlt : (i : Int) < (n : Int) := by omega
    simp only [hlt, if_true]
    exact l7_ev hn he (by omega) hT (ih (i + 1) (by omega)) n 0 (by omega)
/-- is there no value? -/
theorem l5_ev {n : Nat} {T : Nat → Nat → Int} {v : List Int × Bool} (hn : n ≤ 16) (he : ∀ a, a < n → nb a < n) (hT : Bd n 288230376151711744 T)
    (hbad : ¬ StrOk n T → v = ([], false)) (hv : StrOk n T → v = (lst n (strg T), true)) :
    ∀ d i, i + d = n → (∀ a, a < i → 0 ≤ plus (T a (nb a)) (T (nb a) a)) → Ev (fun k => gimbalref11_Tight.l5 k (n : Int) (lst n T) (i : Int)) v := by
  intro d
  induction d with
  | zero =>
    intro i h hp
    obtain rfl : i = n := by omega
    refine Ev.step (fun k => by rw [gimbalref11_Tight.l5]) ?_
    have m : i * i ≤ 16 * 16 := Nat.mul_le_mul hn hn
    have c1 : (0 : Int) ≤ ((i * i : Nat) : Int) := by omega
    have c2 : i * i ≤ 35184372088832 := by omega
    simp only [Int.lt_irrefl, if_false, sq hn, c1, c2, if_true, Int.toNat_natCast]
    rw [lst_zero i (strg T), hv hp]
    exact l6_ev hn he hT i 0 (by omega)
  | succ d ih =>
    intro i h hp
    refine Ev.step (fun k => by rw [gimbalref11_Tight.l5]) ?_
    have hi : i < n := by omega
    have hlt : (i : Int) < (n : Int) := by omega
    have l1 := he i hi
    have r2 := in_row (d := T) hi l1
    have r3 := in_row (d := T) l1 hi
    have hpl := plus_f (B := 1152921504606846976) (by decide) (OctMath.fin_mono (hT i (nb i) hi l1) (by decide)) (OctMath.fin_mono (hT (nb i) i l1 hi) (by decide))
    simp only [hlt, if_true, bar_f hn hi, bsome, idx hn (by omega : i ≤ 16) (by omega : nb i ≤ 16), r2.1, r2.2, idx hn (by omega : nb i ≤ 16) (by omega : i ≤ 16), r3.1, r3.2, lst_rd (d := T) hi l1 rfl, lst_rd (d := T) l1 hi rfl, hpl, suc (show i ≤ 100 by omega)]
    by_cases hs : plus (T i (nb i)) (T (nb i) i) < 0
    · rw [hbad (fun h => by have := h i hi; omega)]
      exact Ev.congr (fun k => if_pos hs) (Ev.of _)
    · refine Ev.congr (fun k => if_neg hs) (ih (i + 1) (by omega) (fun a ha => ?_))
      by_cases e : a = i
      · subst e; omega
      · exact hp a (by omega)
theorem even_w {D : Nat → Nat → Int} {i : Nat} (hb : Fin' 72057594037927936 (D i (nb i))) (hs : D i (nb i) ≠ 4611686018427387904) : wrap64 (2 * half (D i (nb i))) = tig D i (nb i) := by
  have e : tig D i (nb i) = 2 * (D i (nb i) / 2) := by unfold tig; rw [if_pos rfl, if_neg hs]
  have e1 : half (D i (nb i)) = D i (nb i) / 2 := by unfold half; rw [if_neg hs]
  rw [e, e1]
  unfold Fin' at hb
  generalize D i (nb i) = x at *
  unfold wrap64; omega
/-- the scalars' own bounds are made even -/
theorem l4_ev {n : Nat} {D : Nat → Nat → Int} {v : List Int × Bool} (hn : n ≤ 16) (he : ∀ a, a < n → nb a < n) (hD : Bd n 72057594037927936 D)
    (hbad : ¬ StrOk n (tig D) → v = ([], false)) (hv : StrOk n (tig D) → v = (lst n (strg (tig D)), true)) :
    ∀ d i, i + d = n → Ev (fun k => gimbalref11_Tight.l4 k (n : Int) (lst n (tigTo D i)) (i : Int)) v := by
  intro d
  induction d with
  | zero =>
    intro i h
    obtain rfl : i = n := by omega
    refine Ev.step (fun k => by rw [gimbalref11_Tight.l4]) ?_
    simp only [Int.lt_irrefl, if_false]
    rw [lst_congr (fun a b ha _ => tigTo_all a b ha)]
    have hT : Bd i 288230376151711744 (tig D) := fun a b ha hb => OctMath.fin_mono (tig_bd hD (by decide) a b ha hb) (by decide)
    exact l5_ev hn he hT hbad hv i 0 (by omega) (fun a ha => absurd ha (by omega))
  | succ d ih =>
    intro i h
    refine Ev.step (fun k => by rw [gimbalref11_Tight.l4]) ?_
    have hi : i < n := by omega
    have hlt : (i : Int) < (n : Int) := by omega
    have l1 := he i hi
    have r2 := in_row (d := tigTo D i) hi l1
    have ed : tigTo D i i (nb i) = D i (nb i) := by unfold tigTo; rw [if_neg (by omega)]
    simp only [hlt, if_true, bar_f hn hi, bsome, idx hn (by omega : i ≤ 16) (by omega : nb i ≤ 16), r2.1, r2.2, lst_rd (d := tigTo D i) hi l1 rfl, ed, suc (show i ≤ 100 by omega), Int.toNat_natCast]
    have h1 := ih (i + 1) (by omega)
    by_cases hs : D i (nb i) = 4611686018427387904
    · refine Ev.congr (fun k => if_pos hs) ?_
      rw [lst_congr (e := tigTo D (i + 1)) (fun a b _ _ => by
        rw [tigTo_step a b]
        by_cases h : a = i ∧ b = nb i
        · rw [if_pos h, h.1, h.2, ed]; unfold tig; rw [if_pos rfl, if_pos hs, hs]
        · rw [if_neg h])]
      exact h1
    · refine Ev.congr (fun k => if_neg hs) ?_
      have hb := hD i (nb i) hi l1
      rw [half_f (OctMath.fin_mono hb (by decide)) hs]
      simp only [bsome]
      have e2 := even_w hb hs
      have s2 := lst_set (d := tigTo D i) (v := tig D i (nb i)) hi l1 (q := ((i * n + nb i : Nat) : Int)) rfl
      rw [Int.toNat_natCast, lst_congr (fun a b _ _ => (tigTo_step (d := D) (i := i) a b).symm)] at s2
      rw [e2, s2]
      exact h1
/-- what the document's Tight answers -/
def tightR (n : Nat) (M : Nat → Nat → Int) : List Int × Bool := if closeB n M = true then (lst n (strg (tig (overs M n))), true) else ([], false)
theorem l0_ev {n : Nat} {M : Nat → Nat → Int} (hn : n ≤ 16) (he : ∀ a, a < n → nb a < n) (hM : Bd n 1099511627776 M) (hd : ∀ i, i < n → M i i = 0) :
    ∀ d t, t + d = 6 → (∀ s i, s ≤ t → i < n → 0 ≤ dbls n M s i i) → Ev (fun k => gimbalref11_Tight.l0 k (n : Int) (lst n (dbls n M t)) (2 ^ t)) (tightR n M) := by
  have top : Top62 n M := OctMath.fin_of_low hM (by decide)
  have w2 : wrap64 (2 * (n : Int)) = 2 * (n : Int) := by unfold wrap64; omega
  have bd : ∀ t, t ≤ 6 → Bd n 70368744177664 (dbls n M t) := fun t ht i j hi hj => by
    have hp : (2 : Int) ^ t ≤ 2 ^ 6 := by
      have := Nat.pow_le_pow_right (n := 2) (by decide) ht
      exact_mod_cast this
    have h4 : (1099511627776 : Int) * 2 ^ t ≤ 1099511627776 * 2 ^ 6 := Int.mul_le_mul_of_nonneg_left hp (by decide)
    exact OctMath.fin_mono (OctMath.bd_dbls hM (by decide) t (by omega) i j hi hj) (by omega)
  have pw : (2 : Int) ^ n ≤ 2 ^ 16 := by
    have := Nat.pow_le_pow_right (n := 2) (by decide) hn
    exact_mod_cast this
  have h16 : (1099511627776 : Int) * 2 ^ n ≤ 1099511627776 * 2 ^ 16 := Int.mul_le_mul_of_nonneg_left pw (by decide)
  have floyd : FloydOk n M → IsClosure n M true (overs M n) ∧ Top62 n (overs M n) := fun h =>
    ⟨OctMath.overs_closure hM (by decide) (by omega) hd (fun k i hk hi => h k i hk hi), OctMath.fin_of_low (overs_bd hM hn) (by decide)⟩
  have nofloyd : ¬ FloydOk n M → IsClosure n M false (overs M n) := fun h => by
    obtain ⟨t, h⟩ := Classical.not_forall.1 h
    obtain ⟨i, h⟩ := Classical.not_forall.1 h
    have h1 : t ≤ n ∧ i < n ∧ overs M t i i < 0 := by
      refine ⟨?_, ?_, ?_⟩
      · exact Classical.byContradiction fun e => h (fun a => absurd a e)
      · exact Classical.byContradiction fun e => h (fun _ a => absurd a e)
      · exact Classical.byContradiction fun e => h (fun _ _ => by omega)
    exact OctMath.overs_none top h1.1 h1.2.1 h1.2.2
  have same : ∀ {b : Bool} {e : Nat → Nat → Int}, IsClosure n M b e → (b = true → Top62 n e) → (b = true ↔ FloydOk n M) ∧ (b = true → ∀ i j, i < n → j < n → e i j = overs M n i j) := fun {b e} hc ht => by
    by_cases hf : FloydOk n M
    · have := OctMath.closure_unique hc (floyd hf).1 ht (fun _ => (floyd hf).2)
      exact ⟨⟨fun _ => hf, fun _ => this.1⟩, this.2⟩
    · have := OctMath.closure_unique hc (nofloyd hf) ht (fun h => by cases h)
      exact ⟨⟨(fun h => by rw [this.1] at h; cases h), fun h => absurd h hf⟩, this.2⟩
  have last : ∀ t, t ≤ 6 → ¬ ((2 : Int) ^ t ≤ 2 * (n : Int)) → (∀ s i, s ≤ t → i < n → 0 ≤ dbls n M s i i) → Ev (fun k => gimbalref11_Tight.l4 k (n : Int) (lst n (dbls n M t)) 0) (tightR n M) := fun t ht h2 hp => by
    have h3 : n + 1 ≤ 2 ^ t := by
      have : (n : Int) + 1 ≤ 2 ^ t := by omega
      exact_mod_cast this
    have h5 : (2 : Int) ^ t ≤ 2 ^ 6 := by
      have := Nat.pow_le_pow_right (n := 2) (by decide) ht
      exact_mod_cast this
    have h4 : (1099511627776 : Int) * 2 ^ t ≤ 1099511627776 * 2 ^ 6 := Int.mul_le_mul_of_nonneg_left h5 (by decide)
    have hcl := OctMath.dbls_closure (t := t) hM (by decide) hd (by omega) h3 (fun i hi => hp t i (Nat.le_refl _) hi)
    have hs := same hcl (fun _ => OctMath.fin_of_low (bd t ht) (by decide))
    have hok := hs.1.1 rfl
    rw [lst_congr (e := tigTo (overs M n) 0) (fun a b ha hb => by rw [hs.2 rfl a b ha hb, tigTo_zero])]
    refine l4_ev hn he (overs_bd hM hn) (fun hb => ?_) (fun hg => ?_) n 0 (by omega)
    · unfold tightR; rw [closeB_false.2 (fun h => hb h.2)]; rfl
    · unfold tightR; rw [if_pos (closeB_true.2 ⟨hok, hg⟩)]
  intro d
  induction d with
  | zero =>
    intro t h hp
    obtain rfl : t = 6 := by omega
    refine Ev.step (fun k => by rw [gimbalref11_Tight.l0]) ?_
    have c : ¬ ((2 : Int) ^ 6 ≤ 2 * (n : Int)) := by omega
    simp only [w2, c, if_false]
    exact last 6 (Nat.le_refl _) c hp
  | succ d ih =>
    intro t h hp
    refine Ev.step (fun k => by rw [gimbalref11_Tight.l0]) ?_
    simp only [w2]
    by_cases c : (2 : Int) ^ t ≤ 2 * (n : Int)
    · have m : n * n ≤ 16 * 16 := Nat.mul_le_mul hn hn
      have c1 : (0 : Int) ≤ ((n * n : Nat) : Int) := by omega
      have c2 : n * n ≤ 35184372088832 := by omega
      simp only [c, if_true, sq hn, c1, c2, Int.toNat_natCast]
      rw [lst_zero n (dbl n (dbls n M t))]
      refine l1_ev hn (by decide) (bd t (by omega)) (fun hb => ?_) (fun hg => ?_) n 0 (by omega) (fun a ha => absurd ha (by omega))
      · obtain ⟨i, hi, hneg⟩ := hb
        have hc : IsClosure n M false (overs M n) := OctMath.dbls_none (t := t + 1) top hi hneg
        have hs := same hc (fun h => by cases h)
        unfold tightR
        rw [closeB_false.2 (fun h => by have := hs.1.2 h.1; cases this)]; rfl
      · have e : wrap64 (2 * (2 : Int) ^ t) = 2 ^ (t + 1) := by
          have e1 : (2 : Int) ^ (t + 1) = 2 * 2 ^ t := by rw [Int.pow_succ]; omega
          have e2 : (0 : Int) ≤ 2 ^ t := Int.pow_nonneg (by decide)
          rw [e1]; unfold wrap64; omega
        rw [e]
        refine ih (t + 1) (by omega) (fun s i hs hi => ?_)
        by_cases e : s = t + 1
        · rw [e]; exact hg i hi
        · exact hp s i (by omega) hi
    · simp only [c, if_false]
      exact last t (by omega) c hp
/-- **the document's Tight** -/
theorem tight_ev {nv : Nat} {m : List Int} {M : Nat → Nat → Int} (hn : nv ≤ 8) (hm : m = lst (2 * nv) M) (hM : Bd (2 * nv) 1099511627776 M) (hd : ∀ i, i < 2 * nv → M i i = 0) :
    Ev (fun k => gimbalref11_Tight.f k m (wrap64 (2 * (nv : Int)))) (tightR (2 * nv) M) := by
  have w2 : wrap64 (2 * (nv : Int)) = ((2 * nv : Nat) : Int) := by unfold wrap64; omega
  have hl : m.length ≤ 256 := by rw [hm, lst_length]; exact Nat.mul_le_mul (show 2 * nv ≤ 16 by omega) (show 2 * nv ≤ 16 by omega)
  refine Ev.congr (fun k => by unfold gimbalref11_Tight.f; rw [if_pos (by simp; omega), List.nil_append, w2]) ?_
  rw [hm]
  exact l0_ev (n := 2 * nv) (by omega) (fun a ha => nb_lt ha) hM hd 6 0 (by omega) (fun s i hs hi => by
    have e : s = 0 := by omega
    rw [e]; show 0 ≤ M i i; rw [hd i hi]; exact Int.le_refl _)
theorem clip_f (x : Int) : gimbalref11_clip.f x = some (clipV x) := by
  unfold gimbalref11_clip.f clipV
  split
  · rfl
  · split <;> rfl
theorem clip_loop (vars : List Int) : ∀ (d : Nat) (l : List Int) (i : Nat) (done : List Int), i + d = l.length → l.length ≤ 1000 → done.length ≤ 1000 + i →
    Ev (fun k => gimbalref11_Close.l0 k l (l.length : Int) (i : Int) vars done false) (vars, done ++ (l.drop i).map clipV, false) := by
  intro d
  induction d with
  | zero =>
    intro l i done h _ _
    refine Ev.step (fun k => by rw [gimbalref11_Close.l0]) ?_
    have c : ¬ ((i : Int) < (l.length : Int)) := by omega
    simp only [c, if_false]
    rw [List.drop_of_length_le (by omega), List.map_nil, List.append_nil]
    exact Ev.of _
  | succ d ih =>
    intro l i done h hl hd
    refine Ev.step (fun k => by rw [gimbalref11_Close.l0]) ?_
    have c : (i : Int) < (l.length : Int) := by omega
    have c0 : (0 : Int) ≤ (i : Int) := by omega
    have c1 : done.length < 17592186044416 := by omega
    have hw : wrap64 ((i : Int) + 1) = ((i + 1 : Nat) : Int) := by unfold wrap64; omega
    simp only [c, c0, if_true, clip_f, bsome, c1, hw]
    have e : done ++ (l.drop i).map clipV = (done ++ [clipV (rd l (i : Int))]) ++ (l.drop (i + 1)).map clipV := by
      rw [List.drop_eq_getElem_cons (by omega), List.map_cons]
      have : rd l (i : Int) = l[i] := by unfold rd; rw [Int.toNat_natCast]; simp [show i < l.length by omega]
      rw [this]; simp
    rw [e]
    exact ih l (i + 1) _ (by omega) hl (by simp; omega)
/-- **the document's Close is the program's** -/
theorem close_ev {vars m : List Int} {empty : Bool} (h : OFit vars m empty) : Ev (fun k => gimbalref11_Close.f k vars m empty) (closeF vars m empty) := by
  have h8 := h.1.1
  have hc : gimbalref11_copied.f vars = some vars := by unfold gimbalref11_copied.f; rw [if_pos (by simp; omega)]; rfl
  have hb : gimbalref11_Bottom.f vars = some (vars, [], true) := by unfold gimbalref11_Bottom.f gimbalref11_VarsFit.f; rw [varsB_true.2 h.1, bsome, if_pos rfl, hc]; rfl
  cases empty with
  | true =>
    refine Ev.congr (fun k => ?_) (Ev.of _)
    unfold gimbalref11_Close.f closeF
    rw [if_pos rfl, if_pos rfl, hb]; rfl
  | false =>
    obtain ⟨hM, hd⟩ := lowM_ok h
    have hm : m = lst (2 * vars.length) (lowM vars.length m) := by
      have hl : m.length = (2 * vars.length) * (2 * vars.length) := by
        have h1 := (h.2.2 rfl).1
        have e : ((m.length : Nat) : Int) = (((2 * vars.length) * (2 * vars.length) : Nat) : Int) := by rw [h1]; push_cast; rfl
        omega
      apply List.ext_getElem
      · rw [lst_length]; exact hl
      · intro t h1 h2
        have ht : t < (2 * vars.length) * (2 * vars.length) := by omega
        have h0 : 0 < 2 * vars.length := by
          rcases Nat.eq_zero_or_pos (2 * vars.length) with e | e
          · rw [e] at ht; omega
          · exact e
        have ha : t / (2 * vars.length) < 2 * vars.length := Nat.div_lt_of_lt_mul ht
        have hb := Nat.mod_lt t h0
        have hdm := Nat.div_add_mod t (2 * vars.length)
        simp only [lst, List.getElem_map, List.getElem_range]
        generalize t / (2 * vars.length) = a at *
        generalize t % (2 * vars.length) = b at *
        unfold lowM
        rw [lowAt_same h (by omega) (by omega) (by omega) (by omega)]
        have e : (a : Int) * (2 * (vars.length : Int)) + (b : Int) = (t : Int) := by
          have e2 : ((2 * vars.length * a + b : Nat) : Int) = (t : Int) := by rw [hdm]
          push_cast at e2
          rw [Int.mul_comm]; exact e2
        rw [e]; unfold rd; rw [Int.toNat_natCast]; simp [h1]
    have ht := tight_ev h8 hm hM hd
    refine Ev.congr (h := fun k => (gimbalref11_Tight.f k m (wrap64 (2 * (vars.length : Int)))).bind fun bt => (if bt.2 = true then ((gimbalref11_copied.f vars).bind fun t286 => (gimbalref11_Close.l0 k bt.1 (bt.1.length : Int) 0 t286 ([] : List Int) false)) else ((gimbalref11_Bottom.f vars).bind fun bt279 => (some (bt279.1, bt279.2.1, bt279.2.2))))) (fun k => by unfold gimbalref11_Close.f; rw [if_neg (by decide)]) ?_
    refine Ev.bind ht ?_
    unfold tightR closeF closeL
    rw [if_neg (show ¬ (false = true) by decide)]
    by_cases hcb : closeB (2 * vars.length) (lowM vars.length m) = true
    · rw [if_pos hcb, if_pos hcb, hcb]
      simp only [if_true, hc, bsome]
      have := clip_loop vars _ (lst (2 * vars.length) (strg (tig (overs (lowM vars.length m) (2 * vars.length))))) 0 [] (Nat.zero_add _) (by rw [lst_length]; exact Nat.le_trans (Nat.mul_le_mul (show 2 * vars.length ≤ 16 by omega) (show 2 * vars.length ≤ 16 by omega)) (by decide)) (by simp)
      rw [List.nil_append, List.drop_zero] at this
      have e : (lst (2 * vars.length) (strg (tig (overs (lowM vars.length m) (2 * vars.length))))).map clipV = lst (2 * vars.length) (closeM (2 * vars.length) (lowM vars.length m)) := by
        unfold lst closeM; rw [List.map_map]; rfl
      rw [e] at this
      exact this
    · rw [if_neg hcb, if_neg hcb]
      have hcb' : closeB (2 * vars.length) (lowM vars.length m) = false := by simpa using hcb
      rw [hcb']
      simp only [Bool.false_eq_true, if_false, hb, bsome]
      exact Ev.of _
end Go.Proofs.Ytomgebmimgaojaa.Pure
end
end
section
/- Facts for the laws on octagons: equal octagons are told equal, the probe that the program is awake holds, what was handed out may be written over. -/
noncomputable section
namespace Go.Proofs.Ytomgebmimgaojaa.Pure
open Go.RowKit Go.Proofs.Ytomgebmimgaojaa.QO Go.Proofs.YtomgebmimgaojaaW.PrintWords Go.Proofs.YtomgebmimgaojaaW.PrintLast Go.Proofs.YtomgebmimgaojaaW.PrintMore
namespace Octs
theorem eq_l1 (a b : List Int) (e : Bool) (hb : b.length < 4611686018427387904) : ∀ d k i : Nat, i + d = b.length → gimbalref11_Equal.l1 (k + d + 1) b.length i a b e a b e = some true := by
  intro d
  induction d with
  | zero => intro k i h; unfold gimbalref11_Equal.l1; rw [if_neg (by omega)]
  | succ d ih =>
    intro k i h
    have hw : wrap64 ((i : Int) + 1) = ((i + 1 : Nat) : Int) := by unfold wrap64; omega
    unfold gimbalref11_Equal.l1
    rw [if_pos (by omega), if_pos (by omega), if_pos (by omega), if_pos (by omega), if_pos rfl, hw]
    exact ih k (i + 1) (by omega)
theorem eq_l0 (a b : List Int) (e : Bool) (ha : a.length < 4611686018427387904) (hb : b.length < 4611686018427387904) : ∀ d k i : Nat, i + d = a.length → gimbalref11_Equal.l0 (k + b.length + 1 + d + 1) a.length i a b e a b e = some true := by
  intro d
  induction d with
  | zero => intro k i h; unfold gimbalref11_Equal.l0; rw [if_neg (by omega)]; exact eq_l1 a b e hb b.length k 0 (by omega)
  | succ d ih =>
    intro k i h
    have hw : wrap64 ((i : Int) + 1) = ((i + 1 : Nat) : Int) := by unfold wrap64; omega
    unfold gimbalref11_Equal.l0
    rw [if_pos (by omega), if_pos (by omega), if_pos (by omega), if_pos (by omega), if_pos rfl, hw]
    exact ih k (i + 1) (by omega)
theorem eq_self (a b : List Int) (e : Bool) (ha : a.length < 4611686018427387904) (hb : b.length < 4611686018427387904) (k : Nat) (hk : a.length + b.length + 3 ≤ k) : gimbalref11_Equal.f k a b e a b e = some true := by
  refine grow (g := fun k => gimbalref11_Equal.f k a b e a b e) (gimbalref11_Equal.mono _ _ _ _ _ _) (n := b.length + 1 + a.length + 1 + 1) ?_ k (by omega)
  show gimbalref11_Equal.f _ _ _ _ _ _ _ = _
  have := eq_l0 a b e ha hb a.length 0 0 (by omega)
  simp only [Nat.zero_add] at this
  unfold gimbalref11_Equal.f
  rw [if_pos rfl, if_pos rfl, gimbalref11_Equal.j0, if_neg (by simp)]
  exact this
theorem eq_ev (a b : List Int) (e : Bool) (ha : a.length < 4611686018427387904) (hb : b.length < 4611686018427387904) : Ev (fun k => gimbalref11_Equal.f k a b e a b e) true := ⟨a.length + b.length + 3, fun k hk => eq_self a b e ha hb k hk⟩
theorem spoil_l1 (b : List Int) (c : Bool) : ∀ (d i : Nat) (a : List Int), i + d = a.length → a.length < 4611686018427387904 → ∃ v, Ev (fun k => gimballaw11_spoil.l1 k (a.length : Int) (i : Int) a b c) v := by
  intro d
  induction d with
  | zero =>
    intro i a h _
    refine ⟨(a, b), Ev.step (fun k => by rw [gimballaw11_spoil.l1]) (Ev.congr (fun k => ?_) (Ev.of _))⟩
    rw [if_neg (by omega)]
  | succ d ih =>
    intro i a h hl
    have hw : wrap64 ((i : Int) + 1) = ((i + 1 : Nat) : Int) := by unfold wrap64; omega
    obtain ⟨v, hv⟩ := ih (i + 1) (a.set (i : Int).toNat 88) (by rw [List.length_set]; omega) (by rw [List.length_set]; omega)
    rw [List.length_set] at hv
    refine ⟨v, Ev.step (fun k => by rw [gimballaw11_spoil.l1]) (Ev.congr (fun k => ?_) hv)⟩
    rw [if_pos (by omega), if_pos (by omega), if_pos (by omega), hw]
theorem spoil_l0 (a : List Int) (c : Bool) (ha : a.length < 4611686018427387904) : ∀ (d i : Nat) (b : List Int), i + d = b.length → b.length < 4611686018427387904 → ∃ v, Ev (fun k => gimballaw11_spoil.l0 k (b.length : Int) (i : Int) a b c) v := by
  intro d
  induction d with
  | zero =>
    intro i b h _
    obtain ⟨v, hv⟩ := spoil_l1 b c a.length 0 a (by omega) ha
    refine ⟨v, Ev.step (fun k => by rw [gimballaw11_spoil.l0]) (Ev.congr (fun k => ?_) hv)⟩
    rw [if_neg (by omega)]; rfl
  | succ d ih =>
    intro i b h hl
    have hw : wrap64 ((i : Int) + 1) = ((i + 1 : Nat) : Int) := by unfold wrap64; omega
    obtain ⟨v, hv⟩ := ih (i + 1) (b.set (i : Int).toNat 77) (by rw [List.length_set]; omega) (by rw [List.length_set]; omega)
    rw [List.length_set] at hv
    refine ⟨v, Ev.step (fun k => by rw [gimballaw11_spoil.l0]) (Ev.congr (fun k => ?_) hv)⟩
    rw [if_pos (by omega), if_pos (by omega), if_pos (by omega), hw]
theorem spoil_ev (a b : List Int) (c : Bool) (ha : a.length < 4611686018427387904) (hb : b.length < 4611686018427387904) : ∃ v, Ev (fun k => gimballaw11_spoil.f k a b c) v := spoil_l0 a c ha b.length 0 b (by omega) hb
theorem closeF_len {vars m : List Int} {e : Bool} (h : OFit vars m e) : (closeF vars m e).1.length < 4611686018427387904 ∧ (closeF vars m e).2.1.length < 4611686018427387904 := by
  have h8 := h.1.1
  unfold closeF closeL
  split
  · exact ⟨by simp; omega, by simp⟩
  · refine ⟨by simp; omega, ?_⟩
    show (ite _ _ _ : List Int).length < _
    split
    · rw [lst_length]; exact Nat.lt_of_le_of_lt (Nat.mul_le_mul (show 2 * vars.length ≤ 16 by omega) (show 2 * vars.length ≤ 16 by omega)) (by decide)
    · simp
theorem copied_f {vars m : List Int} {e : Bool} (h : vars.length < 17592186044416) (h' : m.length < 17592186044416) : gimballaw11_copied.f vars m e = some (vars, m, e) := by
  unfold gimballaw11_copied.f; rw [if_pos (by simp; omega), if_pos (by simp; omega)]; rfl
theorem fit_lens {vars m : List Int} {e : Bool} (h : OFit vars m e) : vars.length ≤ 8 ∧ m.length ≤ 256 := by
  have h8 := h.1.1
  refine ⟨h8, ?_⟩
  cases e with
  | true => rw [h.2.1 rfl]; simp
  | false =>
    have h1 := (h.2.2 rfl).1
    have e1 : ((m.length : Nat) : Int) = (((2 * vars.length) * (2 * vars.length) : Nat) : Int) := by rw [h1]; push_cast; rfl
    have : (2 * vars.length) * (2 * vars.length) ≤ 16 * 16 := Nat.mul_le_mul (by omega) (by omega)
    omega
theorem oct_close_f {vars m : List Int} {e : Bool} (h : OFit vars m e) : oct_Close.f vars m e = some (closeF vars m e) := by unfold oct_Close.f; rw [if_pos (ofitB_true.2 h)]
end Octs
end Go.Proofs.Ytomgebmimgaojaa.Pure
end
end
section
/- What the laws' own words answer to octagons that are held. -/
noncomputable section
namespace Go.Proofs.Ytomgebmimgaojaa.QO
open Go.RowKit Go.Shelf Go.Proofs.YtomgebmimgaojaaW.PrintWords Go.Proofs.YtomgebmimgaojaaW.PrintLast Go.Proofs.YtomgebmimgaojaaW.PrintMore
open Go.Proofs.Ytomgebmimgaojaa.Pure Octs Holds Two
set_option linter.unusedVariables false
abbrev OV.val (x : OV) : Value := .agg #[.slice x.P x.v.length x.p, .slice x.Q x.m.length x.q, .bool x.e]
section
variable {w W W0 : World} {x y : OV} {vars : List Int} {bs : List (Nat × OV)} {vs : List OV} {es : List Nat} {g : Nat}
/-- a call that answers and leaves all that is -/
abbrev Says (f : Nat) (args : Array Value) (W : World) (v : Value) : Prop := Calls Try.prog f args W fun e w' => e = .returned v ∧ Below W.heap.size W w'
theorem awake_o : Says 20 #[] W (.bool true) := by
  obtain ⟨K, hK⟩ := awake_ev
  exact gimballaw11_awake.calls K true W (hK K (Nat.le_refl _))
theorem two_o (hx : Oc w W x) (hy : Oc w W y) (hb : Below w.heap.size w W) (lx : x.v.length ≤ 17592186044416) (ly : y.v.length ≤ 17592186044416) : ∃ b, (b = true → OkV x.v x ∧ OkV x.v y) ∧ (∀ {w W : World}, Oc w W x → Oc w W y → Below w.heap.size w W → Says 32 #[x.val, y.val] W (.bool b)) := by
  obtain ⟨b, ⟨K, hK⟩, h⟩ := two_ev x.v x.m x.e y.v y.m y.e lx ly
  refine ⟨b, fun e => ⟨⟨(h e).1, rfl⟩, ⟨(h e).2.1, (h e).2.2⟩⟩, fun hx hy hb => ?_⟩
  exact gimballaw11_two.calls K x.P x.p x.v x.Q x.q x.m x.e y.P y.p y.v y.Q y.q y.m y.e b _ (hx.r0.reads hb) hx.r0.le (hx.r1.reads hb) hx.r1.le (hy.r0.reads hb) hy.r0.le (hy.r1.reads hb) hy.r1.le (hK K (Nat.le_refl _))
theorem holds_o {A : Option Addr} {c : Nat} {v : List Int} (hx : Oc w W x) (hb : Below w.heap.size w W) (hv : Kd.C (Kd.int .i64) W A v.length v) (hc : v.length ≤ c) (fx : OkV vars x) (hs : Small vars.length v) :
    Says 33 #[x.val, .slice A v.length c] W (.bool (hasB x.v x.m x.e v)) := by
  obtain ⟨K, hK⟩ := holds_ev fx.1 (by rw [fx.2]; exact hs)
  exact gimballaw11_holds.calls K x.P x.p x.v x.Q x.q x.m x.e A c v _ W (hx.r0.reads hb) hx.r0.le (hx.r1.reads hb) hx.r1.le hv hc (hK K (Nat.le_refl _))
theorem has_o {A : Option Addr} {c : Nat} {v : List Int} (hx : Oc w W x) (hb : Below w.heap.size w W) (hv : Kd.C (Kd.int .i64) W A v.length v) (hc : v.length ≤ c) (h1 : x.v.length ≤ 17592186044416) (h2 : v.length ≤ 17592186044416) :
    Says 34 #[x.val, .slice A v.length c] W (.bool (hasB x.v x.m x.e v)) :=
  oct_Has.calls x.P x.p x.v x.Q x.q x.m x.e A c v _ W (hx.r0.reads hb) hx.r0.le (hx.r1.reads hb) hx.r1.le hv hc (by unfold oct_Has.f; rw [if_pos ⟨h1, h2⟩])
theorem small_o {b : Int} (hx : Oc w W x) (hb : Below w.heap.size w W) (h1 : wrap64 (-b) = -b) (hl : x.m.length < 4611686018427387904) :
    ∃ r, (r = true → ∀ j : Nat, j < x.m.length → rd x.m (j : Int) = 4611686018427387904 ∨ (-b ≤ rd x.m (j : Int) ∧ rd x.m (j : Int) ≤ b)) ∧ Says 35 #[x.val, .int .i64 b] W (.bool r) := by
  obtain ⟨r, ⟨K, hK⟩, h⟩ := small_ev x.v x.m x.e h1 hl
  exact ⟨r, h, gimballaw11_small.calls K x.P x.p x.v x.Q x.q x.m x.e b r W (hx.r0.reads hb) hx.r0.le (hx.r1.reads hb) hx.r1.le (hK K (Nat.le_refl _))⟩
theorem m0_ {α : Type} {a : α} {l : List α} : a ∈ a :: l := List.mem_cons_self
theorem m1_ {α : Type} {a b : α} {l : List α} : a ∈ b :: a :: l := List.mem_cons_of_mem _ m0_
theorem m2_ {α : Type} {a b c : α} {l : List α} : a ∈ b :: c :: a :: l := List.mem_cons_of_mem _ m1_
theorem m3_ {α : Type} {a b c d : α} {l : List α} : a ∈ b :: c :: d :: a :: l := List.mem_cons_of_mem _ m2_
theorem m4_ {α : Type} {a b c d e : α} {l : List α} : a ∈ b :: c :: d :: e :: a :: l := List.mem_cons_of_mem _ m3_
theorem OkV.of {C : List Int × List Int × Bool} (h : x.o = C) (hf : OFit vars C.2.1 C.2.2) (hv : C.1 = vars) : OkV vars x := by
  subst h; cases hv; exact ⟨hf, rfl⟩
theorem OkV.fit (h : OkV vars x) : OFit vars x.m x.e := by obtain ⟨h, rfl⟩ := h; exact h
theorem leq_at {t : Bool} (hx : Oc w W x) (hy : Oc w W y) (hb : Below w.heap.size w W) (fx : OkV vars x) (fy : OkV vars y) (ht : leqF vars x.m x.e y.m y.e = t) : Says 38 #[x.val, y.val] W (.bool t) := by
  obtain ⟨f, rfl⟩ := fx; subst ht; exact leq_o hx hy hb ⟨f, rfl⟩ fy
theorem same_at {t t' : Bool} (hx : Oc w W x) (hy : Oc w W y) (hb : Below w.heap.size w W) (fx : OkV vars x) (fy : OkV vars y) (ht : leqF vars x.m x.e y.m y.e = t) (ht' : leqF vars y.m y.e x.m x.e = t') : Says 39 #[x.val, y.val] W (.bool (t && t')) := by
  subst ht ht'
  refine oct_Same.calls x.P x.p x.v x.Q x.q x.m x.e y.P y.p y.v y.Q y.q y.m y.e _ W (hx.r0.reads hb) hx.r0.le (hx.r1.reads hb) hx.r1.le (hy.r0.reads hb) hy.r0.le (hy.r1.reads hb) hy.r1.le ?_
  obtain ⟨f1, rfl⟩ := fx
  obtain ⟨f2, e2⟩ := fy
  have q1 : oct_Leq.f x.v x.m x.e y.v y.m y.e = some (leqF x.v x.m x.e y.m y.e) := by unfold oct_Leq.f; rw [if_pos ⟨ofitB_true.2 f1, ofitB_true.2 f2, e2⟩]
  have q2 : oct_Leq.f y.v y.m y.e x.v x.m x.e = some (leqF x.v y.m y.e x.m x.e) := by unfold oct_Leq.f; rw [if_pos ⟨ofitB_true.2 f2, ofitB_true.2 f1, e2.symm⟩, e2]
  unfold oct_Same.f
  rw [q1, q2]
  cases leqF x.v x.m x.e y.m y.e <;> rfl
theorem equal_o (hx : Oc w W x) (hy : Oc w W y) (hb : Below w.heap.size w W) (h : x.o = y.o) (h1 : x.v.length < 4611686018427387904) (h2 : x.m.length < 4611686018427387904) : Says 15 #[x.val, y.val] W (.bool true) := by
  obtain ⟨K, hK⟩ := eq_ev x.v x.m x.e h1 h2
  refine gimbalref11_Equal.calls K x.P x.p x.v x.Q x.q x.m x.e y.P y.p y.v y.Q y.q y.m y.e _ W (hx.r0.reads hb) hx.r0.le (hx.r1.reads hb) hx.r1.le (hy.r0.reads hb) hy.r0.le (hy.r1.reads hb) hy.r1.le ?_
  have e1 : y.v = x.v := (congrArg (·.1) h).symm
  have e2 : y.m = x.m := (congrArg (·.2.1) h).symm
  have e3 : y.e = x.e := (congrArg (·.2.2) h).symm
  rw [e1, e2, e3]
  exact hK K (Nat.le_refl _)
/-- what is known of one world, of one that came of it -/
theorem LS.to (h : Aside0 (LS w bs vs es W0)) (f : LS w bs vs es W0 → LS w bs vs es W := by intro h_; (with_reducible repeat (first | exact h_ | refine LS.next ?_ (below_alloc (Below.refl _ _) _) | refine LS.next ?_ (below_drew (Below.refl _ _)) | refine LS.next ?_ (pw_below_drewN (Below.refl _ _) _)))) : LS w bs vs es W := f h.out
theorem LS.cells (h : Aside0 (LS w bs vs es W)) (hb : (g, x) ∈ bs) : (W.cell? ⟨g, 0, none⟩ = some (.slice x.P x.v.length x.p) ∧ W.cell? ⟨g, 1, none⟩ = some (.slice x.Q x.m.length x.q) ∧ W.cell? ⟨g, 2, none⟩ = some (.bool x.e)) ∧ W.frozen? ⟨g, 0, none⟩ = false ∧ W.frozen? ⟨g, 1, none⟩ = false ∧ W.frozen? ⟨g, 2, none⟩ = false :=
  have q := (h.out.box _ hb).1
  ⟨h.out.cell hb, blk_frozen q 0, blk_frozen q 1, blk_frozen q 2⟩
theorem LS.oc (h : Aside0 (LS w bs vs es W0)) (hb : (g, x) ∈ bs) (f : LS w bs vs es W0 → LS w bs vs es W := by intro h_; (with_reducible repeat (first | exact h_ | refine LS.next ?_ (below_alloc (Below.refl _ _) _) | refine LS.next ?_ (below_drew (Below.refl _ _)) | refine LS.next ?_ (pw_below_drewN (Below.refl _ _) _)))) : Oc w W x := ((f h.out).box _ hb).2.2
theorem LS.ov (h : Aside0 (LS w bs vs es W0)) (hb : x ∈ vs) (f : LS w bs vs es W0 → LS w bs vs es W := by intro h_; (with_reducible repeat (first | exact h_ | refine LS.next ?_ (below_alloc (Below.refl _ _) _) | refine LS.next ?_ (below_drew (Below.refl _ _)) | refine LS.next ?_ (pw_below_drewN (Below.refl _ _) _)))) : Oc w W x := (f h.out).val _ hb
theorem LS.bel (h : Aside0 (LS w bs vs es W0)) (f : LS w bs vs es W0 → LS w bs vs es W := by intro h_; (with_reducible repeat (first | exact h_ | refine LS.next ?_ (below_alloc (Below.refl _ _) _) | refine LS.next ?_ (below_drew (Below.refl _ _)) | refine LS.next ?_ (pw_below_drewN (Below.refl _ _) _)))) : Below w.heap.size w W := (f h.out).below
theorem LS.swap {g g' : Nat} (h : LS w bs vs [g, g'] W) : LS w bs vs [g', g] W :=
  ⟨h.below, h.box, h.val, fun k hk => h.emp k (by simp only [List.mem_cons, List.not_mem_nil, or_false] at hk ⊢; exact hk.symm), by
    have := h.ne
    simp only [List.cons_append, List.nil_append, List.nodup_cons, List.mem_cons, not_or] at this ⊢
    exact ⟨⟨fun e => this.1.1 e.symm, this.2.1⟩, this.1.2, this.2.2⟩⟩
theorem LS.one_new (h : Aside0 (LS w bs vs (g :: es) W)) : W.cell? ⟨g, 0, none⟩ = some (.slice none 0 0) ∧ W.cell? ⟨g, 1, none⟩ = some (.slice none 0 0) ∧ W.cell? ⟨g, 2, none⟩ = some (.bool false) ∧ W.frozen? ⟨g, 0, none⟩ = false ∧ W.frozen? ⟨g, 1, none⟩ = false ∧ W.frozen? ⟨g, 2, none⟩ = false :=
  have q := (h.out.emp g m0_).1
  ⟨blk_cell q 0, blk_cell q 1, blk_cell q 2, blk_frozen q 0, blk_frozen q 1, blk_frozen q 2⟩
/-- two new boxes -/
theorem LS.two_new {g g' : Nat} (h : LS w bs vs [g, g'] W) : (W.cell? ⟨g, 0, none⟩ = some (.slice none 0 0) ∧ W.cell? ⟨g, 1, none⟩ = some (.slice none 0 0) ∧ W.cell? ⟨g, 2, none⟩ = some (.bool false) ∧ W.frozen? ⟨g, 0, none⟩ = false ∧ W.frozen? ⟨g, 1, none⟩ = false ∧ W.frozen? ⟨g, 2, none⟩ = false) ∧
    (W.cell? ⟨g', 0, none⟩ = some (.slice none 0 0) ∧ W.cell? ⟨g', 1, none⟩ = some (.slice none 0 0) ∧ W.cell? ⟨g', 2, none⟩ = some (.bool false) ∧ W.frozen? ⟨g', 0, none⟩ = false ∧ W.frozen? ⟨g', 1, none⟩ = false ∧ W.frozen? ⟨g', 2, none⟩ = false) ∧ g ≠ g' ∧ g' ≠ g := by
  have q := (h.emp g m0_).1
  have q' := (h.emp g' m1_).1
  have ne : g ≠ g' := by
    have := h.ne
    simp only [List.cons_append, List.nil_append, List.nodup_cons, List.mem_cons, not_or] at this
    exact this.1.1
  exact ⟨⟨blk_cell q 0, blk_cell q 1, blk_cell q 2, blk_frozen q 0, blk_frozen q 1, blk_frozen q 2⟩, ⟨blk_cell q' 0, blk_cell q' 1, blk_cell q' 2, blk_frozen q' 0, blk_frozen q' 1, blk_frozen q' 2⟩, ne, fun e => ne e.symm⟩
theorem LS.put0 (h : LS w bs vs (g :: es) W) (hx : x ∈ vs) :
    LS w ((g, x) :: bs) vs es (((W.setCell ⟨g, 0, none⟩ (.slice x.P x.v.length x.p)).setCell ⟨g, 1, none⟩ (.slice x.Q x.m.length x.q)).setCell ⟨g, 2, none⟩ (.bool x.e)) := by
  have := h.put m0_ hx
  rwa [List.erase_cons_head] at this
theorem LS.put_two {g g' : Nat} {y : OV} (h : LS w bs [y, x] [g, g'] W) :
    LS w ((g', y) :: (g, x) :: bs) [y, x] [] ((((((W.setCell ⟨g, 0, none⟩ (.slice x.P x.v.length x.p)).setCell ⟨g, 1, none⟩ (.slice x.Q x.m.length x.q)).setCell ⟨g, 2, none⟩ (.bool x.e)).setCell ⟨g', 0, none⟩ (.slice y.P y.v.length y.p)).setCell ⟨g', 1, none⟩ (.slice y.Q y.m.length y.q)).setCell ⟨g', 2, none⟩ (.bool y.e)) :=
  (h.put0 m1_).put0 m0_
/-- the arguments, boxed -/
theorem LS.two (X Y : OV) (hX : Oc w w X) (hY : Oc w w Y) : LS w [(w.heap.size, X), (w.heap.size + 1, Y)] [] [] ((w.alloc X.cells).alloc Y.cells) := by
  have hb : Below w.heap.size w ((w.alloc X.cells).alloc Y.cells) := below_alloc (below_alloc (Below.refl _ _) _) _
  refine ⟨hb, fun b h => ?_, fun _ h => (by cases h), fun _ h => (by cases h), by simp⟩
  cases h with
  | head => exact ⟨blk_alloc (blk_new _ _) _, Nat.le_refl _, hX.next hb⟩
  | tail _ h =>
    cases h with
    | head => exact ⟨by have h := blk_new (w.alloc X.cells) Y.cells; simpa using h, Nat.le_succ _, hY.next hb⟩
    | tail _ h => cases h
theorem LS.three (X Y Z : OV) (hX : Oc w w X) (hY : Oc w w Y) (hZ : Oc w w Z) : LS w [(w.heap.size, X), (w.heap.size + 1, Y), (w.heap.size + 1 + 1, Z)] [] [] (((w.alloc X.cells).alloc Y.cells).alloc Z.cells) := by
  have hb : Below w.heap.size w (((w.alloc X.cells).alloc Y.cells).alloc Z.cells) := below_alloc (below_alloc (below_alloc (Below.refl _ _) _) _) _
  refine ⟨hb, fun b h => ?_, fun _ h => (by cases h), fun _ h => (by cases h), by simp; omega⟩
  cases h with
  | head => exact ⟨blk_alloc (blk_alloc (blk_new _ _) _) _, Nat.le_refl _, hX.next hb⟩
  | tail _ h =>
    cases h with
    | head => exact ⟨blk_alloc (by have h := blk_new (w.alloc X.cells) Y.cells; simpa using h) _, Nat.le_succ _, hY.next hb⟩
    | tail _ h =>
      cases h with
      | head => exact ⟨by have h := blk_new ((w.alloc X.cells).alloc Y.cells) Z.cells; simpa using h, by omega, hZ.next hb⟩
      | tail _ h => cases h
end
end Go.Proofs.Ytomgebmimgaojaa.QO
end
end
section
/- Boxes that are no octagons', beside those that are. -/
noncomputable section
namespace Go.Proofs.Ytomgebmimgaojaa.QO
open Go.RowKit Go.Shelf Go.Proofs.YtomgebmimgaojaaW.PrintWords Go.Proofs.YtomgebmimgaojaaW.PrintLast Go.Proofs.YtomgebmimgaojaaW.PrintMore
set_option linter.unusedVariables false
structure FX (w : World) (fs : List (Nat × Obj)) (W : World) : Prop where
  all : ∀ f, f ∈ fs → W.heap[f.1]? = some f.2 ∧ w.heap.size ≤ f.1
  ne : (fs.map Prod.fst).Nodup
section
variable {w W W' W0 : World} {fs : List (Nat × Obj)} {o : Obj} {g : Nat}
theorem FX.next (h : FX w fs W) (hb : Below W.heap.size W W') : FX w fs W' := ⟨fun f hf => ⟨blk_below (h.all f hf).1 hb, (h.all f hf).2⟩, h.ne⟩
theorem FX.lt (h : FX w fs W) {f : Nat × Obj} (hf : f ∈ fs) : f.1 < W.heap.size := blk_lt (h.all f hf).1
theorem FX.made (h : FX w fs W) (hw : w.heap.size ≤ W.heap.size) (hg : g = W.heap.size) (hx : W'.heap[g]? = some o) (hb : Below W.heap.size W W') : FX w ((g, o) :: fs) W' := by
  have q := h.next hb
  refine ⟨fun f hf => ?_, List.nodup_cons.2 ⟨fun hm => ?_, h.ne⟩⟩
  · cases hf with
    | head => exact ⟨hx, hg ▸ hw⟩
    | tail _ hf => exact q.all f hf
  · obtain ⟨f, hf, e⟩ := List.mem_map.1 hm
    have := h.lt hf
    omega
theorem FX.far (h : FX w fs W) (hn : ∀ f, f ∈ fs → f.1 ≠ g) (j : Nat) (u : Value) : FX w fs (W.setCell ⟨g, j, none⟩ u) :=
  ⟨fun f hf => ⟨(Below.heap_setCell W ⟨g, j, none⟩ u f.1 (hn f hf)).trans (h.all f hf).1, (h.all f hf).2⟩, h.ne⟩
theorem FX.far3 (h : FX w fs W) (hn : ∀ f, f ∈ fs → f.1 ≠ g) (a b c : Value) : FX w fs (((W.setCell ⟨g, 0, none⟩ a).setCell ⟨g, 1, none⟩ b).setCell ⟨g, 2, none⟩ c) := ((h.far hn 0 a).far hn 1 b).far hn 2 c
theorem FX.swap {f f' : Nat × Obj} (h : FX w (f :: f' :: fs) W) : FX w (f' :: f :: fs) W := by
  refine ⟨fun k hk => h.all k ?_, ?_⟩
  · simp only [List.mem_cons] at hk ⊢
    rcases hk with h | h | h
    · exact .inr (.inl h)
    · exact .inl h
    · exact .inr (.inr h)
  · have := h.ne
    simp only [List.map_cons, List.nodup_cons, List.mem_cons, not_or] at this ⊢
    exact ⟨⟨fun e => this.1.1 e.symm, this.2.1⟩, this.1.2, this.2.2⟩
theorem FX.nes {f f' : Nat × Obj} (h : FX w (f :: f' :: fs) W) : f.1 ≠ f'.1 := by
  have := h.ne
  simp only [List.map_cons, List.nodup_cons, List.mem_cons, not_or] at this
  exact this.1.1
/-- two cells stored -/
theorem FX.put2 {a b a' b' : Value} {t : TypeId} (h : FX w ((g, .cells #[a, b] t (0, 0)) :: fs) W) : FX w ((g, .cells #[a', b'] t (0, 0)) :: fs) ((W.setCell ⟨g, 0, none⟩ a').setCell ⟨g, 1, none⟩ b') := by
  have nd := List.nodup_cons.1 h.ne
  have hg := h.all _ m0_
  refine ⟨fun f hf => ?_, h.ne⟩
  cases hf with
  | head => exact ⟨blk_put (blk_put hg.1 0 a' rfl) 1 b' rfl, hg.2⟩
  | tail _ hf =>
    have hn : f.1 ≠ g := fun e => nd.1 (List.mem_map.2 ⟨f, hf, e⟩)
    have := h.all f (.tail _ hf)
    exact ⟨(Below.heap_setCell _ ⟨g, 1, none⟩ b' f.1 hn).trans ((Below.heap_setCell W ⟨g, 0, none⟩ a' f.1 hn).trans this.1), this.2⟩
theorem FX.to (h : Aside0 (FX w fs W0)) (f : FX w fs W0 → FX w fs W := by intro h_; (with_reducible repeat (first | exact h_ | refine FX.next ?_ (below_alloc (Below.refl _ _) _) | refine FX.next ?_ (below_drew (Below.refl _ _)) | refine FX.next ?_ (pw_below_drewN (Below.refl _ _) _)))) : FX w fs W := f h.out
theorem FX.lin {v0 v1 v2 v3 v4 : Value} {t : TypeId} (h : Aside0 (FX w fs W)) (hf : (g, .cells #[v0, v1, v2, v3, v4] t (0, 0)) ∈ fs) : W.cell? ⟨g, 0, none⟩ = some v0 ∧ W.cell? ⟨g, 1, none⟩ = some v1 ∧ W.cell? ⟨g, 2, none⟩ = some v2 ∧ W.cell? ⟨g, 3, none⟩ = some v3 ∧ W.cell? ⟨g, 4, none⟩ = some v4 :=
  have q := (h.out.all _ hf).1
  ⟨blk_cell q 0, blk_cell q 1, blk_cell q 2, blk_cell q 3, blk_cell q 4⟩
theorem FX.linf {v0 v1 v2 v3 v4 : Value} {t : TypeId} (h : Aside0 (FX w fs W)) (hf : (g, .cells #[v0, v1, v2, v3, v4] t (0, 0)) ∈ fs) : W.frozen? ⟨g, 0, none⟩ = false ∧ W.frozen? ⟨g, 1, none⟩ = false ∧ W.frozen? ⟨g, 2, none⟩ = false ∧ W.frozen? ⟨g, 3, none⟩ = false ∧ W.frozen? ⟨g, 4, none⟩ = false :=
  have q := (h.out.all _ hf).1
  ⟨blk_frozen q 0, blk_frozen q 1, blk_frozen q 2, blk_frozen q 3, blk_frozen q 4⟩
theorem FX.two {v0 v1 : Value} {t : TypeId} (h : Aside0 (FX w fs W)) (hf : (g, .cells #[v0, v1] t (0, 0)) ∈ fs) : W.cell? ⟨g, 0, none⟩ = some v0 ∧ W.cell? ⟨g, 1, none⟩ = some v1 ∧ W.frozen? ⟨g, 0, none⟩ = false ∧ W.frozen? ⟨g, 1, none⟩ = false :=
  have q := (h.out.all _ hf).1
  ⟨blk_cell q 0, blk_cell q 1, blk_frozen q 0, blk_frozen q 1⟩
end
end Go.Proofs.Ytomgebmimgaojaa.QO
end
end
section
/- Octagons of a walk's own, each in blocks of its own: what is written into one leaves the others. -/
noncomputable section
namespace Go.Proofs.Ytomgebmimgaojaa.QO
open Go.RowKit Go.Shelf Go.Proofs.YtomgebmimgaojaaW.PrintWords Go.Proofs.YtomgebmimgaojaaW.PrintLast Go.Proofs.YtomgebmimgaojaaW.PrintMore
set_option linter.unusedVariables false
/-- the blocks in which an octagon lies -/
def OV.has (x : OV) (k : Nat) : Prop := (Value.slice x.P x.v.length x.p).ownBlock = some k ∨ (Value.slice x.Q x.m.length x.q).ownBlock = some k
structure Own (w W : World) (x : OV) : Prop where
  r0 : Kd.R (Kd.int .i64) 3 W w.heap.size x.has (.slice x.P x.v.length x.p) x.v
  r1 : Kd.R (Kd.int .i64) 2 W w.heap.size x.has (.slice x.Q x.m.length x.q) x.m
structure OS (w : World) (os : List OV) (W : World) : Prop where
  below : Below w.heap.size w W
  own : ∀ x, x ∈ os → Own w W x
  apart : os.Pairwise (fun x y => ∀ k, x.has k → ¬ y.has k)
section
variable {w w' w0 W W' W0 : World} {os : List OV} {x y : OV} {g k : Nat} {fs : List (Nat × Obj)}
theorem own_strict {e b : Nat} {ok : Nat → Prop} {v : Value} {xs : List Int} (h : Kd.R (Kd.int .i64) e W b ok v xs) {ok' : Nat → Prop} (hk : ∀ k, v.ownBlock = some k → ok' k) : Kd.R (Kd.int .i64) e W b ok' v xs := Kd.R_of_own (Kd.own_of_R h) hk
theorem Own.of {ok ok' : Nat → Prop} (h0 : Kd.R (Kd.int .i64) 3 W w.heap.size ok (.slice x.P x.v.length x.p) x.v) (h1 : Kd.R (Kd.int .i64) 2 W w.heap.size ok' (.slice x.Q x.m.length x.q) x.m) : Own w W x :=
  ⟨own_strict h0 (fun _ h => .inl h), own_strict h1 (fun _ h => .inr h)⟩
theorem Own.next (h : Own w W x) (hb : Below W.heap.size W W') : Own w W' x := ⟨Kd.R_below h.r0 hb, Kd.R_below h.r1 hb⟩
theorem Own.lt (h : Own w W x) (hk : x.has k) : k < W.heap.size := by
  rcases hk with hk | hk
  · exact Kd.R_lt h.r0 k hk
  · exact Kd.R_lt h.r1 k hk
theorem Own.base (h : Own w W x) (hk : x.has k) : w.heap.size ≤ k := by
  rcases hk with hk | hk
  · exact Kd.R_base h.r0 k hk
  · exact Kd.R_base h.r1 k hk
theorem Own.lower (h : Own w W x) (hb : w'.heap.size ≤ w.heap.size) : Own w' W x := ⟨Kd.R_lower h.r0 hb, Kd.R_lower h.r1 hb⟩
theorem Own.oc (h : Own w W x) : Oc w0 W x :=
  ⟨⟨(Kd.R_reads' h.r0).2.1, .inr (Kd.R_lower (Kd.R_mono h.r0 (fun _ _ => trivial)) (Nat.zero_le _))⟩, ⟨(Kd.R_reads' h.r1).2.1, .inr (Kd.R_lower (Kd.R_mono h.r1 (fun _ _ => trivial)) (Nat.zero_le _))⟩⟩
theorem Own.set {cs : Array Value} {t : TypeId} (h : Own w W x) (hg : W.heap[g]? = some (.cells cs t (0, 0))) (ht : 3 ≠ t) (ht' : 2 ≠ t) (j : Nat) (u : Value) : Own w (W.setCell ⟨g, j, none⟩ u) x :=
  ⟨Kd.R_set h.r0 hg (fun q hq => by
    cases hq with
    | head => exact ht
    | tail _ hq => cases hq) j u, Kd.R_set h.r1 hg (fun q hq => by
    cases hq with
    | head => exact ht'
    | tail _ hq => cases hq) j u⟩
/-- kept, as none of its blocks is written -/
theorem Own.kept {S : Nat → Prop} (h : Own w W x) (hk : Kept W W' S) (hs : ∀ k, x.has k → ¬ S k) : Own w W' x :=
  ⟨Kd.R_step h.r0 (fun k ho hl => hk.2 k hl (hs k ho)), Kd.R_step h.r1 (fun k ho hl => hk.2 k hl (hs k ho))⟩
theorem OS.next (h : OS w os W) (hb : Below W.heap.size W W') : OS w os W' := ⟨h.below.trans (hb.mono h.below.size), fun x hx => (h.own x hx).next hb, h.apart⟩
theorem OS.nil (w : World) : OS w [] w := ⟨Below.refl _ _, fun _ h => absurd h List.not_mem_nil, List.Pairwise.nil⟩
theorem OS.call (h : OS w os W) (hb : Below W.heap.size W W') (hz : Own W W' y) : OS w (y :: os) W' := by
  have q := h.next hb
  refine ⟨q.below, fun x hx => ?_, List.pairwise_cons.2 ⟨fun x hx k hk hk' => ?_, h.apart⟩⟩
  · cases hx with
    | head => exact hz.lower h.below.size
    | tail _ hx => exact q.own x hx
  · have h1 := (h.own x hx).lt hk'
    have h2 := hz.base hk
    omega
theorem OS.box {cs : Array Value} {t : TypeId} (h : OS w os W) (hg : W.heap[g]? = some (.cells cs t (0, 0))) (hw : w.heap.size ≤ g) (ht : 3 ≠ t) (ht' : 2 ≠ t) (j : Nat) (u : Value) : OS w os (W.setCell ⟨g, j, none⟩ u) :=
  ⟨below_set h.below hw, fun x hx => (h.own x hx).set hg ht ht' j u, h.apart⟩
theorem OS.box3 {a b c a' b' c' : Value} {t : TypeId} (h : OS w os W) (hg : W.heap[g]? = some (.cells #[a, b, c] t (0, 0))) (hw : w.heap.size ≤ g) (ht : 3 ≠ t) (ht' : 2 ≠ t) : OS w os (((W.setCell ⟨g, 0, none⟩ a').setCell ⟨g, 1, none⟩ b').setCell ⟨g, 2, none⟩ c') :=
  OS.box (OS.box (OS.box h hg hw ht ht' 0 a') (blk_put hg 0 a' rfl) hw ht ht' 1 b') (blk_put (blk_put hg 0 a' rfl) 1 b' rfl) hw ht ht' 2 c'
theorem OS.swap (h : OS w (x :: y :: os) W) : OS w (y :: x :: os) W := by
  refine ⟨h.below, fun z hz => h.own z ?_, ?_⟩
  · simp only [List.mem_cons] at hz ⊢
    rcases hz with h | h | h
    · exact .inr (.inl h)
    · exact .inl h
    · exact .inr (.inr h)
  · have := h.apart
    simp only [List.pairwise_cons, List.mem_cons] at this ⊢
    refine ⟨fun z hz => ?_, fun z hz => this.1 z (.inr hz), this.2.2⟩
    rcases hz with rfl | hz
    · exact fun k h1 h2 => this.1 _ (.inl rfl) k h2 h1
    · exact this.2.1 z hz
theorem OS.sub {os' : List OV} (h : OS w os W) (hs : os'.Sublist os) : OS w os' W := ⟨h.below, fun x hx => h.own x (hs.subset hx), h.apart.sublist hs⟩
theorem OS.tail (h : OS w (x :: os) W) : OS w os W := h.sub (List.sublist_cons_self _ _)
theorem OS.oc (h : Aside0 (OS w os W0)) (hx : x ∈ os) (f : OS w os W0 → OS w os W := by intro h_; (with_reducible repeat (first | exact h_ | refine OS.next ?_ (below_alloc (Below.refl _ _) _) | refine OS.next ?_ (below_drew (Below.refl _ _)) | refine OS.next ?_ (pw_below_drewN (Below.refl _ _) _)))) : Oc w W x := ((f h.out).own _ hx).oc
theorem OS.to (h : Aside0 (OS w os W0)) (f : OS w os W0 → OS w os W := by intro h_; (with_reducible repeat (first | exact h_ | refine OS.next ?_ (below_alloc (Below.refl _ _) _) | refine OS.next ?_ (below_drew (Below.refl _ _)) | refine OS.next ?_ (pw_below_drewN (Below.refl _ _) _)))) : OS w os W := f h.out
theorem OS.bel (h : Aside0 (OS w os W0)) (f : OS w os W0 → OS w os W := by intro h_; (with_reducible repeat (first | exact h_ | refine OS.next ?_ (below_alloc (Below.refl _ _) _) | refine OS.next ?_ (below_drew (Below.refl _ _)) | refine OS.next ?_ (pw_below_drewN (Below.refl _ _) _)))) : Below w.heap.size w W := (f h.out).below
/-- an octagon that came, read in a later world -/
theorem Oc.at_ (h : Aside0 (Oc w w x)) (hb : Below w.heap.size w W) : Oc w W x := h.out.next hb
/-- where an octagon's matrix lies -/
theorem OS.place (h : OS w (x :: os) W) (hp : 0 < x.m.length) : ∃ b cap, Value.slice x.Q x.m.length x.q = .slice (some ⟨b, 0, none⟩) x.m.length cap ∧ w.heap.size ≤ b ∧ b < W.heap.size ∧ x.has b ∧ ∃ cells, W.heap[b]? = some (.cells cells 2 (0, 0)) := by
  obtain ⟨b, cap, e, h1, h2, h3⟩ := Kd.R_form (h.own x m0_).r1 hp
  refine ⟨b, cap, e, h1, h2, .inr ?_, h3⟩
  rw [e]; rfl
/-- one entry is written -/
theorem OS.poke {b : Nat} (h : OS w (x :: os) W) (hQ : x.Q = some ⟨b, 0, none⟩) (hp : 0 < x.m.length) (i u : Int) :
    OS w ({ x with m := x.m.set i.toNat u } :: os) (W.setCell ⟨b, i.toNat, none⟩ (.int .i64 u)) := by
  obtain ⟨P, p, Q, q, v, m, e⟩ := x
  dsimp only at hQ hp ⊢
  subst hQ
  have hx := h.own _ m0_
  have hasb : OV.has ⟨P, p, some ⟨b, 0, none⟩, q, v, m, e⟩ b := .inr (by rfl)
  have h1 := hx.r1
  have h0 := hx.r0
  dsimp only at h0 h1
  obtain ⟨n1, g1⟩ := Kd.R_put h1 i u
  obtain ⟨cells, hc⟩ := Kd.R_typed h1 b rfl
  have eh : ∀ k, OV.has ⟨P, p, some ⟨b, 0, none⟩, q, v, m.set i.toNat u, e⟩ k ↔ OV.has ⟨P, p, some ⟨b, 0, none⟩, q, v, m, e⟩ k := fun k => by
    unfold OV.has
    dsimp only
    rw [List.length_set]
  refine ⟨below_set h.below (hx.base hasb), fun z hz => ?_, ?_⟩
  · cases hz with
    | head =>
      refine Own.of (ok' := OV.has ⟨P, p, some ⟨b, 0, none⟩, q, v, m, e⟩) (x := ⟨P, p, some ⟨b, 0, none⟩, q, v, m.set i.toNat u, e⟩) (Kd.R_set h0 hc (fun q hq => by
        cases hq with
        | head => decide
        | tail _ hq => cases hq) i.toNat _) ?_
      dsimp only
      rw [List.length_set]
      exact n1
    | tail _ hz =>
      have hne := (List.pairwise_cons.1 h.apart).1 z hz
      have ho := h.own z (.tail _ hz)
      exact ⟨Kd.R_far ho.r0 (fun k hk => fun e => hne k (e ▸ hasb) hk) _, Kd.R_far ho.r1 (fun k hk => fun e => hne k (e ▸ hasb) hk) _⟩
  · refine List.pairwise_cons.2 ⟨fun z hz k hk => (List.pairwise_cons.1 h.apart).1 z hz k ((eh k).1 hk), (List.pairwise_cons.1 h.apart).2⟩
/-- boxes are kept, as none of them lies where is written -/
theorem FX.kept {S : Nat → Prop} (h : FX w fs W) (hk : Kept W W' S) (hs : ∀ f, f ∈ fs → ¬ S f.1) : FX w fs W' := ⟨fun f hf => ⟨(hk.2 f.1 (h.lt hf) (hs f hf)).trans (h.all f hf).1, (h.all f hf).2⟩, h.ne⟩
theorem FX.not_own (h : FX w fs W) (hx : Own w W x) (ht : ∀ f, f ∈ fs → ∃ cs t, f.2 = .cells cs t (0, 0) ∧ t ≠ 2 ∧ t ≠ 3) : ∀ f, f ∈ fs → ¬ x.has f.1 := by
  intro f hf hk
  obtain ⟨cs, t, e, n2, n3⟩ := ht f hf
  have hh := (h.all f hf).1
  rw [e] at hh
  rcases hk with hk | hk
  · obtain ⟨c', h'⟩ := Kd.R_typed hx.r0 _ hk
    rw [h'] at hh
    cases hh; exact n3 rfl
  · obtain ⟨c', h'⟩ := Kd.R_typed hx.r1 _ hk
    rw [h'] at hh
    cases hh; exact n2 rfl
theorem FX.poke {b : Nat} (h : FX w fs W) (hx : Own w W x) (hQ : x.Q = some ⟨b, 0, none⟩) (ht : ∀ f, f ∈ fs → ∃ cs t, f.2 = .cells cs t (0, 0) ∧ t ≠ 2 ∧ t ≠ 3) (j : Nat) (u : Value) : FX w fs (W.setCell ⟨b, j, none⟩ u) := by
  refine h.far (fun f hf e => h.not_own hx ht f hf (.inr ?_)) j u
  rw [hQ, e]; rfl
theorem FX.sub {fs' : List (Nat × Obj)} (h : FX w fs W) (hs : fs'.Sublist fs) : FX w fs' W := ⟨fun f hf => h.all f (hs.subset hf), h.ne.sublist (hs.map Prod.fst)⟩
theorem Own.now (h : Own w W x) : Kd.C (Kd.int .i64) W x.Q x.m.length x.m := (Kd.R_reads' h.r1).2.2
theorem Row.now {t c : Nat} {A : Option Addr} {xs : List Int} (h : Row W W t A c xs) : Kd.C (Kd.int .i64) W A xs.length xs := h.reads (Below.refl _ _)
theorem FX.put3 {a b c a' b' c' : Value} {t : TypeId} (h : FX w ((g, .cells #[a, b, c] t (0, 0)) :: fs) W) : FX w ((g, .cells #[a', b', c'] t (0, 0)) :: fs) (((W.setCell ⟨g, 0, none⟩ a').setCell ⟨g, 1, none⟩ b').setCell ⟨g, 2, none⟩ c') := by
  have nd := List.nodup_cons.1 h.ne
  have hg := h.all _ m0_
  refine ⟨fun f hf => ?_, h.ne⟩
  cases hf with
  | head => exact ⟨blk_put (blk_put (blk_put hg.1 0 a' rfl) 1 b' rfl) 2 c' rfl, hg.2⟩
  | tail _ hf =>
    have hn : f.1 ≠ g := fun e => nd.1 (List.mem_map.2 ⟨f, hf, e⟩)
    have := h.all f (.tail _ hf)
    exact ⟨(Below.heap_setCell _ ⟨g, 2, none⟩ c' f.1 hn).trans ((Below.heap_setCell _ ⟨g, 1, none⟩ b' f.1 hn).trans ((Below.heap_setCell W ⟨g, 0, none⟩ a' f.1 hn).trans this.1)), this.2⟩
theorem FX.oct {v0 v1 v2 : Value} {t : TypeId} (h : Aside0 (FX w fs W)) (hf : (g, .cells #[v0, v1, v2] t (0, 0)) ∈ fs) : (W.cell? ⟨g, 0, none⟩ = some v0 ∧ W.cell? ⟨g, 1, none⟩ = some v1 ∧ W.cell? ⟨g, 2, none⟩ = some v2) ∧ W.frozen? ⟨g, 0, none⟩ = false ∧ W.frozen? ⟨g, 1, none⟩ = false ∧ W.frozen? ⟨g, 2, none⟩ = false :=
  have q := (h.out.all _ hf).1
  ⟨⟨blk_cell q 0, blk_cell q 1, blk_cell q 2⟩, blk_frozen q 0, blk_frozen q 1, blk_frozen q 2⟩
/-- what a call makes is an octagon of one's own -/
theorem of_calls2 {f : Nat} {args : Array Value} {a : List Int × List Int × Bool}
    (h : Calls Try.prog f args W fun e w' => ∃ v0_ v1_ : Value, e = .returned (.agg #[v0_, v1_, .bool a.2.2]) ∧ Kd.R (Kd.int .i64) 3 w' W.heap.size (fun _ => True) v0_ a.1 ∧ Kd.R (Kd.int .i64) 2 w' W.heap.size (fun _ => True) v1_ a.2.1 ∧ Below W.heap.size W w') :
    Calls Try.prog f args W fun e W' => ∃ z : OV, e = .returned z.val ∧ z.o = a ∧ Own W W' z ∧ Below W.heap.size W W' := by
  refine h.mono ?_
  rintro e W' ⟨v0, v1, rfl, h0, h1, hb⟩
  obtain ⟨P, p, rfl⟩ := Kd.R_slice h0
  obtain ⟨Q, q, rfl⟩ := Kd.R_slice h1
  exact ⟨⟨P, p, Q, q, a.1, a.2.1, a.2.2⟩, rfl, rfl, Own.of (x := ⟨P, p, Q, q, a.1, a.2.1, a.2.2⟩) h0 h1, hb⟩
end
end Go.Proofs.Ytomgebmimgaojaa.QO
end
end
section
/- What an octagon means: nothing, or its closed matrix; order, Join, Meet and Close by it. -/
noncomputable section
namespace Go.Proofs.Ytomgebmimgaojaa.Pure
open Go.RowKit Go.Proofs.Ytomgebmimgaojaa.QO Go.Proofs.YtomgebmimgaojaaW.PrintWords Go.Proofs.YtomgebmimgaojaaW.PrintLast Go.Proofs.YtomgebmimgaojaaW.PrintMore
open OctMath (Le)
abbrev Mx := Nat → Nat → Int
inductive Mean (vars m : List Int) (e : Bool) : Option Mx → Prop
  | none (h : closeF vars m e = (vars, [], true)) (h' : e = true ∨ ¬ CloseOk (2 * vars.length) (lowM vars.length m)) : Mean vars m e none
  | some (h : closeF vars m e = (vars, lst (2 * vars.length) (closeM (2 * vars.length) (lowM vars.length m)), false)) (he : e = false) (hc : CloseOk (2 * vars.length) (lowM vars.length m))
      (hs : Snd (2 * vars.length) (closeM (2 * vars.length) (lowM vars.length m))) : Mean vars m e (some (closeM (2 * vars.length) (lowM vars.length m)))
theorem mean_ex {vars m : List Int} {e : Bool} (h : OFit vars m e) : ∃ M, Mean vars m e M := by
  rcases close_cases h with ⟨h1, h2⟩ | ⟨he, hc, h3⟩
  · exact ⟨none, .none h1 h2⟩
  · subst he; exact ⟨_, .some h3 rfl hc (snd_close (snd_of_fit h) hc)⟩
def OLe (n : Nat) : Option Mx → Option Mx → Prop
  | none, _ => True
  | some _, none => False
  | some A, some B => Le n A B
theorem ole_refl {n : Nat} {A : Option Mx} : OLe n A A := by
  cases A with
  | none => trivial
  | some A => exact fun i j _ _ => Int.le_refl _
theorem ole_trans {n : Nat} {A B C : Option Mx} (h1 : OLe n A B) (h2 : OLe n B C) : OLe n A C := by
  cases A with
  | none => trivial
  | some A => cases B with
    | none => exact h1.elim
    | some B => cases C with
      | none => exact h2.elim
      | some C => exact fun i j hi hj => Int.le_trans (h1 i j hi hj) (h2 i j hi hj)
theorem mx_l (a b : Int) : a ≤ mx a b := by unfold mx; split <;> omega
theorem mx_r (a b : Int) : b ≤ mx a b := by unfold mx; split <;> omega
theorem mx_le {a b c : Int} (h : a ≤ c) (h' : b ≤ c) : mx a b ≤ c := by unfold mx; split <;> assumption
theorem mn_l (a b : Int) : mn a b ≤ a := by unfold mn; split <;> omega
theorem mn_r (a b : Int) : mn a b ≤ b := by unfold mn; split <;> omega
theorem le_mn {a b c : Int} (h : c ≤ a) (h' : c ≤ b) : c ≤ mn a b := by unfold mn; split <;> assumption
theorem fit_none {vars : List Int} (hv : VarsOk vars) : OFit vars [] true := ⟨hv, fun _ => rfl, fun h => by cases h⟩
section
variable {vars m m' : List Int} {e e' : Bool} {A B C : Option Mx}
theorem leq_mean (h : OFit vars m e) (a : Mean vars m e A) (b : Mean vars m' e' B) : leqF vars m e m' e' = true ↔ OLe (2 * vars.length) A B := by
  unfold leqF
  cases a with
  | none h1 _ => rw [h1, if_pos (.inl rfl)]; exact ⟨fun _ => trivial, fun _ => rfl⟩
  | some h1 _ _ s1 => cases b with
    | none h2 _ => rw [h1, h2, if_pos (.inr rfl)]; exact ⟨fun q => (Bool.noConfusion q), fun q => False.elim q⟩
    | some h2 _ _ s2 => rw [h1, h2, if_neg (by simp)]; exact leqL_iff h.1 s1 s2
theorem close_ext {n : Nat} {a b : Mx} (h : Snd n a) (h' : Snd n b) (he : ∀ i j, i < n → j < n → a i j = b i j) (hc : CloseOk n a) : CloseOk n b ∧ ∀ i j, i < n → j < n → closeM n a i j = closeM n b i j := by
  have l1 : Le n (tgtM n a) b := fun i j hi hj => by rw [← he i j hi hj]; exact tgt_le h hc i j hi hj
  obtain ⟨c1, _, c2⟩ := close_mono h h' hc l1
  have l2 : Le n (tgtM n b) a := fun i j hi hj => by rw [he i j hi hj]; exact tgt_le h' c1 i j hi hj
  obtain ⟨_, _, c3⟩ := close_mono h' h c1 l2
  exact ⟨c1, fun i j hi hj => Int.le_antisymm (c2 i j hi hj) (c3 i j hi hj)⟩
/-- a list of a sound matrix that is closed as far as clipped goes: what it means is within it -/
theorem lst_mean {N : Mx} (hv : VarsOk vars) (hN : Snd (2 * vars.length) N) (hc : CloseOk (2 * vars.length) N) :
    OFit vars (lst (2 * vars.length) N) false ∧ ∃ K, Mean vars (lst (2 * vars.length) N) false (some K) ∧ ∀ i j, i < 2 * vars.length → j < 2 * vars.length → K i j = closeM (2 * vars.length) N i j := by
  have hf := fit_of_snd hv hN
  have sn := snd_of_fit hf
  have ex := close_ext hN sn (fun i j hi hj => (lowM_lst hv hN i j hi hj).symm) hc
  refine ⟨hf, _, .some ?_ rfl ex.1 (snd_close sn ex.1), fun i j hi hj => (ex.2 i j hi hj).symm⟩
  rcases close_cases hf with ⟨_, h2⟩ | ⟨_, _, h3⟩
  · rcases h2 with h2 | h2
    · cases h2
    · exact absurd ex.1 h2
  · exact h3
/-- Close: what is answered is sound, and means the same -/
theorem close_mean (h : OFit vars m e) (a : Mean vars m e A) : OFit vars (closeF vars m e).2.1 (closeF vars m e).2.2 ∧ (closeF vars m e).1 = vars ∧ ∃ D, Mean vars (closeF vars m e).2.1 (closeF vars m e).2.2 D ∧ OLe (2 * vars.length) A D ∧ OLe (2 * vars.length) D A ∧
    closeF vars (closeF vars m e).2.1 (closeF vars m e).2.2 = closeF vars m e := by
  cases a with
  | none h1 h2 =>
    rw [h1]
    have q : closeF vars [] true = (vars, [], true) := by unfold closeF; rw [if_pos rfl]
    exact ⟨fit_none h.1, rfl, none, .none q (.inl rfl), trivial, trivial, q⟩
  | some h1 he hc hs =>
    rw [h1]
    have tw := close_twice (snd_of_fit (by subst he; exact h)) hc
    obtain ⟨hf, K, hK, hKe⟩ := lst_mean h.1 hs tw.1
    refine ⟨hf, rfl, _, hK, fun i j hi hj => by rw [hKe i j hi hj, tw.2 i j hi hj]; exact Int.le_refl _, fun i j hi hj => by rw [hKe i j hi hj, tw.2 i j hi hj]; exact Int.le_refl _, ?_⟩
    cases hK with
    | some h4 _ _ _ =>
      show closeF vars (lst _ _) false = _
      rw [h4]
      congr 2
      exact lst_congr (fun i j hi hj => by rw [hKe i j hi hj, tw.2 i j hi hj])
theorem join_mean (h : OFit vars m e) (h' : OFit vars m' e') (a : Mean vars m e A) (b : Mean vars m' e' B) :
    OFit vars (joinF vars m e m' e').2.1 (joinF vars m e m' e').2.2 ∧ (joinF vars m e m' e').1 = vars ∧ ∃ J, Mean vars (joinF vars m e m' e').2.1 (joinF vars m e m' e').2.2 J ∧ OLe (2 * vars.length) A J ∧ OLe (2 * vars.length) B J ∧ ∀ C, OLe (2 * vars.length) A C → OLe (2 * vars.length) B C → OLe (2 * vars.length) J C := by
  have ca := close_mean h a
  have cb := close_mean h' b
  unfold joinF
  cases a with
  | none h1 _ =>
    rw [h1, if_pos rfl]
    obtain ⟨f, g, D, d1, d2, d3, _⟩ := cb
    exact ⟨f, g, D, d1, trivial, d2, fun C _ q => ole_trans d3 q⟩
  | some h1 he hc hs =>
    rw [h1, if_neg (by simp)]
    cases b with
    | none h2 _ =>
      rw [h2, if_pos rfl]
      obtain ⟨f, g, D, d1, d2, d3, _⟩ := ca
      rw [h1] at f g d1
      exact ⟨f, g, D, d1, d2, trivial, fun C q _ => ole_trans d3 q⟩
    | some h2 he' hc' hs' =>
      rw [h2, if_neg (by simp)]
      subst he he'
      have sn := snd_of_fit h
      have sn' := snd_of_fit h'
      have sx := snd_mx hs hs'
      have l1 : Le (2 * vars.length) (tgtM (2 * vars.length) (lowM vars.length m)) (fun i j => mx (closeM (2 * vars.length) (lowM vars.length m) i j) (closeM (2 * vars.length) (lowM vars.length m') i j)) := fun i j hi hj => Int.le_trans (tgt_close sn hc i j hi hj) (mx_l _ _)
      have l2 : Le (2 * vars.length) (tgtM (2 * vars.length) (lowM vars.length m')) (fun i j => mx (closeM (2 * vars.length) (lowM vars.length m) i j) (closeM (2 * vars.length) (lowM vars.length m') i j)) := fun i j hi hj => Int.le_trans (tgt_close sn' hc' i j hi hj) (mx_r _ _)
      obtain ⟨c1, _, c2⟩ := close_mono sn sx hc l1
      obtain ⟨_, _, c3⟩ := close_mono sn' sx hc' l2
      obtain ⟨hf, K, hK, hKe⟩ := lst_mean h.1 sx c1
      have e1 : mixL mx (2 * vars.length) (lst (2 * vars.length) (closeM (2 * vars.length) (lowM vars.length m))) (lst (2 * vars.length) (closeM (2 * vars.length) (lowM vars.length m'))) = lst (2 * vars.length) (fun i j => mx (closeM (2 * vars.length) (lowM vars.length m) i j) (closeM (2 * vars.length) (lowM vars.length m') i j)) := mixL_lst2 mx h.1 hs hs'
      show OFit vars (mixL mx (2 * vars.length) _ _) false ∧ vars = vars ∧ ∃ J, Mean vars (mixL mx (2 * vars.length) _ _) false J ∧ _
      rw [e1]
      refine ⟨hf, rfl, _, hK, fun i j hi hj => by rw [hKe i j hi hj]; exact c2 i j hi hj, fun i j hi hj => by rw [hKe i j hi hj]; exact c3 i j hi hj, fun C q1 q2 => ?_⟩
      cases C with
      | none => exact q1.elim
      | some C =>
        intro i j hi hj
        rw [hKe i j hi hj]
        refine Int.le_trans (close_le sx c1 i j hi hj) ?_
        exact mx_le (q1 i j hi hj) (q2 i j hi hj)
theorem meet_mean (h : OFit vars m e) (h' : OFit vars m' e') (a : Mean vars m e A) (b : Mean vars m' e' B) :
    OFit vars (meetF vars m e m' e').2.1 (meetF vars m e m' e').2.2 ∧ (meetF vars m e m' e').1 = vars ∧ ∃ J, Mean vars (meetF vars m e m' e').2.1 (meetF vars m e m' e').2.2 J ∧ OLe (2 * vars.length) J A ∧ OLe (2 * vars.length) J B ∧
      ∀ {mc : List Int} {ec : Bool} {C : Option Mx}, OFit vars mc ec → Mean vars mc ec C → OLe (2 * vars.length) C A → OLe (2 * vars.length) C B → OLe (2 * vars.length) C J := by
  have nn : closeF vars [] true = (vars, [], true) := by unfold closeF; rw [if_pos rfl]
  unfold meetF
  by_cases hee : e = true ∨ e' = true
  · rw [if_pos hee]
    refine ⟨fit_none h.1, rfl, none, .none nn (.inl rfl), trivial, trivial, fun {mc ec C} hf hC q1 q2 => ?_⟩
    cases C with
    | none => trivial
    | some C =>
      rcases hee with rfl | rfl
      · cases a with
        | none => exact q1
        | some _ he => cases he
      · cases b with
        | none => exact q2
        | some _ he => cases he
  · rw [if_neg hee]
    have he : e = false := by cases e <;> simp_all
    have he' : e' = false := by cases e' <;> simp_all
    subst he he'
    have sn := snd_of_fit h
    have sn' := snd_of_fit h'
    have fm := min_fit h h'
    obtain ⟨M, hM⟩ := mean_ex fm
    have cm := close_mean fm hM
    have sm := snd_of_fit fm
    have em : ∀ i j, i < 2 * vars.length → j < 2 * vars.length → lowM vars.length (mixL mn (2 * vars.length) m m') i j = mn (lowM vars.length m i j) (lowM vars.length m' i j) := fun i j hi hj => by
      rw [mixL_lst, lowM_lst h.1 (snd_mn sn sn') i j hi hj]
    obtain ⟨f, g, D, d1, d2, d3, _⟩ := cm
    refine ⟨f, g, D, d1, ole_trans d3 ?_, ole_trans d3 ?_, fun {mc ec C} hf hC q1 q2 => ole_trans ?_ d2⟩
    · cases hM with
      | none => trivial
      | some _ _ hc _ =>
        obtain ⟨c1, _, c2⟩ := close_mono sm sn hc (fun i j hi hj => Int.le_trans (tgt_le sm hc i j hi hj) (by rw [em i j hi hj]; exact mn_l _ _))
        cases a with
        | none _ h2 => rcases h2 with h2 | h2; cases h2; exact absurd c1 h2
        | some => exact c2
    · cases hM with
      | none => trivial
      | some _ _ hc _ =>
        obtain ⟨c1, _, c2⟩ := close_mono sm sn' hc (fun i j hi hj => Int.le_trans (tgt_le sm hc i j hi hj) (by rw [em i j hi hj]; exact mn_r _ _))
        cases b with
        | none _ h2 => rcases h2 with h2 | h2; cases h2; exact absurd c1 h2
        | some => exact c2
    · cases hC with
      | none => trivial
      | some _ hce hcc hcs =>
        subst hce
        cases a with
        | none => exact q1.elim
        | some _ _ hc _ => cases b with
          | none => exact q2.elim
          | some _ _ hc' _ =>
            have sc := snd_of_fit hf
            obtain ⟨c1, _, c2⟩ := close_mono sc sm hcc (fun i j hi hj => by
              have t1 := tgt_close sc hcc i j hi hj
              have t2 := Int.le_trans (q1 i j hi hj) (close_le sn hc i j hi hj)
              have t3 := Int.le_trans (q2 i j hi hj) (close_le sn' hc' i j hi hj)
              rw [em i j hi hj]
              exact Int.le_trans t1 (le_mn t2 t3))
            cases hM with
            | none _ h2 => rcases h2 with h2 | h2; cases h2; exact absurd c1 h2
            | some => exact c2
/-- what the law of the lattice asks -/
theorem lattice_law {mc : List Int} {ec : Bool} (h : OFit vars m e) (h' : OFit vars m' e') (hc : OFit vars mc ec) :
    (OFit vars (joinF vars m e m' e').2.1 (joinF vars m e m' e').2.2 ∧ (joinF vars m e m' e').1 = vars) ∧ (OFit vars (meetF vars m e m' e').2.1 (meetF vars m e m' e').2.2 ∧ (meetF vars m e m' e').1 = vars) ∧
    (leqF vars m e (joinF vars m e m' e').2.1 (joinF vars m e m' e').2.2 = true ∧ leqF vars m' e' (joinF vars m e m' e').2.1 (joinF vars m e m' e').2.2 = true ∧ leqF vars (meetF vars m e m' e').2.1 (meetF vars m e m' e').2.2 m e = true ∧ leqF vars (meetF vars m e m' e').2.1 (meetF vars m e m' e').2.2 m' e' = true) ∧
    (leqF vars m e mc ec = true → leqF vars m' e' mc ec = true → leqF vars (joinF vars m e m' e').2.1 (joinF vars m e m' e').2.2 mc ec = true) ∧
    (leqF vars mc ec m e = true → leqF vars mc ec m' e' = true → leqF vars mc ec (meetF vars m e m' e').2.1 (meetF vars m e m' e').2.2 = true) ∧
    (leqF vars m e m' e' = true → leqF vars m' e' mc ec = true → leqF vars m e mc ec = true) := by
  obtain ⟨A, a⟩ := mean_ex h
  obtain ⟨B, b⟩ := mean_ex h'
  obtain ⟨C, c⟩ := mean_ex hc
  obtain ⟨fj, vj, J, j, j1, j2, j3⟩ := join_mean h h' a b
  obtain ⟨fm, vm, M, n, n1, n2, n3⟩ := meet_mean h h' a b
  refine ⟨⟨fj, vj⟩, ⟨fm, vm⟩, ⟨(leq_mean h a j).2 j1, (leq_mean h' b j).2 j2, (leq_mean fm n a).2 n1, (leq_mean fm n b).2 n2⟩, fun q1 q2 => (leq_mean fj j c).2 (j3 C ((leq_mean h a c).1 q1) ((leq_mean h' b c).1 q2)), fun q1 q2 => (leq_mean hc c n).2 (n3 hc c ((leq_mean hc c a).1 q1) ((leq_mean hc c b).1 q2)), fun q1 q2 => (leq_mean h a c).2 (ole_trans ((leq_mean h a b).1 q1) ((leq_mean h' b c).1 q2))⟩
theorem close_law (h : OFit vars m e) : (OFit vars (closeF vars m e).2.1 (closeF vars m e).2.2 ∧ (closeF vars m e).1 = vars) ∧ leqF vars m e (closeF vars m e).2.1 (closeF vars m e).2.2 = true ∧ leqF vars (closeF vars m e).2.1 (closeF vars m e).2.2 m e = true ∧ closeF vars (closeF vars m e).2.1 (closeF vars m e).2.2 = closeF vars m e := by
  obtain ⟨A, a⟩ := mean_ex h
  obtain ⟨f, g, D, d, d1, d2, d3⟩ := close_mean h a
  exact ⟨⟨f, g⟩, (leq_mean h a d).2 d1, (leq_mean f d a).2 d2, d3⟩
end
end Go.Proofs.Ytomgebmimgaojaa.Pure
end
end
section
/- Written by a program of this session out of the translation. -/
noncomputable section
namespace Go.Proofs.Ytomgebmimgaojaa.QO
open Go.RowKit Go.Proofs.YtomgebmimgaojaaW.PrintWords Go.Proofs.YtomgebmimgaojaaW.PrintLast
set_option linter.unusedVariables false
set_option linter.unusedSimpArgs false
/-! ### gimbalref11_Meet: function 41 -/
mutual
def gimbalref11_Meet.j0 : Nat → Bool → List Int → List Int → Bool → List Int → List Int → Bool → Option (List Int × List Int × Bool)
 | 0, _, _, _, _, _, _, _ => none
 | k + 1, x12, x657000, x657001, x657002, x658000, x658001, x658002 => if x12 = true then ((gimbalref11_Bottom.f x657000).bind fun bt659 => (some (bt659.1, bt659.2.1, bt659.2.2))) else ((gimbalref11_copied.f x657000).bind fun t666 => (gimbalref11_Meet.l0 k (x657001.length : Int) 0 x657000 x657001 x657002 x658000 x658001 x658002 t666 ([] : List Int) false))
def gimbalref11_Meet.l0 : Nat → Int → Int → List Int → List Int → Bool → List Int → List Int → Bool → List Int → List Int → Bool → Option (List Int × List Int × Bool)
 | 0, _, _, _, _, _, _, _, _, _, _, _ => none
 | k + 1, x22, x23, x657000, x657001, x657002, x658000, x658001, x658002, x670000, x670001, x670002 => if x23 < x22 then (if 0 ≤ x23 then (if x23 < (x657001.length : Int) then (if x23 < (x658001.length : Int) then (if x670001.length < 17592186044416 then (gimbalref11_Meet.l0 k x22 (wrap64 (x23 + 1)) x657000 x657001 x657002 x658000 x658001 x658002 x670000 (x670001 ++ [mn (rd x657001 x23) (rd x658001 x23)]) x670002) else (none)) else (none)) else (none)) else (none)) else ((gimbalref11_Close.f k x670000 x670001 x670002).bind fun bt675 => (some (bt675.1, bt675.2.1, bt675.2.2)))
end
def gimbalref11_Meet.f (k : Nat) (l0_0 : List Int) (l0_1 : List Int) (a0_2 : Bool) (l1_0 : List Int) (l1_1 : List Int) (a1_2 : Bool) : Option (List Int × List Int × Bool) := if a0_2 = true then (gimbalref11_Meet.j0 k true l0_0 l0_1 a0_2 l1_0 l1_1 a1_2) else (gimbalref11_Meet.j0 k a1_2 l0_0 l0_1 a0_2 l1_0 l1_1 a1_2)
theorem gimbalref11_Meet.mono_l : ∀ k, (∀ y0 y1 y2 y3 y4 y5 y6, LeO (gimbalref11_Meet.j0 k y0 y1 y2 y3 y4 y5 y6) (gimbalref11_Meet.j0 (k + 1) y0 y1 y2 y3 y4 y5 y6)) ∧ (∀ y0 y1 y2 y3 y4 y5 y6 y7 y8 y9 y10, LeO (gimbalref11_Meet.l0 k y0 y1 y2 y3 y4 y5 y6 y7 y8 y9 y10) (gimbalref11_Meet.l0 (k + 1) y0 y1 y2 y3 y4 y5 y6 y7 y8 y9 y10))
 | 0 => ⟨fun _ _ _ _ _ _ _ r h => by simp [gimbalref11_Meet.j0] at h, fun _ _ _ _ _ _ _ _ _ _ _ r h => by simp [gimbalref11_Meet.l0] at h⟩
 | k + 1 => by
  obtain ⟨ih0, ih1⟩ := gimbalref11_Meet.mono_l k
  refine ⟨?_, ?_⟩
  ·
   intro y0 y1 y2 y3 y4 y5 y6
   unfold gimbalref11_Meet.j0
   repeat' first
   | (with_reducible exact ih0 _ _ _ _ _ _ _)
   | (with_reducible exact ih1 _ _ _ _ _ _ _ _ _ _ _)
   | (with_reducible exact gimbalref11_Close.mono _ _ _ _)
   | (with_reducible exact LeO.refl _)
   | (with_reducible exact LeO.none _)
   | (with_reducible refine LeO.ite ?_ ?_)
   | (with_reducible refine LeO.bind ?_ (fun _ => ?_))
   | exact ih0 _ _ _ _ _ _ _
   | exact ih1 _ _ _ _ _ _ _ _ _ _ _
   | exact gimbalref11_Close.mono _ _ _ _
   | exact LeO.none _
   | refine LeO.ite ?_ ?_
   | refine LeO.bind ?_ (fun _ => ?_)
  ·
   intro y0 y1 y2 y3 y4 y5 y6 y7 y8 y9 y10
   unfold gimbalref11_Meet.l0
   repeat' first
   | (with_reducible exact ih0 _ _ _ _ _ _ _)
   | (with_reducible exact ih1 _ _ _ _ _ _ _ _ _ _ _)
   | (with_reducible exact gimbalref11_Close.mono _ _ _ _)
   | (with_reducible exact LeO.refl _)
   | (with_reducible exact LeO.none _)
   | (with_reducible refine LeO.ite ?_ ?_)
   | (with_reducible refine LeO.bind ?_ (fun _ => ?_))
   | exact ih0 _ _ _ _ _ _ _
   | exact ih1 _ _ _ _ _ _ _ _ _ _ _
   | exact gimbalref11_Close.mono _ _ _ _
   | exact LeO.none _
   | refine LeO.ite ?_ ?_
   | refine LeO.bind ?_ (fun _ => ?_)
theorem gimbalref11_Meet.mono : ∀ a0 a1 a2 a3 a4 a5 k, LeO (gimbalref11_Meet.f k a0 a1 a2 a3 a4 a5) (gimbalref11_Meet.f (k + 1) a0 a1 a2 a3 a4 a5) := by
 intro a0 a1 a2 a3 a4 a5 k
 obtain ⟨ih0, ih1⟩ := gimbalref11_Meet.mono_l k
 unfold gimbalref11_Meet.f
 repeat' first
  | (with_reducible exact ih0 _ _ _ _ _ _ _)
  | (with_reducible exact ih1 _ _ _ _ _ _ _ _ _ _ _)
  | (with_reducible exact gimbalref11_Close.mono _ _ _ _)
  | (with_reducible exact LeO.refl _)
  | (with_reducible exact LeO.none _)
  | (with_reducible refine LeO.ite ?_ ?_)
  | (with_reducible refine LeO.bind ?_ (fun _ => ?_))
  | exact ih0 _ _ _ _ _ _ _
  | exact ih1 _ _ _ _ _ _ _ _ _ _ _
  | exact gimbalref11_Close.mono _ _ _ _
  | exact LeO.none _
  | refine LeO.ite ?_ ?_
  | refine LeO.bind ?_ (fun _ => ?_)
def gimbalref11_Meet.T7 : Bool × List (List Nat × List Nat) := (true, [([], []), ([0], [0]), ([], []), ([2], [2]), ([], []), ([3, 4], [3, 4]), ([5], [5]), ([], []), ([7], [7]), ([], []), ([8, 9], [8, 9]), ([10], [10]), ([6, 11], [6, 11]), ([12], [12]), ([1, 13], [1, 13]), ([0, 1, 2, 3, 4, 5, 6, 7, 8, 9, 10, 11, 12, 13, 14], []), ([15, 14, 14, 0, 1, 2, 3, 4, 5, 6, 7, 8, 9, 10, 11, 12, 13, 14], [14, 15])])
def gimbalref11_Meet.B7 : List Nat := [0, 1, 0, 4, 0, 28, 60, 0, 128, 0, 896, 1920, 4092, 8188, 16383, 32767, 65535]
theorem gimbalref11_Meet.tab7 : rtab .any (opsOf Try.f41 7) = gimbalref11_Meet.T7 := by kernel_rfl
theorem gimbalref11_Meet.bits7 : waitsOk gimbalref11_Meet.T7.2 gimbalref11_Meet.B7 = true := by kernel_rfl
set_option maxHeartbeats 8000000 in
set_option maxRecDepth 100000 in
theorem gimbalref11_Meet.calls (k : Nat) (A0_0 : Option Addr) (c0_0 : Nat) (l0_0 : List Int) (A0_1 : Option Addr) (c0_1 : Nat) (l0_1 : List Int) (a0_2 : Bool) (A1_0 : Option Addr) (c1_0 : Nat) (l1_0 : List Int) (A1_1 : Option Addr) (c1_1 : Nat) (l1_1 : List Int) (a1_2 : Bool) (r1 : List Int) (r2 : List Int) (r3 : Bool) (w : World) (hr0_0 : Kd.C (Kd.int .i64) w A0_0 l0_0.length l0_0) (hc0_0 : l0_0.length ≤ c0_0) (hr0_1 : Kd.C (Kd.int .i64) w A0_1 l0_1.length l0_1) (hc0_1 : l0_1.length ≤ c0_1) (hr1_0 : Kd.C (Kd.int .i64) w A1_0 l1_0.length l1_0) (hc1_0 : l1_0.length ≤ c1_0) (hr1_1 : Kd.C (Kd.int .i64) w A1_1 l1_1.length l1_1) (hc1_1 : l1_1.length ≤ c1_1) (h : gimbalref11_Meet.f k l0_0 l0_1 a0_2 l1_0 l1_1 a1_2 = some (r1, r2, r3)) :
 Calls Try.prog 41 #[.agg #[.slice A0_0 l0_0.length c0_0, .slice A0_1 l0_1.length c0_1, .bool a0_2], .agg #[.slice A1_0 l1_0.length c1_0, .slice A1_1 l1_1.length c1_1, .bool a1_2]] w fun e w' => ∃ v0_ v1_ : Value, e = .returned (.agg #[v0_, v1_, .bool r3]) ∧ Kd.R (Kd.int .i64) 3 w' w.heap.size (fun _ => True) v0_ r1 ∧ Kd.R (Kd.int .i64) 2 w' w.heap.size (fun _ => True) v1_ r2 ∧ Below w.heap.size w w' := by
 have hu25 := Try.underlying25
 have HR0_0 := Aside0.mk hr0_0
 have HC0_0 := Aside0.mk hc0_0
 clear hr0_0 hc0_0
 have HR0_1 := Aside0.mk hr0_1
 have HC0_1 := Aside0.mk hc0_1
 clear hr0_1 hc0_1
 have HR1_0 := Aside0.mk hr1_0
 have HC1_0 := Aside0.mk hc1_0
 clear hr1_0 hc1_0
 have HR1_1 := Aside0.mk hr1_1
 have HC1_1 := Aside0.mk hc1_1
 clear hr1_1 hc1_1
 have HB := Aside0.mk (Below.refl w.heap.size w)
 have H : (if a0_2 = true then (gimbalref11_Meet.j0 k true l0_0 l0_1 a0_2 l1_0 l1_1 a1_2) else (gimbalref11_Meet.j0 k a1_2 l0_0 l0_1 a0_2 l1_0 l1_1 a1_2)) = some (r1, r2, r3) := h
 clear h
 have HC3 := Aside0.mk H
 clear H
 go_enter Try.func41, Try.ntmps41
 go_upto_region 1 with (first | ((with_reducible refine gate_dst (N := 2) rfl ?_); refine box_event ?hg (N := 2) ?hd (cs := #[.slice A0_0 l0_0.length c0_0, .slice A0_1 l0_1.length c0_1, .bool a0_2]) (t := 25) ?hr ?_; (case hd => rfl); (case hg => rfl); (case hr => first | (go_simp; done) | (go_simp; rfl)); intro gb656 hg w4 hbox hb; have BK656 := Aside0.mk (hbox); have GW656 := vS hg HB; have GE656 := vS hg HB; replace HB := vWs HB hb; clear hb hbox hg) | ((with_reducible refine gate_dst (N := 3) rfl ?_); refine box_event ?hg (N := 3) ?hd (cs := #[.slice A1_0 l1_0.length c1_0, .slice A1_1 l1_1.length c1_1, .bool a1_2]) (t := 25) ?hr ?_; (case hd => rfl); (case hg => rfl); (case hr => first | (go_simp; done) | (go_simp; rfl)); intro gb657 hg w5 hbox hb; have BK657 := Aside0.mk (hbox); have GW657 := vS hg HB; have GE657 := vS hg HB; replace HB := vWs HB hb; have NB656_657 := vNl hg BK656; have NB657_656 := vNg hg BK656; replace BK656 := vBb BK656 hb; clear hb hbox hg) | ((with_reducible refine gate_dst (N := 4) rfl ?_); refine box_event ?hg (N := 4) ?hd (cs := #[.slice none 0 0, .slice none 0 0, .bool false]) (t := 25) ?hr ?_; (case hd => rfl); (case hg => rfl); (case hr => first | (go_simp; done) | (go_simp; rfl)); intro gb658 hg w6 hbox hb; have BK658 := Aside0.mk (hbox); have GW658 := vS hg HB; have GE658 := vS hg HB; replace HB := vWs HB hb; have NB656_658 := vNl hg BK656; have NB658_656 := vNg hg BK656; replace BK656 := vBb BK656 hb; have NB657_658 := vNl hg BK657; have NB658_657 := vNg hg BK657; replace BK657 := vBb BK657 hb; clear hb hbox hg))
 (try simp only [Act.put, List.setIfInBounds_toArray, List.set_cons_zero, List.set_cons_succ])
 go_cut [12] (fun v12 wc => ∃ (kq : Nat) (x12_2 : Bool), v12 = .bool x12_2 ∧ Aside0 (gimbalref11_Meet.j0 kq x12_2 l0_0 l0_1 a0_2 l1_0 l1_1 a1_2 = some (r1, r2, r3)) ∧ Aside0 (kq ≤ k) ∧ Aside0 (wc.heap[gb656]? = some (.cells #[(.slice A0_0 l0_0.length c0_0), (.slice A0_1 l0_1.length c0_1), .bool a0_2] 25 (0, 0))) ∧ Aside0 (wc.heap[gb657]? = some (.cells #[(.slice A1_0 l1_0.length c1_0), (.slice A1_1 l1_1.length c1_1), .bool a1_2] 25 (0, 0))) ∧ Aside0 (wc.heap[gb658]? = some (.cells #[(.slice none 0 0), (.slice none 0 0), .bool false] 25 (0, 0))) ∧ Aside0 (Below w.heap.size w wc))
 case first =>
  have H := HC3.out
  clear HC3
  by_cases c7 : a0_2 = true
  ·
   subst c7
   have H1 : (gimbalref11_Meet.j0 k true l0_0 l0_1 true l1_0 l1_1 a1_2) = some (r1, r2, r3) := by rw [if_pos rfl] at H; exact H
   clear H
   have H := H1
   clear H1
   have H' := Aside0.mk H
   clear H
   have hnb8 := NB656_657.out
   have hnc8 := NB657_656.out
   have hnb9 := NB656_658.out
   have hnc9 := NB658_656.out
   obtain ⟨hcz10_0, hcz10_1, hcz10_2, hfz10_0, hfz10_1, hfz10_2⟩ := vF3 BK656.out
   go_wp2
   go_meet
   case rel => exact ⟨_, (true), (by first | rfl | (simp; done) | (simp [*]; done)), H', ⟨by first | omega | exact Nat.le_refl _⟩, ⟨vB BK656.out⟩, ⟨vB BK657.out⟩, ⟨vB BK658.out⟩, ⟨vW HB.out⟩⟩
  ·
   replace c7 := Bool.eq_false_iff.mpr c7
   subst c7
   have H1 : (gimbalref11_Meet.j0 k a1_2 l0_0 l0_1 false l1_0 l1_1 a1_2) = some (r1, r2, r3) := by rw [if_neg (show ¬ (false = true) by decide)] at H; exact H
   clear H
   have H := H1
   clear H1
   have H' := Aside0.mk H
   clear H
   have hnb11 := NB656_657.out
   have hnc11 := NB657_656.out
   have hnb12 := NB656_658.out
   have hnc12 := NB658_656.out
   obtain ⟨hcz13_0, hcz13_1, hcz13_2, hfz13_0, hfz13_1, hfz13_2⟩ := vF3 BK656.out
   have hnb14 := NB657_658.out
   have hnc14 := NB658_657.out
   obtain ⟨hcz15_0, hcz15_1, hcz15_2, hfz15_0, hfz15_1, hfz15_2⟩ := vF3 BK657.out
   go_wp2
   go_meet
   case rel => exact ⟨_, (a1_2), (by first | rfl | (simp; done) | (simp [*]; done)), H', ⟨by first | omega | exact Nat.le_refl _⟩, ⟨vB BK656.out⟩, ⟨vB BK657.out⟩, ⟨vB BK658.out⟩, ⟨vW HB.out⟩⟩
 case rest =>
  clear HC3
  try clear c1
  try clear p2
  try clear c4
  try clear c7
  try clear c8
  try clear c9
  try clear c11
  try clear c12
  try clear c14
  try clear hcz10_0
  try clear hcz10_1
  try clear hcz10_2
  try clear hcz13_0
  try clear hcz13_1
  try clear hcz13_2
  try clear hcz15_0
  try clear hcz15_1
  try clear hcz15_2
  try clear hfz10_0
  try clear hfz10_1
  try clear hfz10_2
  try clear hfz13_0
  try clear hfz13_1
  try clear hfz13_2
  try clear hfz15_0
  try clear hfz15_1
  try clear hfz15_2
  obtain ⟨kq, x12_2, rfl, HA, HJ2, BK656, BK657, BK658, HB⟩ := hcut
  cases kq with
  | zero => exact absurd HA.out (by simp [gimbalref11_Meet.j0])
  | succ kj2 =>
   have H := HA.out
   clear HA
   simp only [gimbalref11_Meet.j0] at H
   by_cases c16 : x12_2 = true
   ·
    subst c16
    have H1 : ((gimbalref11_Bottom.f l0_0).bind fun bt659 => (some (bt659.1, bt659.2.1, bt659.2.2))) = some (r1, r2, r3) := by rw [if_pos rfl] at H; exact H
    clear H
    have H := H1
    clear H1
    replace H := Option.bind_eq_some_iff.mp H
    obtain ⟨⟨t659, t662, t665⟩, A170, H⟩ := H
    replace H : (some (t659, t662, t665)) = some (r1, r2, r3) := H
    have A17 := Aside0.mk A170
    clear A170
    simp only [Option.some.injEq, Prod.mk.injEq] at H
    obtain ⟨rfl, rfl, rfl⟩ := H
    have hnb18 := NB656_657.out
    have hnc18 := NB657_656.out
    have hnb19 := NB656_658.out
    have hnc19 := NB658_656.out
    obtain ⟨hcz20_0, hcz20_1, hcz20_2, hfz20_0, hfz20_1, hfz20_2⟩ := vF3 BK656.out
    go_wp2_with (first | ((with_reducible refine gate_callee (f := 17) rfl ?_); refine goesL_ (some 15) rfl rfl Try.func17 (by kernel_rfl) rfl #[.slice A0_0 l0_0.length c0_0] rfl vL ?_; (with_reducible refine (gimbalref11_Bottom.calls _ _ l0_0 t659 t662 t665 _ ?side1 ?side2 A17.out).mono ?_); (case side1 => exact vC (Kd.C_below HR0_0.out HB.out)); (case side2 => exact HC0_0.out); rintro e w21 ⟨v660, v663, rfl, ho0, ho1, hb⟩; refine ⟨_, rfl, ?_⟩; have HO661 := Aside0.mk (Kd.R_lower ho0 (below_size (vW HB.out))); have HO664 := Aside0.mk (Kd.R_lower ho1 (below_size (vW HB.out))); replace BK656 := vBb BK656 hb; replace BK657 := vBb BK657 hb; replace BK658 := vBb BK658 hb; replace HB := vWs HB hb; (try clear hb); (try clear hb2); (try clear hk); (try clear hi); (try clear ho0); (try clear ho1); obtain ⟨Ao22, co22, eo22⟩ := Kd.R_slice HO661.out; subst eo22; have hnb23 := NB658_657.out; have hnc23 := NB657_658.out; obtain ⟨hcz24_0, hcz24_1, hcz24_2, hfz24_0, hfz24_1, hfz24_2⟩ := vF3 BK658.out; obtain ⟨Ao25, co25, eo25⟩ := Kd.R_slice HO664.out; subst eo25))
    refine bodyPost_ret (results_cell_row rfl _ _ gb658 25 #[.slice Ao22 t659.length co22, .slice Ao25 t662.length co25, .bool t665] (0, 0) _ rfl (by (with_reducible repeat (first | refine blk_drewN ?_ _ | refine blk_drew ?_ | refine blk_alloc ?_ _)); refine blk_put (cs := #[.slice Ao22 t659.length co22, .slice Ao25 t662.length co25, .bool false]) ?_ 2 _ rfl; (with_reducible repeat (first | refine blk_drewN ?_ _ | refine blk_drew ?_ | refine blk_alloc ?_ _)); refine blk_put (cs := #[.slice Ao22 t659.length co22, .slice none 0 0, .bool false]) ?_ 1 _ rfl; (with_reducible repeat (first | refine blk_drewN ?_ _ | refine blk_drew ?_ | refine blk_alloc ?_ _)); refine blk_put (cs := #[.slice none 0 0, .slice none 0 0, .bool false]) ?_ 0 _ rfl; (with_reducible repeat (first | refine blk_drewN ?_ _ | refine blk_drew ?_ | refine blk_alloc ?_ _)); exact BK658.out) Try.underlying25 rfl (by kernel_rfl)) rfl ?_
    exact ⟨_, _, by first | rfl | (simp [errW_none, errW_some] <;> rfl) | (simp [*, errW_none, errW_some] <;> rfl) | (simp [wrap64]; done), by (with_reducible repeat (first | apply Kd.R_alloc | apply Kd.R_drewN | apply Kd.R_drew)); exact Kd.R_mono (Kd.R_far (p := ⟨gb658, 2, none⟩) (Kd.R_far (p := ⟨gb658, 1, none⟩) (Kd.R_far (p := ⟨gb658, 0, none⟩) (Kd.R_types HO661.out BK658.out (by decide)) (fun _ hk => hk.2) (.slice Ao22 t659.length co22)) (fun _ hk => hk.2) (.slice Ao25 t662.length co25)) (fun _ hk => hk.2) (.bool t665)) (fun _ hk => trivial), by (with_reducible repeat (first | apply Kd.R_alloc | apply Kd.R_drewN | apply Kd.R_drew)); exact Kd.R_mono (Kd.R_far (p := ⟨gb658, 2, none⟩) (Kd.R_far (p := ⟨gb658, 1, none⟩) (Kd.R_far (p := ⟨gb658, 0, none⟩) (Kd.R_types HO664.out BK658.out (by decide)) (fun _ hk => hk.2) (.slice Ao22 t659.length co22)) (fun _ hk => hk.2) (.slice Ao25 t662.length co25)) (fun _ hk => hk.2) (.bool t665)) (fun _ hk => trivial), vW HB.out⟩
   ·
    replace c16 := Bool.eq_false_iff.mpr c16
    subst c16
    have H1 : ((gimbalref11_copied.f l0_0).bind fun t666 => (gimbalref11_Meet.l0 kj2 (l0_1.length : Int) 0 l0_0 l0_1 a0_2 l1_0 l1_1 a1_2 t666 ([] : List Int) false)) = some (r1, r2, r3) := by rw [if_neg (show ¬ (false = true) by decide)] at H; exact H
    clear H
    have H := H1
    clear H1
    replace H := Option.bind_eq_some_iff.mp H
    obtain ⟨t666, A260, H⟩ := H
    replace H : (gimbalref11_Meet.l0 kj2 (l0_1.length : Int) 0 l0_0 l0_1 a0_2 l1_0 l1_1 a1_2 t666 ([] : List Int) false) = some (r1, r2, r3) := H
    have A26 := Aside0.mk A260
    clear A260
    have H' := Aside0.mk H
    clear H
    have hnb27 := NB656_657.out
    have hnc27 := NB657_656.out
    have hnb28 := NB656_658.out
    have hnc28 := NB658_656.out
    obtain ⟨hcz29_0, hcz29_1, hcz29_2, hfz29_0, hfz29_1, hfz29_2⟩ := vF3 BK656.out
    go_wp2_with (first | ((with_reducible refine gate_callee (f := 50) rfl ?_); refine goesL_ (some 18) rfl rfl Try.func50 (by kernel_rfl) rfl #[.slice A0_0 l0_0.length c0_0] rfl vL ?_; (with_reducible refine (gimbalref11_copied.calls _ _ l0_0 t666 _ ?side1 ?side2 A26.out).mono ?_); (case side1 => exact vC (Kd.C_below HR0_0.out HB.out)); (case side2 => exact HC0_0.out); rintro e w30 ⟨v667, rfl, ho0, hb⟩; refine ⟨_, rfl, ?_⟩; have HO668 := Aside0.mk (Kd.R_lower ho0 (below_size (vW HB.out))); replace BK656 := vBb BK656 hb; replace BK657 := vBb BK657 hb; replace BK658 := vBb BK658 hb; replace HB := vWs HB hb; (try clear hb); (try clear hb2); (try clear hk); (try clear hi); (try clear ho0); obtain ⟨Ao31, co31, eo31⟩ := Kd.R_slice HO668.out; subst eo31) | ((with_reducible refine gate_dst (N := 5) rfl ?_); refine box_event ?hg (N := 5) ?hd (cs := #[.slice none 0 0, .slice none 0 0, .bool false]) (t := 25) ?hr ?_; (case hd => rfl); (case hg => rfl); (case hr => first | (go_simp; done) | (go_simp; rfl)); intro gb669 hg w32 hbox hb; replace HO668 := vRb HO668 hb; have BK669 := Aside0.mk (hbox); have GW669 := vS hg HB; have GE669 := vS hg HB; replace HB := vWs HB hb; have NB656_669 := vNl hg BK656; have NB669_656 := vNg hg BK656; replace BK656 := vBb BK656 hb; have NB657_669 := vNl hg BK657; have NB669_657 := vNg hg BK657; replace BK657 := vBb BK657 hb; have NB658_669 := vNl hg BK658; have NB669_658 := vNg hg BK658; replace BK658 := vBb BK658 hb; clear hb hbox hg; have hnb33 := NB669_656.out; have hnc33 := NB656_669.out; have hnb34 := NB669_657.out; have hnc34 := NB657_669.out; have hnb35 := NB669_658.out; have hnc35 := NB658_669.out; obtain ⟨hcz36_0, hcz36_1, hcz36_2, hfz36_0, hfz36_1, hfz36_2⟩ := vF3 BK669.out; obtain ⟨hcz37_0, hcz37_1, hcz37_2, hfz37_0, hfz37_1, hfz37_2⟩ := vF3 BK656.out))
    go_loopg [23] kj2 (fun kq v23 w' => ∃ (x23_2 : Int) (x670001_2 : List Int) (u670001 : Value), v23 = .int .i64 x23_2 ∧ Aside0 (gimbalref11_Meet.l0 kq (l0_1.length : Int) x23_2 l0_0 l0_1 a0_2 l1_0 l1_1 a1_2 t666 x670001_2 false = some (r1, r2, r3)) ∧ Aside0 (kq ≤ kj2) ∧ Aside0 (Kd.R (Kd.int .i64) 3 w' w.heap.size (fun _ => True) (.slice Ao31 t666.length co31) t666) ∧ Aside0 (Kd.R (Kd.int .i64) 2 w' w.heap.size (fun _ => True) u670001 x670001_2) ∧ Aside0 (w'.heap[gb656]? = some (.cells #[(.slice A0_0 l0_0.length c0_0), (.slice A0_1 l0_1.length c0_1), .bool a0_2] 25 (0, 0))) ∧ Aside0 (w'.heap[gb657]? = some (.cells #[(.slice A1_0 l1_0.length c1_0), (.slice A1_1 l1_1.length c1_1), .bool a1_2] 25 (0, 0))) ∧ Aside0 (w'.heap[gb658]? = some (.cells #[(.slice none 0 0), (.slice none 0 0), .bool false] 25 (0, 0))) ∧ Aside0 (w'.heap[gb669]? = some (.cells #[(.slice Ao31 t666.length co31), u670001, .bool false] 25 (0, 0))) ∧ Aside0 (Below w.heap.size w w'))
    case atStart => exact ⟨(0), (([] : List Int)), (.slice none 0 0), (by first | rfl | (simp; done) | (simp [*]; done)), H', ⟨Nat.le_refl _⟩, ⟨by (with_reducible repeat (first | apply Kd.R_alloc | apply Kd.R_drewN | apply Kd.R_drew)); exact Kd.R_mono (Kd.R_far (p := ⟨gb669, 2, none⟩) (Kd.R_far (p := ⟨gb669, 1, none⟩) (Kd.R_far (p := ⟨gb669, 0, none⟩) (Kd.R_types HO668.out BK669.out (by decide)) (fun _ hk => hk.2) (.slice Ao31 t666.length co31)) (fun _ hk => hk.2) (.slice none 0 0)) (fun _ hk => hk.2) (.bool false)) (fun _ hk => trivial)⟩, ⟨by first | exact Kd.R_nil _ _ _ _ _ | exact Kd.N_nil _ _ _ _ _ | exact Kd.V_nil _ _ _ _ _ | exact Kd.Q_nil _ _ _ _ _ | exact Kd.S_nil _ _ _ _ _⟩, ⟨vB BK656.out⟩, ⟨vB BK657.out⟩, ⟨vB BK658.out⟩, ⟨by (with_reducible repeat (first | refine blk_drewN ?_ _ | refine blk_drew ?_ | refine blk_alloc ?_ _)); refine blk_put (cs := #[.slice Ao31 t666.length co31, .slice none 0 0, .bool false]) ?_ 2 _ rfl; (with_reducible repeat (first | refine blk_drewN ?_ _ | refine blk_drew ?_ | refine blk_alloc ?_ _)); refine blk_put (cs := #[.slice Ao31 t666.length co31, .slice none 0 0, .bool false]) ?_ 1 _ rfl; (with_reducible repeat (first | refine blk_drewN ?_ _ | refine blk_drew ?_ | refine blk_alloc ?_ _)); refine blk_put (cs := #[.slice none 0 0, .slice none 0 0, .bool false]) ?_ 0 _ rfl; (with_reducible repeat (first | refine blk_drewN ?_ _ | refine blk_drew ?_ | refine blk_alloc ?_ _)); exact BK669.out⟩, ⟨vW HB.out⟩⟩
    case round =>
     clear H'
     try clear c1
     try clear c2
     try clear p2
     try clear c3
     try clear c4
     try clear c5
     try clear p6
     try clear c7
     try clear c8
     try clear c9
     try clear c11
     try clear c12
     try clear c14
     try clear c16
     try clear c17
     try clear c18
     try clear c19
     try clear c23
     try clear c27
     try clear c28
     try clear c33
     try clear c34
     try clear c35
     try clear hcz10_0
     try clear hcz10_1
     try clear hcz10_2
     try clear hcz13_0
     try clear hcz13_1
     try clear hcz13_2
     try clear hcz15_0
     try clear hcz15_1
     try clear hcz15_2
     try clear hcz20_0
     try clear hcz20_1
     try clear hcz20_2
     try clear hcz24_0
     try clear hcz24_1
     try clear hcz24_2
     try clear hcz29_0
     try clear hcz29_1
     try clear hcz29_2
     try clear hcz36_0
     try clear hcz36_1
     try clear hcz36_2
     try clear hcz37_0
     try clear hcz37_1
     try clear hcz37_2
     try clear hfz10_0
     try clear hfz10_1
     try clear hfz10_2
     try clear hfz13_0
     try clear hfz13_1
     try clear hfz13_2
     try clear hfz15_0
     try clear hfz15_1
     try clear hfz15_2
     try clear hfz20_0
     try clear hfz20_1
     try clear hfz20_2
     try clear hfz24_0
     try clear hfz24_1
     try clear hfz24_2
     try clear hfz29_0
     try clear hfz29_1
     try clear hfz29_2
     try clear hfz36_0
     try clear hfz36_1
     try clear hfz36_2
     try clear hfz37_0
     try clear hfz37_1
     try clear hfz37_2
     try clear p2
     obtain ⟨x23_2, x670001_2, u670001, rfl, HA, HK2, HO_670000, HO_670001, BK656, BK657, BK658, BK669, HB⟩ := hrel
     cases gk with
     | zero => exact absurd HA.out (by simp [gimbalref11_Meet.l0])
     | succ k2 =>
      have H := HA.out
      clear HA
      simp only [gimbalref11_Meet.l0] at H
      by_cases c38 : x23_2 < (l0_1.length : Int)
      ·
       rw [if_pos c38] at H
       have c38b0 : decide (x23_2 < (l0_1.length : Int)) = true := decide_eq_true c38
       clear c38
       by_cases c39 : 0 ≤ x23_2
       ·
        rw [if_pos c39] at H
        have c39b0 : decide (0 ≤ x23_2) = true := decide_eq_true c39
        clear c39
        by_cases c40 : x23_2 < (l0_1.length : Int)
        ·
         rw [if_pos c40] at H
         have c40b0 : decide (x23_2 < (l0_1.length : Int)) = true := decide_eq_true c40
         clear c40
         by_cases c41 : x23_2 < (l1_1.length : Int)
         ·
          rw [if_pos c41] at H
          have c41b0 : decide (x23_2 < (l1_1.length : Int)) = true := decide_eq_true c41
          clear c41
          obtain ⟨ji42, hji42⟩ : ∃ j_ : Int, (mn (rd l0_1 x23_2) (rd l1_1 x23_2)) = j_ := ⟨_, rfl⟩
          replace H : (if x670001_2.length < 17592186044416 then (gimbalref11_Meet.l0 k2 (l0_1.length : Int) (wrap64 (x23_2 + 1)) l0_0 l0_1 a0_2 l1_0 l1_1 a1_2 t666 (x670001_2 ++ [ji42]) false) else (none)) = some (r1, r2, r3) := by first | (rw [hji42] at H; exact H) | (simp only [hji42] at H ⊢; exact H)
          have hji42_ : (if (rd l1_1 x23_2) < (rd l0_1 x23_2) then (rd l1_1 x23_2) else (rd l0_1 x23_2)) = ji42 := hji42
          by_cases c43 : x670001_2.length < 17592186044416
          ·
           rw [if_pos c43] at H
           have LMc43 := Aside0.mk c43
           clear c43
           obtain ⟨y672, hy672⟩ : ∃ y_ : List Int, y_ = (x670001_2 ++ [ji42]) := ⟨_, rfl⟩
           replace H : (gimbalref11_Meet.l0 k2 (l0_1.length : Int) (wrap64 (x23_2 + 1)) l0_0 l0_1 a0_2 l1_0 l1_1 a1_2 t666 y672 false) = some (r1, r2, r3) := by first | (rw [hy672]; with_reducible exact H) | (have H2_ := (Option.bind_some _ _).symm.trans H; rw [hy672]; with_reducible exact H2_) | (have H2_ := (Option.bind_some _ _).symm.trans H; with_reducible exact H2_) | with_reducible exact H | (rw [hy672]; exact H) | exact H
           have Ny672 := Aside0.mk hy672
           clear hy672
           have H' := Aside0.mk H
           clear H
           try go_wp2
           replace HO_670000 := Aside0.mk (Kd.R_drew HO_670000.out)
           replace HO_670001 := Aside0.mk (Kd.R_drew HO_670001.out)
           replace BK656 := Aside0.mk (blk_drew BK656.out)
           replace BK657 := Aside0.mk (blk_drew BK657.out)
           replace BK658 := Aside0.mk (blk_drew BK658.out)
           replace BK669 := Aside0.mk (blk_drew BK669.out)
           replace HB := Aside0.mk (below_drew1 HB.out)
           have p670 : 0 ≤ (x23_2 : Int) := of_decide_eq_true (by first | (with_reducible assumption) | assumption)
           have q670 : x23_2 < (l0_1.length : Int) := of_decide_eq_true (by first | (with_reducible assumption) | assumption)
           obtain ⟨ad670, e670, hx670_0⟩ := Kd.at_int HR0_1.out x23_2 p670 q670
           have hw670_0 := hx670_0
           cases e670
           replace hx670_0 := (HB.out.cell (World.block_lt_of_cell? w _ hx670_0)).trans hx670_0
           replace p670 := eq_true p670
           replace q670 := eq_true q670
           have p671 : 0 ≤ (x23_2 : Int) := of_decide_eq_true (by first | (with_reducible assumption) | assumption)
           have q671 : x23_2 < (l1_1.length : Int) := of_decide_eq_true (by first | (with_reducible assumption) | assumption)
           obtain ⟨ad671, e671, hx671_0⟩ := Kd.at_int HR1_1.out x23_2 p671 q671
           have hw671_0 := hx671_0
           cases e671
           replace hx671_0 := (HB.out.cell (World.block_lt_of_cell? w _ hx671_0)).trans hx671_0
           replace p671 := eq_true p671
           replace q671 := eq_true q671
           refine start_ (n := 17) (S := fun w' => w'.cell? ⟨gb669, 0, none⟩ = some (.slice Ao31 t666.length co31) ∧ w'.cell? ⟨gb669, 1, none⟩ = some (u670001) ∧ w'.cell? ⟨gb669, 2, none⟩ = some (.bool false) ∧ w'.cell? ⟨gb656, 0, none⟩ = some (.slice A0_0 l0_0.length c0_0) ∧ w'.cell? ⟨gb656, 1, none⟩ = some (.slice (some ad670) l0_1.length c0_1) ∧ w'.cell? ⟨gb656, 2, none⟩ = some (.bool a0_2) ∧ w'.cell? ⟨gb657, 0, none⟩ = some (.slice A1_0 l1_0.length c1_0) ∧ w'.cell? ⟨gb657, 1, none⟩ = some (.slice (some ad671) l1_1.length c1_1) ∧ w'.cell? ⟨gb657, 2, none⟩ = some (.bool a1_2) ∧ w'.cell? (ad670.add (x23_2).toNat) = some (.int .i64 (rd l0_1 x23_2)) ∧ w'.cell? (ad671.add (x23_2).toNat) = some (.int .i64 (rd l1_1 x23_2))) (ds := [16]) (mB 17 0) (by kernel_rfl) rfl rfl ⟨(blk_cell BK669.out 0).trans rfl, (blk_cell BK669.out 1).trans rfl, (blk_cell BK669.out 2).trans rfl, (blk_cell BK656.out 0).trans rfl, (blk_cell BK656.out 1).trans rfl, (blk_cell BK656.out 2).trans rfl, (blk_cell BK657.out 0).trans rfl, (blk_cell BK657.out 1).trans rfl, (blk_cell BK657.out 2).trans rfl, ((HB.out.cell (World.block_lt_of_cell? w _ hw670_0)).trans hw670_0), ((HB.out.cell (World.block_lt_of_cell? w _ hw671_0)).trans hw671_0)⟩ (fun hHeld => ?_); refine with_tabW gimbalref11_Meet.tab7 gimbalref11_Meet.bits7 (fun HT_ HW_ => ?_)
           generalize wr.drew = w44 at HO_670000 HO_670001 BK656 BK657 BK658 BK669 HB hx670_0 hx671_0 hHeld ⊢
           refine pV_ 0 26 (mB 17 1) HT_ ?_
           refine pV_ 2 28 (mB 17 5) HT_ ?_
           refine pV_ 4 30 (mB 17 21) HT_ ?_
           refine pV_ 7 33 (mB 17 149) HT_ ?_
           refine pV_ 9 35 (mB 17 661) HT_ ?_
           refine tV_ 1 27 (mB 17 663) HT_ HW_ hHeld ?_
           refine tV_ 3 29 (mB 17 671) HT_ HW_ hHeld ?_
           refine pV_ 5 31 (mB 17 703) HT_ ?_
           refine tV_ 6 32 (mB 17 767) HT_ HW_ hHeld ?_
           refine tV_ 8 34 (mB 17 1023) HT_ HW_ hHeld ?_
           refine pV_ 10 36 (mB 17 2047) HT_ ?_
           refine tV_ 11 37 (mB 17 4095) HT_ HW_ hHeld ?_
           refine pV_ 12 38 (mB 17 8191) HT_ ?_
           refine one_ (i := 13) (N := some 39) (mB 17 16383) rfl rfl (one_of HT_.out (by kernel_rfl)) (by decide) (fun K hK => ?_)
           refine value_ (w1 := ?_) (v := ?_) (by rfl) rfl ?_ ?_
           rotate_left 2
           ·
            go_simp
            constructor
            ·
             rfl
            ·
             rfl
           refine hK.out _ _ ⟨(blk_cell (blk_alloc BK669.out _) 0).trans rfl, (blk_cell (blk_alloc BK669.out _) 1).trans rfl, (blk_cell (blk_alloc BK669.out _) 2).trans rfl, (blk_cell (blk_alloc BK656.out _) 0).trans rfl, (blk_cell (blk_alloc BK656.out _) 1).trans rfl, (blk_cell (blk_alloc BK656.out _) 2).trans rfl, (blk_cell (blk_alloc BK657.out _) 0).trans rfl, (blk_cell (blk_alloc BK657.out _) 1).trans rfl, (blk_cell (blk_alloc BK657.out _) 2).trans rfl, (World.cell?_alloc_lt _ _ _ (World.block_lt_of_cell? _ _ (((HB.out.cell (World.block_lt_of_cell? w _ hw670_0)).trans hw670_0)))).trans (((HB.out.cell (World.block_lt_of_cell? w _ hw670_0)).trans hw670_0)), (World.cell?_alloc_lt _ _ _ (World.block_lt_of_cell? _ _ (((HB.out.cell (World.block_lt_of_cell? w _ hw671_0)).trans hw671_0)))).trans (((HB.out.cell (World.block_lt_of_cell? w _ hw671_0)).trans hw671_0))⟩ (fun hHeld => ?_)
           clear hK K
           refine norm_ (a' := ?_) ?_ ?_
           rotate_left
           ·
            show Act.put _ (some 39) _ = _
            simp only [Act.put, List.setIfInBounds_toArray, List.set_cons_zero, List.set_cons_succ, i64_w, i32_w]
            rfl
           refine one_ (i := 14) (N := some 40) (mB 17 32767) rfl rfl (one_of HT_.out (by kernel_rfl)) (by decide) (fun K hK => ?_)
           refine Kd.R_append_step (Kd.int .i64) (w0 := w) w.heap.size (by rfl) (.tmp 27) (.tmp 39) 23 2 (.int .i64 0) 8 rfl Try.underlying23 info2 rfl (by decide) (by omega) u670001 x670001_2 ji42 [.int .i64 ji42] (fun _ => True) (fun _ => False) rfl rfl ?aP (fun _ hk => hk.elim) ?aF ?aO ?aB ?aS ?aL ?_
           (case aP => exact rfl)
           (case aB => exact (vW HB.out))
           (case aF => exact (fun _ _ => trivial))
           (case aO => exact (vR HO_670001.out))
           (case aS => exact (below_size (vW HB.out)))
           (case aL => have := LMc43.out; omega)
           intro v673 w45 ho hb hg hat
           rw [← Ny672.out] at ho
           replace HO_670000 := Aside0.mk (Kd.R_over' (vR HO_670000.out) (Kd.R_typed (vR HO_670001.out)) (by decide) hg)
           replace BK656 := Aside0.mk (blk_grown (g := gb656) (o := .cells #[.slice A0_0 l0_0.length c0_0, .slice (some ad670) l0_1.length c0_1, .bool a0_2] 25 (0, 0)) (vB BK656.out) hg (Kd.R_ne HO_670001.out BK656.out (by decide)))
           replace BK657 := Aside0.mk (blk_grown (g := gb657) (o := .cells #[.slice A1_0 l1_0.length c1_0, .slice (some ad671) l1_1.length c1_1, .bool a1_2] 25 (0, 0)) (vB BK657.out) hg (Kd.R_ne HO_670001.out BK657.out (by decide)))
           replace BK658 := Aside0.mk (blk_grown (g := gb658) (o := .cells #[.slice none 0 0, .slice none 0 0, .bool false] 25 (0, 0)) (vB BK658.out) hg (Kd.R_ne HO_670001.out BK658.out (by decide)))
           replace BK669 := Aside0.mk (blk_grown (g := gb669) (o := .cells #[.slice Ao31 t666.length co31, u670001, .bool false] 25 (0, 0)) (vB BK669.out) hg (Kd.R_ne HO_670001.out BK669.out (by decide)))
           replace HB := Aside0.mk (hb)
           have HO674 := Aside0.mk (ho)
           clear HO_670001
           clear ho hb hg hat
           obtain ⟨Ao46, co46, eo46⟩ := Kd.R_slice HO674.out
           (first | subst eo46 | (injection eo46 with f1_ f2_ f3_; have f4_ := f1_.symm; have f5_ := f3_.symm; clear f1_ f2_ f3_; subst f4_; subst f5_))
           refine hK.out _ _ ⟨(blk_cell BK669.out 0).trans rfl, (blk_cell BK669.out 1).trans rfl, (blk_cell BK669.out 2).trans rfl, (blk_cell BK656.out 0).trans rfl, (blk_cell BK656.out 1).trans rfl, (blk_cell BK656.out 2).trans rfl, (blk_cell BK657.out 0).trans rfl, (blk_cell BK657.out 1).trans rfl, (blk_cell BK657.out 2).trans rfl, ((HB.out.cell (World.block_lt_of_cell? w _ hw670_0)).trans hw670_0), ((HB.out.cell (World.block_lt_of_cell? w _ hw671_0)).trans hw671_0)⟩ (fun hHeld => ?_)
           clear hK K
           refine norm_ (a' := ?_) ?_ ?_
           rotate_left
           ·
            show Act.put _ (some 40) _ = _
            simp only [Act.put, List.setIfInBounds_toArray, List.set_cons_zero, List.set_cons_succ, i64_w, i32_w]
            rfl
           refine pV_ 15 41 (mB 17 65535) HT_ ?_
           refine last_ (i := 16) (N := none) (mB 17 131071) rfl rfl (one_of HT_.out (by kernel_rfl)) (by decide) (fun K hK => ?_)
           have hs47 : w45.cell? ⟨gb669, 1, none⟩ = some (u670001) := (blk_cell BK669.out 1).trans rfl
           have hfs47 := blk_frozen BK669.out 1
           have hns47_0 := NB656_669.out
           have hns47_1 := NB657_669.out
           have hns47_2 := NB658_669.out
           have hms47_0 := NB669_656.out
           have hms47_1 := NB669_657.out
           have hms47_2 := NB669_658.out
           refine skip_ (w1 := ?_) (by rfl) rfl ?_ ?_
           rotate_left
           ·
            go_simp
            rfl
           refine hK.out _ _ ?_
           clear hK K
           refine done_ (done_of HT_.out (by kernel_rfl)) ?_
           try go_wp2
           go_roundg k2
           case measure => have := HJ2.out; have := HK2.out; omega
           case rel => exact ⟨(wrap64 (x23_2 + 1)), (y672), (.slice Ao46 y672.length co46), (by first | rfl | (simp; done) | (simp [*]; done)), H', ⟨by have := HJ2.out; have := HK2.out; omega⟩, ⟨by (with_reducible repeat (first | apply Kd.R_alloc | apply Kd.R_drewN | apply Kd.R_drew)); exact Kd.R_mono (Kd.R_far (p := ⟨gb669, 1, none⟩) (Kd.R_types HO_670000.out BK669.out (by decide)) (fun _ hk => hk.2) (.slice Ao46 y672.length co46)) (fun _ hk => trivial)⟩, ⟨by (with_reducible repeat (first | apply Kd.R_alloc | apply Kd.R_drewN | apply Kd.R_drew)); exact Kd.R_mono (Kd.R_far (p := ⟨gb669, 1, none⟩) (Kd.R_types HO674.out BK669.out (by decide)) (fun _ hk => hk.2) (.slice Ao46 y672.length co46)) (fun _ hk => trivial)⟩, ⟨vB BK656.out⟩, ⟨vB BK657.out⟩, ⟨vB BK658.out⟩, ⟨by (with_reducible repeat (first | refine blk_drewN ?_ _ | refine blk_drew ?_ | refine blk_alloc ?_ _)); refine blk_put (cs := #[.slice Ao31 t666.length co31, u670001, .bool false]) ?_ 1 _ rfl; (with_reducible repeat (first | refine blk_drewN ?_ _ | refine blk_drew ?_ | refine blk_alloc ?_ _)); exact BK669.out⟩, ⟨vW HB.out⟩⟩
          ·
           rw [if_neg c43] at H
           exact absurd H (by simp)
         ·
          rw [if_neg c41] at H
          exact absurd H (by simp)
        ·
         rw [if_neg c40] at H
         exact absurd H (by simp)
       ·
        rw [if_neg c39] at H
        exact absurd H (by simp)
      ·
       rw [if_neg c38] at H
       have c38b0 : decide (x23_2 < (l0_1.length : Int)) = false := decide_eq_false c38
       clear c38
       replace H := Option.bind_eq_some_iff.mp H
       obtain ⟨⟨t675, t678, t681⟩, A480, H⟩ := H
       replace H : (some (t675, t678, t681)) = some (r1, r2, r3) := H
       have A48 := Aside0.mk A480
       clear A480
       simp only [Option.some.injEq, Prod.mk.injEq] at H
       obtain ⟨rfl, rfl, rfl⟩ := H
       have hnb49 := NB669_656.out
       have hnc49 := NB656_669.out
       have hnb50 := NB669_657.out
       have hnc50 := NB657_669.out
       have hnb51 := NB669_658.out
       have hnc51 := NB658_669.out
       obtain ⟨hcz52_0, hcz52_1, hcz52_2, hfz52_0, hfz52_1, hfz52_2⟩ := vF3 BK669.out
       obtain ⟨Ao53, co53, eo53⟩ := Kd.R_slice HO_670001.out
       subst eo53
       go_wp2_with (first | ((with_reducible refine gate_callee (f := 23) rfl ?_); refine goesL_ (some 44) rfl rfl Try.func23 (by kernel_rfl) rfl #[.agg #[.slice Ao31 t666.length co31, .slice Ao53 x670001_2.length co53, .bool false]] rfl vL ?_; (with_reducible refine (gimbalref11_Close.calls k2 _ _ t666 _ _ x670001_2 false t675 t678 t681 _ ?side1 ?side2 ?side3 ?side4 A48.out).mono ?_); (case side1 => repeat (first | exact (Kd.R_reads' HO_670000.out).2.2 | (with_reducible refine Kd.C_alloc ?_ _) | (with_reducible refine Kd.C_drewN ?_ _) | (with_reducible refine Kd.C_drew ?_))); (case side2 => exact (Kd.R_reads' HO_670000.out).2.1); (case side3 => repeat (first | exact (Kd.R_reads' HO_670001.out).2.2 | (with_reducible refine Kd.C_alloc ?_ _) | (with_reducible refine Kd.C_drewN ?_ _) | (with_reducible refine Kd.C_drew ?_))); (case side4 => exact (Kd.R_reads' HO_670001.out).2.1); rintro e w54 ⟨v676, v679, rfl, ho0, ho1, hb⟩; refine ⟨_, rfl, ?_⟩; have HO677 := Aside0.mk (Kd.R_lower (Kd.R_new' ho0 (Kd.R_lt (vR HO_670000.out))) (below_size (vW HB.out))); replace HO_670000 := Aside0.mk (Kd.R_elder' (vR HO_670000.out) (Kd.R_base ho0) hb); have HO680 := Aside0.mk (Kd.R_lower (Kd.R_new' ho1 (Kd.R_lt (vR HO_670001.out))) (below_size (vW HB.out))); replace HO_670001 := Aside0.mk (Kd.R_elder' (vR HO_670001.out) (Kd.R_base ho1) hb); replace BK656 := vBb BK656 hb; replace BK657 := vBb BK657 hb; replace BK658 := vBb BK658 hb; replace BK669 := vBb BK669 hb; replace HB := vWs HB hb; (try clear hb); (try clear hb2); (try clear hk); (try clear hi); (try clear ho0); (try clear ho1); obtain ⟨Ao55, co55, eo55⟩ := Kd.R_slice HO677.out; subst eo55; have hnb56 := NB658_656.out; have hnc56 := NB656_658.out; have hnb57 := NB658_657.out; have hnc57 := NB657_658.out; obtain ⟨hcz58_0, hcz58_1, hcz58_2, hfz58_0, hfz58_1, hfz58_2⟩ := vF3 BK658.out; obtain ⟨Ao59, co59, eo59⟩ := Kd.R_slice HO680.out; subst eo59))
       refine bodyPost_ret (results_cell_row rfl _ _ gb658 25 #[.slice Ao55 t675.length co55, .slice Ao59 t678.length co59, .bool t681] (0, 0) _ rfl (by (with_reducible repeat (first | refine blk_drewN ?_ _ | refine blk_drew ?_ | refine blk_alloc ?_ _)); refine blk_put (cs := #[.slice Ao55 t675.length co55, .slice Ao59 t678.length co59, .bool false]) ?_ 2 _ rfl; (with_reducible repeat (first | refine blk_drewN ?_ _ | refine blk_drew ?_ | refine blk_alloc ?_ _)); refine blk_put (cs := #[.slice Ao55 t675.length co55, .slice none 0 0, .bool false]) ?_ 1 _ rfl; (with_reducible repeat (first | refine blk_drewN ?_ _ | refine blk_drew ?_ | refine blk_alloc ?_ _)); refine blk_put (cs := #[.slice none 0 0, .slice none 0 0, .bool false]) ?_ 0 _ rfl; (with_reducible repeat (first | refine blk_drewN ?_ _ | refine blk_drew ?_ | refine blk_alloc ?_ _)); exact BK658.out) Try.underlying25 rfl (by kernel_rfl)) rfl ?_
       exact ⟨_, _, by first | rfl | (simp [errW_none, errW_some] <;> rfl) | (simp [*, errW_none, errW_some] <;> rfl) | (simp [wrap64]; done), by (with_reducible repeat (first | apply Kd.R_alloc | apply Kd.R_drewN | apply Kd.R_drew)); exact Kd.R_mono (Kd.R_far (p := ⟨gb658, 2, none⟩) (Kd.R_far (p := ⟨gb658, 1, none⟩) (Kd.R_far (p := ⟨gb658, 0, none⟩) (Kd.R_types HO677.out BK658.out (by decide)) (fun _ hk => hk.2) (.slice Ao55 t675.length co55)) (fun _ hk => hk.2) (.slice Ao59 t678.length co59)) (fun _ hk => hk.2) (.bool t681)) (fun _ hk => trivial), by (with_reducible repeat (first | apply Kd.R_alloc | apply Kd.R_drewN | apply Kd.R_drew)); exact Kd.R_mono (Kd.R_far (p := ⟨gb658, 2, none⟩) (Kd.R_far (p := ⟨gb658, 1, none⟩) (Kd.R_far (p := ⟨gb658, 0, none⟩) (Kd.R_types HO680.out BK658.out (by decide)) (fun _ hk => hk.2) (.slice Ao55 t675.length co55)) (fun _ hk => hk.2) (.slice Ao59 t678.length co59)) (fun _ hk => hk.2) (.bool t681)) (fun _ hk => trivial), vW HB.out⟩
end Go.Proofs.Ytomgebmimgaojaa.QO
end
end
