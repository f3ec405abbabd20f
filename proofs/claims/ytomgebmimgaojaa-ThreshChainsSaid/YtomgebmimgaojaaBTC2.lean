/- Own texts of this claim, joined: QOx1059, QOx1060, QOx1023, QOx1063, QOx1086, QOx1061, QOx1065, QOx1064, QOx1027, QOx1089, QOx1066, QOx1062, QOx1031, QOx1 -/
import Derived.Test.YtomgebmimgaojaaBTC0
import Derived.Test.YtomgebmimgaojaaBTC1
section
noncomputable section
namespace Go.Proofs.Ytomgebmimgaojaa.QO
open Go.RowKit Go.Proofs.YtomgebmimgaojaaW.PrintWords Go.Proofs.YtomgebmimgaojaaW.PrintLast
set_option linter.unusedVariables false
set_option linter.unusedSimpArgs false
mutual
def gimbalref11_Tight.l0 : Nat → Int → List Int → Int → Option (List Int × Bool)
 | 0, _, _, _ => none
 | k + 1, x1, x6, x7 => if x7 ≤ (wrap64 (2 * x1)) then (if 0 ≤ (wrap64 (x1 * x1)) then (if (wrap64 (x1 * x1) : Int).toNat ≤ 35184372088832 then (gimbalref11_Tight.l1 k x1 x6 x7 (List.replicate (wrap64 (x1 * x1) : Int).toNat 0) 0) else (none)) else (none)) else (gimbalref11_Tight.l4 k x1 x6 0)
def gimbalref11_Tight.l1 : Nat → Int → List Int → Int → List Int → Int → Option (List Int × Bool)
 | 0, _, _, _, _, _ => none
 | k + 1, x1, x6, x7, x8, x9 => if x9 < x1 then (gimbalref11_Tight.l2 k x1 x6 x7 x8 x9 0) else (gimbalref11_Tight.l0 k x1 x8 (wrap64 (2 * x7)))
def gimbalref11_Tight.l2 : Nat → Int → List Int → Int → List Int → Int → Int → Option (List Int × Bool)
 | 0, _, _, _, _, _, _ => none
 | k + 1, x1, x6, x7, x8, x9, x10 => if x10 < x1 then (if 0 ≤ (wrap64 ((wrap64 (x9 * x1)) + x10)) then (if (wrap64 ((wrap64 (x9 * x1)) + x10)) < (x6.length : Int) then (gimbalref11_Tight.l3 k x1 x6 x7 x8 x9 x10 (rd x6 (wrap64 ((wrap64 (x9 * x1)) + x10))) 0) else (none)) else (none)) else (if 0 ≤ (wrap64 ((wrap64 (x9 * x1)) + x9)) then (if (wrap64 ((wrap64 (x9 * x1)) + x9)) < (x8.length : Int) then (if (rd x8 (wrap64 ((wrap64 (x9 * x1)) + x9))) < 0 then (some (([] : List Int), false)) else (gimbalref11_Tight.l1 k x1 x6 x7 x8 (wrap64 (x9 + 1)))) else (none)) else (none))
def gimbalref11_Tight.l3 : Nat → Int → List Int → Int → List Int → Int → Int → Int → Int → Option (List Int × Bool)
 | 0, _, _, _, _, _, _, _, _ => none
 | k + 1, x1, x6, x7, x8, x9, x10, x11, x12 => if x12 < x1 then (if 0 ≤ (wrap64 ((wrap64 (x9 * x1)) + x12)) then (if (wrap64 ((wrap64 (x9 * x1)) + x12)) < (x6.length : Int) then (if 0 ≤ (wrap64 ((wrap64 (x12 * x1)) + x10)) then (if (wrap64 ((wrap64 (x12 * x1)) + x10)) < (x6.length : Int) then ((gimbalref11_plus.f (rd x6 (wrap64 ((wrap64 (x9 * x1)) + x12))) (rd x6 (wrap64 ((wrap64 (x12 * x1)) + x10)))).bind fun t241 => (gimbalref11_Tight.l3 k x1 x6 x7 x8 x9 x10 (mn x11 t241) (wrap64 (x12 + 1)))) else (none)) else (none)) else (none)) else (none)) else (if 0 ≤ (wrap64 ((wrap64 (x9 * x1)) + x10)) then (if (wrap64 ((wrap64 (x9 * x1)) + x10)) < (x8.length : Int) then (gimbalref11_Tight.l2 k x1 x6 x7 (x8.set ((wrap64 ((wrap64 (x9 * x1)) + x10)) : Int).toNat x11) x9 (wrap64 (x10 + 1))) else (none)) else (none))
def gimbalref11_Tight.l4 : Nat → Int → List Int → Int → Option (List Int × Bool)
 | 0, _, _, _ => none
 | k + 1, x1, x6, x13 => if x13 < x1 then ((gimbalref11_bar.f x13).bind fun t243 => (if 0 ≤ (wrap64 ((wrap64 (x13 * x1)) + t243)) then (if (wrap64 ((wrap64 (x13 * x1)) + t243)) < (x6.length : Int) then (if (rd x6 (wrap64 ((wrap64 (x13 * x1)) + t243))) = 4611686018427387904 then (gimbalref11_Tight.l4 k x1 x6 (wrap64 (x13 + 1))) else ((gimbalref11_halved.f (rd x6 (wrap64 ((wrap64 (x13 * x1)) + t243)))).bind fun t246 => (gimbalref11_Tight.l4 k x1 (x6.set ((wrap64 ((wrap64 (x13 * x1)) + t243)) : Int).toNat (wrap64 (2 * t246))) (wrap64 (x13 + 1))))) else (none)) else (none))) else (gimbalref11_Tight.l5 k x1 x6 0)
def gimbalref11_Tight.l5 : Nat → Int → List Int → Int → Option (List Int × Bool)
 | 0, _, _, _ => none
 | k + 1, x1, x6, x15 => if x15 < x1 then ((gimbalref11_bar.f x15).bind fun t248 => (if 0 ≤ (wrap64 ((wrap64 (x15 * x1)) + t248)) then (if (wrap64 ((wrap64 (x15 * x1)) + t248)) < (x6.length : Int) then ((gimbalref11_bar.f x15).bind fun t250 => (if 0 ≤ (wrap64 ((wrap64 (t250 * x1)) + x15)) then (if (wrap64 ((wrap64 (t250 * x1)) + x15)) < (x6.length : Int) then ((gimbalref11_plus.f (rd x6 (wrap64 ((wrap64 (x15 * x1)) + t248))) (rd x6 (wrap64 ((wrap64 (t250 * x1)) + x15)))).bind fun t252 => (if t252 < 0 then (some (([] : List Int), false)) else (gimbalref11_Tight.l5 k x1 x6 (wrap64 (x15 + 1))))) else (none)) else (none))) else (none)) else (none))) else (if 0 ≤ (wrap64 (x1 * x1)) then (if (wrap64 (x1 * x1) : Int).toNat ≤ 35184372088832 then (gimbalref11_Tight.l6 k x1 x6 (List.replicate (wrap64 (x1 * x1) : Int).toNat 0) 0) else (none)) else (none))
def gimbalref11_Tight.l6 : Nat → Int → List Int → List Int → Int → Option (List Int × Bool)
 | 0, _, _, _, _ => none
 | k + 1, x1, x6, x16, x17 => if x17 < x1 then (gimbalref11_Tight.l7 k x1 x6 x16 x17 0) else (some (x16, true))
def gimbalref11_Tight.l7 : Nat → Int → List Int → List Int → Int → Int → Option (List Int × Bool)
 | 0, _, _, _, _, _ => none
 | k + 1, x1, x6, x16, x17, x18 => if x18 < x1 then (if 0 ≤ (wrap64 ((wrap64 (x17 * x1)) + x18)) then (if (wrap64 ((wrap64 (x17 * x1)) + x18)) < (x6.length : Int) then (if (wrap64 ((wrap64 (x17 * x1)) + x18)) < (x16.length : Int) then ((some (x16.set ((wrap64 ((wrap64 (x17 * x1)) + x18)) : Int).toNat (rd x6 (wrap64 ((wrap64 (x17 * x1)) + x18))) : List Int)).bind fun y257 => ((gimbalref11_bar.f x17).bind fun t258 => (if 0 ≤ (wrap64 ((wrap64 (x17 * x1)) + t258)) then (if (wrap64 ((wrap64 (x17 * x1)) + t258)) < (x6.length : Int) then ((gimbalref11_bar.f x18).bind fun t260 => (if 0 ≤ (wrap64 ((wrap64 (t260 * x1)) + x18)) then (if (wrap64 ((wrap64 (t260 * x1)) + x18)) < (x6.length : Int) then ((gimbalref11_plus.f (rd x6 (wrap64 ((wrap64 (x17 * x1)) + t258))) (rd x6 (wrap64 ((wrap64 (t260 * x1)) + x18)))).bind fun t262 => (if t262 = 4611686018427387904 then (gimbalref11_Tight.l7 k x1 x6 y257 x17 (wrap64 (x18 + 1))) else ((gimbalref11_halved.f t262).bind fun t264 => (gimbalref11_Tight.l7 k x1 x6 (y257.set ((wrap64 ((wrap64 (x17 * x1)) + x18)) : Int).toNat (mn (rd y257 (wrap64 ((wrap64 (x17 * x1)) + x18))) t264)) x17 (wrap64 (x18 + 1)))))) else (none)) else (none))) else (none)) else (none)))) else (none)) else (none)) else (none)) else (gimbalref11_Tight.l6 k x1 x6 x16 (wrap64 (x17 + 1)))
end
def gimbalref11_Tight.f (k : Nat) (l0 : List Int) (a1 : Int) : Option (List Int × Bool) := if ([] : List Int).length + l0.length < 17592186044416 then (gimbalref11_Tight.l0 k a1 (([] : List Int) ++ l0) 1) else (none)
theorem gimbalref11_Tight.mono_l : ∀ k, (∀ y0 y1 y2, LeO (gimbalref11_Tight.l0 k y0 y1 y2) (gimbalref11_Tight.l0 (k + 1) y0 y1 y2)) ∧ (∀ y0 y1 y2 y3 y4, LeO (gimbalref11_Tight.l1 k y0 y1 y2 y3 y4) (gimbalref11_Tight.l1 (k + 1) y0 y1 y2 y3 y4)) ∧ (∀ y0 y1 y2 y3 y4 y5, LeO (gimbalref11_Tight.l2 k y0 y1 y2 y3 y4 y5) (gimbalref11_Tight.l2 (k + 1) y0 y1 y2 y3 y4 y5)) ∧ (∀ y0 y1 y2 y3 y4 y5 y6 y7, LeO (gimbalref11_Tight.l3 k y0 y1 y2 y3 y4 y5 y6 y7) (gimbalref11_Tight.l3 (k + 1) y0 y1 y2 y3 y4 y5 y6 y7)) ∧ (∀ y0 y1 y2, LeO (gimbalref11_Tight.l4 k y0 y1 y2) (gimbalref11_Tight.l4 (k + 1) y0 y1 y2)) ∧ (∀ y0 y1 y2, LeO (gimbalref11_Tight.l5 k y0 y1 y2) (gimbalref11_Tight.l5 (k + 1) y0 y1 y2)) ∧ (∀ y0 y1 y2 y3, LeO (gimbalref11_Tight.l6 k y0 y1 y2 y3) (gimbalref11_Tight.l6 (k + 1) y0 y1 y2 y3)) ∧ (∀ y0 y1 y2 y3 y4, LeO (gimbalref11_Tight.l7 k y0 y1 y2 y3 y4) (gimbalref11_Tight.l7 (k + 1) y0 y1 y2 y3 y4))
 | 0 => ⟨fun _ _ _ r h => by simp [gimbalref11_Tight.l0] at h, fun _ _ _ _ _ r h => by simp [gimbalref11_Tight.l1] at h, fun _ _ _ _ _ _ r h => by simp [gimbalref11_Tight.l2] at h, fun _ _ _ _ _ _ _ _ r h => by simp [gimbalref11_Tight.l3] at h, fun _ _ _ r h => by simp [gimbalref11_Tight.l4] at h, fun _ _ _ r h => by simp [gimbalref11_Tight.l5] at h, fun _ _ _ _ r h => by simp [gimbalref11_Tight.l6] at h, fun _ _ _ _ _ r h => by simp [gimbalref11_Tight.l7] at h⟩
 | k + 1 => by
  obtain ⟨ih0, ih1, ih2, ih3, ih4, ih5, ih6, ih7⟩ := gimbalref11_Tight.mono_l k
  refine ⟨?_, ?_, ?_, ?_, ?_, ?_, ?_, ?_⟩
  ·
   intro y0 y1 y2
   unfold gimbalref11_Tight.l0
   repeat' first
   | (with_reducible exact ih0 _ _ _)
   | (with_reducible exact ih1 _ _ _ _ _)
   | (with_reducible exact ih2 _ _ _ _ _ _)
   | (with_reducible exact ih3 _ _ _ _ _ _ _ _)
   | (with_reducible exact ih4 _ _ _)
   | (with_reducible exact ih5 _ _ _)
   | (with_reducible exact ih6 _ _ _ _)
   | (with_reducible exact ih7 _ _ _ _ _)
   | (with_reducible exact LeO.refl _)
   | (with_reducible exact LeO.none _)
   | (with_reducible refine LeO.ite ?_ ?_)
   | (with_reducible refine LeO.bind ?_ (fun _ => ?_))
   | exact ih0 _ _ _
   | exact ih1 _ _ _ _ _
   | exact ih2 _ _ _ _ _ _
   | exact ih3 _ _ _ _ _ _ _ _
   | exact ih4 _ _ _
   | exact ih5 _ _ _
   | exact ih6 _ _ _ _
   | exact ih7 _ _ _ _ _
   | exact LeO.none _
   | refine LeO.ite ?_ ?_
   | refine LeO.bind ?_ (fun _ => ?_)
  ·
   intro y0 y1 y2 y3 y4
   unfold gimbalref11_Tight.l1
   repeat' first
   | (with_reducible exact ih0 _ _ _)
   | (with_reducible exact ih1 _ _ _ _ _)
   | (with_reducible exact ih2 _ _ _ _ _ _)
   | (with_reducible exact ih3 _ _ _ _ _ _ _ _)
   | (with_reducible exact ih4 _ _ _)
   | (with_reducible exact ih5 _ _ _)
   | (with_reducible exact ih6 _ _ _ _)
   | (with_reducible exact ih7 _ _ _ _ _)
   | (with_reducible exact LeO.refl _)
   | (with_reducible exact LeO.none _)
   | (with_reducible refine LeO.ite ?_ ?_)
   | (with_reducible refine LeO.bind ?_ (fun _ => ?_))
   | exact ih0 _ _ _
   | exact ih1 _ _ _ _ _
   | exact ih2 _ _ _ _ _ _
   | exact ih3 _ _ _ _ _ _ _ _
   | exact ih4 _ _ _
   | exact ih5 _ _ _
   | exact ih6 _ _ _ _
   | exact ih7 _ _ _ _ _
   | exact LeO.none _
   | refine LeO.ite ?_ ?_
   | refine LeO.bind ?_ (fun _ => ?_)
  ·
   intro y0 y1 y2 y3 y4 y5
   unfold gimbalref11_Tight.l2
   repeat' first
   | (with_reducible exact ih0 _ _ _)
   | (with_reducible exact ih1 _ _ _ _ _)
   | (with_reducible exact ih2 _ _ _ _ _ _)
   | (with_reducible exact ih3 _ _ _ _ _ _ _ _)
   | (with_reducible exact ih4 _ _ _)
   | (with_reducible exact ih5 _ _ _)
   | (with_reducible exact ih6 _ _ _ _)
   | (with_reducible exact ih7 _ _ _ _ _)
   | (with_reducible exact LeO.refl _)
   | (with_reducible exact LeO.none _)
   | (with_reducible refine LeO.ite ?_ ?_)
   | (with_reducible refine LeO.bind ?_ (fun _ => ?_))
   | exact ih0 _ _ _
   | exact ih1 _ _ _ _ _
   | exact ih2 _ _ _ _ _ _
   | exact ih3 _ _ _ _ _ _ _ _
   | exact ih4 _ _ _
   | exact ih5 _ _ _
   | exact ih6 _ _ _ _
   | exact ih7 _ _ _ _ _
   | exact LeO.none _
   | refine LeO.ite ?_ ?_
   | refine LeO.bind ?_ (fun _ => ?_)
  ·
   intro y0 y1 y2 y3 y4 y5 y6 y7
   unfold gimbalref11_Tight.l3
   repeat' first
   | (with_reducible exact ih0 _ _ _)
   | (with_reducible exact ih1 _ _ _ _ _)
   | (with_reducible exact ih2 _ _ _ _ _ _)
   | (with_reducible exact ih3 _ _ _ _ _ _ _ _)
   | (with_reducible exact ih4 _ _ _)
   | (with_reducible exact ih5 _ _ _)
   | (with_reducible exact ih6 _ _ _ _)
   | (with_reducible exact ih7 _ _ _ _ _)
   | (with_reducible exact LeO.refl _)
   | (with_reducible exact LeO.none _)
   | (with_reducible refine LeO.ite ?_ ?_)
   | (with_reducible refine LeO.bind ?_ (fun _ => ?_))
   | exact ih0 _ _ _
   | exact ih1 _ _ _ _ _
   | exact ih2 _ _ _ _ _ _
   | exact ih3 _ _ _ _ _ _ _ _
   | exact ih4 _ _ _
   | exact ih5 _ _ _
   | exact ih6 _ _ _ _
   | exact ih7 _ _ _ _ _
   | exact LeO.none _
   | refine LeO.ite ?_ ?_
   | refine LeO.bind ?_ (fun _ => ?_)
  ·
   intro y0 y1 y2
   unfold gimbalref11_Tight.l4
   repeat' first
   | (with_reducible exact ih0 _ _ _)
   | (with_reducible exact ih1 _ _ _ _ _)
   | (with_reducible exact ih2 _ _ _ _ _ _)
   | (with_reducible exact ih3 _ _ _ _ _ _ _ _)
   | (with_reducible exact ih4 _ _ _)
   | (with_reducible exact ih5 _ _ _)
   | (with_reducible exact ih6 _ _ _ _)
   | (with_reducible exact ih7 _ _ _ _ _)
   | (with_reducible exact LeO.refl _)
   | (with_reducible exact LeO.none _)
   | (with_reducible refine LeO.ite ?_ ?_)
   | (with_reducible refine LeO.bind ?_ (fun _ => ?_))
   | exact ih0 _ _ _
   | exact ih1 _ _ _ _ _
   | exact ih2 _ _ _ _ _ _
   | exact ih3 _ _ _ _ _ _ _ _
   | exact ih4 _ _ _
   | exact ih5 _ _ _
   | exact ih6 _ _ _ _
   | exact ih7 _ _ _ _ _
   | exact LeO.none _
   | refine LeO.ite ?_ ?_
   | refine LeO.bind ?_ (fun _ => ?_)
  ·
   intro y0 y1 y2
   unfold gimbalref11_Tight.l5
   repeat' first
   | (with_reducible exact ih0 _ _ _)
   | (with_reducible exact ih1 _ _ _ _ _)
   | (with_reducible exact ih2 _ _ _ _ _ _)
   | (with_reducible exact ih3 _ _ _ _ _ _ _ _)
   | (with_reducible exact ih4 _ _ _)
   | (with_reducible exact ih5 _ _ _)
   | (with_reducible exact ih6 _ _ _ _)
   | (with_reducible exact ih7 _ _ _ _ _)
   | (with_reducible exact LeO.refl _)
   | (with_reducible exact LeO.none _)
   | (with_reducible refine LeO.ite ?_ ?_)
   | (with_reducible refine LeO.bind ?_ (fun _ => ?_))
   | exact ih0 _ _ _
   | exact ih1 _ _ _ _ _
   | exact ih2 _ _ _ _ _ _
   | exact ih3 _ _ _ _ _ _ _ _
   | exact ih4 _ _ _
   | exact ih5 _ _ _
   | exact ih6 _ _ _ _
   | exact ih7 _ _ _ _ _
   | exact LeO.none _
   | refine LeO.ite ?_ ?_
   | refine LeO.bind ?_ (fun _ => ?_)
  ·
   intro y0 y1 y2 y3
   unfold gimbalref11_Tight.l6
   repeat' first
   | (with_reducible exact ih0 _ _ _)
   | (with_reducible exact ih1 _ _ _ _ _)
   | (with_reducible exact ih2 _ _ _ _ _ _)
   | (with_reducible exact ih3 _ _ _ _ _ _ _ _)
   | (with_reducible exact ih4 _ _ _)
   | (with_reducible exact ih5 _ _ _)
   | (with_reducible exact ih6 _ _ _ _)
   | (with_reducible exact ih7 _ _ _ _ _)
   | (with_reducible exact LeO.refl _)
   | (with_reducible exact LeO.none _)
   | (with_reducible refine LeO.ite ?_ ?_)
   | (with_reducible refine LeO.bind ?_ (fun _ => ?_))
   | exact ih0 _ _ _
   | exact ih1 _ _ _ _ _
   | exact ih2 _ _ _ _ _ _
   | exact ih3 _ _ _ _ _ _ _ _
   | exact ih4 _ _ _
   | exact ih5 _ _ _
   | exact ih6 _ _ _ _
   | exact ih7 _ _ _ _ _
   | exact LeO.none _
   | refine LeO.ite ?_ ?_
   | refine LeO.bind ?_ (fun _ => ?_)
  ·
   intro y0 y1 y2 y3 y4
   unfold gimbalref11_Tight.l7
   repeat' first
   | (with_reducible exact ih0 _ _ _)
   | (with_reducible exact ih1 _ _ _ _ _)
   | (with_reducible exact ih2 _ _ _ _ _ _)
   | (with_reducible exact ih3 _ _ _ _ _ _ _ _)
   | (with_reducible exact ih4 _ _ _)
   | (with_reducible exact ih5 _ _ _)
   | (with_reducible exact ih6 _ _ _ _)
   | (with_reducible exact ih7 _ _ _ _ _)
   | (with_reducible exact LeO.refl _)
   | (with_reducible exact LeO.none _)
   | (with_reducible refine LeO.ite ?_ ?_)
   | (with_reducible refine LeO.bind ?_ (fun _ => ?_))
   | exact ih0 _ _ _
   | exact ih1 _ _ _ _ _
   | exact ih2 _ _ _ _ _ _
   | exact ih3 _ _ _ _ _ _ _ _
   | exact ih4 _ _ _
   | exact ih5 _ _ _
   | exact ih6 _ _ _ _
   | exact ih7 _ _ _ _ _
   | exact LeO.none _
   | refine LeO.ite ?_ ?_
   | refine LeO.bind ?_ (fun _ => ?_)
theorem gimbalref11_Tight.mono : ∀ a0 a1 k, LeO (gimbalref11_Tight.f k a0 a1) (gimbalref11_Tight.f (k + 1) a0 a1) := by
 intro a0 a1 k
 obtain ⟨ih0, ih1, ih2, ih3, ih4, ih5, ih6, ih7⟩ := gimbalref11_Tight.mono_l k
 unfold gimbalref11_Tight.f
 repeat' first
  | (with_reducible exact ih0 _ _ _)
  | (with_reducible exact ih1 _ _ _ _ _)
  | (with_reducible exact ih2 _ _ _ _ _ _)
  | (with_reducible exact ih3 _ _ _ _ _ _ _ _)
  | (with_reducible exact ih4 _ _ _)
  | (with_reducible exact ih5 _ _ _)
  | (with_reducible exact ih6 _ _ _ _)
  | (with_reducible exact ih7 _ _ _ _ _)
  | (with_reducible exact LeO.refl _)
  | (with_reducible exact LeO.none _)
  | (with_reducible refine LeO.ite ?_ ?_)
  | (with_reducible refine LeO.bind ?_ (fun _ => ?_))
  | exact ih0 _ _ _
  | exact ih1 _ _ _ _ _
  | exact ih2 _ _ _ _ _ _
  | exact ih3 _ _ _ _ _ _ _ _
  | exact ih4 _ _ _
  | exact ih5 _ _ _
  | exact ih6 _ _ _ _
  | exact ih7 _ _ _ _ _
  | exact LeO.none _
  | refine LeO.ite ?_ ?_
  | refine LeO.bind ?_ (fun _ => ?_)
def gimbalref11_Tight.T17 : Bool × List (List Nat × List Nat) := (true, [([], []), ([], []), ([], []), ([], []), ([2, 3], [2, 3]), ([], []), ([4, 5], [4, 5]), ([1, 6], [1, 6]), ([7], [7]), ([], []), ([], []), ([], []), ([10, 11], [10, 11]), ([], []), ([12, 13], [12, 13]), ([9, 14], [9, 14]), ([15], [15]), ([8, 16], [8, 16]), ([0, 17], [0, 17]), ([18, 17, 0, 1, 2, 3, 4, 5, 6, 7, 8, 9, 10, 11, 12, 13, 14, 15, 16, 17, 18], [0, 18])])
def gimbalref11_Tight.B17 : List Nat := [0, 0, 0, 0, 12, 0, 60, 126, 254, 0, 0, 0, 3072, 0, 15360, 32256, 65024, 131070, 262143, 524287]
theorem gimbalref11_Tight.tab17 : rtab .any (opsOf Try.f59 17) = gimbalref11_Tight.T17 := by kernel_rfl
theorem gimbalref11_Tight.bits17 : waitsOk gimbalref11_Tight.T17.2 gimbalref11_Tight.B17 = true := by kernel_rfl
def gimbalref11_Tight.T31 : Bool × List (List Nat × List Nat) := (true, [([], []), ([], []), ([], []), ([1, 2], [1, 2]), ([], []), ([4], [4]), ([3, 5], [3, 5]), ([0, 6], [0, 6]), ([7], [7]), ([], []), ([], []), ([10, 5], [10]), ([], []), ([11, 12], [11, 12]), ([], []), ([13, 14], [13, 14]), ([9, 15], [9, 15]), ([16], [16]), ([8, 17, 11], [8, 17]), ([18], [18])])
def gimbalref11_Tight.B31 : List Nat := [0, 0, 0, 6, 0, 16, 62, 127, 255, 0, 0, 1072, 0, 7216, 0, 31792, 65072, 130608, 262143, 524287]
theorem gimbalref11_Tight.tab31 : rtab .any (opsOf Try.f59 31) = gimbalref11_Tight.T31 := by kernel_rfl
theorem gimbalref11_Tight.bits31 : waitsOk gimbalref11_Tight.T31.2 gimbalref11_Tight.B31 = true := by kernel_rfl
def gimbalref11_Tight.T41 : Bool × List (List Nat × List Nat) := (true, [([], []), ([], []), ([], []), ([1, 2], [1, 2]), ([], []), ([4], [4]), ([3, 5], [3, 5]), ([0, 6], [0, 6]), ([7], [7]), ([], []), ([], []), ([10, 5], [10]), ([], []), ([11, 12], [11, 12]), ([], []), ([13, 14], [13, 14]), ([9, 15], [9, 15]), ([16], [16]), ([8, 17, 11], [8, 17]), ([18, 18, 0, 1, 2, 3, 4, 5, 6, 7, 8, 9, 10, 11, 12, 13, 14, 15, 16, 17, 18], [18])])
def gimbalref11_Tight.B41 : List Nat := [0, 0, 0, 6, 0, 16, 62, 127, 255, 0, 0, 1072, 0, 7216, 0, 31792, 65072, 130608, 262143, 524287]
theorem gimbalref11_Tight.tab41 : rtab .any (opsOf Try.f59 41) = gimbalref11_Tight.T41 := by kernel_rfl
theorem gimbalref11_Tight.bits41 : waitsOk gimbalref11_Tight.T41.2 gimbalref11_Tight.B41 = true := by kernel_rfl
def gimbalref11_Tight.T43 : Bool × List (List Nat × List Nat) := (true, [([], []), ([], []), ([], []), ([1, 2], [1, 2]), ([], []), ([3, 4], [3, 4]), ([], []), ([], []), ([], []), ([7, 8], [7, 8]), ([], []), ([9, 10], [9, 10]), ([6, 11], [6, 11]), ([12], [12]), ([], []), ([14], [14]), ([13, 15], [13, 15]), ([0, 5, 0, 1, 2, 3, 4, 5, 6, 7, 8, 9, 10, 11, 12, 13, 14, 15, 16], [0, 5]), ([17, 16, 15, 0, 1, 2, 3, 4, 5, 6, 7, 8, 9, 10, 11, 12, 13, 14, 15, 16], [16, 17])])
def gimbalref11_Tight.B43 : List Nat := [0, 0, 0, 6, 0, 30, 0, 0, 0, 384, 0, 1920, 4032, 8128, 0, 16384, 65472, 131071, 262143]
theorem gimbalref11_Tight.tab43 : rtab .any (opsOf Try.f59 43) = gimbalref11_Tight.T43 := by kernel_rfl
theorem gimbalref11_Tight.bits43 : waitsOk gimbalref11_Tight.T43.2 gimbalref11_Tight.B43 = true := by kernel_rfl
set_option maxHeartbeats 8000000 in
set_option maxRecDepth 100000 in
theorem gimbalref11_Tight.calls (k : Nat) (A0 : Option Addr) (c0 : Nat) (l0 : List Int) (a1 : Int) (r1 : List Int) (r2 : Bool) (w : World) (hr0 : Kd.C (Kd.int .i64) w A0 l0.length l0) (hc0 : l0.length ≤ c0) (h : gimbalref11_Tight.f k l0 a1 = some (r1, r2)) :
 Calls Try.prog 59 #[.slice A0 l0.length c0, .int .i64 a1] w fun e w' => ∃ v0_ : Value, e = .returned (.tuple #[v0_, .bool r2]) ∧ Kd.R (Kd.int .i64) 2 w' w.heap.size (fun _ => True) v0_ r1 ∧ Below w.heap.size w w' := by
 have HR0 := Aside0.mk hr0
 have HC0 := Aside0.mk hc0
 clear hr0 hc0
 have HB := Aside0.mk (Below.refl w.heap.size w)
 have H : (if ([] : List Int).length + l0.length < 17592186044416 then (gimbalref11_Tight.l0 k a1 (([] : List Int) ++ l0) 1) else (none)) = some (r1, r2) := h
 clear h
 by_cases c3 : ([] : List Int).length + l0.length < 17592186044416
 ·
  rw [if_pos c3] at H
  have LMc3 := Aside0.mk c3
  clear c3
  obtain ⟨y231, hy231⟩ : ∃ y_ : List Int, y_ = (([] : List Int) ++ l0) := ⟨_, rfl⟩
  replace H : (gimbalref11_Tight.l0 k a1 y231 1) = some (r1, r2) := by first | (rw [hy231]; with_reducible exact H) | (have H2_ := (Option.bind_some _ _).symm.trans H; rw [hy231]; with_reducible exact H2_) | (have H2_ := (Option.bind_some _ _).symm.trans H; with_reducible exact H2_) | with_reducible exact H | (rw [hy231]; exact H) | exact H
  have Ny231 := Aside0.mk hy231
  clear hy231
  have H' := Aside0.mk H
  clear H
  go_enter Try.func59, Try.ntmps59
  go_wp2_with ((with_reducible refine gate_builtin (b := .append) (xs := #[.tmp 20, .tmp 21]) rfl ?_); at_builtin; refine Kd.R_append_rows (Kd.int .i64) (w0 := w) w.heap.size rfl (.tmp 20) (.tmp 21) 23 2 (.int .i64 0) 8 rfl Try.underlying23 info2 rfl (by decide) (by omega) (.slice none 0 0) ([] : List Int) l0 _ _ _ (fun _ => True) (fun _ => False) rfl rfl ?aO ?aR (fun _ _ h => h) (fun _ h => h.elim) ?aF ?aB ?aS ?aL ?_; (case aR => repeat (first | exact HR0.out | (with_reducible refine Kd.C_alloc ?_ _) | (with_reducible refine Kd.C_drewN ?_ _) | (with_reducible refine Kd.C_drew ?_))); (case aB => exact (vW HB.out)); (case aF => exact (fun _ _ => trivial)); (case aO => exact ((Kd.R_nil _ _ _ _ (fun _ => True)))); (case aS => exact (below_size (vW HB.out))); (case aL => have := LMc3.out; omega); intro v232 w4 ho hb hg hat; rw [← Ny231.out] at ho; replace HB := Aside0.mk (hb); have HO233 := Aside0.mk (ho); clear ho hb hg hat)
  go_loopg [6, 7] k (fun kq v6 v7 w' => ∃ (x6_1 : List Int) (x7_1 : Int), v7 = .int .i64 x7_1 ∧ Aside0 (gimbalref11_Tight.l0 kq a1 x6_1 x7_1 = some (r1, r2)) ∧ Aside0 (kq ≤ k) ∧ Aside0 (Kd.R (Kd.int .i64) 2 w' w.heap.size (fun _ => True) v6 x6_1) ∧ Aside0 (Below w.heap.size w w'))
  case atStart => exact ⟨(y231), (1), (by first | rfl | (simp; done) | (simp [*]; done)), H', ⟨Nat.le_refl _⟩, ⟨vR HO233.out⟩, ⟨vW HB.out⟩⟩
  case round =>
   clear H'
   obtain ⟨x6_1, x7_1, rfl, HA, HK1, HO_6, HB⟩ := hrel
   cases gk with
   | zero => exact absurd HA.out (by simp [gimbalref11_Tight.l0])
   | succ k1 =>
    have H := HA.out
    clear HA
    simp only [gimbalref11_Tight.l0] at H
    by_cases c5 : x7_1 ≤ (wrap64 (2 * a1))
    ·
     rw [if_pos c5] at H
     have c5b0 : decide (x7_1 ≤ (wrap64 (2 * a1))) = true := decide_eq_true c5
     clear c5
     obtain ⟨ji6, hji6⟩ : ∃ j_ : Int, (wrap64 (a1 * a1)) = j_ := ⟨_, rfl⟩
     replace H : (if 0 ≤ (ji6) then (if (ji6 : Int).toNat ≤ 35184372088832 then (gimbalref11_Tight.l1 k1 a1 x6_1 x7_1 (List.replicate (ji6 : Int).toNat 0) 0) else (none)) else (none)) = some (r1, r2) := by first | (rw [hji6] at H; exact H) | (simp only [hji6] at H ⊢; exact H)
     have hji6w : (IntKind.i64.wrap (a1 * a1)) = ji6 := (i64_w _).trans hji6
     by_cases c7 : 0 ≤ (ji6)
     ·
      rw [if_pos c7] at H
      have c7b0 := eq_true c7
      have c7b1 : decide (0 ≤ (ji6)) = true := decide_eq_true c7
      clear c7
      by_cases c8 : (ji6 : Int).toNat ≤ 35184372088832
      ·
       rw [if_pos c8] at H
       have c8b0 := eq_true c8
       have c8b1 : decide ((ji6 : Int).toNat ≤ 35184372088832) = true := decide_eq_true c8
       clear c8
       obtain ⟨y234, hy234⟩ : ∃ y_ : List Int, y_ = (List.replicate (ji6 : Int).toNat 0) := ⟨_, rfl⟩
       replace H : (gimbalref11_Tight.l1 k1 a1 x6_1 x7_1 y234 0) = some (r1, r2) := by first | (rw [hy234]; with_reducible exact H) | (have H2_ := (Option.bind_some _ _).symm.trans H; rw [hy234]; with_reducible exact H2_) | (have H2_ := (Option.bind_some _ _).symm.trans H; with_reducible exact H2_) | with_reducible exact H | (rw [hy234]; exact H) | exact H
       have Ny234 := Aside0.mk hy234
       clear hy234
       have H' := Aside0.mk H
       clear H
       go_wp2_with ((with_reducible refine gate_dst (N := 32) rfl ?_); refine Kd.R_make (Kd.int .i64) _ 2 rfl (N := 32) rfl 23 _ _ rfl ji6 rfl rfl Try.underlying23 (.int .i64 0) 8 info2 rfl (by decide) (by omega) 0 (ok := fun _ => True) (okp := fun _ => True) rfl (fun _ hk => hk) trivial (of_decide_eq_true (by first | (with_reducible assumption) | assumption)) (Nat.le_trans (Nat.mul_le_mul_right _ (of_decide_eq_true (by first | (with_reducible assumption) | assumption) : ji6.toNat ≤ 35184372088832)) (by omega)) (Below.refl _ _) (Nat.le_refl _) ?_; intro v235 w9 ho10 hb hg_ hnew_; clear hg_ hnew_; (first | rw [← Ny234.out] at ho10 | (simp only [Int.reduceToNat] at ho10; rw [← Ny234.out] at ho10)); have HO236 := Aside0.mk (Kd.R_lower (Kd.R_new' ho10 (Kd.R_lt (vR HO_6.out))) (below_size (vW HB.out))); replace HO_6 := Aside0.mk (Kd.R_elder' (vR HO_6.out) (Kd.R_base ho10) hb); replace HB := vWs HB hb; clear hb ho10)
       go_loopg [9] k1 (fun kq v9 w' => ∃ (x8_2 : List Int) (x9_2 : Int), v9 = .int .i64 x9_2 ∧ Aside0 (gimbalref11_Tight.l1 kq a1 x6_1 x7_1 x8_2 x9_2 = some (r1, r2)) ∧ Aside0 (kq ≤ k1) ∧ Aside0 (Kd.R (Kd.int .i64) 2 w' w.heap.size (fun k_ => some k_ ≠ (v235 : Value).ownBlock) u6 x6_1) ∧ Aside0 (Kd.R (Kd.int .i64) 2 w' w.heap.size (fun k_ => some k_ ≠ (u6 : Value).ownBlock) v235 x8_2) ∧ Aside0 (Below w.heap.size w w'))
       case atStart => exact ⟨(y234), (0), (by first | rfl | (simp; done) | (simp [*]; done)), H', ⟨Nat.le_refl _⟩, ⟨by (with_reducible repeat (first | apply Kd.R_alloc | apply Kd.R_drewN | apply Kd.R_drew)); exact Kd.R_mono HO_6.out (fun _ hk => hk.2)⟩, ⟨by (with_reducible repeat (first | apply Kd.R_alloc | apply Kd.R_drewN | apply Kd.R_drew)); exact Kd.R_mono HO236.out (fun _ hk => hk.2)⟩, ⟨vW HB.out⟩⟩
       case round =>
        clear H'
        try clear c5b0
        try clear c7b0
        try clear c7b1
        try clear c8b0
        try clear c8b1
        obtain ⟨x8_2, x9_2, rfl, HA, HK2, HO_6, HO_8, HB⟩ := hrel
        cases gk with
        | zero => exact absurd HA.out (by simp [gimbalref11_Tight.l1])
        | succ k2 =>
         have H := HA.out
         clear HA
         simp only [gimbalref11_Tight.l1] at H
         by_cases c11 : x9_2 < a1
         ·
          rw [if_pos c11] at H
          have c11b0 : decide (x9_2 < a1) = true := decide_eq_true c11
          clear c11
          have H' := Aside0.mk H
          clear H
          go_wp2
          go_loopg [10] k2 (fun kq v10 w' => ∃ (x8_3 : List Int) (x10_3 : Int), v10 = .int .i64 x10_3 ∧ Aside0 (gimbalref11_Tight.l2 kq a1 x6_1 x7_1 x8_3 x9_2 x10_3 = some (r1, r2)) ∧ Aside0 (kq ≤ k2) ∧ Aside0 (Kd.R (Kd.int .i64) 2 w' w.heap.size (fun k_ => some k_ ≠ (v235 : Value).ownBlock) u6 x6_1) ∧ Aside0 (Kd.R (Kd.int .i64) 2 w' w.heap.size (fun k_ => some k_ ≠ (u6 : Value).ownBlock) v235 x8_3) ∧ Aside0 (Below w.heap.size w w'))
          case atStart => exact ⟨(x8_2), (0), (by first | rfl | (simp; done) | (simp [*]; done)), H', ⟨Nat.le_refl _⟩, ⟨vR HO_6.out⟩, ⟨vR HO_8.out⟩, ⟨vW HB.out⟩⟩
          case round =>
           clear H'
           try clear c11b0
           obtain ⟨x8_3, x10_3, rfl, HA, HK3, HO_6, HO_8, HB⟩ := hrel
           cases gk with
           | zero => exact absurd HA.out (by simp [gimbalref11_Tight.l2])
           | succ k3 =>
            have H := HA.out
            clear HA
            simp only [gimbalref11_Tight.l2] at H
            by_cases c12 : x10_3 < a1
            ·
             rw [if_pos c12] at H
             have c12b0 : decide (x10_3 < a1) = true := decide_eq_true c12
             clear c12
             obtain ⟨ji13, hji13⟩ : ∃ j_ : Int, (wrap64 ((wrap64 (x9_2 * a1)) + x10_3)) = j_ := ⟨_, rfl⟩
             replace H : (if 0 ≤ (ji13) then (if (ji13) < (x6_1.length : Int) then (gimbalref11_Tight.l3 k3 a1 x6_1 x7_1 x8_3 x9_2 x10_3 (rd x6_1 (ji13)) 0) else (none)) else (none)) = some (r1, r2) := by first | (rw [hji13] at H; exact H) | (simp only [hji13] at H ⊢; exact H)
             have hji13w : (IntKind.i64.wrap ((wrap64 (x9_2 * a1)) + x10_3)) = ji13 := (i64_w _).trans hji13
             by_cases c14 : 0 ≤ (ji13)
             ·
              rw [if_pos c14] at H
              have c14b0 : decide (0 ≤ (ji13)) = true := decide_eq_true c14
              clear c14
              by_cases c15 : (ji13) < (x6_1.length : Int)
              ·
               rw [if_pos c15] at H
               have c15b0 : decide ((ji13) < (x6_1.length : Int)) = true := decide_eq_true c15
               clear c15
               have H' := Aside0.mk H
               clear H
               obtain ⟨Ao16, co16, eo16⟩ := Kd.R_slice HO_6.out
               subst eo16
               have p238 : 0 ≤ ((ji13) : Int) := of_decide_eq_true (by first | (with_reducible assumption) | assumption)
               have q238 : (ji13) < (x6_1.length : Int) := of_decide_eq_true (by first | (with_reducible assumption) | assumption)
               (try (obtain ⟨AoZ, coZ, eoZ⟩ := Kd.R_slice HO_6.out; subst eoZ))
               obtain ⟨ad238, e238, hx238_0⟩ := Kd.at_int (Kd.R_reads' HO_6.out).2.2 (ji13) p238 q238
               cases e238
               replace p238 := eq_true p238
               replace q238 := eq_true q238
               go_wp2
               go_loopg [11, 12] k3 (fun kq v11 v12 w' => ∃ (x11_4 : Int) (x12_4 : Int), v11 = .int .i64 x11_4 ∧ v12 = .int .i64 x12_4 ∧ Aside0 (gimbalref11_Tight.l3 kq a1 x6_1 x7_1 x8_3 x9_2 x10_3 x11_4 x12_4 = some (r1, r2)) ∧ Aside0 (kq ≤ k3) ∧ Aside0 (Kd.R (Kd.int .i64) 2 w' w.heap.size (fun k_ => some k_ ≠ (v235 : Value).ownBlock) (.slice (some ad238) x6_1.length co16) x6_1) ∧ Aside0 (Kd.R (Kd.int .i64) 2 w' w.heap.size (fun k_ => some k_ ≠ ((.slice (some ad238) x6_1.length co16) : Value).ownBlock) v235 x8_3) ∧ Aside0 (Below w.heap.size w w'))
               case atStart => exact ⟨(rd x6_1 (ji13)), (0), (by first | rfl | (simp; done) | (simp only [← hji13] <;> (first | rfl | simp)) | (simp [*]; done)), (by first | rfl | (simp; done) | (simp [*]; done)), H', ⟨Nat.le_refl _⟩, ⟨vR HO_6.out⟩, ⟨vR HO_8.out⟩, ⟨vW HB.out⟩⟩
               case round =>
                clear H'
                try clear c12b0
                try clear c14b0
                try clear c15b0
                try clear hx238_0
                try clear p238
                try clear q238
                obtain ⟨x11_4, x12_4, rfl, rfl, HA, HK4, HO_6, HO_8, HB⟩ := hrel
                cases gk with
                | zero => exact absurd HA.out (by simp [gimbalref11_Tight.l3])
                | succ k4 =>
                 have H := HA.out
                 clear HA
                 simp only [gimbalref11_Tight.l3] at H
                 by_cases c17 : x12_4 < a1
                 ·
                  rw [if_pos c17] at H
                  have c17b0 : decide (x12_4 < a1) = true := decide_eq_true c17
                  clear c17
                  obtain ⟨ji18, hji18⟩ : ∃ j_ : Int, (wrap64 ((wrap64 (x9_2 * a1)) + x12_4)) = j_ := ⟨_, rfl⟩
                  replace H : (if 0 ≤ (ji18) then (if (ji18) < (x6_1.length : Int) then (if 0 ≤ (wrap64 ((wrap64 (x12_4 * a1)) + x10_3)) then (if (wrap64 ((wrap64 (x12_4 * a1)) + x10_3)) < (x6_1.length : Int) then ((gimbalref11_plus.f (rd x6_1 (ji18)) (rd x6_1 (wrap64 ((wrap64 (x12_4 * a1)) + x10_3)))).bind fun t241 => (gimbalref11_Tight.l3 k4 a1 x6_1 x7_1 x8_3 x9_2 x10_3 (mn x11_4 t241) (wrap64 (x12_4 + 1)))) else (none)) else (none)) else (none)) else (none)) = some (r1, r2) := by first | (rw [hji18] at H; exact H) | (simp only [hji18] at H ⊢; exact H)
                  have hji18w : (IntKind.i64.wrap ((wrap64 (x9_2 * a1)) + x12_4)) = ji18 := (i64_w _).trans hji18
                  by_cases c19 : 0 ≤ (ji18)
                  ·
                   rw [if_pos c19] at H
                   have c19b0 : decide (0 ≤ (ji18)) = true := decide_eq_true c19
                   clear c19
                   by_cases c20 : (ji18) < (x6_1.length : Int)
                   ·
                    rw [if_pos c20] at H
                    have c20b0 : decide ((ji18) < (x6_1.length : Int)) = true := decide_eq_true c20
                    clear c20
                    obtain ⟨ji21, hji21⟩ : ∃ j_ : Int, (wrap64 ((wrap64 (x12_4 * a1)) + x10_3)) = j_ := ⟨_, rfl⟩
                    replace H : (if 0 ≤ (ji21) then (if (ji21) < (x6_1.length : Int) then ((gimbalref11_plus.f (rd x6_1 (ji18)) (rd x6_1 (ji21))).bind fun t241 => (gimbalref11_Tight.l3 k4 a1 x6_1 x7_1 x8_3 x9_2 x10_3 (mn x11_4 t241) (wrap64 (x12_4 + 1)))) else (none)) else (none)) = some (r1, r2) := by first | (rw [hji21] at H; exact H) | (simp only [hji21] at H ⊢; exact H)
                    have hji21w : (IntKind.i64.wrap ((wrap64 (x12_4 * a1)) + x10_3)) = ji21 := (i64_w _).trans hji21
                    by_cases c22 : 0 ≤ (ji21)
                    ·
                     rw [if_pos c22] at H
                     have c22b0 : decide (0 ≤ (ji21)) = true := decide_eq_true c22
                     clear c22
                     by_cases c23 : (ji21) < (x6_1.length : Int)
                     ·
                      rw [if_pos c23] at H
                      have c23b0 : decide ((ji21) < (x6_1.length : Int)) = true := decide_eq_true c23
                      clear c23
                      replace H := Option.bind_eq_some_iff.mp H
                      obtain ⟨t241, A240, H⟩ := H
                      replace H : (gimbalref11_Tight.l3 k4 a1 x6_1 x7_1 x8_3 x9_2 x10_3 (mn x11_4 t241) (wrap64 (x12_4 + 1))) = some (r1, r2) := H
                      have A24 := Aside0.mk A240
                      clear A240
                      obtain ⟨ji25, hji25⟩ : ∃ j_ : Int, (mn x11_4 t241) = j_ := ⟨_, rfl⟩
                      replace H : (gimbalref11_Tight.l3 k4 a1 x6_1 x7_1 x8_3 x9_2 x10_3 ji25 (wrap64 (x12_4 + 1))) = some (r1, r2) := by first | (rw [hji25] at H; exact H) | (simp only [hji25] at H ⊢; exact H)
                      (try rw [hji25] at A24)
                      have hji25_ : (if t241 < x11_4 then t241 else x11_4) = ji25 := hji25
                      have H' := Aside0.mk H
                      clear H
                      try go_wp2
                      replace HO_6 := Aside0.mk (Kd.R_drew HO_6.out)
                      replace HO_8 := Aside0.mk (Kd.R_drew HO_8.out)
                      replace HB := Aside0.mk (below_drew1 HB.out)
                      have p239 : 0 ≤ ((ji18) : Int) := of_decide_eq_true (by first | (with_reducible assumption) | assumption)
                      have q239 : (ji18) < (x6_1.length : Int) := of_decide_eq_true (by first | (with_reducible assumption) | assumption)
                      (try (obtain ⟨AoZ, coZ, eoZ⟩ := Kd.R_slice HO_6.out; subst eoZ))
                      obtain ⟨ad239, e239, hx239_0⟩ := Kd.at_int (Kd.R_reads' HO_6.out).2.2 (ji18) p239 q239
                      obtain rfl : ad238 = ad239 := (by injection e239)
                      replace p239 := eq_true p239
                      replace q239 := eq_true q239
                      have p240 : 0 ≤ ((ji21) : Int) := of_decide_eq_true (by first | (with_reducible assumption) | assumption)
                      have q240 : (ji21) < (x6_1.length : Int) := of_decide_eq_true (by first | (with_reducible assumption) | assumption)
                      (try (obtain ⟨AoZ, coZ, eoZ⟩ := Kd.R_slice HO_6.out; subst eoZ))
                      obtain ⟨ad240, e240, hx240_0⟩ := Kd.at_int (Kd.R_reads' HO_6.out).2.2 (ji21) p240 q240
                      obtain rfl : ad238 = ad240 := (by injection e240)
                      replace p240 := eq_true p240
                      replace q240 := eq_true q240
                      refine start_ (n := 20) (S := fun w' => w'.cell? (ad238.add ((ji18)).toNat) = some (.int .i64 (rd x6_1 (ji18))) ∧ w'.cell? (ad238.add ((ji21)).toNat) = some (.int .i64 (rd x6_1 (ji21)))) (ds := []) (mB 20 0) (by kernel_rfl) rfl rfl ⟨hx239_0, hx240_0⟩ (fun hHeld => ?_); refine with_tabW gimbalref11_Tight.tab17 gimbalref11_Tight.bits17 (fun HT_ HW_ => ?_)
                      generalize wr.drew = w26 at HO_6 HO_8 HB hx239_0 hx240_0 hHeld ⊢
                      refine pV_ 0 56 (mB 20 1) HT_ ?_
                      refine pV_ 1 57 (mB 20 3) HT_ ?_
                      refine pV_ 2 58 (mB 20 7) HT_ ?_
                      refine pV_ 3 59 (mB 20 15) HT_ ?_
                      refine pV_ 4 60 (mB 20 31) HT_ ?_
                      refine pV_ 5 61 (mB 20 63) HT_ ?_
                      refine pV_ 6 62 (mB 20 127) HT_ ?_
                      refine pV_ 7 63 (mB 20 255) HT_ ?_
                      refine pV_ 9 65 (mB 20 767) HT_ ?_
                      refine pV_ 10 66 (mB 20 1791) HT_ ?_
                      refine pV_ 11 67 (mB 20 3839) HT_ ?_
                      refine pV_ 12 68 (mB 20 7935) HT_ ?_
                      refine pV_ 13 69 (mB 20 16127) HT_ ?_
                      refine pV_ 14 70 (mB 20 32511) HT_ ?_
                      refine pV_ 15 71 (mB 20 65279) HT_ ?_
                      refine tV_ 8 64 (mB 20 65535) HT_ HW_ hHeld ?_
                      refine tV_ 16 72 (mB 20 131071) HT_ HW_ hHeld ?_
                      refine one_ (i := 17) (N := some 73) (mB 20 262143) rfl rfl (one_of HT_.out (by kernel_rfl)) (by decide) (fun K hK => ?_)
                      refine goes_ Try.func84 (by kernel_rfl) rfl #[.int .i64 (rd x6_1 (ji18)), .int .i64 (rd x6_1 (ji21))] (by rfl) rfl rfl (by (try simp only [List.map_toArray, List.map_cons, List.map_nil]); first | done | (simp only [hji18, hji21]; rfl) | rfl | (simp only [List.length_drop, List.length_take]; rfl)) ?_
                      with_reducible refine (gimbalref11_plus.calls (rd x6_1 (ji18)) (rd x6_1 (ji21)) t241 _ A24.out).mono ?_
                      rintro e w' ⟨rfl, ⟨nd, rfl⟩⟩
                      refine ⟨_, rfl, ?_⟩
                      refine hK.out _ _ ⟨hHeld.1, hHeld.2⟩ (fun hHeld => ?_)
                      clear hK K
                      refine norm_ (a' := ?_) ?_ ?_
                      rotate_left
                      ·
                       show Act.put _ (some 73) _ = _
                       simp only [Act.put, List.setIfInBounds_toArray, List.set_cons_zero, List.set_cons_succ, i64_w, i32_w]
                       rfl
                      refine pV_ 18 74 (mB 20 524287) HT_ ?_
                      refine pV_ 19 11 (mB 20 1048575) HT_ ?_
                      refine done_ (done_of HT_.out (by kernel_rfl)) ?_
                      try go_wp2
                      go_roundg k4
                      case measure => have := HK1.out; have := HK2.out; have := HK3.out; have := HK4.out; omega
                      case rel => exact ⟨(ji25), (wrap64 (x12_4 + 1)), (by first | rfl | (simp; done) | (simp only [← hji25] <;> (first | rfl | simp)) | (simp [*]; done)), (by first | rfl | (simp; done) | (simp [*]; done)), H', ⟨by have := HK1.out; have := HK2.out; have := HK3.out; have := HK4.out; omega⟩, ⟨vR HO_6.out⟩, ⟨vR HO_8.out⟩, ⟨vW HB.out⟩⟩
                     ·
                      rw [if_neg c23] at H
                      exact absurd H (by simp)
                    ·
                     rw [if_neg c22] at H
                     exact absurd H (by simp)
                   ·
                    rw [if_neg c20] at H
                    exact absurd H (by simp)
                  ·
                   rw [if_neg c19] at H
                   exact absurd H (by simp)
                 ·
                  rw [if_neg c17] at H
                  have c17b0 : decide (x12_4 < a1) = false := decide_eq_false c17
                  clear c17
                  obtain ⟨ji27, hji27⟩ : ∃ j_ : Int, (wrap64 ((wrap64 (x9_2 * a1)) + x10_3)) = j_ := ⟨_, rfl⟩
                  replace H : (if 0 ≤ (ji27) then (if (ji27) < (x8_3.length : Int) then (gimbalref11_Tight.l2 k4 a1 x6_1 x7_1 (x8_3.set ((ji27) : Int).toNat x11_4) x9_2 (wrap64 (x10_3 + 1))) else (none)) else (none)) = some (r1, r2) := by first | (rw [hji27] at H; exact H) | (simp only [hji27] at H ⊢; exact H)
                  have hji27w : (IntKind.i64.wrap ((wrap64 (x9_2 * a1)) + x10_3)) = ji27 := (i64_w _).trans hji27
                  (try (obtain rfl : ji27 = ji13 := hji27.symm.trans hji13))
                  by_cases c28 : 0 ≤ (ji27)
                  ·
                   rw [if_pos c28] at H
                   have c28b0 : decide (0 ≤ (ji27)) = true := decide_eq_true c28
                   clear c28
                   by_cases c29 : (ji27) < (x8_3.length : Int)
                   ·
                    rw [if_pos c29] at H
                    have c29b0 : decide ((ji27) < (x8_3.length : Int)) = true := decide_eq_true c29
                    clear c29
                    obtain ⟨y242, hy242⟩ : ∃ y_ : List Int, y_ = (x8_3.set ((ji27) : Int).toNat x11_4) := ⟨_, rfl⟩
                    replace H : (gimbalref11_Tight.l2 k4 a1 x6_1 x7_1 y242 x9_2 (wrap64 (x10_3 + 1))) = some (r1, r2) := by first | (rw [hy242]; with_reducible exact H) | (have H2_ := (Option.bind_some _ _).symm.trans H; rw [hy242]; with_reducible exact H2_) | (have H2_ := (Option.bind_some _ _).symm.trans H; with_reducible exact H2_) | with_reducible exact H | (rw [hy242]; exact H) | exact H
                    have Ny242 := Aside0.mk hy242
                    clear hy242
                    have H' := Aside0.mk H
                    clear H
                    have p30 : 0 ≤ ((ji27) : Int) := of_decide_eq_true (by first | (with_reducible assumption) | assumption)
                    have q30 : ((ji27) : Int) < ((x8_3.length : Int) : Int) := of_decide_eq_true (by first | (with_reducible assumption) | assumption)
                    obtain ⟨go30, co30, eo30, gb30, gl30, cl30, HG30⟩ := Kd.R_form HO_8.out (by omega)
                    (first | cases eo30 | (injection eo30 with ea_ en_ ec_; (first | subst ea_ | (injection ea_ with ea_; subst ea_)); subst ec_; clear en_))
                    have GB30 := Aside0.mk gb30
                    have GG30 := Aside0.mk HG30
                    clear gb30 gl30 HG30
                    obtain ⟨hx30_0, hf30_0⟩ := Kd.R_celln 0 HO_8.out ((ji27) : Int) p30 q30
                    replace p30 := eq_true p30
                    replace q30 := eq_true q30
                    have HP31 := Kd.R_putg HO_8.out ((ji27) : Int) x11_4
                    go_wp2_with ((with_reducible refine gate_store (t := 2) (p := 82) rfl ?_); refine store_event (t := 2) (p := 82) (v := ?vo_w32) (w1 := (wr.setCell ⟨go30, ((ji27) : Int).toNat, none⟩ (.int .i64 x11_4))) ?hg ?ho ?hn ?hr ?_; (case ho => rfl); (case hg => rfl); (case hn => rfl); (case hr => first | (go_simp; done) | (go_simp; rfl)); intro w32 hw; have hg : wr.grownBy w32 (some go30) := (by rw [hw]; exact HP31.2); have hp_ : Kd.R (Kd.int .i64) 2 w32 w.heap.size (fun k_ => some k_ ≠ (.slice (some ad238) x6_1.length co16 : Value).ownBlock) (.slice (some ⟨go30, 0, none⟩) x8_3.length co30) y242 := (by rw [hw, Ny242.out]; exact HP31.1); clear HP31; replace HO_6 := Aside0.mk (Kd.R_after (v := (.slice (some ⟨go30, 0, none⟩) x8_3.length co30)) (v1 := (.slice (some ⟨go30, 0, none⟩) x8_3.length co30)) (ok := (fun _ => True)) (by (with_reducible repeat (first | apply Kd.R_alloc | apply Kd.R_drewN | apply Kd.R_drew)); exact Kd.R_mono HO_6.out (fun _ hk => ⟨trivial, hk⟩)) hg (.inl rfl)); replace HO_8 := Aside0.mk (hp_); replace HB := Aside0.mk ((by rw [hw]; exact below_set (HB.out) GB30.out : Below w.heap.size w w32)); clear hg hw hp_)
                    go_roundg k4
                    case measure => have := HK1.out; have := HK2.out; have := HK3.out; have := HK4.out; omega
                    case rel => exact ⟨(y242), (wrap64 (x10_3 + 1)), (by first | rfl | (simp; done) | (simp [*]; done)), H', ⟨by have := HK1.out; have := HK2.out; have := HK3.out; have := HK4.out; omega⟩, ⟨by (with_reducible repeat (first | apply Kd.R_alloc | apply Kd.R_drewN | apply Kd.R_drew)); exact Kd.R_mono HO_6.out (fun _ hk => hk.2)⟩, ⟨vR HO_8.out⟩, ⟨vW HB.out⟩⟩
                   ·
                    rw [if_neg c29] at H
                    exact absurd H (by simp)
                  ·
                   rw [if_neg c28] at H
                   exact absurd H (by simp)
              ·
               rw [if_neg c15] at H
               exact absurd H (by simp)
             ·
              rw [if_neg c14] at H
              exact absurd H (by simp)
            ·
             rw [if_neg c12] at H
             have c12b0 : decide (x10_3 < a1) = false := decide_eq_false c12
             clear c12
             obtain ⟨ji33, hji33⟩ : ∃ j_ : Int, (wrap64 ((wrap64 (x9_2 * a1)) + x9_2)) = j_ := ⟨_, rfl⟩
             replace H : (if 0 ≤ (ji33) then (if (ji33) < (x8_3.length : Int) then (if (rd x8_3 (ji33)) < 0 then (some (([] : List Int), false)) else (gimbalref11_Tight.l1 k3 a1 x6_1 x7_1 x8_3 (wrap64 (x9_2 + 1)))) else (none)) else (none)) = some (r1, r2) := by first | (rw [hji33] at H; exact H) | (simp only [hji33] at H ⊢; exact H)
             have hji33w : (IntKind.i64.wrap ((wrap64 (x9_2 * a1)) + x9_2)) = ji33 := (i64_w _).trans hji33
             by_cases c34 : 0 ≤ (ji33)
             ·
              rw [if_pos c34] at H
              have c34b0 : decide (0 ≤ (ji33)) = true := decide_eq_true c34
              clear c34
              by_cases c35 : (ji33) < (x8_3.length : Int)
              ·
               rw [if_pos c35] at H
               have c35b0 : decide ((ji33) < (x8_3.length : Int)) = true := decide_eq_true c35
               clear c35
               by_cases c36 : (rd x8_3 (ji33)) < 0
               ·
                rw [if_pos c36] at H
                have c36b0 : decide ((rd x8_3 (ji33)) < 0) = true := decide_eq_true c36
                clear c36
                simp only [Option.some.injEq, Prod.mk.injEq] at H
                obtain ⟨rfl, rfl⟩ := H
                obtain ⟨Ao37, co37, eo37⟩ := Kd.R_slice HO_8.out
                subst eo37
                have p237 : 0 ≤ ((ji33) : Int) := of_decide_eq_true (by first | (with_reducible assumption) | assumption)
                have q237 : (ji33) < (x8_3.length : Int) := of_decide_eq_true (by first | (with_reducible assumption) | assumption)
                obtain ⟨ad237, e237, hx237_0⟩ := Kd.at_int (Kd.R_reads' HO_8.out).2.2 (ji33) p237 q237
                cases e237
                replace p237 := eq_true p237
                replace q237 := eq_true q237
                go_wp2
                go_ret2
                exact ⟨_, by first | rfl | (simp [errW_none, errW_some] <;> rfl) | (simp only [← hji6, ← hji33]; first | rfl | (simp [errW_none, errW_some] <;> rfl)) | (simp [*, errW_none, errW_some] <;> rfl) | (simp [wrap64]; done), by first | exact Kd.R_nil _ _ _ _ _ | exact Kd.N_nil _ _ _ _ _ | exact Kd.V_nil _ _ _ _ _ | exact Kd.Q_nil _ _ _ _ _ | exact Kd.S_nil _ _ _ _ _, vW HB.out⟩
               ·
                rw [if_neg c36] at H
                have c36b0 : decide ((rd x8_3 (ji33)) < 0) = false := decide_eq_false c36
                clear c36
                have H' := Aside0.mk H
                clear H
                obtain ⟨Ao38, co38, eo38⟩ := Kd.R_slice HO_8.out
                subst eo38
                have p237 : 0 ≤ ((ji33) : Int) := of_decide_eq_true (by first | (with_reducible assumption) | assumption)
                have q237 : (ji33) < (x8_3.length : Int) := of_decide_eq_true (by first | (with_reducible assumption) | assumption)
                obtain ⟨ad237, e237, hx237_0⟩ := Kd.at_int (Kd.R_reads' HO_8.out).2.2 (ji33) p237 q237
                cases e237
                replace p237 := eq_true p237
                replace q237 := eq_true q237
                go_wp2
                go_roundg k3
                case measure => have := HK1.out; have := HK2.out; have := HK3.out; omega
                case rel => exact ⟨(x8_3), (wrap64 (x9_2 + 1)), (by first | rfl | (simp; done) | (simp [*]; done)), H', ⟨by have := HK1.out; have := HK2.out; have := HK3.out; omega⟩, ⟨vR HO_6.out⟩, ⟨vR HO_8.out⟩, ⟨vW HB.out⟩⟩
              ·
               rw [if_neg c35] at H
               exact absurd H (by simp)
             ·
              rw [if_neg c34] at H
              exact absurd H (by simp)
         ·
          rw [if_neg c11] at H
          have c11b0 : decide (x9_2 < a1) = false := decide_eq_false c11
          clear c11
          have H' := Aside0.mk H
          clear H
          go_wp2
          go_roundg k2
          case measure => have := HK1.out; have := HK2.out; omega
          case rel => exact ⟨(x8_2), (wrap64 (2 * x7_1)), (by first | rfl | (simp; done) | (simp [*]; done)), H', ⟨by have := HK1.out; have := HK2.out; omega⟩, ⟨by (with_reducible repeat (first | apply Kd.R_alloc | apply Kd.R_drewN | apply Kd.R_drew)); exact Kd.R_mono HO_8.out (fun _ hk => trivial)⟩, ⟨vW HB.out⟩⟩
      ·
       rw [if_neg c8] at H
       exact absurd H (by simp)
     ·
      rw [if_neg c7] at H
      exact absurd H (by simp)
    ·
     rw [if_neg c5] at H
     have c5b0 : decide (x7_1 ≤ (wrap64 (2 * a1))) = false := decide_eq_false c5
     clear c5
     have H' := Aside0.mk H
     clear H
     go_wp2
     go_loopg [13] k1 (fun kq v13 w' => ∃ (x6_2 : List Int) (x13_2 : Int), v13 = .int .i64 x13_2 ∧ Aside0 (gimbalref11_Tight.l4 kq a1 x6_2 x13_2 = some (r1, r2)) ∧ Aside0 (kq ≤ k1) ∧ Aside0 (Kd.R (Kd.int .i64) 2 w' w.heap.size (fun _ => True) u6 x6_2) ∧ Aside0 (Below w.heap.size w w'))
     case atStart => exact ⟨(x6_1), (0), (by first | rfl | (simp; done) | (simp [*]; done)), H', ⟨Nat.le_refl _⟩, ⟨vR HO_6.out⟩, ⟨vW HB.out⟩⟩
     case round =>
      clear H'
      try clear c5b0
      obtain ⟨x6_2, x13_2, rfl, HA, HK2, HO_6, HB⟩ := hrel
      cases gk with
      | zero => exact absurd HA.out (by simp [gimbalref11_Tight.l4])
      | succ k2 =>
       have H := HA.out
       clear HA
       simp only [gimbalref11_Tight.l4] at H
       by_cases c39 : x13_2 < a1
       ·
        rw [if_pos c39] at H
        have c39b0 : decide (x13_2 < a1) = true := decide_eq_true c39
        clear c39
        replace H := Option.bind_eq_some_iff.mp H
        obtain ⟨t243, A400, H⟩ := H
        replace H : (if 0 ≤ (wrap64 ((wrap64 (x13_2 * a1)) + t243)) then (if (wrap64 ((wrap64 (x13_2 * a1)) + t243)) < (x6_2.length : Int) then (if (rd x6_2 (wrap64 ((wrap64 (x13_2 * a1)) + t243))) = 4611686018427387904 then (gimbalref11_Tight.l4 k2 a1 x6_2 (wrap64 (x13_2 + 1))) else ((gimbalref11_halved.f (rd x6_2 (wrap64 ((wrap64 (x13_2 * a1)) + t243)))).bind fun t246 => (gimbalref11_Tight.l4 k2 a1 (x6_2.set ((wrap64 ((wrap64 (x13_2 * a1)) + t243)) : Int).toNat (wrap64 (2 * t246))) (wrap64 (x13_2 + 1))))) else (none)) else (none)) = some (r1, r2) := H
        have A40 := Aside0.mk A400
        clear A400
        obtain ⟨ji41, hji41⟩ : ∃ j_ : Int, (wrap64 ((wrap64 (x13_2 * a1)) + t243)) = j_ := ⟨_, rfl⟩
        replace H : (if 0 ≤ (ji41) then (if (ji41) < (x6_2.length : Int) then (if (rd x6_2 (ji41)) = 4611686018427387904 then (gimbalref11_Tight.l4 k2 a1 x6_2 (wrap64 (x13_2 + 1))) else ((gimbalref11_halved.f (rd x6_2 (ji41))).bind fun t246 => (gimbalref11_Tight.l4 k2 a1 (x6_2.set ((ji41) : Int).toNat (wrap64 (2 * t246))) (wrap64 (x13_2 + 1))))) else (none)) else (none)) = some (r1, r2) := by first | (rw [hji41] at H; exact H) | (simp only [hji41] at H ⊢; exact H)
        (try rw [hji41] at A40)
        have hji41w : (IntKind.i64.wrap ((wrap64 (x13_2 * a1)) + t243)) = ji41 := (i64_w _).trans hji41
        by_cases c42 : 0 ≤ (ji41)
        ·
         rw [if_pos c42] at H
         have c42b0 : decide (0 ≤ (ji41)) = true := decide_eq_true c42
         clear c42
         by_cases c43 : (ji41) < (x6_2.length : Int)
         ·
          rw [if_pos c43] at H
          have c43b0 : decide ((ji41) < (x6_2.length : Int)) = true := decide_eq_true c43
          clear c43
          by_cases c44 : (rd x6_2 (ji41)) = 4611686018427387904
          ·
           rw [if_pos c44] at H
           have c44b0 : ((rd x6_2 (ji41)) == 4611686018427387904) = true := beq_iff_eq.mpr c44
           have c44b1 : ((rd x6_2 (ji41)) != 4611686018427387904) = false := bne_eq_false_iff_eq.mpr c44
           clear c44
           have H' := Aside0.mk H
           clear H
           go_wp2_with ((with_reducible refine gate_callee (f := 53) rfl ?_); refine goesL_ (some 102) rfl rfl Try.func53 (by kernel_rfl) rfl #[.int .i64 x13_2] rfl vL ?_; (with_reducible refine (gimbalref11_bar.calls x13_2 t243 _ A40.out).mono ?_); rintro e w' ⟨rfl, ⟨nd, rfl⟩⟩; refine ⟨_, rfl, ?_⟩; obtain ⟨Ao45, co45, eo45⟩ := Kd.R_slice HO_6.out; subst eo45; have p244 : 0 ≤ ((ji41) : Int) := of_decide_eq_true (by first | (with_reducible assumption) | assumption); have q244 : (ji41) < (x6_2.length : Int) := of_decide_eq_true (by first | (with_reducible assumption) | assumption); obtain ⟨ad244, e244, hx244_0⟩ := Kd.at_int (Kd.R_reads' HO_6.out).2.2 (ji41) p244 q244; cases e244; replace p244 := eq_true p244; replace q244 := eq_true q244)
           go_roundg k2
           case measure => have := HK1.out; have := HK2.out; omega
           case rel => exact ⟨(x6_2), (wrap64 (x13_2 + 1)), (by first | rfl | (simp; done) | (simp [*]; done)), H', ⟨by have := HK1.out; have := HK2.out; omega⟩, ⟨vR HO_6.out⟩, ⟨vW HB.out⟩⟩
          ·
           rw [if_neg c44] at H
           have c44b0 : ((rd x6_2 (ji41)) == 4611686018427387904) = false := beq_eq_false_iff_ne.mpr c44
           have c44b1 : ((rd x6_2 (ji41)) != 4611686018427387904) = true := bne_iff_ne.mpr c44
           replace H := Option.bind_eq_some_iff.mp H
           obtain ⟨t246, A460, H⟩ := H
           replace H : (gimbalref11_Tight.l4 k2 a1 (x6_2.set ((ji41) : Int).toNat (wrap64 (2 * t246))) (wrap64 (x13_2 + 1))) = some (r1, r2) := H
           have A46 := Aside0.mk A460
           clear A460
           obtain ⟨y247, hy247⟩ : ∃ y_ : List Int, y_ = (x6_2.set ((ji41) : Int).toNat (wrap64 (2 * t246))) := ⟨_, rfl⟩
           replace H : (gimbalref11_Tight.l4 k2 a1 y247 (wrap64 (x13_2 + 1))) = some (r1, r2) := by first | (rw [hy247]; with_reducible exact H) | (have H2_ := (Option.bind_some _ _).symm.trans H; rw [hy247]; with_reducible exact H2_) | (have H2_ := (Option.bind_some _ _).symm.trans H; with_reducible exact H2_) | with_reducible exact H | (rw [hy247]; exact H) | exact H
           have Ny247 := Aside0.mk hy247
           clear hy247
           have H' := Aside0.mk H
           clear H
           go_wp2_with (first | ((with_reducible refine gate_callee (f := 53) rfl ?_); refine goesL_ (some 102) rfl rfl Try.func53 (by kernel_rfl) rfl #[.int .i64 x13_2] rfl vL ?_; (with_reducible refine (gimbalref11_bar.calls x13_2 t243 _ A40.out).mono ?_); rintro e w' ⟨rfl, ⟨nd, rfl⟩⟩; refine ⟨_, rfl, ?_⟩; (try (rw [drewN_self wr]; generalize hq_ : World.drewN wr _ = wr; have n0_ : Aside0 (Kd.R (Kd.int .i64) 2 wr w.heap.size (fun _ => True) u6 x6_2) := ⟨by rw [← hq_]; exact (vR HO_6.out)⟩; have n1_ : Aside0 (Below w.heap.size w wr) := ⟨by rw [← hq_]; exact (vW HB.out)⟩; clear HO_6 HB hq_; have HO_6 := n0_; have HB := n1_; clear n0_ n1_)); obtain ⟨Ao48, co48, eo48⟩ := Kd.R_slice HO_6.out; subst eo48; have p244 : 0 ≤ ((ji41) : Int) := of_decide_eq_true (by first | (with_reducible assumption) | assumption); have q244 : (ji41) < (x6_2.length : Int) := of_decide_eq_true (by first | (with_reducible assumption) | assumption); obtain ⟨ad244, e244, hx244_0⟩ := Kd.at_int (Kd.R_reads' HO_6.out).2.2 (ji41) p244 q244; cases e244; replace p244 := eq_true p244; replace q244 := eq_true q244; have p245 : 0 ≤ ((ji41) : Int) := of_decide_eq_true (by first | (with_reducible assumption) | assumption); have q245 : (ji41) < (x6_2.length : Int) := of_decide_eq_true (by first | (with_reducible assumption) | assumption); obtain ⟨ad245, e245, hx245_0⟩ := Kd.at_int (Kd.R_reads' HO_6.out).2.2 (ji41) p245 q245; obtain rfl : ad244 = ad245 := (by injection e245); replace p245 := eq_true p245; replace q245 := eq_true q245) | ((with_reducible refine gate_callee (f := 85) rfl ?_); refine goesL_ (some 115) rfl rfl Try.func85 (by kernel_rfl) rfl #[.int .i64 (rd x6_2 (ji41))] rfl (by (try simp only [List.map_toArray, List.map_cons, List.map_nil]); first | done | (simp only [hji41]; rfl) | rfl | (simp only [List.length_drop, List.length_take]; rfl)) ?_; (with_reducible refine (gimbalref11_halved.calls (rd x6_2 (ji41)) t246 _ A46.out).mono ?_); rintro e w' ⟨rfl, ⟨nd, rfl⟩⟩; refine ⟨_, rfl, ?_⟩; (try (rw [drewN_self wr]; generalize hq_ : World.drewN wr _ = wr; have n0_ : Aside0 (Kd.R (Kd.int .i64) 2 wr w.heap.size (fun _ => True) (.slice (some ad244) x6_2.length co48) x6_2) := ⟨by rw [← hq_]; exact (vR HO_6.out)⟩; have n1_ : Aside0 (Below w.heap.size w wr) := ⟨by rw [← hq_]; exact (vW HB.out)⟩; clear HO_6 HB hq_; have HO_6 := n0_; have HB := n1_; clear n0_ n1_)); have p47 : 0 ≤ ((ji41) : Int) := of_decide_eq_true (by first | (with_reducible assumption) | assumption); have q47 : ((ji41) : Int) < ((x6_2.length : Int) : Int) := of_decide_eq_true (by first | (with_reducible assumption) | assumption); obtain ⟨go47, co47, eo47, gb47, gl47, cl47, HG47⟩ := Kd.R_form HO_6.out (by omega); (first | cases eo47 | (injection eo47 with ea_ en_ ec_; (first | subst ea_ | (injection ea_ with ea_; subst ea_)); subst ec_; clear en_)); have GB47 := Aside0.mk gb47; have GG47 := Aside0.mk HG47; clear gb47 gl47 HG47; (first | simp only [add_plain] at hx244_0 | skip); (first | simp only [add_plain] at hx245_0 | skip); obtain ⟨hx47_0, hf47_0⟩ := Kd.R_celln 0 HO_6.out ((ji41) : Int) p47 q47; replace p47 := eq_true p47; replace q47 := eq_true q47; obtain ⟨hy49_, hz49_⟩ := Kd.R_celln 0 HO_6.out ((ji41) : Int) (of_decide_eq_true (by first | (with_reducible assumption) | assumption)) (of_decide_eq_true (by first | (with_reducible assumption) | assumption)); have HP49 := Kd.R_putg HO_6.out ((ji41) : Int) (wrap64 (2 * t246))) | ((with_reducible refine gate_store (t := 2) (p := 117) rfl ?_); refine store_event (t := 2) (p := 117) (v := ?vo_w50) (w1 := (wr.setCell ⟨go47, ((ji41) : Int).toNat, none⟩ (.int .i64 (wrap64 (2 * t246))))) ?hg ?ho ?hn ?hr ?_; (case ho => rfl); (case hg => rfl); (case hn => rfl); (case hr => first | (go_simp; done) | (go_simp; rfl)); intro w50 hw; have hg : wr.grownBy w50 (some go47) := (by rw [hw]; exact HP49.2); have hp_ : Kd.R (Kd.int .i64) 2 w50 w.heap.size (fun _ => True) (.slice (some ⟨go47, 0, none⟩) x6_2.length co48) y247 := (by rw [hw, Ny247.out]; exact HP49.1); clear HP49; replace HO_6 := Aside0.mk (hp_); replace HB := Aside0.mk ((by rw [hw]; exact below_set (HB.out) GB47.out : Below w.heap.size w w50)); clear hg hw hp_))
           go_roundg k2
           case measure => have := HK1.out; have := HK2.out; omega
           case rel => exact ⟨(y247), (wrap64 (x13_2 + 1)), (by first | rfl | (simp; done) | (simp [*]; done)), H', ⟨by have := HK1.out; have := HK2.out; omega⟩, ⟨vR HO_6.out⟩, ⟨vW HB.out⟩⟩
         ·
          rw [if_neg c43] at H
          exact absurd H (by simp)
        ·
         rw [if_neg c42] at H
         exact absurd H (by simp)
       ·
        rw [if_neg c39] at H
        have c39b0 : decide (x13_2 < a1) = false := decide_eq_false c39
        clear c39
        have H' := Aside0.mk H
        clear H
        go_wp2
        go_loopg [15] k2 (fun kq v15 w' => ∃ (x15_3 : Int), v15 = .int .i64 x15_3 ∧ Aside0 (gimbalref11_Tight.l5 kq a1 x6_2 x15_3 = some (r1, r2)) ∧ Aside0 (kq ≤ k2) ∧ Aside0 (Kd.R (Kd.int .i64) 2 w' w.heap.size (fun _ => True) u6 x6_2) ∧ Aside0 (Below w.heap.size w w'))
        case atStart => exact ⟨(0), (by first | rfl | (simp; done) | (simp [*]; done)), H', ⟨Nat.le_refl _⟩, ⟨vR HO_6.out⟩, ⟨vW HB.out⟩⟩
        case round =>
         clear H'
         try clear c39b0
         obtain ⟨x15_3, rfl, HA, HK3, HO_6, HB⟩ := hrel
         cases gk with
         | zero => exact absurd HA.out (by simp [gimbalref11_Tight.l5])
         | succ k3 =>
          have H := HA.out
          clear HA
          simp only [gimbalref11_Tight.l5] at H
          by_cases c51 : x15_3 < a1
          ·
           rw [if_pos c51] at H
           have c51b0 : decide (x15_3 < a1) = true := decide_eq_true c51
           clear c51
           replace H := Option.bind_eq_some_iff.mp H
           obtain ⟨t248, A520, H⟩ := H
           replace H : (if 0 ≤ (wrap64 ((wrap64 (x15_3 * a1)) + t248)) then (if (wrap64 ((wrap64 (x15_3 * a1)) + t248)) < (x6_2.length : Int) then ((gimbalref11_bar.f x15_3).bind fun t250 => (if 0 ≤ (wrap64 ((wrap64 (t250 * a1)) + x15_3)) then (if (wrap64 ((wrap64 (t250 * a1)) + x15_3)) < (x6_2.length : Int) then ((gimbalref11_plus.f (rd x6_2 (wrap64 ((wrap64 (x15_3 * a1)) + t248))) (rd x6_2 (wrap64 ((wrap64 (t250 * a1)) + x15_3)))).bind fun t252 => (if t252 < 0 then (some (([] : List Int), false)) else (gimbalref11_Tight.l5 k3 a1 x6_2 (wrap64 (x15_3 + 1))))) else (none)) else (none))) else (none)) else (none)) = some (r1, r2) := H
           have A52 := Aside0.mk A520
           clear A520
           obtain ⟨ji53, hji53⟩ : ∃ j_ : Int, (wrap64 ((wrap64 (x15_3 * a1)) + t248)) = j_ := ⟨_, rfl⟩
           replace H : (if 0 ≤ (ji53) then (if (ji53) < (x6_2.length : Int) then ((gimbalref11_bar.f x15_3).bind fun t250 => (if 0 ≤ (wrap64 ((wrap64 (t250 * a1)) + x15_3)) then (if (wrap64 ((wrap64 (t250 * a1)) + x15_3)) < (x6_2.length : Int) then ((gimbalref11_plus.f (rd x6_2 (ji53)) (rd x6_2 (wrap64 ((wrap64 (t250 * a1)) + x15_3)))).bind fun t252 => (if t252 < 0 then (some (([] : List Int), false)) else (gimbalref11_Tight.l5 k3 a1 x6_2 (wrap64 (x15_3 + 1))))) else (none)) else (none))) else (none)) else (none)) = some (r1, r2) := by first | (rw [hji53] at H; exact H) | (simp only [hji53] at H ⊢; exact H)
           (try rw [hji53] at A52)
           have hji53w : (IntKind.i64.wrap ((wrap64 (x15_3 * a1)) + t248)) = ji53 := (i64_w _).trans hji53
           by_cases c54 : 0 ≤ (ji53)
           ·
            rw [if_pos c54] at H
            have c54b0 : decide (0 ≤ (ji53)) = true := decide_eq_true c54
            clear c54
            by_cases c55 : (ji53) < (x6_2.length : Int)
            ·
             rw [if_pos c55] at H
             have c55b0 : decide ((ji53) < (x6_2.length : Int)) = true := decide_eq_true c55
             clear c55
             replace H := Option.bind_eq_some_iff.mp H
             obtain ⟨t250, A560, H⟩ := H
             replace H : (if 0 ≤ (wrap64 ((wrap64 (t250 * a1)) + x15_3)) then (if (wrap64 ((wrap64 (t250 * a1)) + x15_3)) < (x6_2.length : Int) then ((gimbalref11_plus.f (rd x6_2 (ji53)) (rd x6_2 (wrap64 ((wrap64 (t250 * a1)) + x15_3)))).bind fun t252 => (if t252 < 0 then (some (([] : List Int), false)) else (gimbalref11_Tight.l5 k3 a1 x6_2 (wrap64 (x15_3 + 1))))) else (none)) else (none)) = some (r1, r2) := H
             have A56 := Aside0.mk A560
             clear A560
             obtain ⟨ji57, hji57⟩ : ∃ j_ : Int, (wrap64 ((wrap64 (t250 * a1)) + x15_3)) = j_ := ⟨_, rfl⟩
             replace H : (if 0 ≤ (ji57) then (if (ji57) < (x6_2.length : Int) then ((gimbalref11_plus.f (rd x6_2 (ji53)) (rd x6_2 (ji57))).bind fun t252 => (if t252 < 0 then (some (([] : List Int), false)) else (gimbalref11_Tight.l5 k3 a1 x6_2 (wrap64 (x15_3 + 1))))) else (none)) else (none)) = some (r1, r2) := by first | (rw [hji57] at H; exact H) | (simp only [hji57] at H ⊢; exact H)
             (try rw [hji57] at A52)
             (try rw [hji57] at A56)
             have hji57w : (IntKind.i64.wrap ((wrap64 (t250 * a1)) + x15_3)) = ji57 := (i64_w _).trans hji57
             by_cases c58 : 0 ≤ (ji57)
             ·
              rw [if_pos c58] at H
              have c58b0 : decide (0 ≤ (ji57)) = true := decide_eq_true c58
              clear c58
              by_cases c59 : (ji57) < (x6_2.length : Int)
              ·
               rw [if_pos c59] at H
               have c59b0 : decide ((ji57) < (x6_2.length : Int)) = true := decide_eq_true c59
               clear c59
               replace H := Option.bind_eq_some_iff.mp H
               obtain ⟨t252, A600, H⟩ := H
               replace H : (if t252 < 0 then (some (([] : List Int), false)) else (gimbalref11_Tight.l5 k3 a1 x6_2 (wrap64 (x15_3 + 1)))) = some (r1, r2) := H
               have A60 := Aside0.mk A600
               clear A600
               by_cases c61 : t252 < 0
               ·
                rw [if_pos c61] at H
                have c61b0 : decide (t252 < 0) = true := decide_eq_true c61
                clear c61
                simp only [Option.some.injEq, Prod.mk.injEq] at H
                obtain ⟨rfl, rfl⟩ := H
                try go_wp2
                replace HO_6 := Aside0.mk (Kd.R_drew HO_6.out)
                replace HB := Aside0.mk (below_drew1 HB.out)
                have p249 : 0 ≤ ((ji53) : Int) := of_decide_eq_true (by first | (with_reducible assumption) | assumption)
                have q249 : (ji53) < (x6_2.length : Int) := of_decide_eq_true (by first | (with_reducible assumption) | assumption)
                (try (obtain ⟨AoZ, coZ, eoZ⟩ := Kd.R_slice HO_6.out; subst eoZ))
                obtain ⟨ad249, e249, hx249_0⟩ := Kd.at_int (Kd.R_reads' HO_6.out).2.2 (ji53) p249 q249
                cases e249
                replace p249 := eq_true p249
                replace q249 := eq_true q249
                have p251 : 0 ≤ ((ji57) : Int) := of_decide_eq_true (by first | (with_reducible assumption) | assumption)
                have q251 : (ji57) < (x6_2.length : Int) := of_decide_eq_true (by first | (with_reducible assumption) | assumption)
                (try (obtain ⟨AoZ, coZ, eoZ⟩ := Kd.R_slice HO_6.out; subst eoZ))
                obtain ⟨ad251, e251, hx251_0⟩ := Kd.at_int (Kd.R_reads' HO_6.out).2.2 (ji57) p251 q251
                obtain rfl : ad249 = ad251 := (by injection e251)
                replace p251 := eq_true p251
                replace q251 := eq_true q251
                refine start_ (n := 20) (S := fun w' => w'.cell? (ad249.add ((ji53)).toNat) = some (.int .i64 (rd x6_2 (ji53))) ∧ w'.cell? (ad249.add ((ji57)).toNat) = some (.int .i64 (rd x6_2 (ji57)))) (ds := []) (mB 20 0) (by kernel_rfl) rfl rfl ⟨hx249_0, hx251_0⟩ (fun hHeld => ?_); refine with_tabW gimbalref11_Tight.tab31 gimbalref11_Tight.bits31 (fun HT_ HW_ => ?_)
                generalize wr.drew = w62 at HO_6 HB hx249_0 hx251_0 hHeld ⊢
                refine pV_ 0 123 (mB 20 1) HT_ ?_
                refine pV_ 1 124 (mB 20 3) HT_ ?_
                refine pV_ 2 125 (mB 20 7) HT_ ?_
                refine pV_ 3 126 (mB 20 15) HT_ ?_
                refine pV_ 4 127 (mB 20 31) HT_ ?_
                refine pV_ 9 132 (mB 20 543) HT_ ?_
                refine pV_ 10 133 (mB 20 1567) HT_ ?_
                refine pV_ 12 135 (mB 20 5663) HT_ ?_
                refine pV_ 14 137 (mB 20 22047) HT_ ?_
                refine one_ (i := 5) (N := some 128) (mB 20 22079) rfl rfl (one_of HT_.out (by kernel_rfl)) (by decide) (fun K hK => ?_)
                refine goes_ Try.func53 (by kernel_rfl) rfl #[.int .i64 x15_3] (by rfl) rfl rfl vL ?_
                with_reducible refine (gimbalref11_bar.calls x15_3 t248 _ A52.out).mono ?_
                rintro e w' ⟨rfl, ⟨nd, rfl⟩⟩
                refine ⟨_, rfl, ?_⟩
                obtain ⟨Ao63, co63, eo63⟩ := Kd.R_slice HO_6.out
                (first | subst eo63 | (injection eo63 with f1_ f2_ f3_; have f4_ := f1_.symm; have f5_ := f3_.symm; clear f1_ f2_ f3_; subst f4_; subst f5_))
                refine hK.out _ _ ⟨hHeld.1, hHeld.2⟩ (fun hHeld => ?_)
                clear hK K
                refine norm_ (a' := ?_) ?_ ?_
                rotate_left
                ·
                 show Act.put _ (some 128) _ = _
                 simp only [Act.put, List.setIfInBounds_toArray, List.set_cons_zero, List.set_cons_succ, i64_w, i32_w]
                 rfl
                refine pV_ 6 129 (mB 20 22143) HT_ ?_
                refine pV_ 7 130 (mB 20 22271) HT_ ?_
                refine tV_ 8 131 (mB 20 22527) HT_ HW_ hHeld ?_
                refine one_ (i := 11) (N := some 134) (mB 20 24575) rfl rfl (one_of HT_.out (by kernel_rfl)) (by decide) (fun K hK => ?_)
                refine goes_ Try.func53 (by kernel_rfl) rfl #[.int .i64 x15_3] (by rfl) rfl rfl vL ?_
                with_reducible refine (gimbalref11_bar.calls x15_3 t250 _ A56.out).mono ?_
                rintro e w' ⟨rfl, ⟨nd, rfl⟩⟩
                refine ⟨_, rfl, ?_⟩
                refine hK.out _ _ ⟨hHeld.1, hHeld.2⟩ (fun hHeld => ?_)
                clear hK K
                refine norm_ (a' := ?_) ?_ ?_
                rotate_left
                ·
                 show Act.put _ (some 134) _ = _
                 simp only [Act.put, List.setIfInBounds_toArray, List.set_cons_zero, List.set_cons_succ, i64_w, i32_w]
                 rfl
                refine pV_ 13 136 (mB 20 32767) HT_ ?_
                refine pV_ 15 138 (mB 20 65535) HT_ ?_
                refine pV_ 16 139 (mB 20 131071) HT_ ?_
                refine tV_ 17 140 (mB 20 262143) HT_ HW_ hHeld ?_
                refine one_ (i := 18) (N := some 141) (mB 20 524287) rfl rfl (one_of HT_.out (by kernel_rfl)) (by decide) (fun K hK => ?_)
                refine goes_ Try.func84 (by kernel_rfl) rfl #[.int .i64 (rd x6_2 (ji53)), .int .i64 (rd x6_2 (ji57))] (by rfl) rfl rfl (by (try simp only [List.map_toArray, List.map_cons, List.map_nil]); first | done | (simp only [hji53, hji57]; rfl) | rfl | (simp only [List.length_drop, List.length_take]; rfl)) ?_
                with_reducible refine (gimbalref11_plus.calls (rd x6_2 (ji53)) (rd x6_2 (ji57)) t252 _ A60.out).mono ?_
                rintro e w' ⟨rfl, ⟨nd, rfl⟩⟩
                refine ⟨_, rfl, ?_⟩
                refine hK.out _ _ ⟨hHeld.1, hHeld.2⟩ (fun hHeld => ?_)
                clear hK K
                refine norm_ (a' := ?_) ?_ ?_
                rotate_left
                ·
                 show Act.put _ (some 141) _ = _
                 simp only [Act.put, List.setIfInBounds_toArray, List.set_cons_zero, List.set_cons_succ, i64_w, i32_w]
                 rfl
                refine pV_ 19 142 (mB 20 1048575) HT_ ?_
                refine done_ (done_of HT_.out (by kernel_rfl)) ?_
                try go_wp2
                go_ret2
                exact ⟨_, by first | rfl | (simp [errW_none, errW_some] <;> rfl) | (simp only [← hji53, ← hji57]; first | rfl | (simp [errW_none, errW_some] <;> rfl)) | (simp [*, errW_none, errW_some] <;> rfl) | (simp [wrap64]; done), by first | exact Kd.R_nil _ _ _ _ _ | exact Kd.N_nil _ _ _ _ _ | exact Kd.V_nil _ _ _ _ _ | exact Kd.Q_nil _ _ _ _ _ | exact Kd.S_nil _ _ _ _ _, vW HB.out⟩
               ·
                rw [if_neg c61] at H
                have c61b0 : decide (t252 < 0) = false := decide_eq_false c61
                clear c61
                have H' := Aside0.mk H
                clear H
                try go_wp2
                replace HO_6 := Aside0.mk (Kd.R_drew HO_6.out)
                replace HB := Aside0.mk (below_drew1 HB.out)
                have p249 : 0 ≤ ((ji53) : Int) := of_decide_eq_true (by first | (with_reducible assumption) | assumption)
                have q249 : (ji53) < (x6_2.length : Int) := of_decide_eq_true (by first | (with_reducible assumption) | assumption)
                (try (obtain ⟨AoZ, coZ, eoZ⟩ := Kd.R_slice HO_6.out; subst eoZ))
                obtain ⟨ad249, e249, hx249_0⟩ := Kd.at_int (Kd.R_reads' HO_6.out).2.2 (ji53) p249 q249
                cases e249
                replace p249 := eq_true p249
                replace q249 := eq_true q249
                have p251 : 0 ≤ ((ji57) : Int) := of_decide_eq_true (by first | (with_reducible assumption) | assumption)
                have q251 : (ji57) < (x6_2.length : Int) := of_decide_eq_true (by first | (with_reducible assumption) | assumption)
                (try (obtain ⟨AoZ, coZ, eoZ⟩ := Kd.R_slice HO_6.out; subst eoZ))
                obtain ⟨ad251, e251, hx251_0⟩ := Kd.at_int (Kd.R_reads' HO_6.out).2.2 (ji57) p251 q251
                obtain rfl : ad249 = ad251 := (by injection e251)
                replace p251 := eq_true p251
                replace q251 := eq_true q251
                refine start_ (n := 20) (S := fun w' => w'.cell? (ad249.add ((ji53)).toNat) = some (.int .i64 (rd x6_2 (ji53))) ∧ w'.cell? (ad249.add ((ji57)).toNat) = some (.int .i64 (rd x6_2 (ji57)))) (ds := []) (mB 20 0) (by kernel_rfl) rfl rfl ⟨hx249_0, hx251_0⟩ (fun hHeld => ?_); refine with_tabW gimbalref11_Tight.tab31 gimbalref11_Tight.bits31 (fun HT_ HW_ => ?_)
                generalize wr.drew = w64 at HO_6 HB hx249_0 hx251_0 hHeld ⊢
                refine pV_ 0 123 (mB 20 1) HT_ ?_
                refine pV_ 1 124 (mB 20 3) HT_ ?_
                refine pV_ 2 125 (mB 20 7) HT_ ?_
                refine pV_ 3 126 (mB 20 15) HT_ ?_
                refine pV_ 4 127 (mB 20 31) HT_ ?_
                refine pV_ 9 132 (mB 20 543) HT_ ?_
                refine pV_ 10 133 (mB 20 1567) HT_ ?_
                refine pV_ 12 135 (mB 20 5663) HT_ ?_
                refine pV_ 14 137 (mB 20 22047) HT_ ?_
                refine one_ (i := 5) (N := some 128) (mB 20 22079) rfl rfl (one_of HT_.out (by kernel_rfl)) (by decide) (fun K hK => ?_)
                refine goes_ Try.func53 (by kernel_rfl) rfl #[.int .i64 x15_3] (by rfl) rfl rfl vL ?_
                with_reducible refine (gimbalref11_bar.calls x15_3 t248 _ A52.out).mono ?_
                rintro e w' ⟨rfl, ⟨nd, rfl⟩⟩
                refine ⟨_, rfl, ?_⟩
                obtain ⟨Ao65, co65, eo65⟩ := Kd.R_slice HO_6.out
                (first | subst eo65 | (injection eo65 with f1_ f2_ f3_; have f4_ := f1_.symm; have f5_ := f3_.symm; clear f1_ f2_ f3_; subst f4_; subst f5_))
                refine hK.out _ _ ⟨hHeld.1, hHeld.2⟩ (fun hHeld => ?_)
                clear hK K
                refine norm_ (a' := ?_) ?_ ?_
                rotate_left
                ·
                 show Act.put _ (some 128) _ = _
                 simp only [Act.put, List.setIfInBounds_toArray, List.set_cons_zero, List.set_cons_succ, i64_w, i32_w]
                 rfl
                refine pV_ 6 129 (mB 20 22143) HT_ ?_
                refine pV_ 7 130 (mB 20 22271) HT_ ?_
                refine tV_ 8 131 (mB 20 22527) HT_ HW_ hHeld ?_
                refine one_ (i := 11) (N := some 134) (mB 20 24575) rfl rfl (one_of HT_.out (by kernel_rfl)) (by decide) (fun K hK => ?_)
                refine goes_ Try.func53 (by kernel_rfl) rfl #[.int .i64 x15_3] (by rfl) rfl rfl vL ?_
                with_reducible refine (gimbalref11_bar.calls x15_3 t250 _ A56.out).mono ?_
                rintro e w' ⟨rfl, ⟨nd, rfl⟩⟩
                refine ⟨_, rfl, ?_⟩
                refine hK.out _ _ ⟨hHeld.1, hHeld.2⟩ (fun hHeld => ?_)
                clear hK K
                refine norm_ (a' := ?_) ?_ ?_
                rotate_left
                ·
                 show Act.put _ (some 134) _ = _
                 simp only [Act.put, List.setIfInBounds_toArray, List.set_cons_zero, List.set_cons_succ, i64_w, i32_w]
                 rfl
                refine pV_ 13 136 (mB 20 32767) HT_ ?_
                refine pV_ 15 138 (mB 20 65535) HT_ ?_
                refine pV_ 16 139 (mB 20 131071) HT_ ?_
                refine tV_ 17 140 (mB 20 262143) HT_ HW_ hHeld ?_
                refine one_ (i := 18) (N := some 141) (mB 20 524287) rfl rfl (one_of HT_.out (by kernel_rfl)) (by decide) (fun K hK => ?_)
                refine goes_ Try.func84 (by kernel_rfl) rfl #[.int .i64 (rd x6_2 (ji53)), .int .i64 (rd x6_2 (ji57))] (by rfl) rfl rfl (by (try simp only [List.map_toArray, List.map_cons, List.map_nil]); first | done | (simp only [hji53, hji57]; rfl) | rfl | (simp only [List.length_drop, List.length_take]; rfl)) ?_
                with_reducible refine (gimbalref11_plus.calls (rd x6_2 (ji53)) (rd x6_2 (ji57)) t252 _ A60.out).mono ?_
                rintro e w' ⟨rfl, ⟨nd, rfl⟩⟩
                refine ⟨_, rfl, ?_⟩
                refine hK.out _ _ ⟨hHeld.1, hHeld.2⟩ (fun hHeld => ?_)
                clear hK K
                refine norm_ (a' := ?_) ?_ ?_
                rotate_left
                ·
                 show Act.put _ (some 141) _ = _
                 simp only [Act.put, List.setIfInBounds_toArray, List.set_cons_zero, List.set_cons_succ, i64_w, i32_w]
                 rfl
                refine pV_ 19 142 (mB 20 1048575) HT_ ?_
                refine done_ (done_of HT_.out (by kernel_rfl)) ?_
                try go_wp2
                go_roundg k3
                case measure => have := HK1.out; have := HK2.out; have := HK3.out; omega
                case rel => exact ⟨(wrap64 (x15_3 + 1)), (by first | rfl | (simp; done) | (simp [*]; done)), H', ⟨by have := HK1.out; have := HK2.out; have := HK3.out; omega⟩, ⟨vR HO_6.out⟩, ⟨vW HB.out⟩⟩
              ·
               rw [if_neg c59] at H
               exact absurd H (by simp)
             ·
              rw [if_neg c58] at H
              exact absurd H (by simp)
            ·
             rw [if_neg c55] at H
             exact absurd H (by simp)
           ·
            rw [if_neg c54] at H
            exact absurd H (by simp)
          ·
           rw [if_neg c51] at H
           have c51b0 : decide (x15_3 < a1) = false := decide_eq_false c51
           clear c51
           obtain ⟨ji66, hji66⟩ : ∃ j_ : Int, (wrap64 (a1 * a1)) = j_ := ⟨_, rfl⟩
           replace H : (if 0 ≤ (ji66) then (if (ji66 : Int).toNat ≤ 35184372088832 then (gimbalref11_Tight.l6 k3 a1 x6_2 (List.replicate (ji66 : Int).toNat 0) 0) else (none)) else (none)) = some (r1, r2) := by first | (rw [hji66] at H; exact H) | (simp only [hji66] at H ⊢; exact H)
           have hji66w : (IntKind.i64.wrap (a1 * a1)) = ji66 := (i64_w _).trans hji66
           by_cases c67 : 0 ≤ (ji66)
           ·
            rw [if_pos c67] at H
            have c67b0 := eq_true c67
            have c67b1 : decide (0 ≤ (ji66)) = true := decide_eq_true c67
            clear c67
            by_cases c68 : (ji66 : Int).toNat ≤ 35184372088832
            ·
             rw [if_pos c68] at H
             have c68b0 := eq_true c68
             have c68b1 : decide ((ji66 : Int).toNat ≤ 35184372088832) = true := decide_eq_true c68
             clear c68
             obtain ⟨y253, hy253⟩ : ∃ y_ : List Int, y_ = (List.replicate (ji66 : Int).toNat 0) := ⟨_, rfl⟩
             replace H : (gimbalref11_Tight.l6 k3 a1 x6_2 y253 0) = some (r1, r2) := by first | (rw [hy253]; with_reducible exact H) | (have H2_ := (Option.bind_some _ _).symm.trans H; rw [hy253]; with_reducible exact H2_) | (have H2_ := (Option.bind_some _ _).symm.trans H; with_reducible exact H2_) | with_reducible exact H | (rw [hy253]; exact H) | exact H
             have Ny253 := Aside0.mk hy253
             clear hy253
             have H' := Aside0.mk H
             clear H
             go_wp2_with ((with_reducible refine gate_dst (N := 146) rfl ?_); refine Kd.R_make (Kd.int .i64) _ 2 rfl (N := 146) rfl 23 _ _ rfl ji66 rfl rfl Try.underlying23 (.int .i64 0) 8 info2 rfl (by decide) (by omega) 0 (ok := fun _ => True) (okp := fun _ => True) rfl (fun _ hk => hk) trivial (of_decide_eq_true (by first | (with_reducible assumption) | assumption)) (Nat.le_trans (Nat.mul_le_mul_right _ (of_decide_eq_true (by first | (with_reducible assumption) | assumption) : ji66.toNat ≤ 35184372088832)) (by omega)) (Below.refl _ _) (Nat.le_refl _) ?_; intro v254 w69 ho70 hb hg_ hnew_; clear hg_ hnew_; (first | rw [← Ny253.out] at ho70 | (simp only [Int.reduceToNat] at ho70; rw [← Ny253.out] at ho70)); have HO255 := Aside0.mk (Kd.R_lower (Kd.R_new' ho70 (Kd.R_lt (vR HO_6.out))) (below_size (vW HB.out))); replace HO_6 := Aside0.mk (Kd.R_elder' (vR HO_6.out) (Kd.R_base ho70) hb); replace HB := vWs HB hb; clear hb ho70)
             go_loopg [17] k3 (fun kq v17 w' => ∃ (x16_4 : List Int) (x17_4 : Int), v17 = .int .i64 x17_4 ∧ Aside0 (gimbalref11_Tight.l6 kq a1 x6_2 x16_4 x17_4 = some (r1, r2)) ∧ Aside0 (kq ≤ k3) ∧ Aside0 (Kd.R (Kd.int .i64) 2 w' w.heap.size (fun k_ => some k_ ≠ (v254 : Value).ownBlock) u6 x6_2) ∧ Aside0 (Kd.R (Kd.int .i64) 2 w' w.heap.size (fun k_ => some k_ ≠ (u6 : Value).ownBlock) v254 x16_4) ∧ Aside0 (Below w.heap.size w w'))
             case atStart => exact ⟨(y253), (0), (by first | rfl | (simp; done) | (simp [*]; done)), H', ⟨Nat.le_refl _⟩, ⟨by (with_reducible repeat (first | apply Kd.R_alloc | apply Kd.R_drewN | apply Kd.R_drew)); exact Kd.R_mono HO_6.out (fun _ hk => hk.2)⟩, ⟨by (with_reducible repeat (first | apply Kd.R_alloc | apply Kd.R_drewN | apply Kd.R_drew)); exact Kd.R_mono HO255.out (fun _ hk => hk.2)⟩, ⟨vW HB.out⟩⟩
             case round =>
              clear H'
              try clear c51b0
              try clear c67b0
              try clear c67b1
              try clear c68b0
              try clear c68b1
              obtain ⟨x16_4, x17_4, rfl, HA, HK4, HO_6, HO_16, HB⟩ := hrel
              cases gk with
              | zero => exact absurd HA.out (by simp [gimbalref11_Tight.l6])
              | succ k4 =>
               have H := HA.out
               clear HA
               simp only [gimbalref11_Tight.l6] at H
               by_cases c71 : x17_4 < a1
               ·
                rw [if_pos c71] at H
                have c71b0 : decide (x17_4 < a1) = true := decide_eq_true c71
                clear c71
                have H' := Aside0.mk H
                clear H
                go_wp2
                go_loopg [18] k4 (fun kq v18 w' => ∃ (x16_5 : List Int) (x18_5 : Int), v18 = .int .i64 x18_5 ∧ Aside0 (gimbalref11_Tight.l7 kq a1 x6_2 x16_5 x17_4 x18_5 = some (r1, r2)) ∧ Aside0 (kq ≤ k4) ∧ Aside0 (Kd.R (Kd.int .i64) 2 w' w.heap.size (fun k_ => some k_ ≠ (v254 : Value).ownBlock) u6 x6_2) ∧ Aside0 (Kd.R (Kd.int .i64) 2 w' w.heap.size (fun k_ => some k_ ≠ (u6 : Value).ownBlock) v254 x16_5) ∧ Aside0 (Below w.heap.size w w'))
                case atStart => exact ⟨(x16_4), (0), (by first | rfl | (simp; done) | (simp [*]; done)), H', ⟨Nat.le_refl _⟩, ⟨vR HO_6.out⟩, ⟨vR HO_16.out⟩, ⟨vW HB.out⟩⟩
                case round =>
                 clear H'
                 try clear c71b0
                 obtain ⟨x16_5, x18_5, rfl, HA, HK5, HO_6, HO_16, HB⟩ := hrel
                 cases gk with
                 | zero => exact absurd HA.out (by simp [gimbalref11_Tight.l7])
                 | succ k5 =>
                  have H := HA.out
                  clear HA
                  simp only [gimbalref11_Tight.l7] at H
                  by_cases c72 : x18_5 < a1
                  ·
                   rw [if_pos c72] at H
                   have c72b0 : decide (x18_5 < a1) = true := decide_eq_true c72
                   clear c72
                   obtain ⟨ji73, hji73⟩ : ∃ j_ : Int, (wrap64 ((wrap64 (x17_4 * a1)) + x18_5)) = j_ := ⟨_, rfl⟩
                   replace H : (if 0 ≤ (ji73) then (if (ji73) < (x6_2.length : Int) then (if (ji73) < (x16_5.length : Int) then ((some (x16_5.set ((ji73) : Int).toNat (rd x6_2 (ji73)) : List Int)).bind fun y257 => ((gimbalref11_bar.f x17_4).bind fun t258 => (if 0 ≤ (wrap64 ((wrap64 (x17_4 * a1)) + t258)) then (if (wrap64 ((wrap64 (x17_4 * a1)) + t258)) < (x6_2.length : Int) then ((gimbalref11_bar.f x18_5).bind fun t260 => (if 0 ≤ (wrap64 ((wrap64 (t260 * a1)) + x18_5)) then (if (wrap64 ((wrap64 (t260 * a1)) + x18_5)) < (x6_2.length : Int) then ((gimbalref11_plus.f (rd x6_2 (wrap64 ((wrap64 (x17_4 * a1)) + t258))) (rd x6_2 (wrap64 ((wrap64 (t260 * a1)) + x18_5)))).bind fun t262 => (if t262 = 4611686018427387904 then (gimbalref11_Tight.l7 k5 a1 x6_2 y257 x17_4 (wrap64 (x18_5 + 1))) else ((gimbalref11_halved.f t262).bind fun t264 => (gimbalref11_Tight.l7 k5 a1 x6_2 (y257.set ((ji73) : Int).toNat (mn (rd y257 (ji73)) t264)) x17_4 (wrap64 (x18_5 + 1)))))) else (none)) else (none))) else (none)) else (none)))) else (none)) else (none)) else (none)) = some (r1, r2) := by first | (rw [hji73] at H; exact H) | (simp only [hji73] at H ⊢; exact H)
                   have hji73w : (IntKind.i64.wrap ((wrap64 (x17_4 * a1)) + x18_5)) = ji73 := (i64_w _).trans hji73
                   by_cases c74 : 0 ≤ (ji73)
                   ·
                    rw [if_pos c74] at H
                    have c74b0 : decide (0 ≤ (ji73)) = true := decide_eq_true c74
                    clear c74
                    by_cases c75 : (ji73) < (x6_2.length : Int)
                    ·
                     rw [if_pos c75] at H
                     have c75b0 : decide ((ji73) < (x6_2.length : Int)) = true := decide_eq_true c75
                     clear c75
                     by_cases c76 : (ji73) < (x16_5.length : Int)
                     ·
                      rw [if_pos c76] at H
                      have c76b0 : decide ((ji73) < (x16_5.length : Int)) = true := decide_eq_true c76
                      clear c76
                      obtain ⟨y257, hy257⟩ : ∃ y_ : List Int, y_ = (x16_5.set ((ji73) : Int).toNat (rd x6_2 (ji73))) := ⟨_, rfl⟩
                      replace H : ((gimbalref11_bar.f x17_4).bind fun t258 => (if 0 ≤ (wrap64 ((wrap64 (x17_4 * a1)) + t258)) then (if (wrap64 ((wrap64 (x17_4 * a1)) + t258)) < (x6_2.length : Int) then ((gimbalref11_bar.f x18_5).bind fun t260 => (if 0 ≤ (wrap64 ((wrap64 (t260 * a1)) + x18_5)) then (if (wrap64 ((wrap64 (t260 * a1)) + x18_5)) < (x6_2.length : Int) then ((gimbalref11_plus.f (rd x6_2 (wrap64 ((wrap64 (x17_4 * a1)) + t258))) (rd x6_2 (wrap64 ((wrap64 (t260 * a1)) + x18_5)))).bind fun t262 => (if t262 = 4611686018427387904 then (gimbalref11_Tight.l7 k5 a1 x6_2 y257 x17_4 (wrap64 (x18_5 + 1))) else ((gimbalref11_halved.f t262).bind fun t264 => (gimbalref11_Tight.l7 k5 a1 x6_2 (y257.set ((ji73) : Int).toNat (mn (rd y257 (ji73)) t264)) x17_4 (wrap64 (x18_5 + 1)))))) else (none)) else (none))) else (none)) else (none))) = some (r1, r2) := by first | (rw [hy257]; with_reducible exact H) | (have H2_ := (Option.bind_some _ _).symm.trans H; rw [hy257]; with_reducible exact H2_) | (have H2_ := (Option.bind_some _ _).symm.trans H; with_reducible exact H2_) | with_reducible exact H | (rw [hy257]; exact H) | exact H
                      have Ny257 := Aside0.mk hy257
                      clear hy257
                      replace H := Option.bind_eq_some_iff.mp H
                      obtain ⟨t258, A780, H⟩ := H
                      replace H : (if 0 ≤ (wrap64 ((wrap64 (x17_4 * a1)) + t258)) then (if (wrap64 ((wrap64 (x17_4 * a1)) + t258)) < (x6_2.length : Int) then ((gimbalref11_bar.f x18_5).bind fun t260 => (if 0 ≤ (wrap64 ((wrap64 (t260 * a1)) + x18_5)) then (if (wrap64 ((wrap64 (t260 * a1)) + x18_5)) < (x6_2.length : Int) then ((gimbalref11_plus.f (rd x6_2 (wrap64 ((wrap64 (x17_4 * a1)) + t258))) (rd x6_2 (wrap64 ((wrap64 (t260 * a1)) + x18_5)))).bind fun t262 => (if t262 = 4611686018427387904 then (gimbalref11_Tight.l7 k5 a1 x6_2 y257 x17_4 (wrap64 (x18_5 + 1))) else ((gimbalref11_halved.f t262).bind fun t264 => (gimbalref11_Tight.l7 k5 a1 x6_2 (y257.set ((ji73) : Int).toNat (mn (rd y257 (ji73)) t264)) x17_4 (wrap64 (x18_5 + 1)))))) else (none)) else (none))) else (none)) else (none)) = some (r1, r2) := H
                      have A78 := Aside0.mk A780
                      clear A780
                      obtain ⟨ji79, hji79⟩ : ∃ j_ : Int, (wrap64 ((wrap64 (x17_4 * a1)) + t258)) = j_ := ⟨_, rfl⟩
                      replace H : (if 0 ≤ (ji79) then (if (ji79) < (x6_2.length : Int) then ((gimbalref11_bar.f x18_5).bind fun t260 => (if 0 ≤ (wrap64 ((wrap64 (t260 * a1)) + x18_5)) then (if (wrap64 ((wrap64 (t260 * a1)) + x18_5)) < (x6_2.length : Int) then ((gimbalref11_plus.f (rd x6_2 (ji79)) (rd x6_2 (wrap64 ((wrap64 (t260 * a1)) + x18_5)))).bind fun t262 => (if t262 = 4611686018427387904 then (gimbalref11_Tight.l7 k5 a1 x6_2 y257 x17_4 (wrap64 (x18_5 + 1))) else ((gimbalref11_halved.f t262).bind fun t264 => (gimbalref11_Tight.l7 k5 a1 x6_2 (y257.set ((ji73) : Int).toNat (mn (rd y257 (ji73)) t264)) x17_4 (wrap64 (x18_5 + 1)))))) else (none)) else (none))) else (none)) else (none)) = some (r1, r2) := by first | (rw [hji79] at H; exact H) | (simp only [hji79] at H ⊢; exact H)
                      (try rw [hji79] at A78)
                      have hji79w : (IntKind.i64.wrap ((wrap64 (x17_4 * a1)) + t258)) = ji79 := (i64_w _).trans hji79
                      by_cases c80 : 0 ≤ (ji79)
                      ·
                       rw [if_pos c80] at H
                       have c80b0 : decide (0 ≤ (ji79)) = true := decide_eq_true c80
                       clear c80
                       by_cases c81 : (ji79) < (x6_2.length : Int)
                       ·
                        rw [if_pos c81] at H
                        have c81b0 : decide ((ji79) < (x6_2.length : Int)) = true := decide_eq_true c81
                        clear c81
                        replace H := Option.bind_eq_some_iff.mp H
                        obtain ⟨t260, A820, H⟩ := H
                        replace H : (if 0 ≤ (wrap64 ((wrap64 (t260 * a1)) + x18_5)) then (if (wrap64 ((wrap64 (t260 * a1)) + x18_5)) < (x6_2.length : Int) then ((gimbalref11_plus.f (rd x6_2 (ji79)) (rd x6_2 (wrap64 ((wrap64 (t260 * a1)) + x18_5)))).bind fun t262 => (if t262 = 4611686018427387904 then (gimbalref11_Tight.l7 k5 a1 x6_2 y257 x17_4 (wrap64 (x18_5 + 1))) else ((gimbalref11_halved.f t262).bind fun t264 => (gimbalref11_Tight.l7 k5 a1 x6_2 (y257.set ((ji73) : Int).toNat (mn (rd y257 (ji73)) t264)) x17_4 (wrap64 (x18_5 + 1)))))) else (none)) else (none)) = some (r1, r2) := H
                        have A82 := Aside0.mk A820
                        clear A820
                        obtain ⟨ji83, hji83⟩ : ∃ j_ : Int, (wrap64 ((wrap64 (t260 * a1)) + x18_5)) = j_ := ⟨_, rfl⟩
                        replace H : (if 0 ≤ (ji83) then (if (ji83) < (x6_2.length : Int) then ((gimbalref11_plus.f (rd x6_2 (ji79)) (rd x6_2 (ji83))).bind fun t262 => (if t262 = 4611686018427387904 then (gimbalref11_Tight.l7 k5 a1 x6_2 y257 x17_4 (wrap64 (x18_5 + 1))) else ((gimbalref11_halved.f t262).bind fun t264 => (gimbalref11_Tight.l7 k5 a1 x6_2 (y257.set ((ji73) : Int).toNat (mn (rd y257 (ji73)) t264)) x17_4 (wrap64 (x18_5 + 1)))))) else (none)) else (none)) = some (r1, r2) := by first | (rw [hji83] at H; exact H) | (simp only [hji83] at H ⊢; exact H)
                        (try rw [hji83] at A78)
                        (try rw [hji83] at A82)
                        have hji83w : (IntKind.i64.wrap ((wrap64 (t260 * a1)) + x18_5)) = ji83 := (i64_w _).trans hji83
                        by_cases c84 : 0 ≤ (ji83)
                        ·
                         rw [if_pos c84] at H
                         have c84b0 : decide (0 ≤ (ji83)) = true := decide_eq_true c84
                         clear c84
                         by_cases c85 : (ji83) < (x6_2.length : Int)
                         ·
                          rw [if_pos c85] at H
                          have c85b0 : decide ((ji83) < (x6_2.length : Int)) = true := decide_eq_true c85
                          clear c85
                          replace H := Option.bind_eq_some_iff.mp H
                          obtain ⟨t262, A860, H⟩ := H
                          replace H : (if t262 = 4611686018427387904 then (gimbalref11_Tight.l7 k5 a1 x6_2 y257 x17_4 (wrap64 (x18_5 + 1))) else ((gimbalref11_halved.f t262).bind fun t264 => (gimbalref11_Tight.l7 k5 a1 x6_2 (y257.set ((ji73) : Int).toNat (mn (rd y257 (ji73)) t264)) x17_4 (wrap64 (x18_5 + 1))))) = some (r1, r2) := H
                          have A86 := Aside0.mk A860
                          clear A860
                          by_cases c87 : t262 = 4611686018427387904
                          ·
                           rw [if_pos c87] at H
                           have c87b0 : (t262 == 4611686018427387904) = true := beq_iff_eq.mpr c87
                           have c87b1 : (t262 != 4611686018427387904) = false := bne_eq_false_iff_eq.mpr c87
                           clear c87
                           have H' := Aside0.mk H
                           clear H
                           obtain ⟨Ao88, co88, eo88⟩ := Kd.R_slice HO_6.out
                           subst eo88
                           have p256 : 0 ≤ ((ji73) : Int) := of_decide_eq_true (by first | (with_reducible assumption) | assumption)
                           have q256 : (ji73) < (x6_2.length : Int) := of_decide_eq_true (by first | (with_reducible assumption) | assumption)
                           (try (obtain ⟨AoZ, coZ, eoZ⟩ := Kd.R_slice HO_6.out; subst eoZ))
                           obtain ⟨ad256, e256, hx256_0⟩ := Kd.at_int (Kd.R_reads' HO_6.out).2.2 (ji73) p256 q256
                           cases e256
                           replace p256 := eq_true p256
                           replace q256 := eq_true q256
                           have p77 : 0 ≤ ((ji73) : Int) := of_decide_eq_true (by first | (with_reducible assumption) | assumption)
                           have q77 : ((ji73) : Int) < ((x16_5.length : Int) : Int) := of_decide_eq_true (by first | (with_reducible assumption) | assumption)
                           obtain ⟨go77, co77, eo77, gb77, gl77, cl77, HG77⟩ := Kd.R_form HO_16.out (by omega)
                           (first | cases eo77 | (injection eo77 with ea_ en_ ec_; (first | subst ea_ | (injection ea_ with ea_; subst ea_)); subst ec_; clear en_))
                           have GB77 := Aside0.mk gb77
                           have GG77 := Aside0.mk HG77
                           clear gb77 gl77 HG77
                           obtain ⟨hx77_0, hf77_0⟩ := Kd.R_celln 0 HO_16.out ((ji73) : Int) p77 q77
                           replace p77 := eq_true p77
                           replace q77 := eq_true q77
                           have HP89 := Kd.R_putg HO_16.out ((ji73) : Int) (rd x6_2 (ji73))
                           try go_wp2_with ((with_reducible refine gate_store (t := 2) (p := 171) rfl ?_); refine store_event (t := 2) (p := 171) (v := ?vo_w90) (w1 := (wr.setCell ⟨go77, ((ji73) : Int).toNat, none⟩ (.int .i64 (rd x6_2 (ji73))))) ?hg ?ho ?hn ?hr ?_; (case ho => rfl); (case hg => rfl); (case hn => rfl); (case hr => first | (go_simp; done) | (go_simp; rfl)); intro w90 hw; have hg : wr.grownBy w90 (some go77) := (by rw [hw]; exact HP89.2); have hp_ : Kd.R (Kd.int .i64) 2 w90 w.heap.size (fun k_ => some k_ ≠ (.slice (some ad256) x6_2.length co88 : Value).ownBlock) (.slice (some ⟨go77, 0, none⟩) x16_5.length co77) y257 := (by rw [hw, Ny257.out]; exact HP89.1); clear HP89; replace HO_6 := Aside0.mk (Kd.R_after (v := (.slice (some ⟨go77, 0, none⟩) x16_5.length co77)) (v1 := (.slice (some ⟨go77, 0, none⟩) x16_5.length co77)) (ok := (fun _ => True)) (by (with_reducible repeat (first | apply Kd.R_alloc | apply Kd.R_drewN | apply Kd.R_drew)); exact Kd.R_mono HO_6.out (fun _ hk => ⟨trivial, hk⟩)) hg (.inl rfl)); replace HO_16 := Aside0.mk (hp_); replace HB := Aside0.mk ((by rw [hw]; exact below_set (HB.out) GB77.out : Below w.heap.size w w90)); clear hg hw hp_)
                           replace HO_6 := Aside0.mk (Kd.R_drew HO_6.out)
                           replace HO_16 := Aside0.mk (Kd.R_drew HO_16.out)
                           replace HB := Aside0.mk (below_drew1 HB.out)
                           have p259 : 0 ≤ ((ji79) : Int) := of_decide_eq_true (by first | (with_reducible assumption) | assumption)
                           have q259 : (ji79) < (x6_2.length : Int) := of_decide_eq_true (by first | (with_reducible assumption) | assumption)
                           (try (obtain ⟨AoZ, coZ, eoZ⟩ := Kd.R_slice HO_6.out; subst eoZ))
                           obtain ⟨ad259, e259, hx259_0⟩ := Kd.at_int (Kd.R_reads' HO_6.out).2.2 (ji79) p259 q259
                           obtain rfl : ad256 = ad259 := (by injection e259)
                           replace p259 := eq_true p259
                           replace q259 := eq_true q259
                           have p261 : 0 ≤ ((ji83) : Int) := of_decide_eq_true (by first | (with_reducible assumption) | assumption)
                           have q261 : (ji83) < (x6_2.length : Int) := of_decide_eq_true (by first | (with_reducible assumption) | assumption)
                           (try (obtain ⟨AoZ, coZ, eoZ⟩ := Kd.R_slice HO_6.out; subst eoZ))
                           obtain ⟨ad261, e261, hx261_0⟩ := Kd.at_int (Kd.R_reads' HO_6.out).2.2 (ji83) p261 q261
                           obtain rfl : ad256 = ad261 := (by injection e261)
                           replace p261 := eq_true p261
                           replace q261 := eq_true q261
                           refine start_ (n := 20) (S := fun w' => w'.cell? (ad256.add ((ji79)).toNat) = some (.int .i64 (rd x6_2 (ji79))) ∧ w'.cell? (ad256.add ((ji83)).toNat) = some (.int .i64 (rd x6_2 (ji83)))) (ds := []) (mB 20 0) (by kernel_rfl) rfl rfl ⟨hx259_0, hx261_0⟩ (fun hHeld => ?_); refine with_tabW gimbalref11_Tight.tab41 gimbalref11_Tight.bits41 (fun HT_ HW_ => ?_)
                           generalize w90.drew = w91 at HO_6 HO_16 HB hx259_0 hx261_0 hHeld ⊢
                           refine pV_ 0 172 (mB 20 1) HT_ ?_
                           refine pV_ 1 173 (mB 20 3) HT_ ?_
                           refine pV_ 2 174 (mB 20 7) HT_ ?_
                           refine pV_ 3 175 (mB 20 15) HT_ ?_
                           refine pV_ 4 176 (mB 20 31) HT_ ?_
                           refine pV_ 9 181 (mB 20 543) HT_ ?_
                           refine pV_ 10 182 (mB 20 1567) HT_ ?_
                           refine pV_ 12 184 (mB 20 5663) HT_ ?_
                           refine pV_ 14 186 (mB 20 22047) HT_ ?_
                           refine one_ (i := 5) (N := some 177) (mB 20 22079) rfl rfl (one_of HT_.out (by kernel_rfl)) (by decide) (fun K hK => ?_)
                           refine goes_ Try.func53 (by kernel_rfl) rfl #[.int .i64 x17_4] (by rfl) rfl rfl vL ?_
                           with_reducible refine (gimbalref11_bar.calls x17_4 t258 _ A78.out).mono ?_
                           rintro e w' ⟨rfl, ⟨nd, rfl⟩⟩
                           refine ⟨_, rfl, ?_⟩
                           refine hK.out _ _ ⟨hHeld.1, hHeld.2⟩ (fun hHeld => ?_)
                           clear hK K
                           refine norm_ (a' := ?_) ?_ ?_
                           rotate_left
                           ·
                            show Act.put _ (some 177) _ = _
                            simp only [Act.put, List.setIfInBounds_toArray, List.set_cons_zero, List.set_cons_succ, i64_w, i32_w]
                            rfl
                           refine pV_ 6 178 (mB 20 22143) HT_ ?_
                           refine pV_ 7 179 (mB 20 22271) HT_ ?_
                           refine tV_ 8 180 (mB 20 22527) HT_ HW_ hHeld ?_
                           refine one_ (i := 11) (N := some 183) (mB 20 24575) rfl rfl (one_of HT_.out (by kernel_rfl)) (by decide) (fun K hK => ?_)
                           refine goes_ Try.func53 (by kernel_rfl) rfl #[.int .i64 x18_5] (by rfl) rfl rfl vL ?_
                           with_reducible refine (gimbalref11_bar.calls x18_5 t260 _ A82.out).mono ?_
                           rintro e w' ⟨rfl, ⟨nd, rfl⟩⟩
                           refine ⟨_, rfl, ?_⟩
                           refine hK.out _ _ ⟨hHeld.1, hHeld.2⟩ (fun hHeld => ?_)
                           clear hK K
                           refine norm_ (a' := ?_) ?_ ?_
                           rotate_left
                           ·
                            show Act.put _ (some 183) _ = _
                            simp only [Act.put, List.setIfInBounds_toArray, List.set_cons_zero, List.set_cons_succ, i64_w, i32_w]
                            rfl
                           refine pV_ 13 185 (mB 20 32767) HT_ ?_
                           refine pV_ 15 187 (mB 20 65535) HT_ ?_
                           refine pV_ 16 188 (mB 20 131071) HT_ ?_
                           refine tV_ 17 189 (mB 20 262143) HT_ HW_ hHeld ?_
                           refine one_ (i := 18) (N := some 190) (mB 20 524287) rfl rfl (one_of HT_.out (by kernel_rfl)) (by decide) (fun K hK => ?_)
                           refine goes_ Try.func84 (by kernel_rfl) rfl #[.int .i64 (rd x6_2 (ji79)), .int .i64 (rd x6_2 (ji83))] (by rfl) rfl rfl (by (try simp only [List.map_toArray, List.map_cons, List.map_nil]); first | done | (simp only [hji79, hji83]; rfl) | rfl | (simp only [List.length_drop, List.length_take]; rfl)) ?_
                           with_reducible refine (gimbalref11_plus.calls (rd x6_2 (ji79)) (rd x6_2 (ji83)) t262 _ A86.out).mono ?_
                           rintro e w' ⟨rfl, ⟨nd, rfl⟩⟩
                           refine ⟨_, rfl, ?_⟩
                           refine hK.out _ _ ⟨hHeld.1, hHeld.2⟩ (fun hHeld => ?_)
                           clear hK K
                           refine norm_ (a' := ?_) ?_ ?_
                           rotate_left
                           ·
                            show Act.put _ (some 190) _ = _
                            simp only [Act.put, List.setIfInBounds_toArray, List.set_cons_zero, List.set_cons_succ, i64_w, i32_w]
                            rfl
                           refine pV_ 19 19 (mB 20 1048575) HT_ ?_
                           refine done_ (done_of HT_.out (by kernel_rfl)) ?_
                           try go_wp2
                           go_roundg k5
                           case measure => have := HK1.out; have := HK2.out; have := HK3.out; have := HK4.out; have := HK5.out; omega
                           case rel => exact ⟨(y257), (wrap64 (x18_5 + 1)), (by first | rfl | (simp; done) | (simp [*]; done)), H', ⟨by have := HK1.out; have := HK2.out; have := HK3.out; have := HK4.out; have := HK5.out; omega⟩, ⟨by (with_reducible repeat (first | apply Kd.R_alloc | apply Kd.R_drewN | apply Kd.R_drew)); exact Kd.R_mono HO_6.out (fun _ hk => hk.2)⟩, ⟨vR HO_16.out⟩, ⟨vW HB.out⟩⟩
                          ·
                           rw [if_neg c87] at H
                           have c87b0 : (t262 == 4611686018427387904) = false := beq_eq_false_iff_ne.mpr c87
                           have c87b1 : (t262 != 4611686018427387904) = true := bne_iff_ne.mpr c87
                           replace H := Option.bind_eq_some_iff.mp H
                           obtain ⟨t264, A920, H⟩ := H
                           replace H : (gimbalref11_Tight.l7 k5 a1 x6_2 (y257.set ((ji73) : Int).toNat (mn (rd y257 (ji73)) t264)) x17_4 (wrap64 (x18_5 + 1))) = some (r1, r2) := H
                           have A92 := Aside0.mk A920
                           clear A920
                           obtain ⟨ji93, hji93⟩ : ∃ j_ : Int, (mn (rd y257 (ji73)) t264) = j_ := ⟨_, rfl⟩
                           replace H : (gimbalref11_Tight.l7 k5 a1 x6_2 (y257.set ((ji73) : Int).toNat (ji93)) x17_4 (wrap64 (x18_5 + 1))) = some (r1, r2) := by first | (rw [hji93] at H; exact H) | (simp only [hji93] at H ⊢; exact H)
                           (try rw [hji93] at A78)
                           (try rw [hji93] at A82)
                           (try rw [hji93] at A86)
                           (try rw [hji93] at A92)
                           have hji93_ : (if t264 < (rd y257 (ji73)) then t264 else (rd y257 (ji73))) = ji93 := hji93
                           obtain ⟨y265, hy265⟩ : ∃ y_ : List Int, y_ = (y257.set ((ji73) : Int).toNat (ji93)) := ⟨_, rfl⟩
                           replace H : (gimbalref11_Tight.l7 k5 a1 x6_2 y265 x17_4 (wrap64 (x18_5 + 1))) = some (r1, r2) := by first | (rw [hy265]; with_reducible exact H) | (have H2_ := (Option.bind_some _ _).symm.trans H; rw [hy265]; with_reducible exact H2_) | (have H2_ := (Option.bind_some _ _).symm.trans H; with_reducible exact H2_) | with_reducible exact H | (rw [hy265]; exact H) | exact H
                           have Ny265 := Aside0.mk hy265
                           clear hy265
                           have H' := Aside0.mk H
                           clear H
                           obtain ⟨Ao95, co95, eo95⟩ := Kd.R_slice HO_6.out
                           subst eo95
                           have p256 : 0 ≤ ((ji73) : Int) := of_decide_eq_true (by first | (with_reducible assumption) | assumption)
                           have q256 : (ji73) < (x6_2.length : Int) := of_decide_eq_true (by first | (with_reducible assumption) | assumption)
                           (try (obtain ⟨AoZ, coZ, eoZ⟩ := Kd.R_slice HO_6.out; subst eoZ))
                           obtain ⟨ad256, e256, hx256_0⟩ := Kd.at_int (Kd.R_reads' HO_6.out).2.2 (ji73) p256 q256
                           cases e256
                           replace p256 := eq_true p256
                           replace q256 := eq_true q256
                           have p77 : 0 ≤ ((ji73) : Int) := of_decide_eq_true (by first | (with_reducible assumption) | assumption)
                           have q77 : ((ji73) : Int) < ((x16_5.length : Int) : Int) := of_decide_eq_true (by first | (with_reducible assumption) | assumption)
                           obtain ⟨go77, co77, eo77, gb77, gl77, cl77, HG77⟩ := Kd.R_form HO_16.out (by omega)
                           (first | cases eo77 | (injection eo77 with ea_ en_ ec_; (first | subst ea_ | (injection ea_ with ea_; subst ea_)); subst ec_; clear en_))
                           have GB77 := Aside0.mk gb77
                           have GG77 := Aside0.mk HG77
                           clear gb77 gl77 HG77
                           obtain ⟨hx77_0, hf77_0⟩ := Kd.R_celln 0 HO_16.out ((ji73) : Int) p77 q77
                           replace p77 := eq_true p77
                           replace q77 := eq_true q77
                           have HP96 := Kd.R_putg HO_16.out ((ji73) : Int) (rd x6_2 (ji73))
                           try go_wp2_with ((with_reducible refine gate_store (t := 2) (p := 171) rfl ?_); refine store_event (t := 2) (p := 171) (v := ?vo_w97) (w1 := (wr.setCell ⟨go77, ((ji73) : Int).toNat, none⟩ (.int .i64 (rd x6_2 (ji73))))) ?hg ?ho ?hn ?hr ?_; (case ho => rfl); (case hg => rfl); (case hn => rfl); (case hr => first | (go_simp; done) | (go_simp; rfl)); intro w97 hw; have hg : wr.grownBy w97 (some go77) := (by rw [hw]; exact HP96.2); have hp_ : Kd.R (Kd.int .i64) 2 w97 w.heap.size (fun k_ => some k_ ≠ (.slice (some ad256) x6_2.length co95 : Value).ownBlock) (.slice (some ⟨go77, 0, none⟩) x16_5.length co77) y257 := (by rw [hw, Ny257.out]; exact HP96.1); clear HP96; replace HO_6 := Aside0.mk (Kd.R_after (v := (.slice (some ⟨go77, 0, none⟩) x16_5.length co77)) (v1 := (.slice (some ⟨go77, 0, none⟩) x16_5.length co77)) (ok := (fun _ => True)) (by (with_reducible repeat (first | apply Kd.R_alloc | apply Kd.R_drewN | apply Kd.R_drew)); exact Kd.R_mono HO_6.out (fun _ hk => ⟨trivial, hk⟩)) hg (.inl rfl)); replace HO_16 := Aside0.mk (hp_); replace HB := Aside0.mk ((by rw [hw]; exact below_set (HB.out) GB77.out : Below w.heap.size w w97)); clear hg hw hp_)
                           replace HO_6 := Aside0.mk (Kd.R_drew HO_6.out)
                           replace HO_16 := Aside0.mk (Kd.R_drew HO_16.out)
                           replace HB := Aside0.mk (below_drew1 HB.out)
                           have p259 : 0 ≤ ((ji79) : Int) := of_decide_eq_true (by first | (with_reducible assumption) | assumption)
                           have q259 : (ji79) < (x6_2.length : Int) := of_decide_eq_true (by first | (with_reducible assumption) | assumption)
                           (try (obtain ⟨AoZ, coZ, eoZ⟩ := Kd.R_slice HO_6.out; subst eoZ))
                           obtain ⟨ad259, e259, hx259_0⟩ := Kd.at_int (Kd.R_reads' HO_6.out).2.2 (ji79) p259 q259
                           obtain rfl : ad256 = ad259 := (by injection e259)
                           replace p259 := eq_true p259
                           replace q259 := eq_true q259
                           have p261 : 0 ≤ ((ji83) : Int) := of_decide_eq_true (by first | (with_reducible assumption) | assumption)
                           have q261 : (ji83) < (x6_2.length : Int) := of_decide_eq_true (by first | (with_reducible assumption) | assumption)
                           (try (obtain ⟨AoZ, coZ, eoZ⟩ := Kd.R_slice HO_6.out; subst eoZ))
                           obtain ⟨ad261, e261, hx261_0⟩ := Kd.at_int (Kd.R_reads' HO_6.out).2.2 (ji83) p261 q261
                           obtain rfl : ad256 = ad261 := (by injection e261)
                           replace p261 := eq_true p261
                           replace q261 := eq_true q261
                           refine start_ (n := 20) (S := fun w' => w'.cell? (ad256.add ((ji79)).toNat) = some (.int .i64 (rd x6_2 (ji79))) ∧ w'.cell? (ad256.add ((ji83)).toNat) = some (.int .i64 (rd x6_2 (ji83)))) (ds := []) (mB 20 0) (by kernel_rfl) rfl rfl ⟨hx259_0, hx261_0⟩ (fun hHeld => ?_); refine with_tabW gimbalref11_Tight.tab41 gimbalref11_Tight.bits41 (fun HT_ HW_ => ?_)
                           generalize w97.drew = w98 at HO_6 HO_16 HB hx259_0 hx261_0 hHeld ⊢
                           refine pV_ 0 172 (mB 20 1) HT_ ?_
                           refine pV_ 1 173 (mB 20 3) HT_ ?_
                           refine pV_ 2 174 (mB 20 7) HT_ ?_
                           refine pV_ 3 175 (mB 20 15) HT_ ?_
                           refine pV_ 4 176 (mB 20 31) HT_ ?_
                           refine pV_ 9 181 (mB 20 543) HT_ ?_
                           refine pV_ 10 182 (mB 20 1567) HT_ ?_
                           refine pV_ 12 184 (mB 20 5663) HT_ ?_
                           refine pV_ 14 186 (mB 20 22047) HT_ ?_
                           refine one_ (i := 5) (N := some 177) (mB 20 22079) rfl rfl (one_of HT_.out (by kernel_rfl)) (by decide) (fun K hK => ?_)
                           refine goes_ Try.func53 (by kernel_rfl) rfl #[.int .i64 x17_4] (by rfl) rfl rfl vL ?_
                           with_reducible refine (gimbalref11_bar.calls x17_4 t258 _ A78.out).mono ?_
                           rintro e w' ⟨rfl, ⟨nd, rfl⟩⟩
                           refine ⟨_, rfl, ?_⟩
                           refine hK.out _ _ ⟨hHeld.1, hHeld.2⟩ (fun hHeld => ?_)
                           clear hK K
                           refine norm_ (a' := ?_) ?_ ?_
                           rotate_left
                           ·
                            show Act.put _ (some 177) _ = _
                            simp only [Act.put, List.setIfInBounds_toArray, List.set_cons_zero, List.set_cons_succ, i64_w, i32_w]
                            rfl
                           refine pV_ 6 178 (mB 20 22143) HT_ ?_
                           refine pV_ 7 179 (mB 20 22271) HT_ ?_
                           refine tV_ 8 180 (mB 20 22527) HT_ HW_ hHeld ?_
                           refine one_ (i := 11) (N := some 183) (mB 20 24575) rfl rfl (one_of HT_.out (by kernel_rfl)) (by decide) (fun K hK => ?_)
                           refine goes_ Try.func53 (by kernel_rfl) rfl #[.int .i64 x18_5] (by rfl) rfl rfl vL ?_
                           with_reducible refine (gimbalref11_bar.calls x18_5 t260 _ A82.out).mono ?_
                           rintro e w' ⟨rfl, ⟨nd, rfl⟩⟩
                           refine ⟨_, rfl, ?_⟩
                           refine hK.out _ _ ⟨hHeld.1, hHeld.2⟩ (fun hHeld => ?_)
                           clear hK K
                           refine norm_ (a' := ?_) ?_ ?_
                           rotate_left
                           ·
                            show Act.put _ (some 183) _ = _
                            simp only [Act.put, List.setIfInBounds_toArray, List.set_cons_zero, List.set_cons_succ, i64_w, i32_w]
                            rfl
                           refine pV_ 13 185 (mB 20 32767) HT_ ?_
                           refine pV_ 15 187 (mB 20 65535) HT_ ?_
                           refine pV_ 16 188 (mB 20 131071) HT_ ?_
                           refine tV_ 17 189 (mB 20 262143) HT_ HW_ hHeld ?_
                           refine one_ (i := 18) (N := some 190) (mB 20 524287) rfl rfl (one_of HT_.out (by kernel_rfl)) (by decide) (fun K hK => ?_)
                           refine goes_ Try.func84 (by kernel_rfl) rfl #[.int .i64 (rd x6_2 (ji79)), .int .i64 (rd x6_2 (ji83))] (by rfl) rfl rfl (by (try simp only [List.map_toArray, List.map_cons, List.map_nil]); first | done | (simp only [hji79, hji83]; rfl) | rfl | (simp only [List.length_drop, List.length_take]; rfl)) ?_
                           with_reducible refine (gimbalref11_plus.calls (rd x6_2 (ji79)) (rd x6_2 (ji83)) t262 _ A86.out).mono ?_
                           rintro e w' ⟨rfl, ⟨nd, rfl⟩⟩
                           refine ⟨_, rfl, ?_⟩
                           refine hK.out _ _ ⟨hHeld.1, hHeld.2⟩ (fun hHeld => ?_)
                           clear hK K
                           refine norm_ (a' := ?_) ?_ ?_
                           rotate_left
                           ·
                            show Act.put _ (some 190) _ = _
                            simp only [Act.put, List.setIfInBounds_toArray, List.set_cons_zero, List.set_cons_succ, i64_w, i32_w]
                            rfl
                           refine pV_ 19 19 (mB 20 1048575) HT_ ?_
                           refine done_ (done_of HT_.out (by kernel_rfl)) ?_
                           try go_wp2
                           (try (rw [drewN_self w98]; generalize hq_ : World.drewN w98 _ = w98; have n0_ : Aside0 (Kd.R (Kd.int .i64) 2 w98 w.heap.size (fun k_ => some k_ ≠ (.slice (some ad256) x6_2.length co95 : Value).ownBlock) (.slice (some ⟨go77, 0, none⟩) x16_5.length co77) y257) := ⟨by rw [← hq_]; exact (vR HO_16.out)⟩; have n1_ : Aside0 (Kd.R (Kd.int .i64) 2 w98 w.heap.size (fun k_ => some k_ ≠ (.slice (some ⟨go77, 0, none⟩) x16_5.length co77 : Value).ownBlock) (.slice (some ad256) x6_2.length co95) x6_2) := ⟨by rw [← hq_]; exact (by (with_reducible repeat (first | apply Kd.R_alloc | apply Kd.R_drewN | apply Kd.R_drew)); exact Kd.R_mono HO_6.out (fun _ hk => hk.2))⟩; have n2_ : Aside0 (Below w.heap.size w w98) := ⟨by rw [← hq_]; exact (vW HB.out)⟩; clear HO_16 HO_6 HB hq_; have HO_16 := n0_; have HO_6 := n1_; have HB := n2_; clear n0_ n1_ n2_))
                           replace HO_6 := Aside0.mk (Kd.R_drew HO_6.out)
                           replace HO_16 := Aside0.mk (Kd.R_drew HO_16.out)
                           replace HB := Aside0.mk (below_drew1 HB.out)
                           have p263 : 0 ≤ ((ji73) : Int) := of_decide_eq_true (by first | (with_reducible assumption) | assumption)
                           have q263 : (ji73) < (y257.length : Int) := (by have h_ : ((ji73) : Int) < ((x16_5.length : Int) : Int) := of_decide_eq_true (by first | (with_reducible assumption) | assumption); first | (have e_ := (Kd.R_reads' HO_16.out).1; omega) | simpa only [Ny257.out, List.length_set] using h_)
                           have ql263 : (((ji73) : Int) < ((x16_5.length : Int) : Int)) = True := eq_true (of_decide_eq_true (by first | (with_reducible assumption) | assumption))
                           obtain ⟨ad263, e263, hx263_0⟩ := Kd.at_int (Kd.R_reads' HO_16.out).2.2 (ji73) p263 q263
                           obtain rfl : (⟨go77, 0, none⟩ : Addr) = ad263 := (by injection e263)
                           (first | simp only [add_plain] at hx263_0 | simp only [add_at] at hx263_0 | simp only [Addr.add, Nat.zero_add] at hx263_0 | skip)
                           replace p263 := eq_true p263
                           replace q263 := eq_true q263
                           refine start_ (n := 19) (S := fun w' => w'.cell? ⟨go77, ((ji73)).toNat, none⟩ = some (.int .i64 (rd y257 (ji73)))) (ds := [18]) (mB 19 0) (by kernel_rfl) rfl rfl (hx263_0) (fun hHeld => ?_); refine with_tabW gimbalref11_Tight.tab43 gimbalref11_Tight.bits43 (fun HT_ HW_ => ?_)
                           generalize w98.drew = w99 at HO_6 HO_16 HB hx263_0 hHeld ⊢
                           refine pV_ 0 193 (mB 19 1) HT_ ?_
                           refine pV_ 1 194 (mB 19 3) HT_ ?_
                           refine pV_ 2 195 (mB 19 7) HT_ ?_
                           refine pV_ 3 196 (mB 19 15) HT_ ?_
                           refine pV_ 4 197 (mB 19 31) HT_ ?_
                           refine pV_ 5 198 (mB 19 63) HT_ ?_
                           refine pV_ 6 199 (mB 19 127) HT_ ?_
                           refine pV_ 7 200 (mB 19 255) HT_ ?_
                           refine pV_ 8 201 (mB 19 511) HT_ ?_
                           refine pV_ 9 202 (mB 19 1023) HT_ ?_
                           refine pV_ 10 203 (mB 19 2047) HT_ ?_
                           refine pV_ 11 204 (mB 19 4095) HT_ ?_
                           refine pV_ 12 205 (mB 19 8191) HT_ ?_
                           refine pV_ 14 207 (mB 19 24575) HT_ ?_
                           refine tV_ 13 206 (mB 19 32767) HT_ HW_ hHeld ?_
                           refine one_ (i := 15) (N := some 208) (mB 19 65535) rfl rfl (one_of HT_.out (by kernel_rfl)) (by decide) (fun K hK => ?_)
                           refine goes_ Try.func85 (by kernel_rfl) rfl #[.int .i64 t262] (by rfl) rfl rfl vL ?_
                           with_reducible refine (gimbalref11_halved.calls t262 t264 _ A92.out).mono ?_
                           rintro e w' ⟨rfl, ⟨nd, rfl⟩⟩
                           refine ⟨_, rfl, ?_⟩
                           have p94 : 0 ≤ ((ji73) : Int) := of_decide_eq_true (by first | (with_reducible assumption) | assumption)
                           have q94 : ((ji73) : Int) < ((x16_5.length : Int) : Int) := of_decide_eq_true (by first | (with_reducible assumption) | assumption)
                           obtain ⟨hx94_0, hf94_0⟩ := Kd.R_celln 0 HO_16.out ((ji73) : Int) p94 q94
                           replace p94 := eq_true p94
                           replace q94 := eq_true q94
                           have HP100 := Kd.R_putn HO_16.out ((ji73) : Int) ji93
                           rw [← Ny265.out] at HP100
                           have HQ100 := Aside0.mk HP100
                           clear HP100
                           refine hK.out _ _ (hHeld) (fun hHeld => ?_)
                           clear hK K
                           refine norm_ (a' := ?_) ?_ ?_
                           rotate_left
                           ·
                            show Act.put _ (some 208) _ = _
                            simp only [Act.put, List.setIfInBounds_toArray, List.set_cons_zero, List.set_cons_succ, i64_w, i32_w]
                            rfl
                           refine pV_ 16 209 (mB 19 131071) HT_ ?_
                           refine pV_ 17 210 (mB 19 262143) HT_ ?_
                           refine last_ (i := 18) (N := none) (mB 19 524287) rfl rfl (one_of HT_.out (by kernel_rfl)) (by decide) (fun K hK => ?_)
                           refine skip_ (w1 := ?_) (by rfl) rfl ?_ ?_
                           rotate_left
                           ·
                            go_simp
                            rfl
                           refine hK.out _ _ ?_
                           clear hK K
                           refine done_ (done_of HT_.out (by kernel_rfl)) ?_
                           try go_wp2
                           go_roundg k5
                           case measure => have := HK1.out; have := HK2.out; have := HK3.out; have := HK4.out; have := HK5.out; omega
                           case rel => exact ⟨(y265), (wrap64 (x18_5 + 1)), (by first | rfl | (simp; done) | (simp [*]; done)), H', ⟨by have := HK1.out; have := HK2.out; have := HK3.out; have := HK4.out; have := HK5.out; omega⟩, ⟨by (with_reducible repeat (first | apply Kd.R_alloc | apply Kd.R_drewN | apply Kd.R_drew)); exact Kd.R_mono (Kd.R_far (p := ⟨go77, ((ji73) : Int).toNat, none⟩) (Kd.R_mono HO_6.out (fun k_ hk => (⟨hk, fun e_ => hk (by rw [e_]; rfl)⟩ : _ ∧ k_ ≠ go77))) (fun _ hk => hk.2) (.int .i64 ji93)) (fun _ hk => hk.1)⟩, ⟨vR HQ100.out⟩, ⟨vW HB.out⟩⟩
                         ·
                          rw [if_neg c85] at H
                          exact absurd H (by simp)
                        ·
                         rw [if_neg c84] at H
                         exact absurd H (by simp)
                       ·
                        rw [if_neg c81] at H
                        exact absurd H (by simp)
                      ·
                       rw [if_neg c80] at H
                       exact absurd H (by simp)
                     ·
                      rw [if_neg c76] at H
                      exact absurd H (by simp)
                    ·
                     rw [if_neg c75] at H
                     exact absurd H (by simp)
                   ·
                    rw [if_neg c74] at H
                    exact absurd H (by simp)
                  ·
                   rw [if_neg c72] at H
                   have c72b0 : decide (x18_5 < a1) = false := decide_eq_false c72
                   clear c72
                   have H' := Aside0.mk H
                   clear H
                   go_wp2
                   go_roundg k5
                   case measure => have := HK1.out; have := HK2.out; have := HK3.out; have := HK4.out; have := HK5.out; omega
                   case rel => exact ⟨(x16_5), (wrap64 (x17_4 + 1)), (by first | rfl | (simp; done) | (simp [*]; done)), H', ⟨by have := HK1.out; have := HK2.out; have := HK3.out; have := HK4.out; have := HK5.out; omega⟩, ⟨vR HO_6.out⟩, ⟨vR HO_16.out⟩, ⟨vW HB.out⟩⟩
               ·
                rw [if_neg c71] at H
                have c71b0 : decide (x17_4 < a1) = false := decide_eq_false c71
                clear c71
                simp only [Option.some.injEq, Prod.mk.injEq] at H
                obtain ⟨rfl, rfl⟩ := H
                go_wp2
                go_ret2
                exact ⟨_, by first | rfl | (simp [errW_none, errW_some] <;> rfl) | (simp only [← hji66]; first | rfl | (simp [errW_none, errW_some] <;> rfl)) | (simp [*, errW_none, errW_some] <;> rfl) | (simp [wrap64]; done), by (with_reducible repeat (first | apply Kd.R_alloc | apply Kd.R_drewN | apply Kd.R_drew)); exact Kd.R_mono HO_16.out (fun _ hk => trivial), vW HB.out⟩
            ·
             rw [if_neg c68] at H
             exact absurd H (by simp)
           ·
            rw [if_neg c67] at H
            exact absurd H (by simp)
 ·
  rw [if_neg c3] at H
  exact absurd H (by simp)
end Go.Proofs.Ytomgebmimgaojaa.QO
end
end
section
noncomputable section
namespace Go.Proofs.Ytomgebmimgaojaa.QO
open Go.RowKit Go.Proofs.YtomgebmimgaojaaW.PrintWords Go.Proofs.YtomgebmimgaojaaW.PrintLast
set_option linter.unusedVariables false
set_option linter.unusedSimpArgs false
def gimbalref11_clip.f (a0 : Int) : Option (Int) := if a0 > 1099511627776 then (some 4611686018427387904) else (if a0 < (-1099511627776) then (some (-1099511627776)) else (some a0))
set_option maxHeartbeats 8000000 in
set_option maxRecDepth 100000 in
theorem gimbalref11_clip.calls (a0 : Int) (r : Int) (w : World) (h : gimbalref11_clip.f a0 = some r) :
 Calls Try.prog 60 #[.int .i64 a0] w fun e w' => e = .returned (.int .i64 r) ∧ Drawn0 w w' := by
 have H : (if a0 > 1099511627776 then (some 4611686018427387904) else (if a0 < (-1099511627776) then (some (-1099511627776)) else (some a0))) = some r := h
 clear h
 by_cases c2 : a0 > 1099511627776
 ·
  rw [if_pos c2] at H
  have c2b0 : decide (1099511627776 < a0) = true := decide_eq_true c2
  clear c2
  obtain rfl := Option.some.inj H
  go_enter Try.func60, Try.ntmps60
  go_wp2
  go_ret
  exact ⟨by first | rfl | (simp; done) | (simp [*]; done), by repeat (first | exact Drawn0.refl _ | apply Drawn0.step)⟩
 ·
  rw [if_neg c2] at H
  have c2b0 : decide (1099511627776 < a0) = false := decide_eq_false c2
  clear c2
  by_cases c3 : a0 < (-1099511627776)
  ·
   rw [if_pos c3] at H
   have c3b0 : decide (a0 < (-1099511627776)) = true := decide_eq_true c3
   clear c3
   obtain rfl := Option.some.inj H
   go_enter Try.func60, Try.ntmps60
   go_wp2
   go_ret
   exact ⟨by first | rfl | (simp; done) | (simp [*]; done), by repeat (first | exact Drawn0.refl _ | apply Drawn0.step)⟩
  ·
   rw [if_neg c3] at H
   have c3b0 : decide (a0 < (-1099511627776)) = false := decide_eq_false c3
   clear c3
   obtain rfl := Option.some.inj H
   go_enter Try.func60, Try.ntmps60
   go_wp2
   go_ret
   exact ⟨by first | rfl | (simp; done) | (simp [*]; done), by repeat (first | exact Drawn0.refl _ | apply Drawn0.step)⟩
end Go.Proofs.Ytomgebmimgaojaa.QO
end
end
section
noncomputable section
namespace Go.Proofs.Ytomgebmimgaojaa.QO
open Go.RowKit Go.Proofs.YtomgebmimgaojaaW.PrintWords Go.Proofs.YtomgebmimgaojaaW.PrintLast
set_option linter.unusedVariables false
set_option linter.unusedSimpArgs false
def gimbalref11_Close.l0 : Nat → List Int → Int → Int → List Int → List Int → Bool → Option (List Int × List Int × Bool)
 | 0, _, _, _, _, _, _ => none
 | k + 1, x32, x33, x34, x290000, x290001, x290002 => if x34 < x33 then (if 0 ≤ x34 then (if x34 < (x32.length : Int) then ((gimbalref11_clip.f (rd x32 x34)).bind fun t291 => (if x290001.length < 17592186044416 then (gimbalref11_Close.l0 k x32 x33 (wrap64 (x34 + 1)) x290000 (x290001 ++ [t291]) x290002) else (none))) else (none)) else (none)) else (some (x290000, x290001, x290002))
def gimbalref11_Close.f (k : Nat) (l0_0 : List Int) (l0_1 : List Int) (a0_2 : Bool) : Option (List Int × List Int × Bool) := if a0_2 = true then ((gimbalref11_Bottom.f l0_0).bind fun bt268 => (some (bt268.1, bt268.2.1, bt268.2.2))) else ((gimbalref11_Tight.f k l0_1 (wrap64 (2 * (l0_0.length : Int)))).bind fun bt275 => (if bt275.2 = true then ((gimbalref11_copied.f l0_0).bind fun t286 => (gimbalref11_Close.l0 k bt275.1 (bt275.1.length : Int) 0 t286 ([] : List Int) false)) else ((gimbalref11_Bottom.f l0_0).bind fun bt279 => (some (bt279.1, bt279.2.1, bt279.2.2)))))
theorem gimbalref11_Close.mono_l : ∀ k, (∀ y0 y1 y2 y3 y4 y5, LeO (gimbalref11_Close.l0 k y0 y1 y2 y3 y4 y5) (gimbalref11_Close.l0 (k + 1) y0 y1 y2 y3 y4 y5))
 | 0 => fun _ _ _ _ _ _ r h => by simp [gimbalref11_Close.l0] at h
 | k + 1 => by
  have ih0 := gimbalref11_Close.mono_l k
  ·
   intro y0 y1 y2 y3 y4 y5
   unfold gimbalref11_Close.l0
   repeat' first
   | (with_reducible exact ih0 _ _ _ _ _ _)
   | (with_reducible exact gimbalref11_Tight.mono _ _ _)
   | (with_reducible exact LeO.refl _)
   | (with_reducible exact LeO.none _)
   | (with_reducible refine LeO.ite ?_ ?_)
   | (with_reducible refine LeO.bind ?_ (fun _ => ?_))
   | exact ih0 _ _ _ _ _ _
   | exact gimbalref11_Tight.mono _ _ _
   | exact LeO.none _
   | refine LeO.ite ?_ ?_
   | refine LeO.bind ?_ (fun _ => ?_)
theorem gimbalref11_Close.mono : ∀ a0 a1 a2 k, LeO (gimbalref11_Close.f k a0 a1 a2) (gimbalref11_Close.f (k + 1) a0 a1 a2) := by
 intro a0 a1 a2 k
 have ih0 := gimbalref11_Close.mono_l k
 unfold gimbalref11_Close.f
 repeat' first
  | (with_reducible exact ih0 _ _ _ _ _ _)
  | (with_reducible exact gimbalref11_Tight.mono _ _ _)
  | (with_reducible exact LeO.refl _)
  | (with_reducible exact LeO.none _)
  | (with_reducible refine LeO.ite ?_ ?_)
  | (with_reducible refine LeO.bind ?_ (fun _ => ?_))
  | exact ih0 _ _ _ _ _ _
  | exact gimbalref11_Tight.mono _ _ _
  | exact LeO.none _
  | refine LeO.ite ?_ ?_
  | refine LeO.bind ?_ (fun _ => ?_)
def gimbalref11_Close.T10 : Bool × List (List Nat × List Nat) := (true, [([], []), ([0], [0]), ([], []), ([2], [2]), ([3], [3]), ([1, 4, 3], [1, 4]), ([0, 1, 2, 3, 4, 5], []), ([6, 5, 5, 0, 1, 2, 3, 4, 5], [5, 6])])
def gimbalref11_Close.B10 : List Nat := [0, 1, 0, 4, 12, 31, 63, 127]
theorem gimbalref11_Close.tab10 : rtab .any (opsOf Try.f23 10) = gimbalref11_Close.T10 := by kernel_rfl
theorem gimbalref11_Close.bits10 : waitsOk gimbalref11_Close.T10.2 gimbalref11_Close.B10 = true := by kernel_rfl
set_option maxHeartbeats 8000000 in
set_option maxRecDepth 100000 in
theorem gimbalref11_Close.calls (k : Nat) (A0_0 : Option Addr) (c0_0 : Nat) (l0_0 : List Int) (A0_1 : Option Addr) (c0_1 : Nat) (l0_1 : List Int) (a0_2 : Bool) (r1 : List Int) (r2 : List Int) (r3 : Bool) (w : World) (hr0_0 : Kd.C (Kd.int .i64) w A0_0 l0_0.length l0_0) (hc0_0 : l0_0.length ≤ c0_0) (hr0_1 : Kd.C (Kd.int .i64) w A0_1 l0_1.length l0_1) (hc0_1 : l0_1.length ≤ c0_1) (h : gimbalref11_Close.f k l0_0 l0_1 a0_2 = some (r1, r2, r3)) :
 Calls Try.prog 23 #[.agg #[.slice A0_0 l0_0.length c0_0, .slice A0_1 l0_1.length c0_1, .bool a0_2]] w fun e w' => ∃ v0_ v1_ : Value, e = .returned (.agg #[v0_, v1_, .bool r3]) ∧ Kd.R (Kd.int .i64) 3 w' w.heap.size (fun _ => True) v0_ r1 ∧ Kd.R (Kd.int .i64) 2 w' w.heap.size (fun _ => True) v1_ r2 ∧ Below w.heap.size w w' := by
 have hu25 := Try.underlying25
 have HR0_0 := Aside0.mk hr0_0
 have HC0_0 := Aside0.mk hc0_0
 clear hr0_0 hc0_0
 have HR0_1 := Aside0.mk hr0_1
 have HC0_1 := Aside0.mk hc0_1
 clear hr0_1 hc0_1
 have HB := Aside0.mk (Below.refl w.heap.size w)
 have H : (if a0_2 = true then ((gimbalref11_Bottom.f l0_0).bind fun bt268 => (some (bt268.1, bt268.2.1, bt268.2.2))) else ((gimbalref11_Tight.f k l0_1 (wrap64 (2 * (l0_0.length : Int)))).bind fun bt275 => (if bt275.2 = true then ((gimbalref11_copied.f l0_0).bind fun t286 => (gimbalref11_Close.l0 k bt275.1 (bt275.1.length : Int) 0 t286 ([] : List Int) false)) else ((gimbalref11_Bottom.f l0_0).bind fun bt279 => (some (bt279.1, bt279.2.1, bt279.2.2)))))) = some (r1, r2, r3) := h
 clear h
 by_cases c2 : a0_2 = true
 ·
  subst c2
  have H1 : ((gimbalref11_Bottom.f l0_0).bind fun bt268 => (some (bt268.1, bt268.2.1, bt268.2.2))) = some (r1, r2, r3) := by rw [if_pos rfl] at H; exact H
  clear H
  have H := H1
  clear H1
  replace H := Option.bind_eq_some_iff.mp H
  obtain ⟨⟨t268, t271, t274⟩, A30, H⟩ := H
  replace H : (some (t268, t271, t274)) = some (r1, r2, r3) := H
  have A3 := Aside0.mk A30
  clear A30
  simp only [Option.some.injEq, Prod.mk.injEq] at H
  obtain ⟨rfl, rfl, rfl⟩ := H
  go_enter Try.func23, Try.ntmps23
  go_wp2_with (first | ((with_reducible refine gate_dst (N := 1) rfl ?_); refine box_event ?hg (N := 1) ?hd (cs := #[.slice A0_0 l0_0.length c0_0, .slice A0_1 l0_1.length c0_1, .bool true]) (t := 25) ?hr ?_; (case hd => rfl); (case hg => rfl); (case hr => first | (go_simp; done) | (go_simp; rfl)); intro gb266 hg w4 hbox hb; have BK266 := Aside0.mk (hbox); have GW266 := vS hg HB; have GE266 := vS hg HB; replace HB := vWs HB hb; clear hb hbox hg) | ((with_reducible refine gate_dst (N := 2) rfl ?_); refine box_event ?hg (N := 2) ?hd (cs := #[.slice none 0 0, .slice none 0 0, .bool false]) (t := 25) ?hr ?_; (case hd => rfl); (case hg => rfl); (case hr => first | (go_simp; done) | (go_simp; rfl)); intro gb267 hg w5 hbox hb; have BK267 := Aside0.mk (hbox); have GW267 := vS hg HB; have GE267 := vS hg HB; replace HB := vWs HB hb; have NB266_267 := vNl hg BK266; have NB267_266 := vNg hg BK266; replace BK266 := vBb BK266 hb; clear hb hbox hg; have hnb6 := NB266_267.out; have hnc6 := NB267_266.out; obtain ⟨hcz7_0, hcz7_1, hcz7_2, hfz7_0, hfz7_1, hfz7_2⟩ := vF3 BK266.out) | ((with_reducible refine gate_callee (f := 17) rfl ?_); refine goesL_ (some 12) rfl rfl Try.func17 (by kernel_rfl) rfl #[.slice A0_0 l0_0.length c0_0] rfl vL ?_; (with_reducible refine (gimbalref11_Bottom.calls _ _ l0_0 t268 t271 t274 _ ?side1 ?side2 A3.out).mono ?_); (case side1 => exact vC (Kd.C_below HR0_0.out HB.out)); (case side2 => exact HC0_0.out); rintro e w8 ⟨v269, v272, rfl, ho0, ho1, hb⟩; refine ⟨_, rfl, ?_⟩; have HO270 := Aside0.mk (Kd.R_lower ho0 (below_size (vW HB.out))); have HO273 := Aside0.mk (Kd.R_lower ho1 (below_size (vW HB.out))); replace BK266 := vBb BK266 hb; replace BK267 := vBb BK267 hb; replace HB := vWs HB hb; (try clear hb); (try clear hb2); (try clear hk); (try clear hi); (try clear ho0); (try clear ho1); obtain ⟨Ao9, co9, eo9⟩ := Kd.R_slice HO270.out; subst eo9; obtain ⟨hcz10_0, hcz10_1, hcz10_2, hfz10_0, hfz10_1, hfz10_2⟩ := vF3 BK267.out; obtain ⟨Ao11, co11, eo11⟩ := Kd.R_slice HO273.out; subst eo11))
  refine bodyPost_ret (results_cell_row rfl _ _ gb267 25 #[.slice Ao9 t268.length co9, .slice Ao11 t271.length co11, .bool t274] (0, 0) _ rfl (by (with_reducible repeat (first | refine blk_drewN ?_ _ | refine blk_drew ?_ | refine blk_alloc ?_ _)); refine blk_put (cs := #[.slice Ao9 t268.length co9, .slice Ao11 t271.length co11, .bool false]) ?_ 2 _ rfl; (with_reducible repeat (first | refine blk_drewN ?_ _ | refine blk_drew ?_ | refine blk_alloc ?_ _)); refine blk_put (cs := #[.slice Ao9 t268.length co9, .slice none 0 0, .bool false]) ?_ 1 _ rfl; (with_reducible repeat (first | refine blk_drewN ?_ _ | refine blk_drew ?_ | refine blk_alloc ?_ _)); refine blk_put (cs := #[.slice none 0 0, .slice none 0 0, .bool false]) ?_ 0 _ rfl; (with_reducible repeat (first | refine blk_drewN ?_ _ | refine blk_drew ?_ | refine blk_alloc ?_ _)); exact BK267.out) Try.underlying25 rfl (by kernel_rfl)) rfl ?_
  exact ⟨_, _, by first | rfl | (simp [errW_none, errW_some] <;> rfl) | (simp [*, errW_none, errW_some] <;> rfl) | (simp [wrap64]; done), by (with_reducible repeat (first | apply Kd.R_alloc | apply Kd.R_drewN | apply Kd.R_drew)); exact Kd.R_mono (Kd.R_far (p := ⟨gb267, 2, none⟩) (Kd.R_far (p := ⟨gb267, 1, none⟩) (Kd.R_far (p := ⟨gb267, 0, none⟩) (Kd.R_types HO270.out BK267.out (by decide)) (fun _ hk => hk.2) (.slice Ao9 t268.length co9)) (fun _ hk => hk.2) (.slice Ao11 t271.length co11)) (fun _ hk => hk.2) (.bool t274)) (fun _ hk => trivial), by (with_reducible repeat (first | apply Kd.R_alloc | apply Kd.R_drewN | apply Kd.R_drew)); exact Kd.R_mono (Kd.R_far (p := ⟨gb267, 2, none⟩) (Kd.R_far (p := ⟨gb267, 1, none⟩) (Kd.R_far (p := ⟨gb267, 0, none⟩) (Kd.R_types HO273.out BK267.out (by decide)) (fun _ hk => hk.2) (.slice Ao9 t268.length co9)) (fun _ hk => hk.2) (.slice Ao11 t271.length co11)) (fun _ hk => hk.2) (.bool t274)) (fun _ hk => trivial), vW HB.out⟩
 ·
  replace c2 := Bool.eq_false_iff.mpr c2
  subst c2
  have H1 : ((gimbalref11_Tight.f k l0_1 (wrap64 (2 * (l0_0.length : Int)))).bind fun bt275 => (if bt275.2 = true then ((gimbalref11_copied.f l0_0).bind fun t286 => (gimbalref11_Close.l0 k bt275.1 (bt275.1.length : Int) 0 t286 ([] : List Int) false)) else ((gimbalref11_Bottom.f l0_0).bind fun bt279 => (some (bt279.1, bt279.2.1, bt279.2.2))))) = some (r1, r2, r3) := by rw [if_neg (show ¬ (false = true) by decide)] at H; exact H
  clear H
  have H := H1
  clear H1
  replace H := Option.bind_eq_some_iff.mp H
  obtain ⟨⟨t275, t276⟩, A120, H⟩ := H
  replace H : (if t276 = true then ((gimbalref11_copied.f l0_0).bind fun t286 => (gimbalref11_Close.l0 k t275 (t275.length : Int) 0 t286 ([] : List Int) false)) else ((gimbalref11_Bottom.f l0_0).bind fun bt279 => (some (bt279.1, bt279.2.1, bt279.2.2)))) = some (r1, r2, r3) := H
  have A12 := Aside0.mk A120
  clear A120
  by_cases c13 : t276 = true
  ·
   subst c13
   have H1 : ((gimbalref11_copied.f l0_0).bind fun t286 => (gimbalref11_Close.l0 k t275 (t275.length : Int) 0 t286 ([] : List Int) false)) = some (r1, r2, r3) := by rw [if_pos rfl] at H; exact H
   clear H
   have H := H1
   clear H1
   replace H := Option.bind_eq_some_iff.mp H
   obtain ⟨t286, A140, H⟩ := H
   replace H : (gimbalref11_Close.l0 k t275 (t275.length : Int) 0 t286 ([] : List Int) false) = some (r1, r2, r3) := H
   have A14 := Aside0.mk A140
   clear A140
   have H' := Aside0.mk H
   clear H
   go_enter Try.func23, Try.ntmps23
   go_wp2_with (first | ((with_reducible refine gate_dst (N := 1) rfl ?_); refine box_event ?hg (N := 1) ?hd (cs := #[.slice A0_0 l0_0.length c0_0, .slice A0_1 l0_1.length c0_1, .bool false]) (t := 25) ?hr ?_; (case hd => rfl); (case hg => rfl); (case hr => first | (go_simp; done) | (go_simp; rfl)); intro gb266 hg w15 hbox hb; have BK266 := Aside0.mk (hbox); have GW266 := vS hg HB; have GE266 := vS hg HB; replace HB := vWs HB hb; clear hb hbox hg) | ((with_reducible refine gate_dst (N := 2) rfl ?_); refine box_event ?hg (N := 2) ?hd (cs := #[.slice none 0 0, .slice none 0 0, .bool false]) (t := 25) ?hr ?_; (case hd => rfl); (case hg => rfl); (case hr => first | (go_simp; done) | (go_simp; rfl)); intro gb267 hg w16 hbox hb; have BK267 := Aside0.mk (hbox); have GW267 := vS hg HB; have GE267 := vS hg HB; replace HB := vWs HB hb; have NB266_267 := vNl hg BK266; have NB267_266 := vNg hg BK266; replace BK266 := vBb BK266 hb; clear hb hbox hg; have hnb17 := NB266_267.out; have hnc17 := NB267_266.out; obtain ⟨hcz18_0, hcz18_1, hcz18_2, hfz18_0, hfz18_1, hfz18_2⟩ := vF3 BK266.out) | ((with_reducible refine gate_callee (f := 59) rfl ?_); refine goesL_ (some 20) rfl rfl Try.func59 (by kernel_rfl) rfl #[.slice A0_1 l0_1.length c0_1, .int .i64 (wrap64 (2 * (l0_0.length : Int)))] rfl vL ?_; (with_reducible refine (gimbalref11_Tight.calls k _ _ l0_1 (wrap64 (2 * (l0_0.length : Int))) t275 true _ ?side1 ?side2 A12.out).mono ?_); (case side1 => exact vC (Kd.C_below HR0_1.out HB.out)); (case side2 => exact HC0_1.out); rintro e w19 ⟨v277, rfl, ho0, hb⟩; refine ⟨_, rfl, ?_⟩; have HO278 := Aside0.mk (Kd.R_lower ho0 (below_size (vW HB.out))); replace BK266 := vBb BK266 hb; replace BK267 := vBb BK267 hb; replace HB := vWs HB hb; (try clear hb); (try clear hb2); (try clear hk); (try clear hi); (try clear ho0); obtain ⟨hcz20_0, hcz20_1, hcz20_2, hfz20_0, hfz20_1, hfz20_2⟩ := vF3 BK266.out) | ((with_reducible refine gate_callee (f := 50) rfl ?_); refine goesL_ (some 30) rfl rfl Try.func50 (by kernel_rfl) rfl #[.slice A0_0 l0_0.length c0_0] rfl vL ?_; (with_reducible refine (gimbalref11_copied.calls _ _ l0_0 t286 _ ?side1 ?side2 A14.out).mono ?_); (case side1 => exact vC (Kd.C_below HR0_0.out HB.out)); (case side2 => exact HC0_0.out); rintro e w21 ⟨v287, rfl, ho0, hb⟩; refine ⟨_, rfl, ?_⟩; replace HO278 := vRb HO278 hb; have HO288 := Aside0.mk (Kd.R_lower ho0 (below_size (vW HB.out))); replace BK266 := vBb BK266 hb; replace BK267 := vBb BK267 hb; replace HB := vWs HB hb; (try clear hb); (try clear hb2); (try clear hk); (try clear hi); (try clear ho0); obtain ⟨Ao22, co22, eo22⟩ := Kd.R_slice HO288.out; subst eo22) | ((with_reducible refine gate_dst (N := 5) rfl ?_); refine box_event ?hg (N := 5) ?hd (cs := #[.slice none 0 0, .slice none 0 0, .bool false]) (t := 25) ?hr ?_; (case hd => rfl); (case hg => rfl); (case hr => first | (go_simp; done) | (go_simp; rfl)); intro gb289 hg w23 hbox hb; replace HO278 := vRb HO278 hb; replace HO288 := vRb HO288 hb; have BK289 := Aside0.mk (hbox); have GW289 := vS hg HB; have GE289 := vS hg HB; replace HB := vWs HB hb; have NB266_289 := vNl hg BK266; have NB289_266 := vNg hg BK266; replace BK266 := vBb BK266 hb; have NB267_289 := vNl hg BK267; have NB289_267 := vNg hg BK267; replace BK267 := vBb BK267 hb; clear hb hbox hg; have hnb24 := NB289_266.out; have hnc24 := NB266_289.out; have hnb25 := NB289_267.out; have hnc25 := NB267_289.out; obtain ⟨hcz26_0, hcz26_1, hcz26_2, hfz26_0, hfz26_1, hfz26_2⟩ := vF3 BK289.out; obtain ⟨Ao27, co27, eo27⟩ := Kd.R_slice HO278.out; subst eo27))
   go_loopg [34] k (fun kq v34 w' => ∃ (x34_1 : Int) (x290001_1 : List Int) (u290001 : Value), v34 = .int .i64 x34_1 ∧ Aside0 (gimbalref11_Close.l0 kq t275 (t275.length : Int) x34_1 t286 x290001_1 false = some (r1, r2, r3)) ∧ Aside0 (kq ≤ k) ∧ Aside0 (Kd.R (Kd.int .i64) 2 w' w.heap.size (fun k_ => some k_ ≠ (u290001 : Value).ownBlock) (.slice Ao27 t275.length co27) t275) ∧ Aside0 (Kd.R (Kd.int .i64) 3 w' w.heap.size (fun _ => True) (.slice Ao22 t286.length co22) t286) ∧ Aside0 (Kd.R (Kd.int .i64) 2 w' w.heap.size (fun k_ => some k_ ≠ ((.slice Ao27 t275.length co27) : Value).ownBlock) u290001 x290001_1) ∧ Aside0 (w'.heap[gb266]? = some (.cells #[(.slice A0_0 l0_0.length c0_0), (.slice A0_1 l0_1.length c0_1), .bool false] 25 (0, 0))) ∧ Aside0 (w'.heap[gb267]? = some (.cells #[(.slice none 0 0), (.slice none 0 0), .bool false] 25 (0, 0))) ∧ Aside0 (w'.heap[gb289]? = some (.cells #[(.slice Ao22 t286.length co22), u290001, .bool false] 25 (0, 0))) ∧ Aside0 (Below w.heap.size w w'))
   case atStart => exact ⟨(0), (([] : List Int)), (.slice none 0 0), (by first | rfl | (simp; done) | (simp [*]; done)), H', ⟨Nat.le_refl _⟩, ⟨by (with_reducible repeat (first | apply Kd.R_alloc | apply Kd.R_drewN | apply Kd.R_drew)); exact Kd.R_mono (Kd.R_far (p := ⟨gb289, 2, none⟩) (Kd.R_far (p := ⟨gb289, 1, none⟩) (Kd.R_far (p := ⟨gb289, 0, none⟩) (Kd.R_types HO278.out BK289.out (by decide)) (fun _ hk => hk.2) (.slice Ao22 t286.length co22)) (fun _ hk => hk.2) (.slice none 0 0)) (fun _ hk => hk.2) (.bool false)) (fun _ hk => (by simp [Value.ownBlock]))⟩, ⟨by (with_reducible repeat (first | apply Kd.R_alloc | apply Kd.R_drewN | apply Kd.R_drew)); exact Kd.R_mono (Kd.R_far (p := ⟨gb289, 2, none⟩) (Kd.R_far (p := ⟨gb289, 1, none⟩) (Kd.R_far (p := ⟨gb289, 0, none⟩) (Kd.R_types HO288.out BK289.out (by decide)) (fun _ hk => hk.2) (.slice Ao22 t286.length co22)) (fun _ hk => hk.2) (.slice none 0 0)) (fun _ hk => hk.2) (.bool false)) (fun _ hk => trivial)⟩, ⟨by first | exact Kd.R_nil _ _ _ _ _ | exact Kd.N_nil _ _ _ _ _ | exact Kd.V_nil _ _ _ _ _ | exact Kd.Q_nil _ _ _ _ _ | exact Kd.S_nil _ _ _ _ _⟩, ⟨vB BK266.out⟩, ⟨vB BK267.out⟩, ⟨by (with_reducible repeat (first | refine blk_drewN ?_ _ | refine blk_drew ?_ | refine blk_alloc ?_ _)); refine blk_put (cs := #[.slice Ao22 t286.length co22, .slice none 0 0, .bool false]) ?_ 2 _ rfl; (with_reducible repeat (first | refine blk_drewN ?_ _ | refine blk_drew ?_ | refine blk_alloc ?_ _)); refine blk_put (cs := #[.slice Ao22 t286.length co22, .slice none 0 0, .bool false]) ?_ 1 _ rfl; (with_reducible repeat (first | refine blk_drewN ?_ _ | refine blk_drew ?_ | refine blk_alloc ?_ _)); refine blk_put (cs := #[.slice none 0 0, .slice none 0 0, .bool false]) ?_ 0 _ rfl; (with_reducible repeat (first | refine blk_drewN ?_ _ | refine blk_drew ?_ | refine blk_alloc ?_ _)); exact BK289.out⟩, ⟨vW HB.out⟩⟩
   case round =>
    clear H'
    try clear hcz18_0
    try clear hcz18_1
    try clear hcz18_2
    try clear hcz20_0
    try clear hcz20_1
    try clear hcz20_2
    try clear hcz26_0
    try clear hcz26_1
    try clear hcz26_2
    try clear hfz18_0
    try clear hfz18_1
    try clear hfz18_2
    try clear hfz20_0
    try clear hfz20_1
    try clear hfz20_2
    try clear hfz26_0
    try clear hfz26_1
    try clear hfz26_2
    obtain ⟨x34_1, x290001_1, u290001, rfl, HA, HK1, HO_32, HO_290000, HO_290001, BK266, BK267, BK289, HB⟩ := hrel
    cases gk with
    | zero => exact absurd HA.out (by simp [gimbalref11_Close.l0])
    | succ k1 =>
     have H := HA.out
     clear HA
     simp only [gimbalref11_Close.l0] at H
     by_cases c28 : x34_1 < (t275.length : Int)
     ·
      rw [if_pos c28] at H
      have c28b0 : decide (x34_1 < (t275.length : Int)) = true := decide_eq_true c28
      clear c28
      by_cases c29 : 0 ≤ x34_1
      ·
       rw [if_pos c29] at H
       have c29b0 : decide (0 ≤ x34_1) = true := decide_eq_true c29
       clear c29
       by_cases c30 : x34_1 < (t275.length : Int)
       ·
        rw [if_pos c30] at H
        have c30b0 : decide (x34_1 < (t275.length : Int)) = true := decide_eq_true c30
        clear c30
        replace H := Option.bind_eq_some_iff.mp H
        obtain ⟨t291, A310, H⟩ := H
        replace H : (if x290001_1.length < 17592186044416 then (gimbalref11_Close.l0 k1 t275 (t275.length : Int) (wrap64 (x34_1 + 1)) t286 (x290001_1 ++ [t291]) false) else (none)) = some (r1, r2, r3) := H
        have A31 := Aside0.mk A310
        clear A310
        by_cases c32 : x290001_1.length < 17592186044416
        ·
         rw [if_pos c32] at H
         have LMc32 := Aside0.mk c32
         clear c32
         obtain ⟨y292, hy292⟩ : ∃ y_ : List Int, y_ = (x290001_1 ++ [t291]) := ⟨_, rfl⟩
         replace H : (gimbalref11_Close.l0 k1 t275 (t275.length : Int) (wrap64 (x34_1 + 1)) t286 y292 false) = some (r1, r2, r3) := by first | (rw [hy292]; with_reducible exact H) | (have H2_ := (Option.bind_some _ _).symm.trans H; rw [hy292]; with_reducible exact H2_) | (have H2_ := (Option.bind_some _ _).symm.trans H; with_reducible exact H2_) | with_reducible exact H | (rw [hy292]; exact H) | exact H
         have Ny292 := Aside0.mk hy292
         clear hy292
         have H' := Aside0.mk H
         clear H
         have p290 : 0 ≤ (x34_1 : Int) := of_decide_eq_true (by first | (with_reducible assumption) | assumption)
         have q290 : x34_1 < (t275.length : Int) := of_decide_eq_true (by first | (with_reducible assumption) | assumption)
         obtain ⟨ad290, e290, hx290_0⟩ := Kd.at_int (Kd.R_reads' HO_32.out).2.2 x34_1 p290 q290
         cases e290
         replace p290 := eq_true p290
         replace q290 := eq_true q290
         try go_wp2
         replace HO_32 := Aside0.mk (Kd.R_drew HO_32.out)
         replace HO_290000 := Aside0.mk (Kd.R_drew HO_290000.out)
         replace HO_290001 := Aside0.mk (Kd.R_drew HO_290001.out)
         replace BK266 := Aside0.mk (blk_drew BK266.out)
         replace BK267 := Aside0.mk (blk_drew BK267.out)
         replace BK289 := Aside0.mk (blk_drew BK289.out)
         replace HB := Aside0.mk (below_drew1 HB.out)
         refine start_ (n := 8) (S := fun w' => w'.cell? ⟨gb289, 0, none⟩ = some (.slice Ao22 t286.length co22) ∧ w'.cell? ⟨gb289, 1, none⟩ = some (u290001) ∧ w'.cell? ⟨gb289, 2, none⟩ = some (.bool false)) (ds := [7]) (mB 8 0) (by kernel_rfl) rfl rfl ⟨(blk_cell BK289.out 0).trans rfl, (blk_cell BK289.out 1).trans rfl, (blk_cell BK289.out 2).trans rfl⟩ (fun hHeld => ?_); refine with_tabW gimbalref11_Close.tab10 gimbalref11_Close.bits10 (fun HT_ HW_ => ?_)
         generalize wr.drew = w33 at HO_32 HO_290000 HO_290001 BK266 BK267 BK289 HB hHeld ⊢
         refine pV_ 0 38 (mB 8 1) HT_ ?_
         refine pV_ 2 40 (mB 8 5) HT_ ?_
         refine tV_ 1 39 (mB 8 7) HT_ HW_ hHeld ?_
         refine one_ (i := 3) (N := some 41) (mB 8 15) rfl rfl (one_of HT_.out (by kernel_rfl)) (by decide) (fun K hK => ?_)
         refine goes_ Try.func60 (by kernel_rfl) rfl #[.int .i64 (rd t275 x34_1)] (by rfl) rfl rfl vL ?_
         with_reducible refine (gimbalref11_clip.calls (rd t275 x34_1) t291 _ A31.out).mono ?_
         rintro e w' ⟨rfl, ⟨nd, rfl⟩⟩
         refine ⟨_, rfl, ?_⟩
         refine hK.out _ _ ⟨(blk_cell BK289.out 0).trans rfl, (blk_cell BK289.out 1).trans rfl, (blk_cell BK289.out 2).trans rfl⟩ (fun hHeld => ?_)
         clear hK K
         refine norm_ (a' := ?_) ?_ ?_
         rotate_left
         ·
          show Act.put _ (some 41) _ = _
          simp only [Act.put, List.setIfInBounds_toArray, List.set_cons_zero, List.set_cons_succ, i64_w, i32_w]
          rfl
         refine one_ (i := 4) (N := some 42) (mB 8 31) rfl rfl (one_of HT_.out (by kernel_rfl)) (by decide) (fun K hK => ?_)
         refine value_ (w1 := ?_) (v := ?_) (by rfl) rfl ?_ ?_
         rotate_left 2
         ·
          go_simp
          constructor
          ·
           rfl
          ·
           rfl
         refine hK.out _ _ ⟨(blk_cell (blk_alloc BK289.out _) 0).trans rfl, (blk_cell (blk_alloc BK289.out _) 1).trans rfl, (blk_cell (blk_alloc BK289.out _) 2).trans rfl⟩ (fun hHeld => ?_)
         clear hK K
         refine norm_ (a' := ?_) ?_ ?_
         rotate_left
         ·
          show Act.put _ (some 42) _ = _
          simp only [Act.put, List.setIfInBounds_toArray, List.set_cons_zero, List.set_cons_succ, i64_w, i32_w]
          rfl
         refine one_ (i := 5) (N := some 43) (mB 8 63) rfl rfl (one_of HT_.out (by kernel_rfl)) (by decide) (fun K hK => ?_)
         refine Kd.R_append_step (Kd.int .i64) (w0 := w) w.heap.size (by rfl) (.tmp 39) (.tmp 42) 23 2 (.int .i64 0) 8 rfl Try.underlying23 info2 rfl (by decide) (by omega) u290001 x290001_1 t291 [.int .i64 t291] (fun k_ => some k_ ≠ (.slice (some ad290) t275.length co27 : Value).ownBlock) (fun _ => False) rfl rfl ?aP (fun _ hk => hk.elim) ?aF ?aO ?aB ?aS ?aL ?_
         (case aP => exact rfl)
         (case aB => exact (vW HB.out))
         (case aF => exact (fun k_ hk => Kd.fresh' (Kd.R_lt (vR HO_32.out)) k_ hk))
         (case aO => exact (vR HO_290001.out))
         (case aS => exact (below_size (vW HB.out)))
         (case aL => have := LMc32.out; omega)
         intro v293 w34 ho hb hg hat
         rw [← Ny292.out] at ho
         replace HO_32 := Aside0.mk (Kd.R_after (ok := (fun _ => True)) (by (with_reducible repeat (first | apply Kd.R_alloc | apply Kd.R_drewN | apply Kd.R_drew)); exact Kd.R_mono HO_32.out (fun _ hk => ⟨trivial, hk⟩)) hg hat)
         replace HO_290000 := Aside0.mk (Kd.R_over' (vR HO_290000.out) (Kd.R_typed (vR HO_290001.out)) (by decide) hg)
         replace BK266 := Aside0.mk (blk_grown (g := gb266) (o := .cells #[.slice A0_0 l0_0.length c0_0, .slice A0_1 l0_1.length c0_1, .bool false] 25 (0, 0)) (vB BK266.out) hg (Kd.R_ne HO_290001.out BK266.out (by decide)))
         replace BK267 := Aside0.mk (blk_grown (g := gb267) (o := .cells #[.slice none 0 0, .slice none 0 0, .bool false] 25 (0, 0)) (vB BK267.out) hg (Kd.R_ne HO_290001.out BK267.out (by decide)))
         replace BK289 := Aside0.mk (blk_grown (g := gb289) (o := .cells #[.slice Ao22 t286.length co22, u290001, .bool false] 25 (0, 0)) (vB BK289.out) hg (Kd.R_ne HO_290001.out BK289.out (by decide)))
         replace HB := Aside0.mk (hb)
         have HO294 := Aside0.mk (ho)
         clear HO_290001
         clear ho hb hg hat
         obtain ⟨Ao35, co35, eo35⟩ := Kd.R_slice HO294.out
         (first | subst eo35 | (injection eo35 with f1_ f2_ f3_; have f4_ := f1_.symm; have f5_ := f3_.symm; clear f1_ f2_ f3_; subst f4_; subst f5_))
         refine hK.out _ _ ⟨(blk_cell BK289.out 0).trans rfl, (blk_cell BK289.out 1).trans rfl, (blk_cell BK289.out 2).trans rfl⟩ (fun hHeld => ?_)
         clear hK K
         refine norm_ (a' := ?_) ?_ ?_
         rotate_left
         ·
          show Act.put _ (some 43) _ = _
          simp only [Act.put, List.setIfInBounds_toArray, List.set_cons_zero, List.set_cons_succ, i64_w, i32_w]
          rfl
         refine pV_ 6 44 (mB 8 127) HT_ ?_
         refine last_ (i := 7) (N := none) (mB 8 255) rfl rfl (one_of HT_.out (by kernel_rfl)) (by decide) (fun K hK => ?_)
         have hs36 : w34.cell? ⟨gb289, 1, none⟩ = some (u290001) := (blk_cell BK289.out 1).trans rfl
         have hfs36 := blk_frozen BK289.out 1
         have hns36_0 := NB266_289.out
         have hns36_1 := NB267_289.out
         have hms36_0 := NB289_266.out
         have hms36_1 := NB289_267.out
         refine skip_ (w1 := ?_) (by rfl) rfl ?_ ?_
         rotate_left
         ·
          go_simp
          rfl
         refine hK.out _ _ ?_
         clear hK K
         refine done_ (done_of HT_.out (by kernel_rfl)) ?_
         try go_wp2
         go_roundg k1
         case measure => have := HK1.out; omega
         case rel => exact ⟨(wrap64 (x34_1 + 1)), (y292), (.slice Ao35 y292.length co35), (by first | rfl | (simp; done) | (simp [*]; done)), H', ⟨by have := HK1.out; omega⟩, ⟨by (with_reducible repeat (first | apply Kd.R_alloc | apply Kd.R_drewN | apply Kd.R_drew)); exact Kd.R_mono (Kd.R_far (p := ⟨gb289, 1, none⟩) (Kd.R_types HO_32.out BK289.out (by decide)) (fun _ hk => hk.2) (.slice Ao35 y292.length co35)) (fun _ hk => hk.1.2)⟩, ⟨by (with_reducible repeat (first | apply Kd.R_alloc | apply Kd.R_drewN | apply Kd.R_drew)); exact Kd.R_mono (Kd.R_far (p := ⟨gb289, 1, none⟩) (Kd.R_types HO_290000.out BK289.out (by decide)) (fun _ hk => hk.2) (.slice Ao35 y292.length co35)) (fun _ hk => trivial)⟩, ⟨by (with_reducible repeat (first | apply Kd.R_alloc | apply Kd.R_drewN | apply Kd.R_drew)); exact Kd.R_mono (Kd.R_far (p := ⟨gb289, 1, none⟩) (Kd.R_types HO294.out BK289.out (by decide)) (fun _ hk => hk.2) (.slice Ao35 y292.length co35)) (fun _ hk => hk.1)⟩, ⟨vB BK266.out⟩, ⟨vB BK267.out⟩, ⟨by (with_reducible repeat (first | refine blk_drewN ?_ _ | refine blk_drew ?_ | refine blk_alloc ?_ _)); refine blk_put (cs := #[.slice Ao22 t286.length co22, u290001, .bool false]) ?_ 1 _ rfl; (with_reducible repeat (first | refine blk_drewN ?_ _ | refine blk_drew ?_ | refine blk_alloc ?_ _)); exact BK289.out⟩, ⟨vW HB.out⟩⟩
        ·
         rw [if_neg c32] at H
         exact absurd H (by simp)
       ·
        rw [if_neg c30] at H
        exact absurd H (by simp)
      ·
       rw [if_neg c29] at H
       exact absurd H (by simp)
     ·
      rw [if_neg c28] at H
      have c28b0 : decide (x34_1 < (t275.length : Int)) = false := decide_eq_false c28
      clear c28
      simp only [Option.some.injEq, Prod.mk.injEq] at H
      obtain ⟨rfl, rfl, rfl⟩ := H
      have hnb37 := NB289_266.out
      have hnc37 := NB266_289.out
      have hnb38 := NB289_267.out
      have hnc38 := NB267_289.out
      obtain ⟨hcz39_0, hcz39_1, hcz39_2, hfz39_0, hfz39_1, hfz39_2⟩ := vF3 BK289.out
      have hnb40 := NB267_266.out
      have hnc40 := NB266_267.out
      obtain ⟨hcz41_0, hcz41_1, hcz41_2, hfz41_0, hfz41_1, hfz41_2⟩ := vF3 BK267.out
      obtain ⟨Ao42, co42, eo42⟩ := Kd.R_slice HO_290001.out
      subst eo42
      go_wp2
      refine bodyPost_ret (results_cell_row rfl _ _ gb267 25 #[.slice Ao22 t286.length co22, .slice Ao42 x290001_1.length co42, .bool false] (0, 0) _ rfl (by (with_reducible repeat (first | refine blk_drewN ?_ _ | refine blk_drew ?_ | refine blk_alloc ?_ _)); refine blk_put (cs := #[.slice Ao22 t286.length co22, .slice Ao42 x290001_1.length co42, .bool false]) ?_ 2 _ rfl; (with_reducible repeat (first | refine blk_drewN ?_ _ | refine blk_drew ?_ | refine blk_alloc ?_ _)); refine blk_put (cs := #[.slice Ao22 t286.length co22, .slice none 0 0, .bool false]) ?_ 1 _ rfl; (with_reducible repeat (first | refine blk_drewN ?_ _ | refine blk_drew ?_ | refine blk_alloc ?_ _)); refine blk_put (cs := #[.slice none 0 0, .slice none 0 0, .bool false]) ?_ 0 _ rfl; (with_reducible repeat (first | refine blk_drewN ?_ _ | refine blk_drew ?_ | refine blk_alloc ?_ _)); exact BK267.out) Try.underlying25 rfl (by kernel_rfl)) rfl ?_
      exact ⟨_, _, by first | rfl | (simp [errW_none, errW_some] <;> rfl) | (simp [*, errW_none, errW_some] <;> rfl) | (simp [wrap64]; done), by (with_reducible repeat (first | apply Kd.R_alloc | apply Kd.R_drewN | apply Kd.R_drew)); exact Kd.R_mono (Kd.R_far (p := ⟨gb267, 2, none⟩) (Kd.R_far (p := ⟨gb267, 1, none⟩) (Kd.R_far (p := ⟨gb267, 0, none⟩) (Kd.R_types HO_290000.out BK267.out (by decide)) (fun _ hk => hk.2) (.slice Ao22 t286.length co22)) (fun _ hk => hk.2) (.slice Ao42 x290001_1.length co42)) (fun _ hk => hk.2) (.bool false)) (fun _ hk => trivial), by (with_reducible repeat (first | apply Kd.R_alloc | apply Kd.R_drewN | apply Kd.R_drew)); exact Kd.R_mono (Kd.R_far (p := ⟨gb267, 2, none⟩) (Kd.R_far (p := ⟨gb267, 1, none⟩) (Kd.R_far (p := ⟨gb267, 0, none⟩) (Kd.R_types HO_290001.out BK267.out (by decide)) (fun _ hk => hk.2) (.slice Ao22 t286.length co22)) (fun _ hk => hk.2) (.slice Ao42 x290001_1.length co42)) (fun _ hk => hk.2) (.bool false)) (fun _ hk => trivial), vW HB.out⟩
  ·
   replace c13 := Bool.eq_false_iff.mpr c13
   subst c13
   have H1 : ((gimbalref11_Bottom.f l0_0).bind fun bt279 => (some (bt279.1, bt279.2.1, bt279.2.2))) = some (r1, r2, r3) := by rw [if_neg (show ¬ (false = true) by decide)] at H; exact H
   clear H
   have H := H1
   clear H1
   replace H := Option.bind_eq_some_iff.mp H
   obtain ⟨⟨t279, t282, t285⟩, A430, H⟩ := H
   replace H : (some (t279, t282, t285)) = some (r1, r2, r3) := H
   have A43 := Aside0.mk A430
   clear A430
   simp only [Option.some.injEq, Prod.mk.injEq] at H
   obtain ⟨rfl, rfl, rfl⟩ := H
   go_enter Try.func23, Try.ntmps23
   go_wp2_with (first | ((with_reducible refine gate_dst (N := 1) rfl ?_); refine box_event ?hg (N := 1) ?hd (cs := #[.slice A0_0 l0_0.length c0_0, .slice A0_1 l0_1.length c0_1, .bool false]) (t := 25) ?hr ?_; (case hd => rfl); (case hg => rfl); (case hr => first | (go_simp; done) | (go_simp; rfl)); intro gb266 hg w44 hbox hb; have BK266 := Aside0.mk (hbox); have GW266 := vS hg HB; have GE266 := vS hg HB; replace HB := vWs HB hb; clear hb hbox hg) | ((with_reducible refine gate_dst (N := 2) rfl ?_); refine box_event ?hg (N := 2) ?hd (cs := #[.slice none 0 0, .slice none 0 0, .bool false]) (t := 25) ?hr ?_; (case hd => rfl); (case hg => rfl); (case hr => first | (go_simp; done) | (go_simp; rfl)); intro gb267 hg w45 hbox hb; have BK267 := Aside0.mk (hbox); have GW267 := vS hg HB; have GE267 := vS hg HB; replace HB := vWs HB hb; have NB266_267 := vNl hg BK266; have NB267_266 := vNg hg BK266; replace BK266 := vBb BK266 hb; clear hb hbox hg; have hnb46 := NB266_267.out; have hnc46 := NB267_266.out; obtain ⟨hcz47_0, hcz47_1, hcz47_2, hfz47_0, hfz47_1, hfz47_2⟩ := vF3 BK266.out) | ((with_reducible refine gate_callee (f := 59) rfl ?_); refine goesL_ (some 20) rfl rfl Try.func59 (by kernel_rfl) rfl #[.slice A0_1 l0_1.length c0_1, .int .i64 (wrap64 (2 * (l0_0.length : Int)))] rfl vL ?_; (with_reducible refine (gimbalref11_Tight.calls k _ _ l0_1 (wrap64 (2 * (l0_0.length : Int))) t275 false _ ?side1 ?side2 A12.out).mono ?_); (case side1 => exact vC (Kd.C_below HR0_1.out HB.out)); (case side2 => exact HC0_1.out); rintro e w48 ⟨v277, rfl, ho0, hb⟩; refine ⟨_, rfl, ?_⟩; have HO278 := Aside0.mk (Kd.R_lower ho0 (below_size (vW HB.out))); replace BK266 := vBb BK266 hb; replace BK267 := vBb BK267 hb; replace HB := vWs HB hb; (try clear hb); (try clear hb2); (try clear hk); (try clear hi); (try clear ho0); obtain ⟨hcz49_0, hcz49_1, hcz49_2, hfz49_0, hfz49_1, hfz49_2⟩ := vF3 BK266.out) | ((with_reducible refine gate_callee (f := 17) rfl ?_); refine goesL_ (some 27) rfl rfl Try.func17 (by kernel_rfl) rfl #[.slice A0_0 l0_0.length c0_0] rfl vL ?_; (with_reducible refine (gimbalref11_Bottom.calls _ _ l0_0 t279 t282 t285 _ ?side1 ?side2 A43.out).mono ?_); (case side1 => exact vC (Kd.C_below HR0_0.out HB.out)); (case side2 => exact HC0_0.out); rintro e w50 ⟨v280, v283, rfl, ho0, ho1, hb⟩; refine ⟨_, rfl, ?_⟩; have HO281 := Aside0.mk (Kd.R_lower ho0 (below_size (vW HB.out))); have HO284 := Aside0.mk (Kd.R_lower (Kd.R_new' ho1 (Kd.R_lt (vR HO278.out))) (below_size (vW HB.out))); replace HO278 := Aside0.mk (Kd.R_elder' (vR HO278.out) (Kd.R_base ho1) hb); replace BK266 := vBb BK266 hb; replace BK267 := vBb BK267 hb; replace HB := vWs HB hb; (try clear hb); (try clear hb2); (try clear hk); (try clear hi); (try clear ho0); (try clear ho1); obtain ⟨Ao51, co51, eo51⟩ := Kd.R_slice HO281.out; subst eo51; obtain ⟨hcz52_0, hcz52_1, hcz52_2, hfz52_0, hfz52_1, hfz52_2⟩ := vF3 BK267.out; obtain ⟨Ao53, co53, eo53⟩ := Kd.R_slice HO284.out; subst eo53))
   refine bodyPost_ret (results_cell_row rfl _ _ gb267 25 #[.slice Ao51 t279.length co51, .slice Ao53 t282.length co53, .bool t285] (0, 0) _ rfl (by (with_reducible repeat (first | refine blk_drewN ?_ _ | refine blk_drew ?_ | refine blk_alloc ?_ _)); refine blk_put (cs := #[.slice Ao51 t279.length co51, .slice Ao53 t282.length co53, .bool false]) ?_ 2 _ rfl; (with_reducible repeat (first | refine blk_drewN ?_ _ | refine blk_drew ?_ | refine blk_alloc ?_ _)); refine blk_put (cs := #[.slice Ao51 t279.length co51, .slice none 0 0, .bool false]) ?_ 1 _ rfl; (with_reducible repeat (first | refine blk_drewN ?_ _ | refine blk_drew ?_ | refine blk_alloc ?_ _)); refine blk_put (cs := #[.slice none 0 0, .slice none 0 0, .bool false]) ?_ 0 _ rfl; (with_reducible repeat (first | refine blk_drewN ?_ _ | refine blk_drew ?_ | refine blk_alloc ?_ _)); exact BK267.out) Try.underlying25 rfl (by kernel_rfl)) rfl ?_
   exact ⟨_, _, by first | rfl | (simp [errW_none, errW_some] <;> rfl) | (simp [*, errW_none, errW_some] <;> rfl) | (simp [wrap64]; done), by (with_reducible repeat (first | apply Kd.R_alloc | apply Kd.R_drewN | apply Kd.R_drew)); exact Kd.R_mono (Kd.R_far (p := ⟨gb267, 2, none⟩) (Kd.R_far (p := ⟨gb267, 1, none⟩) (Kd.R_far (p := ⟨gb267, 0, none⟩) (Kd.R_types HO281.out BK267.out (by decide)) (fun _ hk => hk.2) (.slice Ao51 t279.length co51)) (fun _ hk => hk.2) (.slice Ao53 t282.length co53)) (fun _ hk => hk.2) (.bool t285)) (fun _ hk => trivial), by (with_reducible repeat (first | apply Kd.R_alloc | apply Kd.R_drewN | apply Kd.R_drew)); exact Kd.R_mono (Kd.R_far (p := ⟨gb267, 2, none⟩) (Kd.R_far (p := ⟨gb267, 1, none⟩) (Kd.R_far (p := ⟨gb267, 0, none⟩) (Kd.R_types HO284.out BK267.out (by decide)) (fun _ hk => hk.2) (.slice Ao51 t279.length co51)) (fun _ hk => hk.2) (.slice Ao53 t282.length co53)) (fun _ hk => hk.2) (.bool t285)) (fun _ hk => trivial), vW HB.out⟩
end Go.Proofs.Ytomgebmimgaojaa.QO
end
end
section
noncomputable section
namespace Go.Proofs.Ytomgebmimgaojaa.QO
open Go.RowKit Go.Proofs.YtomgebmimgaojaaW.PrintWords Go.Proofs.YtomgebmimgaojaaW.PrintLast
set_option linter.unusedVariables false
set_option linter.unusedSimpArgs false
mutual
def thresh_Fit.j0 : Nat → List Int → Bool → Option (Bool)
  | 0, _, _ => none
  | k + 1, x0, x26 => if x26 = true then (some false) else (thresh_Fit.l0 k x0 1)
def thresh_Fit.l0 : Nat → List Int → Int → Option (Bool)
  | 0, _, _ => none
  | k + 1, x0, x3 => if x3 < (x0.length : Int) then (if 0 ≤ (wrap64 (x3 - 1)) then (if (wrap64 (x3 - 1)) < (x0.length : Int) then (if 0 ≤ x3 then (if (rd x0 (wrap64 (x3 - 1))) ≥ (rd x0 x3) then (some false) else (thresh_Fit.l0 k x0 (wrap64 (x3 + 1)))) else (none)) else (none)) else (none)) else (some true)
end
def thresh_Fit.f (k : Nat) (l0 : List Int) : Option (Bool) := if (l0.length : Int) < 2 then (thresh_Fit.j0 k l0 true) else (if (l0.length : Int) > 256 then (thresh_Fit.j0 k l0 true) else (if 0 < (l0.length : Int) then (if (rd l0 0) = (-4611686018427387904) then (if 0 ≤ (wrap64 ((l0.length : Int) - 1)) then (if (wrap64 ((l0.length : Int) - 1)) < (l0.length : Int) then (thresh_Fit.j0 k l0 ((rd l0 (wrap64 ((l0.length : Int) - 1))) != 4611686018427387904)) else (none)) else (none)) else (thresh_Fit.j0 k l0 true)) else (none)))
theorem thresh_Fit.mono_l : ∀ k, (∀ y0 y1, LeO (thresh_Fit.j0 k y0 y1) (thresh_Fit.j0 (k + 1) y0 y1)) ∧ (∀ y0 y1, LeO (thresh_Fit.l0 k y0 y1) (thresh_Fit.l0 (k + 1) y0 y1))
  | 0 => ⟨fun _ _ r h => by simp [thresh_Fit.j0] at h, fun _ _ r h => by simp [thresh_Fit.l0] at h⟩
  | k + 1 => by
    obtain ⟨ih0, ih1⟩ := thresh_Fit.mono_l k
    refine ⟨?_, ?_⟩
    · intro y0 y1
      unfold thresh_Fit.j0
      repeat' first
      | (with_reducible exact ih0 _ _)
      | (with_reducible exact ih1 _ _)
      | (with_reducible exact LeO.refl _)
      | (with_reducible exact LeO.none _)
      | (with_reducible refine LeO.ite ?_ ?_)
      | (with_reducible refine LeO.bind ?_ (fun _ => ?_))
      | exact ih0 _ _
      | exact ih1 _ _
      | exact LeO.none _
      | refine LeO.ite ?_ ?_
      | refine LeO.bind ?_ (fun _ => ?_)
    · intro y0 y1
      unfold thresh_Fit.l0
      repeat' first
      | (with_reducible exact ih0 _ _)
      | (with_reducible exact ih1 _ _)
      | (with_reducible exact LeO.refl _)
      | (with_reducible exact LeO.none _)
      | (with_reducible refine LeO.ite ?_ ?_)
      | (with_reducible refine LeO.bind ?_ (fun _ => ?_))
      | exact ih0 _ _
      | exact ih1 _ _
      | exact LeO.none _
      | refine LeO.ite ?_ ?_
      | refine LeO.bind ?_ (fun _ => ?_)
theorem thresh_Fit.mono : ∀ a0 k, LeO (thresh_Fit.f k a0) (thresh_Fit.f (k + 1) a0) := by
  intro a0 k
  obtain ⟨ih0, ih1⟩ := thresh_Fit.mono_l k
  unfold thresh_Fit.f
  repeat' first
      | (with_reducible exact ih0 _ _)
      | (with_reducible exact ih1 _ _)
      | (with_reducible exact LeO.refl _)
      | (with_reducible exact LeO.none _)
      | (with_reducible refine LeO.ite ?_ ?_)
      | (with_reducible refine LeO.bind ?_ (fun _ => ?_))
      | exact ih0 _ _
      | exact ih1 _ _
      | exact LeO.none _
      | refine LeO.ite ?_ ?_
      | refine LeO.bind ?_ (fun _ => ?_)
set_option maxHeartbeats 8000000 in
set_option maxRecDepth 100000 in
theorem thresh_Fit.calls (k : Nat) (A0 : Option Addr) (c0 : Nat) (l0 : List Int) (r : Bool) (w : World) (hr0 : Kd.C (Kd.int .i64) w A0 l0.length l0) (hc0 : l0.length ≤ c0) (h : thresh_Fit.f k l0 = some r) :
    Calls Try.prog 63 #[.slice A0 l0.length c0] w fun e w' => e = .returned (.bool r) ∧ Drawn0 w w' := by
  have HR0 := Aside0.mk hr0
  have HC0 := Aside0.mk hc0
  clear hr0 hc0
  have H : (if (l0.length : Int) < 2 then (thresh_Fit.j0 k l0 true) else (if (l0.length : Int) > 256 then (thresh_Fit.j0 k l0 true) else (if 0 < (l0.length : Int) then (if (rd l0 0) = (-4611686018427387904) then (if 0 ≤ (wrap64 ((l0.length : Int) - 1)) then (if (wrap64 ((l0.length : Int) - 1)) < (l0.length : Int) then (thresh_Fit.j0 k l0 ((rd l0 (wrap64 ((l0.length : Int) - 1))) != 4611686018427387904)) else (none)) else (none)) else (thresh_Fit.j0 k l0 true)) else (none)))) = some r := h
  clear h
  have HC2 := Aside0.mk H
  clear H
  go_enter Try.func63, Try.ntmps63
  go_upto_region 1 with (fail)
  repeat (go_quiet (fail); go_upto_region 1 with (fail))
  go_cut [26] (fun v26 wc => ∃ (kq : Nat) (x26_1 : Bool), v26 = .bool x26_1 ∧ Aside0 (thresh_Fit.j0 kq l0 x26_1 = some r) ∧ Aside0 (kq ≤ k) ∧ Drawn0 w wc)
  case first =>
    have H := HC2.out
    clear HC2
    by_cases c3 : (l0.length : Int) < 2
    · rw [if_pos c3] at H
      have c3b0 : decide ((l0.length : Int) < 2) = true := decide_eq_true c3
      have c3b1 : decide (l0.length < 2) = true := decide_eq_true (by omega)
      clear c3
      (first | rw [c3b0] | (simp only [i64_w, i32_w]; rw [c3b0]) | skip)
      have H' := Aside0.mk H
      clear H
      go_wp2
      repeat (go_quiet (fail); try go_wp2)
      go_meet
      case rel => exact ⟨_, (true), (by first | rfl | (simp; done) | (simp [*]; done)), H', ⟨by first | omega | exact Nat.le_refl _⟩, by repeat (first | exact Drawn0.refl _ | apply Drawn0.step)⟩
    · rw [if_neg c3] at H
      have c3b0 : decide ((l0.length : Int) < 2) = false := decide_eq_false c3
      have c3b1 : decide (l0.length < 2) = false := decide_eq_false (by omega)
      clear c3
      (first | rw [c3b0] | (simp only [i64_w, i32_w]; rw [c3b0]) | skip)
      by_cases c4 : (l0.length : Int) > 256
      · rw [if_pos c4] at H
        have c4b0 : decide (256 < (l0.length : Int)) = true := decide_eq_true c4
        have c4b1 : decide (256 < l0.length) = true := decide_eq_true (by omega)
        clear c4
        have H' := Aside0.mk H
        clear H
        go_wp2
        repeat (go_quiet (fail); try go_wp2)
        go_meet
        case rel => exact ⟨_, (true), (by first | rfl | (simp; done) | (simp [*]; done)), H', ⟨by first | omega | exact Nat.le_refl _⟩, by repeat (first | exact Drawn0.refl _ | apply Drawn0.step)⟩
      · rw [if_neg c4] at H
        have c4b0 : decide (256 < (l0.length : Int)) = false := decide_eq_false c4
        have c4b1 : decide (256 < l0.length) = false := decide_eq_false (by omega)
        clear c4
        by_cases c5 : 0 < (l0.length : Int)
        · rw [if_pos c5] at H
          have c5b0 : decide (0 < (l0.length : Int)) = true := decide_eq_true c5
          have c5b1 : decide (0 < l0.length) = true := decide_eq_true (by omega)
          clear c5
          by_cases c6 : (rd l0 0) = (-4611686018427387904)
          · rw [if_pos c6] at H
            have c6b0 : ((rd l0 0) == (-4611686018427387904)) = true := beq_iff_eq.mpr c6
            have c6b1 : ((rd l0 0) != (-4611686018427387904)) = false := bne_eq_false_iff_eq.mpr c6
            clear c6
            obtain ⟨ji7, hji7⟩ : ∃ j_ : Int, (wrap64 ((l0.length : Int) - 1)) = j_ := ⟨_, rfl⟩
            replace H : (if 0 ≤ (ji7) then (if (ji7) < (l0.length : Int) then (thresh_Fit.j0 k l0 ((rd l0 (ji7)) != 4611686018427387904)) else (none)) else (none)) = some r := by first | (rw [hji7] at H; exact H) | (simp only [hji7] at H ⊢; exact H)
            have hji7w : (IntKind.i64.wrap ((l0.length : Int) - 1)) = ji7 := (i64_w _).trans hji7
            by_cases c8 : 0 ≤ (ji7)
            · rw [if_pos c8] at H
              have c8b0 : decide (0 ≤ (ji7)) = true := decide_eq_true c8
              clear c8
              by_cases c9 : (ji7) < (l0.length : Int)
              · rw [if_pos c9] at H
                have c9b0 : decide ((ji7) < (l0.length : Int)) = true := decide_eq_true c9
                clear c9
                have H' := Aside0.mk H
                clear H
                have p332 : 0 ≤ (0 : Int) := (by omega)
                have q332 : 0 < (l0.length : Int) := of_decide_eq_true (by first | (with_reducible assumption) | assumption)
                obtain ⟨ad332, e332, hx332_0⟩ := Kd.at_int HR0.out 0 p332 q332
                cases e332
                have qi332 : (0 < l0.length) = True := eq_true (by omega)
                (try rw [show ((0 : Int)).toNat = 0 from rfl] at hx332_0)
                (try rw [Addr.add_zero'] at hx332_0)
                replace p332 := eq_true p332
                replace q332 := eq_true q332
                have p333 : 0 ≤ ((ji7) : Int) := of_decide_eq_true (by first | (with_reducible assumption) | assumption)
                have q333 : (ji7) < (l0.length : Int) := of_decide_eq_true (by first | (with_reducible assumption) | assumption)
                obtain ⟨ad333, e333, hx333_0⟩ := Kd.at_int HR0.out (ji7) p333 q333
                obtain rfl : ad332 = ad333 := (by injection e333)
                replace p333 := eq_true p333
                replace q333 := eq_true q333
                go_wp2
                repeat (go_quiet (fail); try go_wp2)
                go_meet
                case rel => exact ⟨_, (((rd l0 (ji7)) != 4611686018427387904)), (by first | rfl | (simp; done) | (simp only [← hji7] <;> (first | rfl | simp)) | (simp [*]; done)), H', ⟨by first | omega | exact Nat.le_refl _⟩, by repeat (first | exact Drawn0.refl _ | apply Drawn0.step)⟩
              · rw [if_neg c9] at H
                exact absurd H (by simp)
            · rw [if_neg c8] at H
              exact absurd H (by simp)
          · rw [if_neg c6] at H
            have c6b0 : ((rd l0 0) == (-4611686018427387904)) = false := beq_eq_false_iff_ne.mpr c6
            have c6b1 : ((rd l0 0) != (-4611686018427387904)) = true := bne_iff_ne.mpr c6
            have H' := Aside0.mk H
            clear H
            have p332 : 0 ≤ (0 : Int) := (by omega)
            have q332 : 0 < (l0.length : Int) := of_decide_eq_true (by first | (with_reducible assumption) | assumption)
            obtain ⟨ad332, e332, hx332_0⟩ := Kd.at_int HR0.out 0 p332 q332
            cases e332
            have qi332 : (0 < l0.length) = True := eq_true (by omega)
            (try rw [show ((0 : Int)).toNat = 0 from rfl] at hx332_0)
            (try rw [Addr.add_zero'] at hx332_0)
            replace p332 := eq_true p332
            replace q332 := eq_true q332
            go_wp2
            repeat (go_quiet (fail); try go_wp2)
            go_meet
            case rel => exact ⟨_, (true), (by first | rfl | (simp; done) | (simp [*]; done)), H', ⟨by first | omega | exact Nat.le_refl _⟩, by repeat (first | exact Drawn0.refl _ | apply Drawn0.step)⟩
        · rw [if_neg c5] at H
          exact absurd H (by simp)
  case rest =>
    clear HC2
    try clear p2
    try clear c3
    try clear c3b0
    try clear c3b1
    try clear p3
    try clear q3
    try clear hx3
    try clear qi3
    try clear c4
    try clear c4b0
    try clear c4b1
    try clear c5
    try clear c5b0
    try clear c5b1
    try clear c6
    try clear c6b0
    try clear c6b1
    try clear p6
    try clear c8
    try clear c8b0
    try clear c9
    try clear c9b0
    try clear hx332_0
    try clear hx333_0
    try clear p332
    try clear p333
    try clear q332
    try clear q333
    obtain ⟨kq, x26_1, rfl, HA, HJ1, ⟨mc1, rfl⟩⟩ := hcut
    cases kq with
    | zero => exact absurd HA.out (by simp [thresh_Fit.j0])
    | succ kj1 =>
      have H := HA.out
      clear HA
      simp only [thresh_Fit.j0] at H
      by_cases c10 : x26_1 = true
      · subst c10
        have H1 : (some false) = some r := by rw [if_pos rfl] at H; exact H
        clear H
        have H := H1
        clear H1
        obtain rfl := Option.some.inj H
        go_wp2
        repeat (go_quiet (fail); try go_wp2)
        go_ret
        exact ⟨by first | rfl | (simp; done) | (simp [*]; done), by repeat (first | exact Drawn0.refl _ | apply Drawn0.step)⟩
      · replace c10 := Bool.eq_false_iff.mpr c10
        subst c10
        have H1 : (thresh_Fit.l0 kj1 l0 1) = some r := by rw [if_neg (show ¬ (false = true) by decide)] at H; exact H
        clear H
        have H := H1
        clear H1
        have H' := Aside0.mk H
        clear H
        go_wp2
        repeat (go_quiet (fail); try go_wp2)
        go_loopg [3] kj1 (fun kq v3 w' => ∃ (x3_2 : Int), v3 = .int .i64 x3_2 ∧ Aside0 (thresh_Fit.l0 kq l0 x3_2 = some r) ∧ Aside0 (kq ≤ kj1) ∧ Drawn0 w w')
        case atStart => exact ⟨(1), (by first | rfl | (simp; done) | (simp [*]; done)), H', ⟨Nat.le_refl _⟩, by repeat (first | exact Drawn0.refl _ | apply Drawn0.step)⟩
        case round =>
          clear H'
          try clear c1
          try clear p2
          try clear c3
          try clear c3b0
          try clear c3b1
          try clear p3
          try clear q3
          try clear hx3
          try clear qi3
          try clear c4
          try clear c4b0
          try clear c4b1
          try clear c5
          try clear c5b0
          try clear c5b1
          try clear c6
          try clear c6b0
          try clear c6b1
          try clear p6
          try clear c8
          try clear c8b0
          try clear c9
          try clear c9b0
          try clear c10
          try clear hx332_0
          try clear hx333_0
          try clear p2
          try clear p3
          try clear p332
          try clear p333
          try clear p6
          try clear q3
          try clear q332
          try clear q333
          obtain ⟨x3_2, rfl, HA, HK2, ⟨m2, rfl⟩⟩ := hrel
          cases gk with
          | zero => exact absurd HA.out (by simp [thresh_Fit.l0])
          | succ k2 =>
            have H := HA.out
            clear HA
            simp only [thresh_Fit.l0] at H
            by_cases c11 : x3_2 < (l0.length : Int)
            · rw [if_pos c11] at H
              have c11b0 : decide (x3_2 < (l0.length : Int)) = true := decide_eq_true c11
              clear c11
              obtain ⟨ji12, hji12⟩ : ∃ j_ : Int, (wrap64 (x3_2 - 1)) = j_ := ⟨_, rfl⟩
              replace H : (if 0 ≤ (ji12) then (if (ji12) < (l0.length : Int) then (if 0 ≤ x3_2 then (if (rd l0 (ji12)) ≥ (rd l0 x3_2) then (some false) else (thresh_Fit.l0 k2 l0 (wrap64 (x3_2 + 1)))) else (none)) else (none)) else (none)) = some r := by first | (rw [hji12] at H; exact H) | (simp only [hji12] at H ⊢; exact H)
              have hji12w : (IntKind.i64.wrap (x3_2 - 1)) = ji12 := (i64_w _).trans hji12
              by_cases c13 : 0 ≤ (ji12)
              · rw [if_pos c13] at H
                have c13b0 : decide (0 ≤ (ji12)) = true := decide_eq_true c13
                clear c13
                by_cases c14 : (ji12) < (l0.length : Int)
                · rw [if_pos c14] at H
                  have c14b0 : decide ((ji12) < (l0.length : Int)) = true := decide_eq_true c14
                  clear c14
                  by_cases c15 : 0 ≤ x3_2
                  · rw [if_pos c15] at H
                    have c15b0 : decide (0 ≤ x3_2) = true := decide_eq_true c15
                    clear c15
                    by_cases c16 : (rd l0 (ji12)) ≥ (rd l0 x3_2)
                    · rw [if_pos c16] at H
                      have c16b0 : decide ((rd l0 x3_2) ≤ (rd l0 (ji12))) = true := decide_eq_true c16
                      clear c16
                      obtain rfl := Option.some.inj H
                      have p334 : 0 ≤ ((ji12) : Int) := of_decide_eq_true (by first | (with_reducible assumption) | assumption)
                      have q334 : (ji12) < (l0.length : Int) := of_decide_eq_true (by first | (with_reducible assumption) | assumption)
                      obtain ⟨ad334, e334, hx334_0⟩ := Kd.at_int HR0.out (ji12) p334 q334
                      cases e334
                      replace p334 := eq_true p334
                      replace q334 := eq_true q334
                      have p335 : 0 ≤ (x3_2 : Int) := of_decide_eq_true (by first | (with_reducible assumption) | assumption)
                      have q335 : x3_2 < (l0.length : Int) := of_decide_eq_true (by first | (with_reducible assumption) | assumption)
                      obtain ⟨ad335, e335, hx335_0⟩ := Kd.at_int HR0.out x3_2 p335 q335
                      obtain rfl : ad334 = ad335 := (by injection e335)
                      replace p335 := eq_true p335
                      replace q335 := eq_true q335
                      go_wp2
                      repeat (go_quiet (fail); try go_wp2)
                      go_ret
                      exact ⟨by first | rfl | (simp; done) | (simp only [← hji12] <;> (first | rfl | simp)) | (simp [*]; done), by repeat (first | exact Drawn0.refl _ | apply Drawn0.step)⟩
                    · rw [if_neg c16] at H
                      have c16b0 : decide ((rd l0 x3_2) ≤ (rd l0 (ji12))) = false := decide_eq_false c16
                      clear c16
                      have H' := Aside0.mk H
                      clear H
                      have p334 : 0 ≤ ((ji12) : Int) := of_decide_eq_true (by first | (with_reducible assumption) | assumption)
                      have q334 : (ji12) < (l0.length : Int) := of_decide_eq_true (by first | (with_reducible assumption) | assumption)
                      obtain ⟨ad334, e334, hx334_0⟩ := Kd.at_int HR0.out (ji12) p334 q334
                      cases e334
                      replace p334 := eq_true p334
                      replace q334 := eq_true q334
                      have p335 : 0 ≤ (x3_2 : Int) := of_decide_eq_true (by first | (with_reducible assumption) | assumption)
                      have q335 : x3_2 < (l0.length : Int) := of_decide_eq_true (by first | (with_reducible assumption) | assumption)
                      obtain ⟨ad335, e335, hx335_0⟩ := Kd.at_int HR0.out x3_2 p335 q335
                      obtain rfl : ad334 = ad335 := (by injection e335)
                      replace p335 := eq_true p335
                      replace q335 := eq_true q335
                      go_wp2
                      repeat (go_quiet (fail); try go_wp2)
                      go_roundg k2
                      case measure => have := HJ1.out; have := HK2.out; omega
                      case rel => exact ⟨(wrap64 (x3_2 + 1)), (by first | rfl | (simp; done) | (simp [*]; done)), H', ⟨by have := HJ1.out; have := HK2.out; omega⟩, by repeat (first | exact Drawn0.refl _ | apply Drawn0.step)⟩
                  · rw [if_neg c15] at H
                    exact absurd H (by simp)
                · rw [if_neg c14] at H
                  exact absurd H (by simp)
              · rw [if_neg c13] at H
                exact absurd H (by simp)
            · rw [if_neg c11] at H
              have c11b0 : decide (x3_2 < (l0.length : Int)) = false := decide_eq_false c11
              clear c11
              obtain rfl := Option.some.inj H
              go_wp2
              repeat (go_quiet (fail); try go_wp2)
              go_ret
              exact ⟨by first | rfl | (simp; done) | (simp [*]; done), by repeat (first | exact Drawn0.refl _ | apply Drawn0.step)⟩
end Go.Proofs.Ytomgebmimgaojaa.QO
end
end
section
noncomputable section
namespace Go.Proofs.Ytomgebmimgaojaa.QO
open Go.RowKit Go.Proofs.YtomgebmimgaojaaW.PrintWords Go.Proofs.YtomgebmimgaojaaW.PrintLast
set_option linter.unusedVariables false
set_option linter.unusedSimpArgs false
def firstAt (p : Int → Bool) : List Int → Nat
  | [] => 0
  | x :: r => if p x then 0 else firstAt p r + 1
theorem firstAt_le (p : Int → Bool) : ∀ l, firstAt p l ≤ l.length
  | [] => Nat.le_refl _
  | x :: r => by have := firstAt_le p r; unfold firstAt; split <;> simp; omega
theorem firstAt_skip (p : Int → Bool) : ∀ (l : List Int) (n : Nat), (∀ j, j < n → p (l.getD j 0) = false) → n ≤ l.length → firstAt p l = n + firstAt p (l.drop n)
  | l, 0, _, _ => by simp
  | [], n + 1, _, h => by simp at h
  | x :: r, n + 1, h, hn => by
    have h0 := h 0 (by omega)
    have ih := firstAt_skip p r n (fun j hj => by have := h (j + 1) (by omega); simpa using this) (by simpa using hn)
    simp only [List.getD_cons_zero] at h0
    simp only [firstAt, h0, List.drop_succ_cons, ih]; simp; omega
theorem firstAt_hit (p : Int → Bool) (l : List Int) (n : Nat) (h : ∀ j, j < n → p (l.getD j 0) = false) (hn : n < l.length) (hp : p (l.getD n 0) = true) : firstAt p l = n := by
  rw [firstAt_skip p l n h (by omega)]
  rw [List.drop_eq_getElem_cons hn]
  have : l.getD n 0 = l[n] := by simp [List.getD, hn]
  rw [this] at hp
  simp [firstAt, hp]
theorem firstAt_miss (p : Int → Bool) (l : List Int) (h : ∀ j, j < l.length → p (l.getD j 0) = false) : firstAt p l = l.length := by
  rw [firstAt_skip p l l.length h (Nat.le_refl _)]; simp [firstAt]
def Will (P : Program) (g : Nat) (lb : Array Value) (p : Int → Bool) (w : World) : Prop :=
  ∀ (W : World) (x : Int), Below w.heap.size w W → Calls P g (#[.int .i64 x] ++ lb) W fun e w' => e = .returned (.bool (p x)) ∧ Below W.heap.size W w'
theorem box_world (w : World) (u v : Value) (t n : Nat) : Below w.heap.size w (((w.alloc (Obj.cells #[u] t)).drewN n).setCell ⟨w.heap.size, 0, none⟩ v) ∧
    w.heap.size < (((w.alloc (Obj.cells #[u] t)).drewN n).setCell ⟨w.heap.size, 0, none⟩ v).heap.size ∧ (((w.alloc (Obj.cells #[u] t)).drewN n).setCell ⟨w.heap.size, 0, none⟩ v).cell? ⟨w.heap.size, 0, none⟩ = some v := by
  refine ⟨(pw_below_drewN (below_alloc (Below.refl _ _) _) _).setCell (Nat.le_refl _) _, ?_, ?_⟩
  · rw [World.size_setCell]; show w.heap.size < (w.alloc _).heap.size; simp
  · refine World.cell?_setCell_same' _ _ _ ?_
    show ((w.alloc (Obj.cells #[u] t)).cell? _).isSome = true
    simp
set_option maxHeartbeats 8000000 in
set_option maxRecDepth 100000 in
theorem thresh_find_any (p : Int → Bool) (g : Nat) (lb : Array Value) (eg : ∀ args w, (callFunc g args).run Try.prog w = .ok (.enter g args) w) (A0 : Option Addr) (c0 : Nat) (l0 : List Int) (w : World)
    (hp : Will Try.prog g lb p w) (hr0 : Kd.C (Kd.int .i64) w A0 l0.length l0) (hc0 : l0.length ≤ c0) (hm : l0.length ≤ 9223372036854775807) :
    Calls Try.prog 86 #[.slice A0 l0.length c0, .func (.func g) #[] lb] w fun e w' => e = .returned (.int .i64 (firstAt p l0)) ∧ Below w.heap.size w w' := by
  have HR0 := Aside0.mk hr0
  have HP := Aside0.mk hp
  have HM := Aside0.mk hm
  clear hr0 hp hm hc0
  go_enter Try.func86, Try.ntmps86
  go_wp2
  go_loopg [5, 6, 9] l0.length (fun gg _ _ s9 wr => ∃ i : Int, s9 = .int .i64 i ∧ Aside0 (0 ≤ i ∧ i ≤ l0.length ∧ l0.length - i.toNat ≤ gg) ∧ Aside0 (Below w.heap.size w wr) ∧ Aside0 (∀ j : Nat, (j : Int) < i → p (l0.getD j 0) = false))
  case atStart => exact ⟨0, rfl, ⟨by omega, by omega, by omega⟩, ⟨Below.refl _ w⟩, ⟨fun j hj => absurd hj (by omega)⟩⟩
  case round =>
    obtain ⟨i, rfl, HI, BW, A⟩ := hrel
    by_cases hlt : i < (l0.length : Int)
    · have p0 : 0 ≤ i := HI.out.1
      obtain ⟨ad, e0, hx⟩ := Kd.at_int (Kd.C_below HR0.out BW.out) i p0 hlt
      cases e0
      have HL := Aside0.mk hlt
      have c6b0 : decide (i < (l0.length : Int)) = true := decide_eq_true hlt
      replace p0 := eq_true p0
      replace hlt := eq_true hlt
      have hcall := HP.out wr (rd l0 i) BW.out
      cases hq : p (rd l0 i) with
      | true =>
        rw [hq] at hcall
        have HQ := Aside0.mk hq
        have HC := Aside0.mk hcall
        clear hq hcall
        go_wp2_with fail
        refine HC.out.mono ?_
        rintro e w' ⟨rfl, hb'⟩
        go_wp2_with fail
        go_ret
        refine ⟨?_, BW.out.trans (hb'.mono BW.out.size)⟩
        have h1 := HI.out; have h2 := HL.out; have h3 := HQ.out
        unfold rd at h3
        rw [firstAt_hit p l0 i.toNat (fun j hj => A.out j (by omega)) (by omega) h3]
        rw [Int.toNat_of_nonneg h1.1]
        rfl
      | false =>
        rw [hq] at hcall
        have HQ := Aside0.mk hq
        have HC := Aside0.mk hcall
        clear hq hcall
        go_wp2_with fail
        refine HC.out.mono ?_
        rintro e w' ⟨rfl, hb'⟩
        go_wp2_with fail
        go_roundg (l0.length - (i.toNat + 1))
        case measure => have h1 := HI.out; have h2 := HL.out; omega
        case rel =>
          have h1 := HI.out; have h2 := HL.out; have h3 := HQ.out; have h4 := HM.out
          have hw : wrap64 (i + 1) = i + 1 := by unfold wrap64; omega
          refine ⟨wrap64 (i + 1), rfl, ⟨by omega, by omega, by omega⟩, ⟨BW.out.trans (hb'.mono BW.out.size)⟩, ⟨fun j hj => ?_⟩⟩
          by_cases e : (j : Int) = i
          · unfold rd at h3
            rw [← e] at h3; simpa using h3
          · exact A.out j (by omega)
    · have c6b0 : decide (i < (l0.length : Int)) = false := decide_eq_false hlt
      have HL := Aside0.mk hlt
      clear hlt
      go_wp2
      go_ret
      have h1 := HI.out; have h2 := HL.out
      refine ⟨?_, BW.out⟩
      rw [firstAt_miss p l0 (fun j hj => A.out j (by omega))]
      rfl
end Go.Proofs.Ytomgebmimgaojaa.QO
end
end
section
noncomputable section
namespace Go.Proofs.Ytomgebmimgaojaa.QO
open Go.RowKit Go.Proofs.YtomgebmimgaojaaW.PrintWords Go.Proofs.YtomgebmimgaojaaW.PrintLast
set_option linter.unusedVariables false
set_option linter.unusedSimpArgs false
def thresh_Up.f (k : Nat) (l0 : List Int) (a1 : Int) : Option Int :=
  (thresh_Fit.f k l0).bind fun b => if b = true then (if firstAt (fun y => decide (y ≥ bfit a1)) l0 < l0.length ∧ l0.length ≤ 9223372036854775807 then some (rd l0 (firstAt (fun y => decide (y ≥ bfit a1)) l0)) else none) else some 4611686018427387904
theorem thresh_Up.mono : ∀ l0 a1 k, LeO (thresh_Up.f k l0 a1) (thresh_Up.f (k + 1) l0 a1) := by
  intro l0 a1 k
  unfold thresh_Up.f
  exact LeO.bind (thresh_Fit.mono _ _) (fun _ => LeO.refl _)
theorem thresh_Up.will (W : World) (B : Nat) (x : Int) (hB : B < W.heap.size) (hc : W.cell? ⟨B, 0, none⟩ = some (.int .i64 x)) :
    Will Try.prog 87 #[.pointer (some ⟨B, 0, none⟩)] (fun y => decide (y ≥ x)) W := by
  intro W1 y hb
  have hc' : W1.cell? ⟨B, 0, none⟩ = some (.int .i64 x) := (hb.cell (p := ⟨B, 0, none⟩) hB).trans hc
  go_enter Try.func87, Try.ntmps87
  go_wp2
  go_ret
  exact ⟨rfl, Below.refl _ _⟩
set_option maxHeartbeats 8000000 in
set_option maxRecDepth 100000 in
theorem thresh_Up.calls (k : Nat) (A0 : Option Addr) (c0 : Nat) (l0 : List Int) (a1 : Int) (r : Int) (w : World) (hr0 : Kd.C (Kd.int .i64) w A0 l0.length l0) (hc0 : l0.length ≤ c0) (h : thresh_Up.f k l0 a1 = some r) :
    Calls Try.prog 61 #[.slice A0 l0.length c0, .int .i64 a1] w fun e w' => e = .returned (.int .i64 r) ∧ Below w.heap.size w w' := by
  have HR0 := Aside0.mk hr0
  have HC0 := Aside0.mk hc0
  clear hr0 hc0
  unfold thresh_Up.f at h
  obtain ⟨b, hb, h⟩ := Option.bind_eq_some_iff.mp h
  have HF := Aside0.mk hb
  clear hb
  cases b with
  | false =>
    rw [if_neg (by simp)] at h
    obtain rfl := Option.some.inj h
    clear h
    go_enter Try.func61, Try.ntmps61
    go_wp2_with (first | (go_at_call 63; (with_reducible refine (thresh_Fit.calls k _ _ l0 false _ ?side1 ?side2 HF.out).mono ?_); (case side1 => exact Kd.C_alloc HR0.out _); (case side2 => exact HC0.out); rintro e w1 ⟨rfl, ⟨nd, rfl⟩⟩))
    go_ret
    exact ⟨rfl, pw_below_drewN (below_alloc (Below.refl _ _) _) _⟩
  | true =>
    rw [if_pos rfl] at h
    by_cases hlt : firstAt (fun y => decide (y ≥ bfit a1)) l0 < l0.length ∧ l0.length ≤ 9223372036854775807
    · rw [if_pos hlt] at h
      obtain rfl := Option.some.inj h
      clear h
      have HL := Aside0.mk hlt
      clear hlt
      obtain ⟨x, hx⟩ : ∃ x, bfit a1 = x := ⟨_, rfl⟩
      rw [hx] at HL ⊢
      have HX : Aside0 (bound_Fit.f a1 = some x) := ⟨by rw [← hx]; rfl⟩
      clear hx
      obtain ⟨N, hN⟩ : ∃ N : Nat, firstAt (fun y => decide (y ≥ x)) l0 = N := ⟨_, rfl⟩
      rw [hN]
      have HN := Aside0.mk hN
      clear hN
      go_enter Try.func61, Try.ntmps61
      go_wp2_with (first | (go_at_call 63; (with_reducible refine (thresh_Fit.calls k _ _ l0 true _ ?side1 ?side2 HF.out).mono ?_); (case side1 => exact Kd.C_alloc HR0.out _); (case side2 => exact HC0.out); rintro e w1 ⟨rfl, ⟨nd, rfl⟩⟩) | (go_at_call 83; (with_reducible refine (bound_Fit.calls a1 x _ HX.out).mono ?_); rintro e w1 ⟨rfl, ⟨ne, rfl⟩⟩))
      obtain ⟨hbw, hbs, hbc⟩ := box_world w (.int .i64 a1) (.int .i64 x) 2 (nd + ne)
      generalize ((w.alloc (Obj.cells #[.int .i64 a1] 2)).drewN (nd + ne)).setCell ⟨w.heap.size, 0, none⟩ (.int .i64 x) = W1 at hbw hbs hbc ⊢
      refine (thresh_find_any (fun y => decide (y ≥ x)) 87 #[.pointer (some ⟨w.heap.size, 0, none⟩)] (Go.Proofs.enters_of Try.func87 (by kernel_rfl) rfl) A0 c0 l0 W1 (thresh_Up.will W1 w.heap.size x hbs hbc) (Kd.C_below HR0.out hbw) HC0.out HL.out.2).mono ?_
      rintro e w2 ⟨rfl, hb2⟩
      have hb3 : Below w.heap.size w w2 := hbw.trans (hb2.mono hbw.size)
      have h1 := HL.out; have h2 := HN.out
      rw [h2] at h1 ⊢
      obtain ⟨ad, e0, hx⟩ := Kd.at_int (Kd.C_below HR0.out hb3) (N : Int) (by omega) (by omega)
      cases e0
      have p0 : ((0 : Int) ≤ (N : Int)) = True := eq_true (by omega)
      have p1 : ((N : Int) < (l0.length : Int)) = True := eq_true (by omega)
      have p2 : decide (N < l0.length) = true := decide_eq_true (by omega)
      rw [Int.toNat_natCast] at hx
      have HB3 := Aside0.mk hb3
      clear h1 h2 hb2 hb3
      go_wp2
      go_ret
      exact ⟨rfl, HB3.out⟩
    · rw [if_neg hlt] at h
      exact absurd h (by simp)
end Go.Proofs.Ytomgebmimgaojaa.QO
end
end
section
noncomputable section
namespace Go.Proofs.Ytomgebmimgaojaa.QO
open Go.RowKit Go.Proofs.YtomgebmimgaojaaW.PrintWords Go.Proofs.YtomgebmimgaojaaW.PrintLast
set_option linter.unusedVariables false
set_option linter.unusedSimpArgs false
def thresh_clip.f (a0 : Int) : Option (Int) := if a0 > 1099511627776 then (some 4611686018427387904) else (some (mx a0 (-1099511627776)))
set_option maxHeartbeats 8000000 in
set_option maxRecDepth 100000 in
theorem thresh_clip.calls (a0 : Int) (r : Int) (w : World) (h : thresh_clip.f a0 = some r) :
    Calls Try.prog 65 #[.int .i64 a0] w fun e w' => e = .returned (.int .i64 r) ∧ Below w.heap.size w w' := by
  have HB := Aside0.mk (Below.refl w.heap.size w)
  have H : (if a0 > 1099511627776 then (some 4611686018427387904) else (some (mx a0 (-1099511627776)))) = some r := h
  clear h
  by_cases c2 : a0 > 1099511627776
  · rw [if_pos c2] at H
    have c2b0 : decide (1099511627776 < a0) = true := decide_eq_true c2
    clear c2
    obtain rfl := Option.some.inj H
    go_enter Try.func65, Try.ntmps65
    go_wp2
    go_ret
    exact ⟨by first | rfl | (simp [errW_none, errW_some] <;> rfl) | (simp [*, errW_none, errW_some] <;> rfl) | (simp [wrap64]; done), by repeat (first | (with_reducible first | exact HB.out | apply below_alloc | apply pw_below_drewN | apply below_drew1) | exact HB.out)⟩
  · rw [if_neg c2] at H
    have c2b0 : decide (1099511627776 < a0) = false := decide_eq_false c2
    clear c2
    obtain ⟨ji3, hji3⟩ : ∃ j_ : Int, (mx a0 (-1099511627776)) = j_ := ⟨_, rfl⟩
    replace H : (some ji3) = some r := by first | (rw [hji3] at H; exact H) | (simp only [hji3] at H ⊢; exact H)
    have hji3_ : (if a0 < (-1099511627776) then (-1099511627776) else a0) = ji3 := hji3
    obtain rfl := Option.some.inj H
    go_enter Try.func65, Try.ntmps65
    go_wp2
    go_ret
    exact ⟨by first | rfl | (simp [errW_none, errW_some] <;> rfl) | (simp only [← hji3]; first | rfl | (simp [errW_none, errW_some] <;> rfl)) | (simp [*, errW_none, errW_some] <;> rfl) | (simp [wrap64]; done), by repeat (first | (with_reducible first | exact HB.out | apply below_alloc | apply pw_below_drewN | apply below_drew1) | exact HB.out)⟩
end Go.Proofs.Ytomgebmimgaojaa.QO
end
end
section
noncomputable section
namespace Go.Proofs.Ytomgebmimgaojaa.QO
open Go.RowKit Go.Proofs.YtomgebmimgaojaaW.PrintWords Go.Proofs.YtomgebmimgaojaaW.PrintLast
set_option linter.unusedVariables false
set_option linter.unusedSimpArgs false
def thresh_twice.f (a0 : Int) : Option (Int) := if a0 > 1099511627776 then (some 4611686018427387904) else ((thresh_clip.f (wrap64 (2 * (mx a0 (-1099511627776))))).bind fun t348 => (some t348))
set_option maxHeartbeats 8000000 in
set_option maxRecDepth 100000 in
theorem thresh_twice.calls (a0 : Int) (r : Int) (w : World) (h : thresh_twice.f a0 = some r) :
    Calls Try.prog 64 #[.int .i64 a0] w fun e w' => e = .returned (.int .i64 r) ∧ Below w.heap.size w w' := by
  have HB := Aside0.mk (Below.refl w.heap.size w)
  have H : (if a0 > 1099511627776 then (some 4611686018427387904) else ((thresh_clip.f (wrap64 (2 * (mx a0 (-1099511627776))))).bind fun t348 => (some t348))) = some r := h
  clear h
  by_cases c2 : a0 > 1099511627776
  · rw [if_pos c2] at H
    have c2b0 : decide (1099511627776 < a0) = true := decide_eq_true c2
    clear c2
    obtain rfl := Option.some.inj H
    go_enter Try.func64, Try.ntmps64
    go_wp2
    go_ret
    exact ⟨by first | rfl | (simp [errW_none, errW_some] <;> rfl) | (simp [*, errW_none, errW_some] <;> rfl) | (simp [wrap64]; done), by repeat (first | (with_reducible first | exact HB.out | apply below_alloc | apply pw_below_drewN | apply below_drew1) | exact HB.out)⟩
  · rw [if_neg c2] at H
    have c2b0 : decide (1099511627776 < a0) = false := decide_eq_false c2
    clear c2
    obtain ⟨ji3, hji3⟩ : ∃ j_ : Int, (mx a0 (-1099511627776)) = j_ := ⟨_, rfl⟩
    replace H : ((thresh_clip.f (wrap64 (2 * (ji3)))).bind fun t348 => (some t348)) = some r := by first | (rw [hji3] at H; exact H) | (simp only [hji3] at H ⊢; exact H)
    have hji3_ : (if a0 < (-1099511627776) then (-1099511627776) else a0) = ji3 := hji3
    replace H := Option.bind_eq_some_iff.mp H
    obtain ⟨t348, A40, H⟩ := H
    replace H : (some t348) = some r := H
    have A4 := Aside0.mk A40
    clear A40
    obtain rfl := Option.some.inj H
    go_enter Try.func64, Try.ntmps64
    go_wp2_with (first | ((with_reducible refine gate_callee (f := 65) rfl ?_); refine goesL_ (some 8) rfl rfl Try.func65 (by kernel_rfl) rfl #[.int .i64 (wrap64 (2 * (ji3)))] rfl (by (try simp only [List.map_toArray, List.map_cons, List.map_nil]); first | done | (simp only [hji3]; rfl) | rfl | (simp only [List.length_drop, List.length_take]; rfl)) ?_; (with_reducible refine (thresh_clip.calls (wrap64 (2 * (ji3))) t348 _ A4.out).mono ?_); rintro e w5 ⟨rfl, hb⟩; refine ⟨_, rfl, ?_⟩; have n0_ := Aside0.mk (below_step (by repeat (first | (with_reducible first | exact HB.out | apply below_alloc | apply pw_below_drewN | apply below_drew1) | exact HB.out)) hb); clear HB; have HB := n0_; clear n0_; (try clear hb); (try clear hb2); (try clear hk); (try clear hi)))
    go_ret
    exact ⟨by first | rfl | (simp [errW_none, errW_some] <;> rfl) | (simp only [← hji3]; first | rfl | (simp [errW_none, errW_some] <;> rfl)) | (simp [*, errW_none, errW_some] <;> rfl) | (simp [wrap64]; done), by repeat (first | (with_reducible first | exact HB.out | apply below_alloc | apply pw_below_drewN | apply below_drew1) | exact HB.out)⟩
end Go.Proofs.Ytomgebmimgaojaa.QO
end
end
section
noncomputable section
namespace Go.Proofs.Ytomgebmimgaojaa.QO
open Go.RowKit Go.Proofs.YtomgebmimgaojaaW.PrintWords Go.Proofs.YtomgebmimgaojaaW.PrintLast
set_option linter.unusedVariables false
set_option linter.unusedSimpArgs false
mutual
def gimbalref13_Fit.j0 : Nat → List Int → Bool → Option (Bool)
  | 0, _, _ => none
  | k + 1, x0, x26 => if x26 = true then (some false) else (gimbalref13_Fit.l0 k x0 1)
def gimbalref13_Fit.l0 : Nat → List Int → Int → Option (Bool)
  | 0, _, _ => none
  | k + 1, x0, x3 => if x3 < (x0.length : Int) then (if 0 ≤ x3 then (if 0 ≤ (wrap64 (x3 - 1)) then (if (wrap64 (x3 - 1)) < (x0.length : Int) then (if (rd x0 x3) ≤ (rd x0 (wrap64 (x3 - 1))) then (some false) else (gimbalref13_Fit.l0 k x0 (wrap64 (x3 + 1)))) else (none)) else (none)) else (none)) else (some true)
end
def gimbalref13_Fit.f (k : Nat) (l0 : List Int) : Option (Bool) := if (l0.length : Int) < 2 then (gimbalref13_Fit.j0 k l0 true) else (if (l0.length : Int) > 256 then (gimbalref13_Fit.j0 k l0 true) else (if 0 < (l0.length : Int) then (if (rd l0 0) = (-4611686018427387904) then (if 0 ≤ (wrap64 ((l0.length : Int) - 1)) then (if (wrap64 ((l0.length : Int) - 1)) < (l0.length : Int) then (gimbalref13_Fit.j0 k l0 ((rd l0 (wrap64 ((l0.length : Int) - 1))) != 4611686018427387904)) else (none)) else (none)) else (gimbalref13_Fit.j0 k l0 true)) else (none)))
theorem gimbalref13_Fit.mono_l : ∀ k, (∀ y0 y1, LeO (gimbalref13_Fit.j0 k y0 y1) (gimbalref13_Fit.j0 (k + 1) y0 y1)) ∧ (∀ y0 y1, LeO (gimbalref13_Fit.l0 k y0 y1) (gimbalref13_Fit.l0 (k + 1) y0 y1))
  | 0 => ⟨fun _ _ r h => by simp [gimbalref13_Fit.j0] at h, fun _ _ r h => by simp [gimbalref13_Fit.l0] at h⟩
  | k + 1 => by
    obtain ⟨ih0, ih1⟩ := gimbalref13_Fit.mono_l k
    refine ⟨?_, ?_⟩
    · intro y0 y1
      unfold gimbalref13_Fit.j0
      repeat' first
      | (with_reducible exact ih0 _ _)
      | (with_reducible exact ih1 _ _)
      | (with_reducible exact LeO.refl _)
      | (with_reducible exact LeO.none _)
      | (with_reducible refine LeO.ite ?_ ?_)
      | (with_reducible refine LeO.bind ?_ (fun _ => ?_))
      | exact ih0 _ _
      | exact ih1 _ _
      | exact LeO.none _
      | refine LeO.ite ?_ ?_
      | refine LeO.bind ?_ (fun _ => ?_)
    · intro y0 y1
      unfold gimbalref13_Fit.l0
      repeat' first
      | (with_reducible exact ih0 _ _)
      | (with_reducible exact ih1 _ _)
      | (with_reducible exact LeO.refl _)
      | (with_reducible exact LeO.none _)
      | (with_reducible refine LeO.ite ?_ ?_)
      | (with_reducible refine LeO.bind ?_ (fun _ => ?_))
      | exact ih0 _ _
      | exact ih1 _ _
      | exact LeO.none _
      | refine LeO.ite ?_ ?_
      | refine LeO.bind ?_ (fun _ => ?_)
theorem gimbalref13_Fit.mono : ∀ a0 k, LeO (gimbalref13_Fit.f k a0) (gimbalref13_Fit.f (k + 1) a0) := by
  intro a0 k
  obtain ⟨ih0, ih1⟩ := gimbalref13_Fit.mono_l k
  unfold gimbalref13_Fit.f
  repeat' first
      | (with_reducible exact ih0 _ _)
      | (with_reducible exact ih1 _ _)
      | (with_reducible exact LeO.refl _)
      | (with_reducible exact LeO.none _)
      | (with_reducible refine LeO.ite ?_ ?_)
      | (with_reducible refine LeO.bind ?_ (fun _ => ?_))
      | exact ih0 _ _
      | exact ih1 _ _
      | exact LeO.none _
      | refine LeO.ite ?_ ?_
      | refine LeO.bind ?_ (fun _ => ?_)
set_option maxHeartbeats 8000000 in
set_option maxRecDepth 100000 in
theorem gimbalref13_Fit.calls (k : Nat) (A0 : Option Addr) (c0 : Nat) (l0 : List Int) (r : Bool) (w : World) (hr0 : Kd.C (Kd.int .i64) w A0 l0.length l0) (hc0 : l0.length ≤ c0) (h : gimbalref13_Fit.f k l0 = some r) :
    Calls Try.prog 27 #[.slice A0 l0.length c0] w fun e w' => e = .returned (.bool r) ∧ Drawn0 w w' := by
  have HR0 := Aside0.mk hr0
  have HC0 := Aside0.mk hc0
  clear hr0 hc0
  have H : (if (l0.length : Int) < 2 then (gimbalref13_Fit.j0 k l0 true) else (if (l0.length : Int) > 256 then (gimbalref13_Fit.j0 k l0 true) else (if 0 < (l0.length : Int) then (if (rd l0 0) = (-4611686018427387904) then (if 0 ≤ (wrap64 ((l0.length : Int) - 1)) then (if (wrap64 ((l0.length : Int) - 1)) < (l0.length : Int) then (gimbalref13_Fit.j0 k l0 ((rd l0 (wrap64 ((l0.length : Int) - 1))) != 4611686018427387904)) else (none)) else (none)) else (gimbalref13_Fit.j0 k l0 true)) else (none)))) = some r := h
  clear h
  have HC2 := Aside0.mk H
  clear H
  go_enter Try.func27, Try.ntmps27
  go_upto_region 1 with (fail)
  repeat (go_quiet (fail); go_upto_region 1 with (fail))
  go_cut [26] (fun v26 wc => ∃ (kq : Nat) (x26_1 : Bool), v26 = .bool x26_1 ∧ Aside0 (gimbalref13_Fit.j0 kq l0 x26_1 = some r) ∧ Aside0 (kq ≤ k) ∧ Drawn0 w wc)
  case first =>
    have H := HC2.out
    clear HC2
    by_cases c3 : (l0.length : Int) < 2
    · rw [if_pos c3] at H
      have c3b0 : decide ((l0.length : Int) < 2) = true := decide_eq_true c3
      have c3b1 : decide (l0.length < 2) = true := decide_eq_true (by omega)
      clear c3
      (first | rw [c3b0] | (simp only [i64_w, i32_w]; rw [c3b0]) | skip)
      have H' := Aside0.mk H
      clear H
      go_wp2
      repeat (go_quiet (fail); try go_wp2)
      go_meet
      case rel => exact ⟨_, (true), (by first | rfl | (simp; done) | (simp [*]; done)), H', ⟨by first | omega | exact Nat.le_refl _⟩, by repeat (first | exact Drawn0.refl _ | apply Drawn0.step)⟩
    · rw [if_neg c3] at H
      have c3b0 : decide ((l0.length : Int) < 2) = false := decide_eq_false c3
      have c3b1 : decide (l0.length < 2) = false := decide_eq_false (by omega)
      clear c3
      (first | rw [c3b0] | (simp only [i64_w, i32_w]; rw [c3b0]) | skip)
      by_cases c4 : (l0.length : Int) > 256
      · rw [if_pos c4] at H
        have c4b0 : decide (256 < (l0.length : Int)) = true := decide_eq_true c4
        have c4b1 : decide (256 < l0.length) = true := decide_eq_true (by omega)
        clear c4
        have H' := Aside0.mk H
        clear H
        go_wp2
        repeat (go_quiet (fail); try go_wp2)
        go_meet
        case rel => exact ⟨_, (true), (by first | rfl | (simp; done) | (simp [*]; done)), H', ⟨by first | omega | exact Nat.le_refl _⟩, by repeat (first | exact Drawn0.refl _ | apply Drawn0.step)⟩
      · rw [if_neg c4] at H
        have c4b0 : decide (256 < (l0.length : Int)) = false := decide_eq_false c4
        have c4b1 : decide (256 < l0.length) = false := decide_eq_false (by omega)
        clear c4
        by_cases c5 : 0 < (l0.length : Int)
        · rw [if_pos c5] at H
          have c5b0 : decide (0 < (l0.length : Int)) = true := decide_eq_true c5
          have c5b1 : decide (0 < l0.length) = true := decide_eq_true (by omega)
          clear c5
          by_cases c6 : (rd l0 0) = (-4611686018427387904)
          · rw [if_pos c6] at H
            have c6b0 : ((rd l0 0) == (-4611686018427387904)) = true := beq_iff_eq.mpr c6
            have c6b1 : ((rd l0 0) != (-4611686018427387904)) = false := bne_eq_false_iff_eq.mpr c6
            clear c6
            obtain ⟨ji7, hji7⟩ : ∃ j_ : Int, (wrap64 ((l0.length : Int) - 1)) = j_ := ⟨_, rfl⟩
            replace H : (if 0 ≤ (ji7) then (if (ji7) < (l0.length : Int) then (gimbalref13_Fit.j0 k l0 ((rd l0 (ji7)) != 4611686018427387904)) else (none)) else (none)) = some r := by first | (rw [hji7] at H; exact H) | (simp only [hji7] at H ⊢; exact H)
            have hji7w : (IntKind.i64.wrap ((l0.length : Int) - 1)) = ji7 := (i64_w _).trans hji7
            by_cases c8 : 0 ≤ (ji7)
            · rw [if_pos c8] at H
              have c8b0 : decide (0 ≤ (ji7)) = true := decide_eq_true c8
              clear c8
              by_cases c9 : (ji7) < (l0.length : Int)
              · rw [if_pos c9] at H
                have c9b0 : decide ((ji7) < (l0.length : Int)) = true := decide_eq_true c9
                clear c9
                have H' := Aside0.mk H
                clear H
                have p349 : 0 ≤ (0 : Int) := (by omega)
                have q349 : 0 < (l0.length : Int) := of_decide_eq_true (by first | (with_reducible assumption) | assumption)
                obtain ⟨ad349, e349, hx349_0⟩ := Kd.at_int HR0.out 0 p349 q349
                cases e349
                have qi349 : (0 < l0.length) = True := eq_true (by omega)
                (try rw [show ((0 : Int)).toNat = 0 from rfl] at hx349_0)
                (try rw [Addr.add_zero'] at hx349_0)
                replace p349 := eq_true p349
                replace q349 := eq_true q349
                have p350 : 0 ≤ ((ji7) : Int) := of_decide_eq_true (by first | (with_reducible assumption) | assumption)
                have q350 : (ji7) < (l0.length : Int) := of_decide_eq_true (by first | (with_reducible assumption) | assumption)
                obtain ⟨ad350, e350, hx350_0⟩ := Kd.at_int HR0.out (ji7) p350 q350
                obtain rfl : ad349 = ad350 := (by injection e350)
                replace p350 := eq_true p350
                replace q350 := eq_true q350
                go_wp2
                repeat (go_quiet (fail); try go_wp2)
                go_meet
                case rel => exact ⟨_, (((rd l0 (ji7)) != 4611686018427387904)), (by first | rfl | (simp; done) | (simp only [← hji7] <;> (first | rfl | simp)) | (simp [*]; done)), H', ⟨by first | omega | exact Nat.le_refl _⟩, by repeat (first | exact Drawn0.refl _ | apply Drawn0.step)⟩
              · rw [if_neg c9] at H
                exact absurd H (by simp)
            · rw [if_neg c8] at H
              exact absurd H (by simp)
          · rw [if_neg c6] at H
            have c6b0 : ((rd l0 0) == (-4611686018427387904)) = false := beq_eq_false_iff_ne.mpr c6
            have c6b1 : ((rd l0 0) != (-4611686018427387904)) = true := bne_iff_ne.mpr c6
            have H' := Aside0.mk H
            clear H
            have p349 : 0 ≤ (0 : Int) := (by omega)
            have q349 : 0 < (l0.length : Int) := of_decide_eq_true (by first | (with_reducible assumption) | assumption)
            obtain ⟨ad349, e349, hx349_0⟩ := Kd.at_int HR0.out 0 p349 q349
            cases e349
            have qi349 : (0 < l0.length) = True := eq_true (by omega)
            (try rw [show ((0 : Int)).toNat = 0 from rfl] at hx349_0)
            (try rw [Addr.add_zero'] at hx349_0)
            replace p349 := eq_true p349
            replace q349 := eq_true q349
            go_wp2
            repeat (go_quiet (fail); try go_wp2)
            go_meet
            case rel => exact ⟨_, (true), (by first | rfl | (simp; done) | (simp [*]; done)), H', ⟨by first | omega | exact Nat.le_refl _⟩, by repeat (first | exact Drawn0.refl _ | apply Drawn0.step)⟩
        · rw [if_neg c5] at H
          exact absurd H (by simp)
  case rest =>
    clear HC2
    try clear c2
    try clear p2
    try clear c3
    try clear c3b0
    try clear c3b1
    try clear p3
    try clear q3
    try clear hx3
    try clear qi3
    try clear c4
    try clear c4b0
    try clear c4b1
    try clear c5
    try clear c5b0
    try clear c5b1
    try clear c6
    try clear c6b0
    try clear c6b1
    try clear p6
    try clear c8
    try clear c8b0
    try clear c9
    try clear c9b0
    try clear hx349_0
    try clear hx350_0
    try clear p349
    try clear p350
    try clear q349
    try clear q350
    obtain ⟨kq, x26_1, rfl, HA, HJ1, ⟨mc1, rfl⟩⟩ := hcut
    cases kq with
    | zero => exact absurd HA.out (by simp [gimbalref13_Fit.j0])
    | succ kj1 =>
      have H := HA.out
      clear HA
      simp only [gimbalref13_Fit.j0] at H
      by_cases c10 : x26_1 = true
      · subst c10
        have H1 : (some false) = some r := by rw [if_pos rfl] at H; exact H
        clear H
        have H := H1
        clear H1
        obtain rfl := Option.some.inj H
        go_wp2
        repeat (go_quiet (fail); try go_wp2)
        go_ret
        exact ⟨by first | rfl | (simp; done) | (simp [*]; done), by repeat (first | exact Drawn0.refl _ | apply Drawn0.step)⟩
      · replace c10 := Bool.eq_false_iff.mpr c10
        subst c10
        have H1 : (gimbalref13_Fit.l0 kj1 l0 1) = some r := by rw [if_neg (show ¬ (false = true) by decide)] at H; exact H
        clear H
        have H := H1
        clear H1
        have H' := Aside0.mk H
        clear H
        go_wp2
        repeat (go_quiet (fail); try go_wp2)
        go_loopg [3] kj1 (fun kq v3 w' => ∃ (x3_2 : Int), v3 = .int .i64 x3_2 ∧ Aside0 (gimbalref13_Fit.l0 kq l0 x3_2 = some r) ∧ Aside0 (kq ≤ kj1) ∧ Drawn0 w w')
        case atStart => exact ⟨(1), (by first | rfl | (simp; done) | (simp [*]; done)), H', ⟨Nat.le_refl _⟩, by repeat (first | exact Drawn0.refl _ | apply Drawn0.step)⟩
        case round =>
          clear H'
          try clear c1
          try clear c2
          try clear p2
          try clear c3
          try clear c3b0
          try clear c3b1
          try clear p3
          try clear q3
          try clear hx3
          try clear qi3
          try clear c4
          try clear c4b0
          try clear c4b1
          try clear c5
          try clear c5b0
          try clear c5b1
          try clear c6
          try clear c6b0
          try clear c6b1
          try clear p6
          try clear c8
          try clear c8b0
          try clear c9
          try clear c9b0
          try clear c10
          try clear hx349_0
          try clear hx350_0
          try clear p2
          try clear p3
          try clear p349
          try clear p350
          try clear p6
          try clear q3
          try clear q349
          try clear q350
          obtain ⟨x3_2, rfl, HA, HK2, ⟨m2, rfl⟩⟩ := hrel
          cases gk with
          | zero => exact absurd HA.out (by simp [gimbalref13_Fit.l0])
          | succ k2 =>
            have H := HA.out
            clear HA
            simp only [gimbalref13_Fit.l0] at H
            by_cases c11 : x3_2 < (l0.length : Int)
            · rw [if_pos c11] at H
              have c11b0 : decide (x3_2 < (l0.length : Int)) = true := decide_eq_true c11
              clear c11
              by_cases c12 : 0 ≤ x3_2
              · rw [if_pos c12] at H
                have c12b0 : decide (0 ≤ x3_2) = true := decide_eq_true c12
                clear c12
                obtain ⟨ji13, hji13⟩ : ∃ j_ : Int, (wrap64 (x3_2 - 1)) = j_ := ⟨_, rfl⟩
                replace H : (if 0 ≤ (ji13) then (if (ji13) < (l0.length : Int) then (if (rd l0 x3_2) ≤ (rd l0 (ji13)) then (some false) else (gimbalref13_Fit.l0 k2 l0 (wrap64 (x3_2 + 1)))) else (none)) else (none)) = some r := by first | (rw [hji13] at H; exact H) | (simp only [hji13] at H ⊢; exact H)
                have hji13w : (IntKind.i64.wrap (x3_2 - 1)) = ji13 := (i64_w _).trans hji13
                by_cases c14 : 0 ≤ (ji13)
                · rw [if_pos c14] at H
                  have c14b0 : decide (0 ≤ (ji13)) = true := decide_eq_true c14
                  clear c14
                  by_cases c15 : (ji13) < (l0.length : Int)
                  · rw [if_pos c15] at H
                    have c15b0 : decide ((ji13) < (l0.length : Int)) = true := decide_eq_true c15
                    clear c15
                    by_cases c16 : (rd l0 x3_2) ≤ (rd l0 (ji13))
                    · rw [if_pos c16] at H
                      have c16b0 : decide ((rd l0 x3_2) ≤ (rd l0 (ji13))) = true := decide_eq_true c16
                      clear c16
                      obtain rfl := Option.some.inj H
                      have p351 : 0 ≤ (x3_2 : Int) := of_decide_eq_true (by first | (with_reducible assumption) | assumption)
                      have q351 : x3_2 < (l0.length : Int) := of_decide_eq_true (by first | (with_reducible assumption) | assumption)
                      obtain ⟨ad351, e351, hx351_0⟩ := Kd.at_int HR0.out x3_2 p351 q351
                      cases e351
                      replace p351 := eq_true p351
                      replace q351 := eq_true q351
                      have p352 : 0 ≤ ((ji13) : Int) := of_decide_eq_true (by first | (with_reducible assumption) | assumption)
                      have q352 : (ji13) < (l0.length : Int) := of_decide_eq_true (by first | (with_reducible assumption) | assumption)
                      obtain ⟨ad352, e352, hx352_0⟩ := Kd.at_int HR0.out (ji13) p352 q352
                      obtain rfl : ad351 = ad352 := (by injection e352)
                      replace p352 := eq_true p352
                      replace q352 := eq_true q352
                      go_wp2
                      repeat (go_quiet (fail); try go_wp2)
                      go_ret
                      exact ⟨by first | rfl | (simp; done) | (simp only [← hji13] <;> (first | rfl | simp)) | (simp [*]; done), by repeat (first | exact Drawn0.refl _ | apply Drawn0.step)⟩
                    · rw [if_neg c16] at H
                      have c16b0 : decide ((rd l0 x3_2) ≤ (rd l0 (ji13))) = false := decide_eq_false c16
                      clear c16
                      have H' := Aside0.mk H
                      clear H
                      have p351 : 0 ≤ (x3_2 : Int) := of_decide_eq_true (by first | (with_reducible assumption) | assumption)
                      have q351 : x3_2 < (l0.length : Int) := of_decide_eq_true (by first | (with_reducible assumption) | assumption)
                      obtain ⟨ad351, e351, hx351_0⟩ := Kd.at_int HR0.out x3_2 p351 q351
                      cases e351
                      replace p351 := eq_true p351
                      replace q351 := eq_true q351
                      have p352 : 0 ≤ ((ji13) : Int) := of_decide_eq_true (by first | (with_reducible assumption) | assumption)
                      have q352 : (ji13) < (l0.length : Int) := of_decide_eq_true (by first | (with_reducible assumption) | assumption)
                      obtain ⟨ad352, e352, hx352_0⟩ := Kd.at_int HR0.out (ji13) p352 q352
                      obtain rfl : ad351 = ad352 := (by injection e352)
                      replace p352 := eq_true p352
                      replace q352 := eq_true q352
                      go_wp2
                      repeat (go_quiet (fail); try go_wp2)
                      go_roundg k2
                      case measure => have := HJ1.out; have := HK2.out; omega
                      case rel => exact ⟨(wrap64 (x3_2 + 1)), (by first | rfl | (simp; done) | (simp [*]; done)), H', ⟨by have := HJ1.out; have := HK2.out; omega⟩, by repeat (first | exact Drawn0.refl _ | apply Drawn0.step)⟩
                  · rw [if_neg c15] at H
                    exact absurd H (by simp)
                · rw [if_neg c14] at H
                  exact absurd H (by simp)
              · rw [if_neg c12] at H
                exact absurd H (by simp)
            · rw [if_neg c11] at H
              have c11b0 : decide (x3_2 < (l0.length : Int)) = false := decide_eq_false c11
              clear c11
              obtain rfl := Option.some.inj H
              go_wp2
              repeat (go_quiet (fail); try go_wp2)
              go_ret
              exact ⟨by first | rfl | (simp; done) | (simp [*]; done), by repeat (first | exact Drawn0.refl _ | apply Drawn0.step)⟩
end Go.Proofs.Ytomgebmimgaojaa.QO
end
end
section
noncomputable section
namespace Go.Proofs.Ytomgebmimgaojaa.QO
open Go.RowKit Go.Proofs.YtomgebmimgaojaaW.PrintWords Go.Proofs.YtomgebmimgaojaaW.PrintLast
set_option linter.unusedVariables false
set_option linter.unusedSimpArgs false
def thresh_Down.f (k : Nat) (l0 : List Int) (a1 : Int) : Option Int :=
  (thresh_Fit.f k l0).bind fun b => if b = true then (if 1 ≤ firstAt (fun y => decide (y > bfit a1)) l0 ∧ l0.length ≤ 9223372036854775807 then some (rd l0 ((firstAt (fun y => decide (y > bfit a1)) l0 : Int) - 1)) else none) else some (-4611686018427387904)
theorem thresh_Down.mono : ∀ l0 a1 k, LeO (thresh_Down.f k l0 a1) (thresh_Down.f (k + 1) l0 a1) := by
  intro l0 a1 k
  unfold thresh_Down.f
  exact LeO.bind (thresh_Fit.mono _ _) (fun _ => LeO.refl _)
theorem thresh_Down.will (W : World) (B : Nat) (x : Int) (hB : B < W.heap.size) (hc : W.cell? ⟨B, 0, none⟩ = some (.int .i64 x)) :
    Will Try.prog 88 #[.pointer (some ⟨B, 0, none⟩)] (fun y => decide (y > x)) W := by
  intro W1 y hb
  have hc' : W1.cell? ⟨B, 0, none⟩ = some (.int .i64 x) := (hb.cell (p := ⟨B, 0, none⟩) hB).trans hc
  go_enter Try.func88, Try.ntmps88
  go_wp2
  go_ret
  exact ⟨rfl, Below.refl _ _⟩
set_option maxHeartbeats 8000000 in
set_option maxRecDepth 100000 in
theorem thresh_Down.calls (k : Nat) (A0 : Option Addr) (c0 : Nat) (l0 : List Int) (a1 : Int) (r : Int) (w : World) (hr0 : Kd.C (Kd.int .i64) w A0 l0.length l0) (hc0 : l0.length ≤ c0) (h : thresh_Down.f k l0 a1 = some r) :
    Calls Try.prog 62 #[.slice A0 l0.length c0, .int .i64 a1] w fun e w' => e = .returned (.int .i64 r) ∧ Below w.heap.size w w' := by
  have HR0 := Aside0.mk hr0
  have HC0 := Aside0.mk hc0
  clear hr0 hc0
  unfold thresh_Down.f at h
  obtain ⟨b, hb, h⟩ := Option.bind_eq_some_iff.mp h
  have HF := Aside0.mk hb
  clear hb
  cases b with
  | false =>
    rw [if_neg (by simp)] at h
    obtain rfl := Option.some.inj h
    clear h
    go_enter Try.func62, Try.ntmps62
    go_wp2_with (first | (go_at_call 63; (with_reducible refine (thresh_Fit.calls k _ _ l0 false _ ?side1 ?side2 HF.out).mono ?_); (case side1 => exact Kd.C_alloc HR0.out _); (case side2 => exact HC0.out); rintro e w1 ⟨rfl, ⟨nd, rfl⟩⟩))
    go_ret
    exact ⟨rfl, pw_below_drewN (below_alloc (Below.refl _ _) _) _⟩
  | true =>
    rw [if_pos rfl] at h
    by_cases hlt : 1 ≤ firstAt (fun y => decide (y > bfit a1)) l0 ∧ l0.length ≤ 9223372036854775807
    · rw [if_pos hlt] at h
      obtain rfl := Option.some.inj h
      clear h
      have HL := Aside0.mk hlt
      clear hlt
      obtain ⟨x, hx⟩ : ∃ x, bfit a1 = x := ⟨_, rfl⟩
      rw [hx] at HL ⊢
      have HX : Aside0 (bound_Fit.f a1 = some x) := ⟨by rw [← hx]; rfl⟩
      clear hx
      obtain ⟨N, hN⟩ : ∃ N : Nat, firstAt (fun y => decide (y > x)) l0 = N := ⟨_, rfl⟩
      rw [hN]
      have HN := Aside0.mk hN
      clear hN
      go_enter Try.func62, Try.ntmps62
      go_wp2_with (first | (go_at_call 63; (with_reducible refine (thresh_Fit.calls k _ _ l0 true _ ?side1 ?side2 HF.out).mono ?_); (case side1 => exact Kd.C_alloc HR0.out _); (case side2 => exact HC0.out); rintro e w1 ⟨rfl, ⟨nd, rfl⟩⟩) | (go_at_call 83; (with_reducible refine (bound_Fit.calls a1 x _ HX.out).mono ?_); rintro e w1 ⟨rfl, ⟨ne, rfl⟩⟩))
      obtain ⟨hbw, hbs, hbc⟩ := box_world w (.int .i64 a1) (.int .i64 x) 2 (nd + ne)
      generalize ((w.alloc (Obj.cells #[.int .i64 a1] 2)).drewN (nd + ne)).setCell ⟨w.heap.size, 0, none⟩ (.int .i64 x) = W1 at hbw hbs hbc ⊢
      refine (thresh_find_any (fun y => decide (y > x)) 88 #[.pointer (some ⟨w.heap.size, 0, none⟩)] (Go.Proofs.enters_of Try.func88 (by kernel_rfl) rfl) A0 c0 l0 W1 (thresh_Down.will W1 w.heap.size x hbs hbc) (Kd.C_below HR0.out hbw) HC0.out HL.out.2).mono ?_
      rintro e w2 ⟨rfl, hb2⟩
      have hb3 : Below w.heap.size w w2 := hbw.trans (hb2.mono hbw.size)
      have h1 := HL.out; have h2 := HN.out; have h3 := firstAt_le (fun y => decide (y > x)) l0
      rw [h2] at h1 h3 ⊢
      obtain ⟨i, hi⟩ : ∃ i : Int, (N : Int) - 1 = i := ⟨_, rfl⟩
      obtain ⟨ad, e0, hx⟩ := Kd.at_int (Kd.C_below HR0.out hb3) i (by omega) (by omega)
      cases e0
      have p0 : ((0 : Int) ≤ i) = True := eq_true (by omega)
      have p1 : (i < (l0.length : Int)) = True := eq_true (by omega)
      have p2 : wrap64 ((N : Int) - 1) = i := by unfold wrap64; omega
      have p3 : IntKind.i64.wrap ((N : Int) - 1) = i := by rw [IntKind.wrap_i64]; omega
      have HI := Aside0.mk hi
      have HB3 := Aside0.mk hb3
      clear h1 h2 h3 hi hb2 hb3
      go_wp2
      go_ret
      refine ⟨?_, HB3.out⟩
      rw [HI.out]
      rfl
    · rw [if_neg hlt] at h
      exact absurd h (by simp)
end Go.Proofs.Ytomgebmimgaojaa.QO
end
end
section
noncomputable section
namespace Go.Proofs.Ytomgebmimgaojaa.QO
open Go.RowKit Go.Proofs.YtomgebmimgaojaaW.PrintWords Go.Proofs.YtomgebmimgaojaaW.PrintLast
set_option linter.unusedVariables false
set_option linter.unusedSimpArgs false
def thresh_Itv.f (k : Nat) (l0 : List Int) (a1_0 : Int) (a1_1 : Int) : Option (Int × Int) := if a1_0 > a1_1 then (some (1, 0)) else ((thresh_Down.f k l0 a1_0).bind fun t338 => ((thresh_Up.f k l0 a1_1).bind fun t339 => (some (mn t338 4611686018427387903, mx t339 (-4611686018427387903)))))
theorem thresh_Itv.mono : ∀ a0 a1 a2 k, LeO (thresh_Itv.f k a0 a1 a2) (thresh_Itv.f (k + 1) a0 a1 a2) := by
  intro a0 a1 a2 k
  unfold thresh_Itv.f
  repeat' first
      | (with_reducible exact thresh_Down.mono _ _ _)
      | (with_reducible exact thresh_Up.mono _ _ _)
      | (with_reducible exact LeO.refl _)
      | (with_reducible exact LeO.none _)
      | (with_reducible refine LeO.ite ?_ ?_)
      | (with_reducible refine LeO.bind ?_ (fun _ => ?_))
      | exact thresh_Down.mono _ _ _
      | exact thresh_Up.mono _ _ _
      | exact LeO.none _
      | refine LeO.ite ?_ ?_
      | refine LeO.bind ?_ (fun _ => ?_)
def thresh_Itv.T3 : Bool × List (List Nat × List Nat) := (true, [([], []), ([], []), ([1], [1]), ([0, 2], [0, 2]), ([], []), ([], []), ([5], [5]), ([4, 6, 3], [4, 6]), ([3, 7], [3, 7]), ([], []), ([9, 8, 7, 0, 1, 2, 3, 4, 5, 6, 7, 8, 9], [8, 9])])
def thresh_Itv.B3 : List Nat := [0, 0, 2, 7, 0, 0, 32, 127, 255, 0, 1023]
theorem thresh_Itv.tab3 : rtab .any (opsOf Try.f31 3) = thresh_Itv.T3 := by kernel_rfl
theorem thresh_Itv.bits3 : waitsOk thresh_Itv.T3.2 thresh_Itv.B3 = true := by kernel_rfl
set_option maxHeartbeats 8000000 in
set_option maxRecDepth 100000 in
theorem thresh_Itv.calls (k : Nat) (A0 : Option Addr) (c0 : Nat) (l0 : List Int) (a1_0 : Int) (a1_1 : Int) (r1 : Int) (r2 : Int) (w : World) (hr0 : Kd.C (Kd.int .i64) w A0 l0.length l0) (hc0 : l0.length ≤ c0) (h : thresh_Itv.f k l0 a1_0 a1_1 = some (r1, r2)) :
    Calls Try.prog 31 #[.slice A0 l0.length c0, .agg #[.int .i64 a1_0, .int .i64 a1_1]] w fun e w' => e = .returned (.agg #[.int .i64 r1, .int .i64 r2]) ∧ Below w.heap.size w w' := by
  have hu37 := Try.underlying37
  have HR0 := Aside0.mk hr0
  have HC0 := Aside0.mk hc0
  clear hr0 hc0
  have HB := Aside0.mk (Below.refl w.heap.size w)
  have H : (if a1_0 > a1_1 then (some (1, 0)) else ((thresh_Down.f k l0 a1_0).bind fun t338 => ((thresh_Up.f k l0 a1_1).bind fun t339 => (some (mn t338 4611686018427387903, mx t339 (-4611686018427387903)))))) = some (r1, r2) := h
  clear h
  by_cases c3 : a1_0 > a1_1
  · rw [if_pos c3] at H
    have c3b0 : decide (a1_1 < a1_0) = true := decide_eq_true c3
    clear c3
    simp only [Option.some.injEq, Prod.mk.injEq] at H
    obtain ⟨rfl, rfl⟩ := H
    go_enter Try.func31, Try.ntmps31
    go_wp2_with (first | ((with_reducible refine gate_dst (N := 3) rfl ?_); refine box_event ?hg (N := 3) ?hd (cs := #[.int .i64 a1_0, .int .i64 a1_1]) (t := 37) ?hr ?_; (case hd => rfl); (case hg => rfl); (case hr => first | (go_simp; done) | (go_simp; rfl)); intro gb336 hg w4 hbox hb; have n0_ := Aside0.mk (below_step (by repeat (first | (with_reducible first | exact HB.out | apply below_alloc | apply pw_below_drewN | apply below_drew1) | exact HB.out)) hb); have n1_ := Aside0.mk (hbox); have n2_ := Aside0.mk ((by rw [hg]; exact (below_size (by repeat (first | (with_reducible first | exact HB.out | apply below_alloc | apply pw_below_drewN | apply below_drew1) | exact HB.out))) : w.heap.size ≤ gb336)); have n3_ := Aside0.mk ((by rw [hg]; exact (below_size (by repeat (first | (with_reducible first | exact HB.out | apply below_alloc | apply pw_below_drewN | apply below_drew1) | exact HB.out))) : w.heap.size ≤ gb336)); clear HB; have HB := n0_; have BK336 := n1_; have GW336 := n2_; have GE336 := n3_; clear n0_ n1_ n2_ n3_; clear hb hbox hg) | ((with_reducible refine gate_dst (N := 4) rfl ?_); refine box_event ?hg (N := 4) ?hd (cs := #[.int .i64 0, .int .i64 0]) (t := 37) ?hr ?_; (case hd => rfl); (case hg => rfl); (case hr => first | (go_simp; done) | (go_simp; rfl)); intro gb337 hg w5 hbox hb; have n0_ := Aside0.mk (blk_below (g := gb336) (o := .cells #[.int .i64 a1_0, .int .i64 a1_1] 37 (0, 0)) (by (with_reducible repeat (first | refine blk_drewN ?_ _ | refine blk_drew ?_ | refine blk_alloc ?_ _)); exact BK336.out) hb); have n1_ := Aside0.mk (below_step (by repeat (first | (with_reducible first | exact HB.out | apply below_alloc | apply pw_below_drewN | apply below_drew1 | refine below_set ?_ GE336.out) | exact HB.out)) hb); have n2_ := Aside0.mk (hbox); have n3_ := Aside0.mk ((by rw [hg]; exact (below_size (by repeat (first | (with_reducible first | exact HB.out | apply below_alloc | apply pw_below_drewN | apply below_drew1 | refine below_set ?_ GE336.out) | exact HB.out))) : w.heap.size ≤ gb337)); have n4_ := Aside0.mk ((by rw [hg]; exact (below_size (by repeat (first | (with_reducible first | exact HB.out | apply below_alloc | apply pw_below_drewN | apply below_drew1 | refine below_set ?_ GE336.out) | exact HB.out))) : w.heap.size ≤ gb337)); have n5_ := Aside0.mk ((by rw [hg]; exact Nat.ne_of_lt (blk_lt (g := gb336) (o := .cells #[.int .i64 a1_0, .int .i64 a1_1] 37 (0, 0)) (by (with_reducible repeat (first | refine blk_drewN ?_ _ | refine blk_drew ?_ | refine blk_alloc ?_ _)); exact BK336.out)) : gb336 ≠ gb337)); have n6_ := Aside0.mk ((by rw [hg]; exact Nat.ne_of_gt (blk_lt (g := gb336) (o := .cells #[.int .i64 a1_0, .int .i64 a1_1] 37 (0, 0)) (by (with_reducible repeat (first | refine blk_drewN ?_ _ | refine blk_drew ?_ | refine blk_alloc ?_ _)); exact BK336.out)) : gb337 ≠ gb336)); clear BK336; clear HB; have BK336 := n0_; have HB := n1_; have BK337 := n2_; have GW337 := n3_; have GE337 := n4_; have NB336_337 := n5_; have NB337_336 := n6_; clear n0_ n1_ n2_ n3_ n4_ n5_ n6_; clear hb hbox hg; have hnb6 := NB336_337.out; have hnc6 := NB337_336.out; have hcz7_0 : w5.cell? ⟨gb336, 0, none⟩ = some (.int .i64 a1_0) := (blk_cell BK336.out 0).trans rfl; have hcz7_1 : w5.cell? ⟨gb336, 1, none⟩ = some (.int .i64 a1_1) := (blk_cell BK336.out 1).trans rfl; have hfz7_0 := blk_frozen BK336.out 0; have hfz7_1 := blk_frozen BK336.out 1; have hcz8_0 : w5.cell? ⟨gb337, 0, none⟩ = some (.int .i64 0) := (blk_cell BK337.out 0).trans rfl; have hcz8_1 : w5.cell? ⟨gb337, 1, none⟩ = some (.int .i64 0) := (blk_cell BK337.out 1).trans rfl; have hfz8_0 := blk_frozen BK337.out 0; have hfz8_1 := blk_frozen BK337.out 1))
    refine bodyPost_ret (results_cell_row rfl _ _ gb337 37 #[.int .i64 1, .int .i64 0] (0, 0) _ rfl (by (with_reducible repeat (first | refine blk_drewN ?_ _ | refine blk_drew ?_ | refine blk_alloc ?_ _)); refine blk_put (cs := #[.int .i64 1, .int .i64 0]) ?_ 1 _ rfl; (with_reducible repeat (first | refine blk_drewN ?_ _ | refine blk_drew ?_ | refine blk_alloc ?_ _)); refine blk_put (cs := #[.int .i64 0, .int .i64 0]) ?_ 0 _ rfl; (with_reducible repeat (first | refine blk_drewN ?_ _ | refine blk_drew ?_ | refine blk_alloc ?_ _)); exact BK337.out) Try.underlying37 rfl (by kernel_rfl)) rfl ?_
    exact ⟨by first | rfl | (simp [errW_none, errW_some] <;> rfl) | (simp [*, errW_none, errW_some] <;> rfl) | (simp [wrap64]; done), by repeat (first | (with_reducible first | exact HB.out | apply below_alloc | apply pw_below_drewN | apply below_drew1 | refine below_set ?_ GE336.out | refine below_set ?_ GE337.out) | exact HB.out)⟩
  · rw [if_neg c3] at H
    have c3b0 : decide (a1_1 < a1_0) = false := decide_eq_false c3
    clear c3
    replace H := Option.bind_eq_some_iff.mp H
    obtain ⟨t338, A90, H⟩ := H
    replace H : ((thresh_Up.f k l0 a1_1).bind fun t339 => (some (mn t338 4611686018427387903, mx t339 (-4611686018427387903)))) = some (r1, r2) := H
    have A9 := Aside0.mk A90
    clear A90
    replace H := Option.bind_eq_some_iff.mp H
    obtain ⟨t339, A100, H⟩ := H
    replace H : (some (mn t338 4611686018427387903, mx t339 (-4611686018427387903))) = some (r1, r2) := H
    have A10 := Aside0.mk A100
    clear A100
    obtain ⟨ji11, hji11⟩ : ∃ j_ : Int, (mn t338 4611686018427387903) = j_ := ⟨_, rfl⟩
    replace H : (some (ji11, mx t339 (-4611686018427387903))) = some (r1, r2) := by first | (rw [hji11] at H; exact H) | (simp only [hji11] at H ⊢; exact H)
    (try rw [hji11] at A9)
    (try rw [hji11] at A10)
    (try (have hji11h : ji11 ≤ 4611686018427387903 := by (rw [← hji11]; unfold mn; (repeat' split) <;> omega)))
    (try (have hji11g : ji11 ≤ 64 := by omega))
    have hji11_ : (if 4611686018427387903 < t338 then 4611686018427387903 else t338) = ji11 := hji11
    obtain ⟨ji12, hji12⟩ : ∃ j_ : Int, (mx t339 (-4611686018427387903)) = j_ := ⟨_, rfl⟩
    replace H : (some (ji11, ji12)) = some (r1, r2) := by first | (rw [hji12] at H; exact H) | (simp only [hji12] at H ⊢; exact H)
    (try rw [hji12] at A9)
    (try rw [hji12] at A10)
    have hji12_ : (if t339 < (-4611686018427387903) then (-4611686018427387903) else t339) = ji12 := hji12
    simp only [Option.some.injEq, Prod.mk.injEq] at H
    obtain ⟨rfl, rfl⟩ := H
    go_enter Try.func31, Try.ntmps31
    try go_wp2_with (first | ((with_reducible refine gate_dst (N := 3) rfl ?_); refine box_event ?hg (N := 3) ?hd (cs := #[.int .i64 a1_0, .int .i64 a1_1]) (t := 37) ?hr ?_; (case hd => rfl); (case hg => rfl); (case hr => first | (go_simp; done) | (go_simp; rfl)); intro gb336 hg w13 hbox hb; have n0_ := Aside0.mk (below_step (by repeat (first | (with_reducible first | exact HB.out | apply below_alloc | apply pw_below_drewN | apply below_drew1) | exact HB.out)) hb); have n1_ := Aside0.mk (hbox); have n2_ := Aside0.mk ((by rw [hg]; exact (below_size (by repeat (first | (with_reducible first | exact HB.out | apply below_alloc | apply pw_below_drewN | apply below_drew1) | exact HB.out))) : w.heap.size ≤ gb336)); have n3_ := Aside0.mk ((by rw [hg]; exact (below_size (by repeat (first | (with_reducible first | exact HB.out | apply below_alloc | apply pw_below_drewN | apply below_drew1) | exact HB.out))) : w.heap.size ≤ gb336)); clear HB; have HB := n0_; have BK336 := n1_; have GW336 := n2_; have GE336 := n3_; clear n0_ n1_ n2_ n3_; clear hb hbox hg) | ((with_reducible refine gate_dst (N := 4) rfl ?_); refine box_event ?hg (N := 4) ?hd (cs := #[.int .i64 0, .int .i64 0]) (t := 37) ?hr ?_; (case hd => rfl); (case hg => rfl); (case hr => first | (go_simp; done) | (go_simp; rfl)); intro gb337 hg w14 hbox hb; have n0_ := Aside0.mk (blk_below (g := gb336) (o := .cells #[.int .i64 a1_0, .int .i64 a1_1] 37 (0, 0)) (by (with_reducible repeat (first | refine blk_drewN ?_ _ | refine blk_drew ?_ | refine blk_alloc ?_ _)); exact BK336.out) hb); have n1_ := Aside0.mk (below_step (by repeat (first | (with_reducible first | exact HB.out | apply below_alloc | apply pw_below_drewN | apply below_drew1 | refine below_set ?_ GE336.out) | exact HB.out)) hb); have n2_ := Aside0.mk (hbox); have n3_ := Aside0.mk ((by rw [hg]; exact (below_size (by repeat (first | (with_reducible first | exact HB.out | apply below_alloc | apply pw_below_drewN | apply below_drew1 | refine below_set ?_ GE336.out) | exact HB.out))) : w.heap.size ≤ gb337)); have n4_ := Aside0.mk ((by rw [hg]; exact (below_size (by repeat (first | (with_reducible first | exact HB.out | apply below_alloc | apply pw_below_drewN | apply below_drew1 | refine below_set ?_ GE336.out) | exact HB.out))) : w.heap.size ≤ gb337)); have n5_ := Aside0.mk ((by rw [hg]; exact Nat.ne_of_lt (blk_lt (g := gb336) (o := .cells #[.int .i64 a1_0, .int .i64 a1_1] 37 (0, 0)) (by (with_reducible repeat (first | refine blk_drewN ?_ _ | refine blk_drew ?_ | refine blk_alloc ?_ _)); exact BK336.out)) : gb336 ≠ gb337)); have n6_ := Aside0.mk ((by rw [hg]; exact Nat.ne_of_gt (blk_lt (g := gb336) (o := .cells #[.int .i64 a1_0, .int .i64 a1_1] 37 (0, 0)) (by (with_reducible repeat (first | refine blk_drewN ?_ _ | refine blk_drew ?_ | refine blk_alloc ?_ _)); exact BK336.out)) : gb337 ≠ gb336)); clear BK336; clear HB; have BK336 := n0_; have HB := n1_; have BK337 := n2_; have GW337 := n3_; have GE337 := n4_; have NB336_337 := n5_; have NB337_336 := n6_; clear n0_ n1_ n2_ n3_ n4_ n5_ n6_; clear hb hbox hg; have hnb15 := NB336_337.out; have hnc15 := NB337_336.out; have hcz16_0 : w14.cell? ⟨gb336, 0, none⟩ = some (.int .i64 a1_0) := (blk_cell BK336.out 0).trans rfl; have hcz16_1 : w14.cell? ⟨gb336, 1, none⟩ = some (.int .i64 a1_1) := (blk_cell BK336.out 1).trans rfl; have hfz16_0 := blk_frozen BK336.out 0; have hfz16_1 := blk_frozen BK336.out 1))
    have n0_ := Aside0.mk (blk_drew BK336.out)
    have n1_ := Aside0.mk (blk_drew BK337.out)
    have n2_ := Aside0.mk (below_drew1 HB.out)
    clear BK336
    clear BK337
    clear HB
    have BK336 := n0_
    have BK337 := n1_
    have HB := n2_
    clear n0_ n1_ n2_
    refine start_ (n := 11) (S := fun w' => w'.cell? ⟨gb336, 0, none⟩ = some (.int .i64 a1_0) ∧ w'.cell? ⟨gb336, 1, none⟩ = some (.int .i64 a1_1)) (ds := []) #[false, false, false, false, false, false, false, false, false, false, false] (by kernel_rfl) rfl rfl ⟨(blk_cell BK336.out 0).trans rfl, (blk_cell BK336.out 1).trans rfl⟩ (fun hHeld => ?_); refine with_tabW thresh_Itv.tab3 thresh_Itv.bits3 (fun HT_ HW_ => ?_)
    generalize w14.drew = w17 at BK336 BK337 HB hHeld ⊢
    refine pure_ (i := 0) (N := some 12) (v := ?_) (a' := ?_) #[true, false, false, false, false, false, false, false, false, false, false] rfl rfl (any_of HT_.out (by kernel_rfl)) (fun _ _ _ h => h) (Or.inl ⟨by rfl, ?_⟩) ?_ ?_
    rotate_left
    · intro w'
      go_simp
      with_reducible rfl
    rotate_left
    · simp only [Act.put, List.setIfInBounds_toArray, List.set_cons_zero, List.set_cons_succ, i64_w, i32_w]
      rfl
    refine pure_ (i := 1) (N := some 13) (v := ?_) (a' := ?_) #[true, true, false, false, false, false, false, false, false, false, false] rfl rfl (any_of HT_.out (by kernel_rfl)) (fun _ _ _ h => h) (Or.inl ⟨by rfl, ?_⟩) ?_ ?_
    rotate_left
    · intro w'
      go_simp
      with_reducible rfl
    rotate_left
    · simp only [Act.put, List.setIfInBounds_toArray, List.set_cons_zero, List.set_cons_succ, i64_w, i32_w]
      rfl
    refine pure_ (i := 4) (N := some 16) (v := ?_) (a' := ?_) #[true, true, false, false, true, false, false, false, false, false, false] rfl rfl (any_of HT_.out (by kernel_rfl)) (fun _ _ _ h => h) (Or.inl ⟨by rfl, ?_⟩) ?_ ?_
    rotate_left
    · intro w'
      go_simp
      with_reducible rfl
    rotate_left
    · simp only [Act.put, List.setIfInBounds_toArray, List.set_cons_zero, List.set_cons_succ, i64_w, i32_w]
      rfl
    refine pure_ (i := 5) (N := some 17) (v := ?_) (a' := ?_) #[true, true, false, false, true, true, false, false, false, false, false] rfl rfl (any_of HT_.out (by kernel_rfl)) (fun _ _ _ h => h) (Or.inl ⟨by rfl, ?_⟩) ?_ ?_
    rotate_left
    · intro w'
      go_simp
      with_reducible rfl
    rotate_left
    · simp only [Act.put, List.setIfInBounds_toArray, List.set_cons_zero, List.set_cons_succ, i64_w, i32_w]
      rfl
    refine take_ (i := 2) (N := some 14) (v := ?_) (a' := ?_) #[true, true, true, false, true, true, false, false, false, false, false] rfl rfl (take_ofW HT_.out HW_.out (by kernel_rfl)) (fun _ _ _ h => h) (Or.inl ⟨by rfl, ?_⟩) hHeld ?_ ?_
    rotate_left
    · rintro w' ⟨s0, s1⟩
      go_simp
      with_reducible rfl
    rotate_left
    · simp only [Act.put, List.setIfInBounds_toArray, List.set_cons_zero, List.set_cons_succ, i64_w, i32_w]
      rfl
    refine take_ (i := 6) (N := some 18) (v := ?_) (a' := ?_) #[true, true, true, false, true, true, true, false, false, false, false] rfl rfl (take_ofW HT_.out HW_.out (by kernel_rfl)) (fun _ _ _ h => h) (Or.inl ⟨by rfl, ?_⟩) hHeld ?_ ?_
    rotate_left
    · rintro w' ⟨s0, s1⟩
      go_simp
      with_reducible rfl
    rotate_left
    · simp only [Act.put, List.setIfInBounds_toArray, List.set_cons_zero, List.set_cons_succ, i64_w, i32_w]
      rfl
    refine join_ (σ := Nat) 1 #[true, true, true, true, true, true, true, true, true, true, false] (fun s_ => [(15, .int .i64 t338), (19, .int .i64 t339), (5, .pointer (some ⟨s_, 0, none⟩)), (20, .agg #[.int .i64 t338, .int .i64 t339])]) (fun s_ w' => (w'.cell? ⟨gb336, 0, none⟩ = some (.int .i64 a1_0) ∧ w'.cell? ⟨gb336, 1, none⟩ = some (.int .i64 a1_1)) ∧ (w'.heap[gb336]? = some (.cells #[.int .i64 a1_0, .int .i64 a1_1] 37 (0, 0))) ∧ (w'.heap[gb337]? = some (.cells #[.int .i64 0, .int .i64 0] 37 (0, 0))) ∧ (w'.heap[s_]? = some (.cells #[.int .i64 0, .int .i64 0] 37 (0, 0))) ∧ (w.heap.size ≤ s_) ∧ (w.heap.size ≤ s_) ∧ (gb336 ≠ s_) ∧ (s_ ≠ gb336) ∧ (gb337 ≠ s_) ∧ (s_ ≠ gb337) ∧ (Below w.heap.size w w')) ?_ ?_
    rotate_left
    · intro hCont
      refine two_ (i := 3) (j := 9) (Ni := some 15) (Nj := some 5) #[true, true, true, true, true, true, true, false, false, false, false] #[true, true, true, false, true, true, true, false, false, true, false] rfl rfl rfl rfl (two_of HT_.out (by kernel_rfl)) (by decide) (by decide) (fun K hK => ?_) (fun K hK => ?_)
      · skip
        refine goes_ Try.func62 (by kernel_rfl) rfl #[.slice A0 l0.length c0, .int .i64 a1_0] (by rfl) rfl rfl (by (try simp only [List.map_toArray, List.map_cons, List.map_nil]); first | done | rfl | (simp only [List.length_drop, List.length_take]; rfl)) ?_
        with_reducible refine (thresh_Down.calls k _ _ l0 a1_0 t338 _ ?side1 ?side2 A9.out).mono ?_
        (case side1 => repeat (first | exact (Kd.C_below HR0.out HB.out) | (with_reducible refine Kd.C_alloc ?_ _) | (with_reducible refine Kd.C_drewN ?_ _) | (with_reducible refine Kd.C_drew ?_)))
        (case side2 => exact HC0.out)
        rintro e w18 ⟨rfl, hb⟩
        refine ⟨_, rfl, ?_⟩
        have n0_ := Aside0.mk (blk_below (g := gb336) (o := .cells #[.int .i64 a1_0, .int .i64 a1_1] 37 (0, 0)) (by (with_reducible repeat (first | refine blk_drewN ?_ _ | refine blk_drew ?_ | refine blk_alloc ?_ _)); exact BK336.out) hb)
        have n1_ := Aside0.mk (blk_below (g := gb337) (o := .cells #[.int .i64 0, .int .i64 0] 37 (0, 0)) (by (with_reducible repeat (first | refine blk_drewN ?_ _ | refine blk_drew ?_ | refine blk_alloc ?_ _)); exact BK337.out) hb)
        have n2_ := Aside0.mk (below_step (by repeat (first | (with_reducible first | exact HB.out | apply below_alloc | apply pw_below_drewN | apply below_drew1 | refine below_set ?_ GE336.out | refine below_set ?_ GE337.out) | exact HB.out)) hb)
        clear BK336
        clear BK337
        clear HB
        have BK336 := n0_
        have BK337 := n1_
        have HB := n2_
        clear n0_ n1_ n2_
        (try clear hb)
        (try clear hb2)
        (try clear hk)
        (try clear hi)
        refine hK.out _ _ ⟨(blk_cell BK336.out 0).trans rfl, (blk_cell BK336.out 1).trans rfl⟩ (fun hHeld => ?_)
        clear hK K
        refine norm_ (a' := ?_) ?_ ?_
        rotate_left
        · show Act.put _ (some 15) _ = _
          simp only [Act.put, List.setIfInBounds_toArray, List.set_cons_zero, List.set_cons_succ, i64_w, i32_w]
          rfl
        refine two_ (i := 7) (j := 9) (Ni := some 19) (Nj := some 5) #[true, true, true, true, true, true, true, true, false, false, false] #[true, true, true, true, true, true, true, false, false, true, false] rfl rfl rfl rfl (two_of HT_.out (by kernel_rfl)) (by decide) (by decide) (fun K hK => ?_) (fun K hK => ?_)
        · skip
          refine goes_ Try.func61 (by kernel_rfl) rfl #[.slice A0 l0.length c0, .int .i64 a1_1] (by rfl) rfl rfl (by (try simp only [List.map_toArray, List.map_cons, List.map_nil]); first | done | rfl | (simp only [List.length_drop, List.length_take]; rfl)) ?_
          with_reducible refine (thresh_Up.calls k _ _ l0 a1_1 t339 _ ?side1 ?side2 A10.out).mono ?_
          (case side1 => repeat (first | exact (Kd.C_below HR0.out HB.out) | (with_reducible refine Kd.C_alloc ?_ _) | (with_reducible refine Kd.C_drewN ?_ _) | (with_reducible refine Kd.C_drew ?_)))
          (case side2 => exact HC0.out)
          rintro e w19 ⟨rfl, hb⟩
          refine ⟨_, rfl, ?_⟩
          have n0_ := Aside0.mk (blk_below (g := gb336) (o := .cells #[.int .i64 a1_0, .int .i64 a1_1] 37 (0, 0)) (by (with_reducible repeat (first | refine blk_drewN ?_ _ | refine blk_drew ?_ | refine blk_alloc ?_ _)); exact BK336.out) hb)
          have n1_ := Aside0.mk (blk_below (g := gb337) (o := .cells #[.int .i64 0, .int .i64 0] 37 (0, 0)) (by (with_reducible repeat (first | refine blk_drewN ?_ _ | refine blk_drew ?_ | refine blk_alloc ?_ _)); exact BK337.out) hb)
          have n2_ := Aside0.mk (below_step (by repeat (first | (with_reducible first | exact HB.out | apply below_alloc | apply pw_below_drewN | apply below_drew1 | refine below_set ?_ GE336.out | refine below_set ?_ GE337.out) | exact HB.out)) hb)
          clear BK336
          clear BK337
          clear HB
          have BK336 := n0_
          have BK337 := n1_
          have HB := n2_
          clear n0_ n1_ n2_
          (try clear hb)
          (try clear hb2)
          (try clear hk)
          (try clear hi)
          refine hK.out _ _ ⟨(blk_cell BK336.out 0).trans rfl, (blk_cell BK336.out 1).trans rfl⟩ (fun hHeld => ?_)
          clear hK K
          refine norm_ (a' := ?_) ?_ ?_
          rotate_left
          · show Act.put _ (some 19) _ = _
            simp only [Act.put, List.setIfInBounds_toArray, List.set_cons_zero, List.set_cons_succ, i64_w, i32_w]
            rfl
          refine pure_ (i := 8) (N := some 20) (v := ?_) (a' := ?_) #[true, true, true, true, true, true, true, true, true, false, false] rfl rfl (any_of HT_.out (by kernel_rfl)) (fun _ _ _ h => h) (Or.inl ⟨by rfl, ?_⟩) ?_ ?_
          rotate_left
          · intro w'
            go_simp
            with_reducible rfl
          rotate_left
          · simp only [Act.put, List.setIfInBounds_toArray, List.set_cons_zero, List.set_cons_succ, i64_w, i32_w]
            rfl
          refine one_ (i := 9) (N := some 5) #[true, true, true, true, true, true, true, true, true, true, false] rfl rfl (one_of HT_.out (by kernel_rfl)) (by decide) (fun K hK => ?_)
          refine box_step ?hg (N := 5) ?hd (cs := #[.int .i64 0, .int .i64 0]) (t := 37) ?hr ?_; (case hd => rfl); (case hg => rfl); (case hr => first | (go_simp; done) | (go_simp; rfl))
          intro gb340 hg w20 hbox hb
          have n0_ := Aside0.mk (blk_below (g := gb336) (o := .cells #[.int .i64 a1_0, .int .i64 a1_1] 37 (0, 0)) (by (with_reducible repeat (first | refine blk_drewN ?_ _ | refine blk_drew ?_ | refine blk_alloc ?_ _)); exact BK336.out) hb)
          have n1_ := Aside0.mk (blk_below (g := gb337) (o := .cells #[.int .i64 0, .int .i64 0] 37 (0, 0)) (by (with_reducible repeat (first | refine blk_drewN ?_ _ | refine blk_drew ?_ | refine blk_alloc ?_ _)); exact BK337.out) hb)
          have n2_ := Aside0.mk (below_step (by repeat (first | (with_reducible first | exact HB.out | apply below_alloc | apply pw_below_drewN | apply below_drew1 | refine below_set ?_ GE336.out | refine below_set ?_ GE337.out) | exact HB.out)) hb)
          have n3_ := Aside0.mk (hbox)
          have n4_ := Aside0.mk ((by rw [hg]; exact (below_size (by repeat (first | (with_reducible first | exact HB.out | apply below_alloc | apply pw_below_drewN | apply below_drew1 | refine below_set ?_ GE336.out | refine below_set ?_ GE337.out) | exact HB.out))) : w.heap.size ≤ gb340))
          have n5_ := Aside0.mk ((by rw [hg]; exact (below_size (by repeat (first | (with_reducible first | exact HB.out | apply below_alloc | apply pw_below_drewN | apply below_drew1 | refine below_set ?_ GE336.out | refine below_set ?_ GE337.out) | exact HB.out))) : w.heap.size ≤ gb340))
          have n6_ := Aside0.mk ((by rw [hg]; exact Nat.ne_of_lt (blk_lt (g := gb336) (o := .cells #[.int .i64 a1_0, .int .i64 a1_1] 37 (0, 0)) (by (with_reducible repeat (first | refine blk_drewN ?_ _ | refine blk_drew ?_ | refine blk_alloc ?_ _)); exact BK336.out)) : gb336 ≠ gb340))
          have n7_ := Aside0.mk ((by rw [hg]; exact Nat.ne_of_gt (blk_lt (g := gb336) (o := .cells #[.int .i64 a1_0, .int .i64 a1_1] 37 (0, 0)) (by (with_reducible repeat (first | refine blk_drewN ?_ _ | refine blk_drew ?_ | refine blk_alloc ?_ _)); exact BK336.out)) : gb340 ≠ gb336))
          have n8_ := Aside0.mk ((by rw [hg]; exact Nat.ne_of_lt (blk_lt (g := gb337) (o := .cells #[.int .i64 0, .int .i64 0] 37 (0, 0)) (by (with_reducible repeat (first | refine blk_drewN ?_ _ | refine blk_drew ?_ | refine blk_alloc ?_ _)); exact BK337.out)) : gb337 ≠ gb340))
          have n9_ := Aside0.mk ((by rw [hg]; exact Nat.ne_of_gt (blk_lt (g := gb337) (o := .cells #[.int .i64 0, .int .i64 0] 37 (0, 0)) (by (with_reducible repeat (first | refine blk_drewN ?_ _ | refine blk_drew ?_ | refine blk_alloc ?_ _)); exact BK337.out)) : gb340 ≠ gb337))
          clear BK336
          clear BK337
          clear HB
          have BK336 := n0_
          have BK337 := n1_
          have HB := n2_
          have BK340 := n3_
          have GW340 := n4_
          have GE340 := n5_
          have NB336_340 := n6_
          have NB340_336 := n7_
          have NB337_340 := n8_
          have NB340_337 := n9_
          clear n0_ n1_ n2_ n3_ n4_ n5_ n6_ n7_ n8_ n9_
          clear hb hbox hg
          refine hK.out _ _ ⟨(blk_cell BK336.out 0).trans rfl, (blk_cell BK336.out 1).trans rfl⟩ (fun hHeld => ?_)
          clear hK K
          refine norm_ (a' := ?_) ?_ ?_
          rotate_left
          · show Act.put _ (some 5) _ = _
            simp only [Act.put, List.setIfInBounds_toArray, List.set_cons_zero, List.set_cons_succ, i64_w, i32_w]
            rfl
          exact norm_ (by simp only [putAll, Act.put, List.setIfInBounds_toArray, List.set_cons_zero, List.set_cons_succ]) (hCont (gb340) _ ⟨hHeld, (by (with_reducible repeat (first | refine blk_drewN ?_ _ | refine blk_drew ?_ | refine blk_alloc ?_ _)); exact BK336.out), (by (with_reducible repeat (first | refine blk_drewN ?_ _ | refine blk_drew ?_ | refine blk_alloc ?_ _)); exact BK337.out), (by (with_reducible repeat (first | refine blk_drewN ?_ _ | refine blk_drew ?_ | refine blk_alloc ?_ _)); exact BK340.out), GW340.out, GE340.out, NB336_340.out, NB340_336.out, NB337_340.out, NB340_337.out, (by repeat (first | (with_reducible first | exact HB.out | apply below_alloc | apply pw_below_drewN | apply below_drew1 | refine below_set ?_ GE336.out | refine below_set ?_ GE337.out | refine below_set ?_ GE340.out) | exact HB.out))⟩)
        · skip
          refine box_step ?hg (N := 5) ?hd (cs := #[.int .i64 0, .int .i64 0]) (t := 37) ?hr ?_; (case hd => rfl); (case hg => rfl); (case hr => first | (go_simp; done) | (go_simp; rfl))
          intro gb340 hg w19 hbox hb
          have n0_ := Aside0.mk (blk_below (g := gb336) (o := .cells #[.int .i64 a1_0, .int .i64 a1_1] 37 (0, 0)) (by (with_reducible repeat (first | refine blk_drewN ?_ _ | refine blk_drew ?_ | refine blk_alloc ?_ _)); exact BK336.out) hb)
          have n1_ := Aside0.mk (blk_below (g := gb337) (o := .cells #[.int .i64 0, .int .i64 0] 37 (0, 0)) (by (with_reducible repeat (first | refine blk_drewN ?_ _ | refine blk_drew ?_ | refine blk_alloc ?_ _)); exact BK337.out) hb)
          have n2_ := Aside0.mk (below_step (by repeat (first | (with_reducible first | exact HB.out | apply below_alloc | apply pw_below_drewN | apply below_drew1 | refine below_set ?_ GE336.out | refine below_set ?_ GE337.out) | exact HB.out)) hb)
          have n3_ := Aside0.mk (hbox)
          have n4_ := Aside0.mk ((by rw [hg]; exact (below_size (by repeat (first | (with_reducible first | exact HB.out | apply below_alloc | apply pw_below_drewN | apply below_drew1 | refine below_set ?_ GE336.out | refine below_set ?_ GE337.out) | exact HB.out))) : w.heap.size ≤ gb340))
          have n5_ := Aside0.mk ((by rw [hg]; exact (below_size (by repeat (first | (with_reducible first | exact HB.out | apply below_alloc | apply pw_below_drewN | apply below_drew1 | refine below_set ?_ GE336.out | refine below_set ?_ GE337.out) | exact HB.out))) : w.heap.size ≤ gb340))
          have n6_ := Aside0.mk ((by rw [hg]; exact Nat.ne_of_lt (blk_lt (g := gb336) (o := .cells #[.int .i64 a1_0, .int .i64 a1_1] 37 (0, 0)) (by (with_reducible repeat (first | refine blk_drewN ?_ _ | refine blk_drew ?_ | refine blk_alloc ?_ _)); exact BK336.out)) : gb336 ≠ gb340))
          have n7_ := Aside0.mk ((by rw [hg]; exact Nat.ne_of_gt (blk_lt (g := gb336) (o := .cells #[.int .i64 a1_0, .int .i64 a1_1] 37 (0, 0)) (by (with_reducible repeat (first | refine blk_drewN ?_ _ | refine blk_drew ?_ | refine blk_alloc ?_ _)); exact BK336.out)) : gb340 ≠ gb336))
          have n8_ := Aside0.mk ((by rw [hg]; exact Nat.ne_of_lt (blk_lt (g := gb337) (o := .cells #[.int .i64 0, .int .i64 0] 37 (0, 0)) (by (with_reducible repeat (first | refine blk_drewN ?_ _ | refine blk_drew ?_ | refine blk_alloc ?_ _)); exact BK337.out)) : gb337 ≠ gb340))
          have n9_ := Aside0.mk ((by rw [hg]; exact Nat.ne_of_gt (blk_lt (g := gb337) (o := .cells #[.int .i64 0, .int .i64 0] 37 (0, 0)) (by (with_reducible repeat (first | refine blk_drewN ?_ _ | refine blk_drew ?_ | refine blk_alloc ?_ _)); exact BK337.out)) : gb340 ≠ gb337))
          clear BK336
          clear BK337
          clear HB
          have BK336 := n0_
          have BK337 := n1_
          have HB := n2_
          have BK340 := n3_
          have GW340 := n4_
          have GE340 := n5_
          have NB336_340 := n6_
          have NB340_336 := n7_
          have NB337_340 := n8_
          have NB340_337 := n9_
          clear n0_ n1_ n2_ n3_ n4_ n5_ n6_ n7_ n8_ n9_
          clear hb hbox hg
          refine hK.out _ _ ⟨(blk_cell BK336.out 0).trans rfl, (blk_cell BK336.out 1).trans rfl⟩ (fun hHeld => ?_)
          clear hK K
          refine norm_ (a' := ?_) ?_ ?_
          rotate_left
          · show Act.put _ (some 5) _ = _
            simp only [Act.put, List.setIfInBounds_toArray, List.set_cons_zero, List.set_cons_succ, i64_w, i32_w]
            rfl
          refine one_ (i := 7) (N := some 19) #[true, true, true, true, true, true, true, true, false, true, false] rfl rfl (one_of HT_.out (by kernel_rfl)) (by decide) (fun K hK => ?_)
          refine goes_ Try.func61 (by kernel_rfl) rfl #[.slice A0 l0.length c0, .int .i64 a1_1] (by rfl) rfl rfl (by (try simp only [List.map_toArray, List.map_cons, List.map_nil]); first | done | rfl | (simp only [List.length_drop, List.length_take]; rfl)) ?_
          with_reducible refine (thresh_Up.calls k _ _ l0 a1_1 t339 _ ?side1 ?side2 A10.out).mono ?_
          (case side1 => repeat (first | exact (Kd.C_below HR0.out HB.out) | (with_reducible refine Kd.C_alloc ?_ _) | (with_reducible refine Kd.C_drewN ?_ _) | (with_reducible refine Kd.C_drew ?_)))
          (case side2 => exact HC0.out)
          rintro e w20 ⟨rfl, hb⟩
          refine ⟨_, rfl, ?_⟩
          have n0_ := Aside0.mk (blk_below (g := gb336) (o := .cells #[.int .i64 a1_0, .int .i64 a1_1] 37 (0, 0)) (by (with_reducible repeat (first | refine blk_drewN ?_ _ | refine blk_drew ?_ | refine blk_alloc ?_ _)); exact BK336.out) hb)
          have n1_ := Aside0.mk (blk_below (g := gb337) (o := .cells #[.int .i64 0, .int .i64 0] 37 (0, 0)) (by (with_reducible repeat (first | refine blk_drewN ?_ _ | refine blk_drew ?_ | refine blk_alloc ?_ _)); exact BK337.out) hb)
          have n2_ := Aside0.mk (blk_below (g := gb340) (o := .cells #[.int .i64 0, .int .i64 0] 37 (0, 0)) (by (with_reducible repeat (first | refine blk_drewN ?_ _ | refine blk_drew ?_ | refine blk_alloc ?_ _)); exact BK340.out) hb)
          have n3_ := Aside0.mk (below_step (by repeat (first | (with_reducible first | exact HB.out | apply below_alloc | apply pw_below_drewN | apply below_drew1 | refine below_set ?_ GE336.out | refine below_set ?_ GE337.out | refine below_set ?_ GE340.out) | exact HB.out)) hb)
          clear BK336
          clear BK337
          clear BK340
          clear HB
          have BK336 := n0_
          have BK337 := n1_
          have BK340 := n2_
          have HB := n3_
          clear n0_ n1_ n2_ n3_
          (try clear hb)
          (try clear hb2)
          (try clear hk)
          (try clear hi)
          refine hK.out _ _ ⟨(blk_cell BK336.out 0).trans rfl, (blk_cell BK336.out 1).trans rfl⟩ (fun hHeld => ?_)
          clear hK K
          refine norm_ (a' := ?_) ?_ ?_
          rotate_left
          · show Act.put _ (some 19) _ = _
            simp only [Act.put, List.setIfInBounds_toArray, List.set_cons_zero, List.set_cons_succ, i64_w, i32_w]
            rfl
          refine pure_ (i := 8) (N := some 20) (v := ?_) (a' := ?_) #[true, true, true, true, true, true, true, true, true, true, false] rfl rfl (any_of HT_.out (by kernel_rfl)) (fun _ _ _ h => h) (Or.inl ⟨by rfl, ?_⟩) ?_ ?_
          rotate_left
          · intro w'
            go_simp
            with_reducible rfl
          rotate_left
          · simp only [Act.put, List.setIfInBounds_toArray, List.set_cons_zero, List.set_cons_succ, i64_w, i32_w]
            rfl
          exact norm_ (by simp only [putAll, Act.put, List.setIfInBounds_toArray, List.set_cons_zero, List.set_cons_succ]) (hCont (gb340) _ ⟨hHeld, (by (with_reducible repeat (first | refine blk_drewN ?_ _ | refine blk_drew ?_ | refine blk_alloc ?_ _)); exact BK336.out), (by (with_reducible repeat (first | refine blk_drewN ?_ _ | refine blk_drew ?_ | refine blk_alloc ?_ _)); exact BK337.out), (by (with_reducible repeat (first | refine blk_drewN ?_ _ | refine blk_drew ?_ | refine blk_alloc ?_ _)); exact BK340.out), GW340.out, GE340.out, NB336_340.out, NB340_336.out, NB337_340.out, NB340_337.out, (by repeat (first | (with_reducible first | exact HB.out | apply below_alloc | apply pw_below_drewN | apply below_drew1 | refine below_set ?_ GE336.out | refine below_set ?_ GE337.out | refine below_set ?_ GE340.out) | exact HB.out))⟩)
      · skip
        refine box_step ?hg (N := 5) ?hd (cs := #[.int .i64 0, .int .i64 0]) (t := 37) ?hr ?_; (case hd => rfl); (case hg => rfl); (case hr => first | (go_simp; done) | (go_simp; rfl))
        intro gb340 hg w18 hbox hb
        have n0_ := Aside0.mk (blk_below (g := gb336) (o := .cells #[.int .i64 a1_0, .int .i64 a1_1] 37 (0, 0)) (by (with_reducible repeat (first | refine blk_drewN ?_ _ | refine blk_drew ?_ | refine blk_alloc ?_ _)); exact BK336.out) hb)
        have n1_ := Aside0.mk (blk_below (g := gb337) (o := .cells #[.int .i64 0, .int .i64 0] 37 (0, 0)) (by (with_reducible repeat (first | refine blk_drewN ?_ _ | refine blk_drew ?_ | refine blk_alloc ?_ _)); exact BK337.out) hb)
        have n2_ := Aside0.mk (below_step (by repeat (first | (with_reducible first | exact HB.out | apply below_alloc | apply pw_below_drewN | apply below_drew1 | refine below_set ?_ GE336.out | refine below_set ?_ GE337.out) | exact HB.out)) hb)
        have n3_ := Aside0.mk (hbox)
        have n4_ := Aside0.mk ((by rw [hg]; exact (below_size (by repeat (first | (with_reducible first | exact HB.out | apply below_alloc | apply pw_below_drewN | apply below_drew1 | refine below_set ?_ GE336.out | refine below_set ?_ GE337.out) | exact HB.out))) : w.heap.size ≤ gb340))
        have n5_ := Aside0.mk ((by rw [hg]; exact (below_size (by repeat (first | (with_reducible first | exact HB.out | apply below_alloc | apply pw_below_drewN | apply below_drew1 | refine below_set ?_ GE336.out | refine below_set ?_ GE337.out) | exact HB.out))) : w.heap.size ≤ gb340))
        have n6_ := Aside0.mk ((by rw [hg]; exact Nat.ne_of_lt (blk_lt (g := gb336) (o := .cells #[.int .i64 a1_0, .int .i64 a1_1] 37 (0, 0)) (by (with_reducible repeat (first | refine blk_drewN ?_ _ | refine blk_drew ?_ | refine blk_alloc ?_ _)); exact BK336.out)) : gb336 ≠ gb340))
        have n7_ := Aside0.mk ((by rw [hg]; exact Nat.ne_of_gt (blk_lt (g := gb336) (o := .cells #[.int .i64 a1_0, .int .i64 a1_1] 37 (0, 0)) (by (with_reducible repeat (first | refine blk_drewN ?_ _ | refine blk_drew ?_ | refine blk_alloc ?_ _)); exact BK336.out)) : gb340 ≠ gb336))
        have n8_ := Aside0.mk ((by rw [hg]; exact Nat.ne_of_lt (blk_lt (g := gb337) (o := .cells #[.int .i64 0, .int .i64 0] 37 (0, 0)) (by (with_reducible repeat (first | refine blk_drewN ?_ _ | refine blk_drew ?_ | refine blk_alloc ?_ _)); exact BK337.out)) : gb337 ≠ gb340))
        have n9_ := Aside0.mk ((by rw [hg]; exact Nat.ne_of_gt (blk_lt (g := gb337) (o := .cells #[.int .i64 0, .int .i64 0] 37 (0, 0)) (by (with_reducible repeat (first | refine blk_drewN ?_ _ | refine blk_drew ?_ | refine blk_alloc ?_ _)); exact BK337.out)) : gb340 ≠ gb337))
        clear BK336
        clear BK337
        clear HB
        have BK336 := n0_
        have BK337 := n1_
        have HB := n2_
        have BK340 := n3_
        have GW340 := n4_
        have GE340 := n5_
        have NB336_340 := n6_
        have NB340_336 := n7_
        have NB337_340 := n8_
        have NB340_337 := n9_
        clear n0_ n1_ n2_ n3_ n4_ n5_ n6_ n7_ n8_ n9_
        clear hb hbox hg
        refine hK.out _ _ ⟨(blk_cell BK336.out 0).trans rfl, (blk_cell BK336.out 1).trans rfl⟩ (fun hHeld => ?_)
        clear hK K
        refine norm_ (a' := ?_) ?_ ?_
        rotate_left
        · show Act.put _ (some 5) _ = _
          simp only [Act.put, List.setIfInBounds_toArray, List.set_cons_zero, List.set_cons_succ, i64_w, i32_w]
          rfl
        refine one_ (i := 3) (N := some 15) #[true, true, true, true, true, true, true, false, false, true, false] rfl rfl (one_of HT_.out (by kernel_rfl)) (by decide) (fun K hK => ?_)
        refine goes_ Try.func62 (by kernel_rfl) rfl #[.slice A0 l0.length c0, .int .i64 a1_0] (by rfl) rfl rfl (by (try simp only [List.map_toArray, List.map_cons, List.map_nil]); first | done | rfl | (simp only [List.length_drop, List.length_take]; rfl)) ?_
        with_reducible refine (thresh_Down.calls k _ _ l0 a1_0 t338 _ ?side1 ?side2 A9.out).mono ?_
        (case side1 => repeat (first | exact (Kd.C_below HR0.out HB.out) | (with_reducible refine Kd.C_alloc ?_ _) | (with_reducible refine Kd.C_drewN ?_ _) | (with_reducible refine Kd.C_drew ?_)))
        (case side2 => exact HC0.out)
        rintro e w19 ⟨rfl, hb⟩
        refine ⟨_, rfl, ?_⟩
        have n0_ := Aside0.mk (blk_below (g := gb336) (o := .cells #[.int .i64 a1_0, .int .i64 a1_1] 37 (0, 0)) (by (with_reducible repeat (first | refine blk_drewN ?_ _ | refine blk_drew ?_ | refine blk_alloc ?_ _)); exact BK336.out) hb)
        have n1_ := Aside0.mk (blk_below (g := gb337) (o := .cells #[.int .i64 0, .int .i64 0] 37 (0, 0)) (by (with_reducible repeat (first | refine blk_drewN ?_ _ | refine blk_drew ?_ | refine blk_alloc ?_ _)); exact BK337.out) hb)
        have n2_ := Aside0.mk (blk_below (g := gb340) (o := .cells #[.int .i64 0, .int .i64 0] 37 (0, 0)) (by (with_reducible repeat (first | refine blk_drewN ?_ _ | refine blk_drew ?_ | refine blk_alloc ?_ _)); exact BK340.out) hb)
        have n3_ := Aside0.mk (below_step (by repeat (first | (with_reducible first | exact HB.out | apply below_alloc | apply pw_below_drewN | apply below_drew1 | refine below_set ?_ GE336.out | refine below_set ?_ GE337.out | refine below_set ?_ GE340.out) | exact HB.out)) hb)
        clear BK336
        clear BK337
        clear BK340
        clear HB
        have BK336 := n0_
        have BK337 := n1_
        have BK340 := n2_
        have HB := n3_
        clear n0_ n1_ n2_ n3_
        (try clear hb)
        (try clear hb2)
        (try clear hk)
        (try clear hi)
        refine hK.out _ _ ⟨(blk_cell BK336.out 0).trans rfl, (blk_cell BK336.out 1).trans rfl⟩ (fun hHeld => ?_)
        clear hK K
        refine norm_ (a' := ?_) ?_ ?_
        rotate_left
        · show Act.put _ (some 15) _ = _
          simp only [Act.put, List.setIfInBounds_toArray, List.set_cons_zero, List.set_cons_succ, i64_w, i32_w]
          rfl
        refine one_ (i := 7) (N := some 19) #[true, true, true, true, true, true, true, true, false, true, false] rfl rfl (one_of HT_.out (by kernel_rfl)) (by decide) (fun K hK => ?_)
        refine goes_ Try.func61 (by kernel_rfl) rfl #[.slice A0 l0.length c0, .int .i64 a1_1] (by rfl) rfl rfl (by (try simp only [List.map_toArray, List.map_cons, List.map_nil]); first | done | rfl | (simp only [List.length_drop, List.length_take]; rfl)) ?_
        with_reducible refine (thresh_Up.calls k _ _ l0 a1_1 t339 _ ?side1 ?side2 A10.out).mono ?_
        (case side1 => repeat (first | exact (Kd.C_below HR0.out HB.out) | (with_reducible refine Kd.C_alloc ?_ _) | (with_reducible refine Kd.C_drewN ?_ _) | (with_reducible refine Kd.C_drew ?_)))
        (case side2 => exact HC0.out)
        rintro e w20 ⟨rfl, hb⟩
        refine ⟨_, rfl, ?_⟩
        have n0_ := Aside0.mk (blk_below (g := gb336) (o := .cells #[.int .i64 a1_0, .int .i64 a1_1] 37 (0, 0)) (by (with_reducible repeat (first | refine blk_drewN ?_ _ | refine blk_drew ?_ | refine blk_alloc ?_ _)); exact BK336.out) hb)
        have n1_ := Aside0.mk (blk_below (g := gb337) (o := .cells #[.int .i64 0, .int .i64 0] 37 (0, 0)) (by (with_reducible repeat (first | refine blk_drewN ?_ _ | refine blk_drew ?_ | refine blk_alloc ?_ _)); exact BK337.out) hb)
        have n2_ := Aside0.mk (blk_below (g := gb340) (o := .cells #[.int .i64 0, .int .i64 0] 37 (0, 0)) (by (with_reducible repeat (first | refine blk_drewN ?_ _ | refine blk_drew ?_ | refine blk_alloc ?_ _)); exact BK340.out) hb)
        have n3_ := Aside0.mk (below_step (by repeat (first | (with_reducible first | exact HB.out | apply below_alloc | apply pw_below_drewN | apply below_drew1 | refine below_set ?_ GE336.out | refine below_set ?_ GE337.out | refine below_set ?_ GE340.out) | exact HB.out)) hb)
        clear BK336
        clear BK337
        clear BK340
        clear HB
        have BK336 := n0_
        have BK337 := n1_
        have BK340 := n2_
        have HB := n3_
        clear n0_ n1_ n2_ n3_
        (try clear hb)
        (try clear hb2)
        (try clear hk)
        (try clear hi)
        refine hK.out _ _ ⟨(blk_cell BK336.out 0).trans rfl, (blk_cell BK336.out 1).trans rfl⟩ (fun hHeld => ?_)
        clear hK K
        refine norm_ (a' := ?_) ?_ ?_
        rotate_left
        · show Act.put _ (some 19) _ = _
          simp only [Act.put, List.setIfInBounds_toArray, List.set_cons_zero, List.set_cons_succ, i64_w, i32_w]
          rfl
        refine pure_ (i := 8) (N := some 20) (v := ?_) (a' := ?_) #[true, true, true, true, true, true, true, true, true, true, false] rfl rfl (any_of HT_.out (by kernel_rfl)) (fun _ _ _ h => h) (Or.inl ⟨by rfl, ?_⟩) ?_ ?_
        rotate_left
        · intro w'
          go_simp
          with_reducible rfl
        rotate_left
        · simp only [Act.put, List.setIfInBounds_toArray, List.set_cons_zero, List.set_cons_succ, i64_w, i32_w]
          rfl
        exact norm_ (by simp only [putAll, Act.put, List.setIfInBounds_toArray, List.set_cons_zero, List.set_cons_succ]) (hCont (gb340) _ ⟨hHeld, (by (with_reducible repeat (first | refine blk_drewN ?_ _ | refine blk_drew ?_ | refine blk_alloc ?_ _)); exact BK336.out), (by (with_reducible repeat (first | refine blk_drewN ?_ _ | refine blk_drew ?_ | refine blk_alloc ?_ _)); exact BK337.out), (by (with_reducible repeat (first | refine blk_drewN ?_ _ | refine blk_drew ?_ | refine blk_alloc ?_ _)); exact BK340.out), GW340.out, GE340.out, NB336_340.out, NB340_336.out, NB337_340.out, NB340_337.out, (by repeat (first | (with_reducible first | exact HB.out | apply below_alloc | apply pw_below_drewN | apply below_drew1 | refine below_set ?_ GE336.out | refine below_set ?_ GE337.out | refine below_set ?_ GE340.out) | exact HB.out))⟩)
    rintro gb340 w21 ⟨hS_, h0_, h1_, h2_, h3_, h4_, h5_, h6_, h7_, h8_, h9_⟩
    have n0_ : Aside0 (w21.heap[gb336]? = some (.cells #[.int .i64 a1_0, .int .i64 a1_1] 37 (0, 0))) := ⟨h0_⟩
    have n1_ : Aside0 (w21.heap[gb337]? = some (.cells #[.int .i64 0, .int .i64 0] 37 (0, 0))) := ⟨h1_⟩
    have n2_ : Aside0 (w21.heap[gb340]? = some (.cells #[.int .i64 0, .int .i64 0] 37 (0, 0))) := ⟨h2_⟩
    have n3_ : Aside0 (w.heap.size ≤ gb340) := ⟨h3_⟩
    have n4_ : Aside0 (w.heap.size ≤ gb340) := ⟨h4_⟩
    have n5_ : Aside0 (gb336 ≠ gb340) := ⟨h5_⟩
    have n6_ : Aside0 (gb340 ≠ gb336) := ⟨h6_⟩
    have n7_ : Aside0 (gb337 ≠ gb340) := ⟨h7_⟩
    have n8_ : Aside0 (gb340 ≠ gb337) := ⟨h8_⟩
    have n9_ : Aside0 (Below w.heap.size w w21) := ⟨h9_⟩
    clear BK336
    clear BK337
    clear HB
    clear h0_ h1_ h2_ h3_ h4_ h5_ h6_ h7_ h8_ h9_
    have BK336 := n0_
    have BK337 := n1_
    have BK340 := n2_
    have GW340 := n3_
    have GE340 := n4_
    have NB336_340 := n5_
    have NB340_336 := n6_
    have NB337_340 := n7_
    have NB340_337 := n8_
    have HB := n9_
    clear n0_ n1_ n2_ n3_ n4_ n5_ n6_ n7_ n8_ n9_
    have hHeld : w21.cell? ⟨gb336, 0, none⟩ = some (.int .i64 a1_0) ∧ w21.cell? ⟨gb336, 1, none⟩ = some (.int .i64 a1_1) := hS_
    refine norm_ (a' := ?_) ?_ ?_
    rotate_left
    · simp only [putAll, Act.put, List.setIfInBounds_toArray, List.set_cons_zero, List.set_cons_succ]
      rfl
    refine one_ (i := 10) (N := none) #[true, true, true, true, true, true, true, true, true, true, true] rfl rfl (one_of HT_.out (by kernel_rfl)) (by decide) (fun K hK => ?_)
    have hs22 : w21.cell? ⟨gb340, 0, none⟩ = some (.int .i64 0) := (blk_cell BK340.out 0).trans rfl
    have hfs22 := blk_frozen BK340.out 0
    have hns22_0 := NB336_340.out
    have hns22_1 := NB337_340.out
    have hms22_0 := NB340_336.out
    have hms22_1 := NB340_337.out
    have hs23 : w21.cell? ⟨gb340, 1, none⟩ = some (.int .i64 0) := (blk_cell BK340.out 1).trans rfl
    have hfs23 := blk_frozen BK340.out 1
    have hns23_0 := NB336_340.out
    have hns23_1 := NB337_340.out
    have hms23_0 := NB340_336.out
    have hms23_1 := NB340_337.out
    refine skip_ (w1 := ?_) (by rfl) rfl ?_ ?_
    rotate_left
    · go_simp
      rfl
    refine hK.out _ _ ⟨((cell_far (p := ⟨gb340, _, none⟩) NB336_340.out _).trans (((cell_far (p := ⟨gb340, _, none⟩) NB336_340.out _).trans (hHeld.1)))), ((cell_far (p := ⟨gb340, _, none⟩) NB336_340.out _).trans (((cell_far (p := ⟨gb340, _, none⟩) NB336_340.out _).trans (hHeld.2))))⟩ (fun hHeld => ?_)
    clear hK K
    refine done_ (done_of HT_.out (by kernel_rfl)) ?_
    have hnb24 := NB340_336.out
    have hnc24 := NB336_340.out
    have hnb25 := NB340_337.out
    have hnc25 := NB337_340.out
    have hcz26_0 : w21.cell? ⟨gb340, 0, none⟩ = some (.int .i64 0) := (blk_cell BK340.out 0).trans rfl
    have hcz26_1 : w21.cell? ⟨gb340, 1, none⟩ = some (.int .i64 0) := (blk_cell BK340.out 1).trans rfl
    have hfz26_0 := blk_frozen BK340.out 0
    have hfz26_1 := blk_frozen BK340.out 1
    have hcz27_0 : w21.cell? ⟨gb337, 0, none⟩ = some (.int .i64 0) := (blk_cell BK337.out 0).trans rfl
    have hcz27_1 : w21.cell? ⟨gb337, 1, none⟩ = some (.int .i64 0) := (blk_cell BK337.out 1).trans rfl
    have hfz27_0 := blk_frozen BK337.out 0
    have hfz27_1 := blk_frozen BK337.out 1
    obtain ⟨W5, hW5⟩ : ∃ W5, (w21.setCell ⟨gb340, 0, none⟩ (.int .i64 t338)).setCell ⟨gb340, 1, none⟩ (.int .i64 t339) = W5 := ⟨_, rfl⟩
    have k1 : W5.heap[gb340]? = some (.cells #[.int .i64 t338, .int .i64 t339] 37 (0, 0)) := by rw [← hW5]; exact blk_put (blk_put BK340.out 0 _ rfl) 1 _ rfl
    have k2 : W5.heap[gb337]? = some (.cells #[.int .i64 0, .int .i64 0] 37 (0, 0)) := by rw [← hW5]; exact blk_far (blk_far BK337.out NB337_340.out _) NB337_340.out _
    have HB5 : Aside0 (Below w.heap.size w W5) := ⟨by rw [← hW5]; exact below_set (below_set HB.out GE340.out) GE340.out⟩
    rw [hW5]
    have c0 : W5.cell? ⟨gb340, 0, none⟩ = some (.int .i64 t338) := (blk_cell k1 0).trans rfl
    have c1 : W5.cell? ⟨gb340, 1, none⟩ = some (.int .i64 t339) := (blk_cell k1 1).trans rfl
    have c2 : W5.frozen? ⟨gb340, 0, none⟩ = false := blk_frozen k1 0
    have c3 : W5.frozen? ⟨gb340, 1, none⟩ = false := blk_frozen k1 1
    have K1 := Aside0.mk k1
    have K2 := Aside0.mk k2
    clear hW5 k1 k2 hs22 hfs22 hns22_0 hns22_1 hms22_0 hms22_1 hs23 hfs23 hns23_0 hns23_1 hms23_0 hms23_1 hnb24 hnc24 hnb25 hnc25 hcz26_0 hcz26_1 hfz26_0 hfz26_1 hcz27_0 hcz27_1 hfz27_0 hfz27_1
    go_upto_region 5 with fail
    obtain ⟨W6, hW6⟩ : ∃ W6, (W5.setCell ⟨gb340, 0, none⟩ (.int .i64 ji11)).setCell ⟨gb340, 1, none⟩ (.int .i64 ji12) = W6 := ⟨_, rfl⟩
    have k1 : W6.heap[gb340]? = some (.cells #[.int .i64 ji11, .int .i64 ji12] 37 (0, 0)) := by rw [← hW6]; exact blk_put (blk_put K1.out 0 _ rfl) 1 _ rfl
    have k2 : W6.heap[gb337]? = some (.cells #[.int .i64 0, .int .i64 0] 37 (0, 0)) := by rw [← hW6]; exact blk_far (blk_far K2.out NB337_340.out _) NB337_340.out _
    have HB6 : Aside0 (Below w.heap.size w W6) := ⟨by rw [← hW6]; exact below_set (below_set HB5.out GE340.out) GE340.out⟩
    rw [hW6]
    have d0 : W6.cell? ⟨gb340, 0, none⟩ = some (.int .i64 ji11) := (blk_cell k1 0).trans rfl
    have d1 : W6.cell? ⟨gb340, 1, none⟩ = some (.int .i64 ji12) := (blk_cell k1 1).trans rfl
    have d2 : W6.cell? ⟨gb337, 0, none⟩ = some (.int .i64 0) := (blk_cell k2 0).trans rfl
    have d3 : W6.cell? ⟨gb337, 1, none⟩ = some (.int .i64 0) := (blk_cell k2 1).trans rfl
    have d4 : W6.frozen? ⟨gb337, 0, none⟩ = false := blk_frozen k2 0
    have d5 : W6.frozen? ⟨gb337, 1, none⟩ = false := blk_frozen k2 1
    have K3 := Aside0.mk k2
    clear hW6 k1 k2 c0 c1 c2 c3
    go_wp2
    refine bodyPost_ret (results_cell_row rfl _ _ gb337 37 #[.int .i64 ji11, .int .i64 ji12] (0, 0) _ rfl (blk_put (blk_put K3.out 0 _ rfl) 1 _ rfl) Try.underlying37 rfl (by kernel_rfl)) rfl ?_
    exact ⟨by first | rfl | (simp only [← hji11, ← hji12]; rfl), below_set (below_set HB6.out GE337.out) GE337.out⟩
end Go.Proofs.Ytomgebmimgaojaa.QO
end
end
section
noncomputable section
namespace Go.Proofs.Ytomgebmimgaojaa.QO
open Go.RowKit Go.Proofs.YtomgebmimgaojaaW.PrintWords Go.Proofs.YtomgebmimgaojaaW.PrintLast
set_option linter.unusedVariables false
set_option linter.unusedSimpArgs false
theorem eqA37 (d : Nat) (w : World) (x0 y0 : Int) (x1 y1 : Int) :
    (Op.equalIn (d + 2) 37 (.agg #[.int .i64 x0, .int .i64 x1]) (.agg #[.int .i64 y0, .int .i64 y1])).run Try.prog w = .ok (x0 == y0 && (x1 == y1)) w := by
  refine eqA_of Try.underlying37 (by kernel_rfl) ?_
  refine eqf_cons (by rfl) (by go_simp; rfl) (by go_simp; rfl) (by go_simp) ?_
  exact eqf_last (by rfl) (by go_simp; rfl) (by go_simp; rfl) (by go_simp)
end Go.Proofs.Ytomgebmimgaojaa.QO
end
end
