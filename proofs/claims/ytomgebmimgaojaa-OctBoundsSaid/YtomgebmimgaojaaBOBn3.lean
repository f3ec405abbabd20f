/- Own texts of this claim, joined: QOx1059, QOx1060, QOx1023, QOx1078, QOx1093, QOx1079 -/
import Derived.Test.YtomgebmimgaojaaBOBn0
import Derived.Test.YtomgebmimgaojaaBOBn1
import Derived.Test.YtomgebmimgaojaaBOBn2
section
/- Written by a program of this session out of the translation. -/
noncomputable section
namespace Go.Proofs.Ytomgebmimgaojaa.QO
open Go.RowKit Go.Proofs.YtomgebmimgaojaaW.PrintWords Go.Proofs.YtomgebmimgaojaaW.PrintLast
set_option linter.unusedVariables false
set_option linter.unusedSimpArgs false
/-! ### gimbalref11_Tight: function 59 -/
mutual
def gimbalref11_Tight.l0 : Nat → Int → List Int → Int → Option (List Int × Bool)
 | 0, _, _, _ => none
 | k + 1, x1, x6, x7 => if x7 ≤ (wrap64 (2 * x1)) then (if 0 ≤ (wrap64 (x1 * x1)) then (if (wrap64 (x1 * x1) : Int).toNat ≤ 35184372088832 then (gimbalref11_Tight.l1 k x1 x6 x7 (List.replicate (wrap64 (x1 * x1) : Int).toNat 0) 0) else (none)) else (none)) else (gimbalref11_Tight.l4 k x1 x6 0)
def gimbalref11_Tight.l1 : Nat → Int → List Int → Int → List Int → Int → Option (List Int × Bool)
 | 0, _, _, _, _, _ => none
 | k + 1, x1, x6, x7, x8, x9 => if x9 < x1 then (gimbalref11_Tight.l2 k x1 x6 x7 x8 x9 0) else (gimbalref11_Tight.l0 k x1 x8 (wrap64 (2 * x7)))
def gimbalref11_Tight.l2 : Nat → Int → List Int → Int → List Int → Int → Int → Option (List Int × Bool)
 | 0, _, _, _, _, _, _ => none
 | k + 1, x1, x6, x7, x8, x9, x10 => if x10 < x1 then (if 0 ≤ (wrap64 ((wrap64 (x9 * x1)) + x10)) then (if (wrap64 ((wrap64 (x9 * x1)) + x10)) < (x6.length : Int) then (gimbalref11_Tight.l3 k x1 x6 x7 x8 x9 x10 (rd x6 (wrap64 ((wrap64 (x9 * x1)) + x10))) 0) else (none)) else (none)) else (if 0 ≤ (wrap64 ((wrap64 (x9 * x1)) + x9)) then (if (wrap64 ((wrap64 (x9 * x1)) + x9)) < (x8.length : Int) then (if (rd x8 (wrap64 ((wrap64 (x9 * x1)) + x9))) < 0 then (some (([] : List Int), false)) else (gimbalref11_Tight.l1 k x1 x6 x7 x8 (wrap64 (x9 + 1)))) else (none)) else (none))
def gimbalref11_Tight.l3 : Nat → Int → List Int → Int → List Int → Int → Int → Int → Int → Option (List Int × Bool)
 | 0, _, _, _, _, _, _, _, _ => none
 | k + 1, x1, x6, x7, x8, x9, x10, x11, x12 => if x12 < x1 then (if 0 ≤ (wrap64 ((wrap64 (x9 * x1)) + x12)) then (if (wrap64 ((wrap64 (x9 * x1)) + x12)) < (x6.length : Int) then (if 0 ≤ (wrap64 ((wrap64 (x12 * x1)) + x10)) then (if (wrap64 ((wrap64 (x12 * x1)) + x10)) < (x6.length : Int) then ((gimbalref11_plus.f (rd x6 (wrap64 ((wrap64 (x9 * x1)) + x12))) (rd x6 (wrap64 ((wrap64 (x12 * x1)) + x10)))).bind fun t173 => (gimbalref11_Tight.l3 k x1 x6 x7 x8 x9 x10 (mn x11 t173) (wrap64 (x12 + 1)))) else (none)) else (none)) else (none)) else (none)) else (if 0 ≤ (wrap64 ((wrap64 (x9 * x1)) + x10)) then (if (wrap64 ((wrap64 (x9 * x1)) + x10)) < (x8.length : Int) then (gimbalref11_Tight.l2 k x1 x6 x7 (x8.set ((wrap64 ((wrap64 (x9 * x1)) + x10)) : Int).toNat x11) x9 (wrap64 (x10 + 1))) else (none)) else (none))
def gimbalref11_Tight.l4 : Nat → Int → List Int → Int → Option (List Int × Bool)
 | 0, _, _, _ => none
 | k + 1, x1, x6, x13 => if x13 < x1 then ((gimbalref11_bar.f x13).bind fun t175 => (if 0 ≤ (wrap64 ((wrap64 (x13 * x1)) + t175)) then (if (wrap64 ((wrap64 (x13 * x1)) + t175)) < (x6.length : Int) then (if (rd x6 (wrap64 ((wrap64 (x13 * x1)) + t175))) = 4611686018427387904 then (gimbalref11_Tight.l4 k x1 x6 (wrap64 (x13 + 1))) else ((gimbalref11_halved.f (rd x6 (wrap64 ((wrap64 (x13 * x1)) + t175)))).bind fun t178 => (gimbalref11_Tight.l4 k x1 (x6.set ((wrap64 ((wrap64 (x13 * x1)) + t175)) : Int).toNat (wrap64 (2 * t178))) (wrap64 (x13 + 1))))) else (none)) else (none))) else (gimbalref11_Tight.l5 k x1 x6 0)
def gimbalref11_Tight.l5 : Nat → Int → List Int → Int → Option (List Int × Bool)
 | 0, _, _, _ => none
 | k + 1, x1, x6, x15 => if x15 < x1 then ((gimbalref11_bar.f x15).bind fun t180 => (if 0 ≤ (wrap64 ((wrap64 (x15 * x1)) + t180)) then (if (wrap64 ((wrap64 (x15 * x1)) + t180)) < (x6.length : Int) then ((gimbalref11_bar.f x15).bind fun t182 => (if 0 ≤ (wrap64 ((wrap64 (t182 * x1)) + x15)) then (if (wrap64 ((wrap64 (t182 * x1)) + x15)) < (x6.length : Int) then ((gimbalref11_plus.f (rd x6 (wrap64 ((wrap64 (x15 * x1)) + t180))) (rd x6 (wrap64 ((wrap64 (t182 * x1)) + x15)))).bind fun t184 => (if t184 < 0 then (some (([] : List Int), false)) else (gimbalref11_Tight.l5 k x1 x6 (wrap64 (x15 + 1))))) else (none)) else (none))) else (none)) else (none))) else (if 0 ≤ (wrap64 (x1 * x1)) then (if (wrap64 (x1 * x1) : Int).toNat ≤ 35184372088832 then (gimbalref11_Tight.l6 k x1 x6 (List.replicate (wrap64 (x1 * x1) : Int).toNat 0) 0) else (none)) else (none))
def gimbalref11_Tight.l6 : Nat → Int → List Int → List Int → Int → Option (List Int × Bool)
 | 0, _, _, _, _ => none
 | k + 1, x1, x6, x16, x17 => if x17 < x1 then (gimbalref11_Tight.l7 k x1 x6 x16 x17 0) else (some (x16, true))
def gimbalref11_Tight.l7 : Nat → Int → List Int → List Int → Int → Int → Option (List Int × Bool)
 | 0, _, _, _, _, _ => none
 | k + 1, x1, x6, x16, x17, x18 => if x18 < x1 then (if 0 ≤ (wrap64 ((wrap64 (x17 * x1)) + x18)) then (if (wrap64 ((wrap64 (x17 * x1)) + x18)) < (x6.length : Int) then (if (wrap64 ((wrap64 (x17 * x1)) + x18)) < (x16.length : Int) then ((some (x16.set ((wrap64 ((wrap64 (x17 * x1)) + x18)) : Int).toNat (rd x6 (wrap64 ((wrap64 (x17 * x1)) + x18))) : List Int)).bind fun y189 => ((gimbalref11_bar.f x17).bind fun t190 => (if 0 ≤ (wrap64 ((wrap64 (x17 * x1)) + t190)) then (if (wrap64 ((wrap64 (x17 * x1)) + t190)) < (x6.length : Int) then ((gimbalref11_bar.f x18).bind fun t192 => (if 0 ≤ (wrap64 ((wrap64 (t192 * x1)) + x18)) then (if (wrap64 ((wrap64 (t192 * x1)) + x18)) < (x6.length : Int) then ((gimbalref11_plus.f (rd x6 (wrap64 ((wrap64 (x17 * x1)) + t190))) (rd x6 (wrap64 ((wrap64 (t192 * x1)) + x18)))).bind fun t194 => (if t194 = 4611686018427387904 then (gimbalref11_Tight.l7 k x1 x6 y189 x17 (wrap64 (x18 + 1))) else ((gimbalref11_halved.f t194).bind fun t196 => (gimbalref11_Tight.l7 k x1 x6 (y189.set ((wrap64 ((wrap64 (x17 * x1)) + x18)) : Int).toNat (mn (rd y189 (wrap64 ((wrap64 (x17 * x1)) + x18))) t196)) x17 (wrap64 (x18 + 1)))))) else (none)) else (none))) else (none)) else (none)))) else (none)) else (none)) else (none)) else (gimbalref11_Tight.l6 k x1 x6 x16 (wrap64 (x17 + 1)))
end
def gimbalref11_Tight.f (k : Nat) (l0 : List Int) (a1 : Int) : Option (List Int × Bool) := if ([] : List Int).length + l0.length < 17592186044416 then (gimbalref11_Tight.l0 k a1 (([] : List Int) ++ l0) 1) else (none)
theorem gimbalref11_Tight.mono_l : ∀ k, (∀ y0 y1 y2, LeO (gimbalref11_Tight.l0 k y0 y1 y2) (gimbalref11_Tight.l0 (k + 1) y0 y1 y2)) ∧ (∀ y0 y1 y2 y3 y4, LeO (gimbalref11_Tight.l1 k y0 y1 y2 y3 y4) (gimbalref11_Tight.l1 (k + 1) y0 y1 y2 y3 y4)) ∧ (∀ y0 y1 y2 y3 y4 y5, LeO (gimbalref11_Tight.l2 k y0 y1 y2 y3 y4 y5) (gimbalref11_Tight.l2 (k + 1) y0 y1 y2 y3 y4 y5)) ∧ (∀ y0 y1 y2 y3 y4 y5 y6 y7, LeO (gimbalref11_Tight.l3 k y0 y1 y2 y3 y4 y5 y6 y7) (gimbalref11_Tight.l3 (k + 1) y0 y1 y2 y3 y4 y5 y6 y7)) ∧ (∀ y0 y1 y2, LeO (gimbalref11_Tight.l4 k y0 y1 y2) (gimbalref11_Tight.l4 (k + 1) y0 y1 y2)) ∧ (∀ y0 y1 y2, LeO (gimbalref11_Tight.l5 k y0 y1 y2) (gimbalref11_Tight.l5 (k + 1) y0 y1 y2)) ∧ (∀ y0 y1 y2 y3, LeO (gimbalref11_Tight.l6 k y0 y1 y2 y3) (gimbalref11_Tight.l6 (k + 1) y0 y1 y2 y3)) ∧ (∀ y0 y1 y2 y3 y4, LeO (gimbalref11_Tight.l7 k y0 y1 y2 y3 y4) (gimbalref11_Tight.l7 (k + 1) y0 y1 y2 y3 y4))
 | 0 => ⟨fun _ _ _ r h => by simp [gimbalref11_Tight.l0] at h, fun _ _ _ _ _ r h => by simp [gimbalref11_Tight.l1] at h, fun _ _ _ _ _ _ r h => by simp [gimbalref11_Tight.l2] at h, fun _ _ _ _ _ _ _ _ r h => by simp [gimbalref11_Tight.l3] at h, fun _ _ _ r h => by simp [gimbalref11_Tight.l4] at h, fun _ _ _ r h => by simp [gimbalref11_Tight.l5] at h, fun _ _ _ _ r h => by simp [gimbalref11_Tight.l6] at h, fun _ _ _ _ _ r h => by simp [gimbalref11_Tight.l7] at h⟩
 | k + 1 => by
  obtain ⟨ih0, ih1, ih2, ih3, ih4, ih5, ih6, ih7⟩ := gimbalref11_Tight.mono_l k
  refine ⟨?_, ?_, ?_, ?_, ?_, ?_, ?_, ?_⟩
  ·
   intro y0 y1 y2
   unfold gimbalref11_Tight.l0
   repeat' first
   | (with_reducible exact ih0 _ _ _)
   | (with_reducible exact ih1 _ _ _ _ _)
   | (with_reducible exact ih2 _ _ _ _ _ _)
   | (with_reducible exact ih3 _ _ _ _ _ _ _ _)
   | (with_reducible exact ih4 _ _ _)
   | (with_reducible exact ih5 _ _ _)
   | (with_reducible exact ih6 _ _ _ _)
   | (with_reducible exact ih7 _ _ _ _ _)
   | (with_reducible exact LeO.refl _)
   | (with_reducible exact LeO.none _)
   | (with_reducible refine LeO.ite ?_ ?_)
   | (with_reducible refine LeO.bind ?_ (fun _ => ?_))
   | exact ih0 _ _ _
   | exact ih1 _ _ _ _ _
   | exact ih2 _ _ _ _ _ _
   | exact ih3 _ _ _ _ _ _ _ _
   | exact ih4 _ _ _
   | exact ih5 _ _ _
   | exact ih6 _ _ _ _
   | exact ih7 _ _ _ _ _
   | exact LeO.none _
   | refine LeO.ite ?_ ?_
   | refine LeO.bind ?_ (fun _ => ?_)
  ·
   intro y0 y1 y2 y3 y4
   unfold gimbalref11_Tight.l1
   repeat' first
   | (with_reducible exact ih0 _ _ _)
   | (with_reducible exact ih1 _ _ _ _ _)
   | (with_reducible exact ih2 _ _ _ _ _ _)
   | (with_reducible exact ih3 _ _ _ _ _ _ _ _)
   | (with_reducible exact ih4 _ _ _)
   | (with_reducible exact ih5 _ _ _)
   | (with_reducible exact ih6 _ _ _ _)
   | (with_reducible exact ih7 _ _ _ _ _)
   | (with_reducible exact LeO.refl _)
   | (with_reducible exact LeO.none _)
   | (with_reducible refine LeO.ite ?_ ?_)
   | (with_reducible refine LeO.bind ?_ (fun _ => ?_))
   | exact ih0 _ _ _
   | exact ih1 _ _ _ _ _
   | exact ih2 _ _ _ _ _ _
   | exact ih3 _ _ _ _ _ _ _ _
   | exact ih4 _ _ _
   | exact ih5 _ _ _
   | exact ih6 _ _ _ _
   | exact ih7 _ _ _ _ _
   | exact LeO.none _
   | refine LeO.ite ?_ ?_
   | refine LeO.bind ?_ (fun _ => ?_)
  ·
   intro y0 y1 y2 y3 y4 y5
   unfold gimbalref11_Tight.l2
   repeat' first
   | (with_reducible exact ih0 _ _ _)
   | (with_reducible exact ih1 _ _ _ _ _)
   | (with_reducible exact ih2 _ _ _ _ _ _)
   | (with_reducible exact ih3 _ _ _ _ _ _ _ _)
   | (with_reducible exact ih4 _ _ _)
   | (with_reducible exact ih5 _ _ _)
   | (with_reducible exact ih6 _ _ _ _)
   | (with_reducible exact ih7 _ _ _ _ _)
   | (with_reducible exact LeO.refl _)
   | (with_reducible exact LeO.none _)
   | (with_reducible refine LeO.ite ?_ ?_)
   | (with_reducible refine LeO.bind ?_ (fun _ => ?_))
   | exact ih0 _ _ _
   | exact ih1 _ _ _ _ _
   | exact ih2 _ _ _ _ _ _
   | exact ih3 _ _ _ _ _ _ _ _
   | exact ih4 _ _ _
   | exact ih5 _ _ _
   | exact ih6 _ _ _ _
   | exact ih7 _ _ _ _ _
   | exact LeO.none _
   | refine LeO.ite ?_ ?_
   | refine LeO.bind ?_ (fun _ => ?_)
  ·
   intro y0 y1 y2 y3 y4 y5 y6 y7
   unfold gimbalref11_Tight.l3
   repeat' first
   | (with_reducible exact ih0 _ _ _)
   | (with_reducible exact ih1 _ _ _ _ _)
   | (with_reducible exact ih2 _ _ _ _ _ _)
   | (with_reducible exact ih3 _ _ _ _ _ _ _ _)
   | (with_reducible exact ih4 _ _ _)
   | (with_reducible exact ih5 _ _ _)
   | (with_reducible exact ih6 _ _ _ _)
   | (with_reducible exact ih7 _ _ _ _ _)
   | (with_reducible exact LeO.refl _)
   | (with_reducible exact LeO.none _)
   | (with_reducible refine LeO.ite ?_ ?_)
   | (with_reducible refine LeO.bind ?_ (fun _ => ?_))
   | exact ih0 _ _ _
   | exact ih1 _ _ _ _ _
   | exact ih2 _ _ _ _ _ _
   | exact ih3 _ _ _ _ _ _ _ _
   | exact ih4 _ _ _
   | exact ih5 _ _ _
   | exact ih6 _ _ _ _
   | exact ih7 _ _ _ _ _
   | exact LeO.none _
   | refine LeO.ite ?_ ?_
   | refine LeO.bind ?_ (fun _ => ?_)
  ·
   intro y0 y1 y2
   unfold gimbalref11_Tight.l4
   repeat' first
   | (with_reducible exact ih0 _ _ _)
   | (with_reducible exact ih1 _ _ _ _ _)
   | (with_reducible exact ih2 _ _ _ _ _ _)
   | (with_reducible exact ih3 _ _ _ _ _ _ _ _)
   | (with_reducible exact ih4 _ _ _)
   | (with_reducible exact ih5 _ _ _)
   | (with_reducible exact ih6 _ _ _ _)
   | (with_reducible exact ih7 _ _ _ _ _)
   | (with_reducible exact LeO.refl _)
   | (with_reducible exact LeO.none _)
   | (with_reducible refine LeO.ite ?_ ?_)
   | (with_reducible refine LeO.bind ?_ (fun _ => ?_))
   | exact ih0 _ _ _
   | exact ih1 _ _ _ _ _
   | exact ih2 _ _ _ _ _ _
   | exact ih3 _ _ _ _ _ _ _ _
   | exact ih4 _ _ _
   | exact ih5 _ _ _
   | exact ih6 _ _ _ _
   | exact ih7 _ _ _ _ _
   | exact LeO.none _
   | refine LeO.ite ?_ ?_
   | refine LeO.bind ?_ (fun _ => ?_)
  ·
   intro y0 y1 y2
   unfold gimbalref11_Tight.l5
   repeat' first
   | (with_reducible exact ih0 _ _ _)
   | (with_reducible exact ih1 _ _ _ _ _)
   | (with_reducible exact ih2 _ _ _ _ _ _)
   | (with_reducible exact ih3 _ _ _ _ _ _ _ _)
   | (with_reducible exact ih4 _ _ _)
   | (with_reducible exact ih5 _ _ _)
   | (with_reducible exact ih6 _ _ _ _)
   | (with_reducible exact ih7 _ _ _ _ _)
   | (with_reducible exact LeO.refl _)
   | (with_reducible exact LeO.none _)
   | (with_reducible refine LeO.ite ?_ ?_)
   | (with_reducible refine LeO.bind ?_ (fun _ => ?_))
   | exact ih0 _ _ _
   | exact ih1 _ _ _ _ _
   | exact ih2 _ _ _ _ _ _
   | exact ih3 _ _ _ _ _ _ _ _
   | exact ih4 _ _ _
   | exact ih5 _ _ _
   | exact ih6 _ _ _ _
   | exact ih7 _ _ _ _ _
   | exact LeO.none _
   | refine LeO.ite ?_ ?_
   | refine LeO.bind ?_ (fun _ => ?_)
  ·
   intro y0 y1 y2 y3
   unfold gimbalref11_Tight.l6
   repeat' first
   | (with_reducible exact ih0 _ _ _)
   | (with_reducible exact ih1 _ _ _ _ _)
   | (with_reducible exact ih2 _ _ _ _ _ _)
   | (with_reducible exact ih3 _ _ _ _ _ _ _ _)
   | (with_reducible exact ih4 _ _ _)
   | (with_reducible exact ih5 _ _ _)
   | (with_reducible exact ih6 _ _ _ _)
   | (with_reducible exact ih7 _ _ _ _ _)
   | (with_reducible exact LeO.refl _)
   | (with_reducible exact LeO.none _)
   | (with_reducible refine LeO.ite ?_ ?_)
   | (with_reducible refine LeO.bind ?_ (fun _ => ?_))
   | exact ih0 _ _ _
   | exact ih1 _ _ _ _ _
   | exact ih2 _ _ _ _ _ _
   | exact ih3 _ _ _ _ _ _ _ _
   | exact ih4 _ _ _
   | exact ih5 _ _ _
   | exact ih6 _ _ _ _
   | exact ih7 _ _ _ _ _
   | exact LeO.none _
   | refine LeO.ite ?_ ?_
   | refine LeO.bind ?_ (fun _ => ?_)
  ·
   intro y0 y1 y2 y3 y4
   unfold gimbalref11_Tight.l7
   repeat' first
   | (with_reducible exact ih0 _ _ _)
   | (with_reducible exact ih1 _ _ _ _ _)
   | (with_reducible exact ih2 _ _ _ _ _ _)
   | (with_reducible exact ih3 _ _ _ _ _ _ _ _)
   | (with_reducible exact ih4 _ _ _)
   | (with_reducible exact ih5 _ _ _)
   | (with_reducible exact ih6 _ _ _ _)
   | (with_reducible exact ih7 _ _ _ _ _)
   | (with_reducible exact LeO.refl _)
   | (with_reducible exact LeO.none _)
   | (with_reducible refine LeO.ite ?_ ?_)
   | (with_reducible refine LeO.bind ?_ (fun _ => ?_))
   | exact ih0 _ _ _
   | exact ih1 _ _ _ _ _
   | exact ih2 _ _ _ _ _ _
   | exact ih3 _ _ _ _ _ _ _ _
   | exact ih4 _ _ _
   | exact ih5 _ _ _
   | exact ih6 _ _ _ _
   | exact ih7 _ _ _ _ _
   | exact LeO.none _
   | refine LeO.ite ?_ ?_
   | refine LeO.bind ?_ (fun _ => ?_)
theorem gimbalref11_Tight.mono : ∀ a0 a1 k, LeO (gimbalref11_Tight.f k a0 a1) (gimbalref11_Tight.f (k + 1) a0 a1) := by
 intro a0 a1 k
 obtain ⟨ih0, ih1, ih2, ih3, ih4, ih5, ih6, ih7⟩ := gimbalref11_Tight.mono_l k
 unfold gimbalref11_Tight.f
 repeat' first
  | (with_reducible exact ih0 _ _ _)
  | (with_reducible exact ih1 _ _ _ _ _)
  | (with_reducible exact ih2 _ _ _ _ _ _)
  | (with_reducible exact ih3 _ _ _ _ _ _ _ _)
  | (with_reducible exact ih4 _ _ _)
  | (with_reducible exact ih5 _ _ _)
  | (with_reducible exact ih6 _ _ _ _)
  | (with_reducible exact ih7 _ _ _ _ _)
  | (with_reducible exact LeO.refl _)
  | (with_reducible exact LeO.none _)
  | (with_reducible refine LeO.ite ?_ ?_)
  | (with_reducible refine LeO.bind ?_ (fun _ => ?_))
  | exact ih0 _ _ _
  | exact ih1 _ _ _ _ _
  | exact ih2 _ _ _ _ _ _
  | exact ih3 _ _ _ _ _ _ _ _
  | exact ih4 _ _ _
  | exact ih5 _ _ _
  | exact ih6 _ _ _ _
  | exact ih7 _ _ _ _ _
  | exact LeO.none _
  | refine LeO.ite ?_ ?_
  | refine LeO.bind ?_ (fun _ => ?_)
def gimbalref11_Tight.T17 : Bool × List (List Nat × List Nat) := (true, [([], []), ([], []), ([], []), ([], []), ([2, 3], [2, 3]), ([], []), ([4, 5], [4, 5]), ([1, 6], [1, 6]), ([7], [7]), ([], []), ([], []), ([], []), ([10, 11], [10, 11]), ([], []), ([12, 13], [12, 13]), ([9, 14], [9, 14]), ([15], [15]), ([8, 16], [8, 16]), ([0, 17], [0, 17]), ([18, 17, 0, 1, 2, 3, 4, 5, 6, 7, 8, 9, 10, 11, 12, 13, 14, 15, 16, 17, 18], [0, 18])])
def gimbalref11_Tight.B17 : List Nat := [0, 0, 0, 0, 12, 0, 60, 126, 254, 0, 0, 0, 3072, 0, 15360, 32256, 65024, 131070, 262143, 524287]
theorem gimbalref11_Tight.tab17 : rtab .any (opsOf Try.f59 17) = gimbalref11_Tight.T17 := by kernel_rfl
theorem gimbalref11_Tight.bits17 : waitsOk gimbalref11_Tight.T17.2 gimbalref11_Tight.B17 = true := by kernel_rfl
def gimbalref11_Tight.T31 : Bool × List (List Nat × List Nat) := (true, [([], []), ([], []), ([], []), ([1, 2], [1, 2]), ([], []), ([4], [4]), ([3, 5], [3, 5]), ([0, 6], [0, 6]), ([7], [7]), ([], []), ([], []), ([10, 5], [10]), ([], []), ([11, 12], [11, 12]), ([], []), ([13, 14], [13, 14]), ([9, 15], [9, 15]), ([16], [16]), ([8, 17, 11], [8, 17]), ([18], [18])])
def gimbalref11_Tight.B31 : List Nat := [0, 0, 0, 6, 0, 16, 62, 127, 255, 0, 0, 1072, 0, 7216, 0, 31792, 65072, 130608, 262143, 524287]
theorem gimbalref11_Tight.tab31 : rtab .any (opsOf Try.f59 31) = gimbalref11_Tight.T31 := by kernel_rfl
theorem gimbalref11_Tight.bits31 : waitsOk gimbalref11_Tight.T31.2 gimbalref11_Tight.B31 = true := by kernel_rfl
def gimbalref11_Tight.T41 : Bool × List (List Nat × List Nat) := (true, [([], []), ([], []), ([], []), ([1, 2], [1, 2]), ([], []), ([4], [4]), ([3, 5], [3, 5]), ([0, 6], [0, 6]), ([7], [7]), ([], []), ([], []), ([10, 5], [10]), ([], []), ([11, 12], [11, 12]), ([], []), ([13, 14], [13, 14]), ([9, 15], [9, 15]), ([16], [16]), ([8, 17, 11], [8, 17]), ([18, 18, 0, 1, 2, 3, 4, 5, 6, 7, 8, 9, 10, 11, 12, 13, 14, 15, 16, 17, 18], [18])])
def gimbalref11_Tight.B41 : List Nat := [0, 0, 0, 6, 0, 16, 62, 127, 255, 0, 0, 1072, 0, 7216, 0, 31792, 65072, 130608, 262143, 524287]
theorem gimbalref11_Tight.tab41 : rtab .any (opsOf Try.f59 41) = gimbalref11_Tight.T41 := by kernel_rfl
theorem gimbalref11_Tight.bits41 : waitsOk gimbalref11_Tight.T41.2 gimbalref11_Tight.B41 = true := by kernel_rfl
def gimbalref11_Tight.T43 : Bool × List (List Nat × List Nat) := (true, [([], []), ([], []), ([], []), ([1, 2], [1, 2]), ([], []), ([3, 4], [3, 4]), ([], []), ([], []), ([], []), ([7, 8], [7, 8]), ([], []), ([9, 10], [9, 10]), ([6, 11], [6, 11]), ([12], [12]), ([], []), ([14], [14]), ([13, 15], [13, 15]), ([0, 5, 0, 1, 2, 3, 4, 5, 6, 7, 8, 9, 10, 11, 12, 13, 14, 15, 16], [0, 5]), ([17, 16, 15, 0, 1, 2, 3, 4, 5, 6, 7, 8, 9, 10, 11, 12, 13, 14, 15, 16], [16, 17])])
def gimbalref11_Tight.B43 : List Nat := [0, 0, 0, 6, 0, 30, 0, 0, 0, 384, 0, 1920, 4032, 8128, 0, 16384, 65472, 131071, 262143]
theorem gimbalref11_Tight.tab43 : rtab .any (opsOf Try.f59 43) = gimbalref11_Tight.T43 := by kernel_rfl
theorem gimbalref11_Tight.bits43 : waitsOk gimbalref11_Tight.T43.2 gimbalref11_Tight.B43 = true := by kernel_rfl
set_option maxHeartbeats 8000000 in
set_option maxRecDepth 100000 in
theorem gimbalref11_Tight.calls (k : Nat) (A0 : Option Addr) (c0 : Nat) (l0 : List Int) (a1 : Int) (r1 : List Int) (r2 : Bool) (w : World) (hr0 : Kd.C (Kd.int .i64) w A0 l0.length l0) (hc0 : l0.length ≤ c0) (h : gimbalref11_Tight.f k l0 a1 = some (r1, r2)) :
 Calls Try.prog 59 #[.slice A0 l0.length c0, .int .i64 a1] w fun e w' => ∃ v0_ : Value, e = .returned (.tuple #[v0_, .bool r2]) ∧ Kd.R (Kd.int .i64) 2 w' w.heap.size (fun _ => True) v0_ r1 ∧ Below w.heap.size w w' := by
 have HR0 := Aside0.mk hr0
 have HC0 := Aside0.mk hc0
 clear hr0 hc0
 have HB := Aside0.mk (Below.refl w.heap.size w)
 have H : (if ([] : List Int).length + l0.length < 17592186044416 then (gimbalref11_Tight.l0 k a1 (([] : List Int) ++ l0) 1) else (none)) = some (r1, r2) := h
 clear h
 by_cases c3 : ([] : List Int).length + l0.length < 17592186044416
 ·
  rw [if_pos c3] at H
  have LMc3 := Aside0.mk c3
  clear c3
  obtain ⟨y163, hy163⟩ : ∃ y_ : List Int, y_ = (([] : List Int) ++ l0) := ⟨_, rfl⟩
  replace H : (gimbalref11_Tight.l0 k a1 y163 1) = some (r1, r2) := by first | (rw [hy163]; with_reducible exact H) | (have H2_ := (Option.bind_some _ _).symm.trans H; rw [hy163]; with_reducible exact H2_) | (have H2_ := (Option.bind_some _ _).symm.trans H; with_reducible exact H2_) | with_reducible exact H | (rw [hy163]; exact H) | exact H
  have Ny163 := Aside0.mk hy163
  clear hy163
  have H' := Aside0.mk H
  clear H
  go_enter Try.func59, Try.ntmps59
  go_wp2_with ((with_reducible refine gate_builtin (b := .append) (xs := #[.tmp 20, .tmp 21]) rfl ?_); at_builtin; refine Kd.R_append_rows (Kd.int .i64) (w0 := w) w.heap.size rfl (.tmp 20) (.tmp 21) 23 2 (.int .i64 0) 8 rfl Try.underlying23 info2 rfl (by decide) (by omega) (.slice none 0 0) ([] : List Int) l0 _ _ _ (fun _ => True) (fun _ => False) rfl rfl ?aO ?aR (fun _ _ h => h) (fun _ h => h.elim) ?aF ?aB ?aS ?aL ?_; (case aR => repeat (first | exact HR0.out | (with_reducible refine Kd.C_alloc ?_ _) | (with_reducible refine Kd.C_drewN ?_ _) | (with_reducible refine Kd.C_drew ?_))); (case aB => exact (vW HB.out)); (case aF => exact (fun _ _ => trivial)); (case aO => exact ((Kd.R_nil _ _ _ _ (fun _ => True)))); (case aS => exact (below_size (vW HB.out))); (case aL => have := LMc3.out; omega); intro v164 w4 ho hb hg hat; rw [← Ny163.out] at ho; replace HB := Aside0.mk (hb); have HO165 := Aside0.mk (ho); clear ho hb hg hat)
  go_loopg [6, 7] k (fun kq v6 v7 w' => ∃ (x6_1 : List Int) (x7_1 : Int), v7 = .int .i64 x7_1 ∧ Aside0 (gimbalref11_Tight.l0 kq a1 x6_1 x7_1 = some (r1, r2)) ∧ Aside0 (kq ≤ k) ∧ Aside0 (Kd.R (Kd.int .i64) 2 w' w.heap.size (fun _ => True) v6 x6_1) ∧ Aside0 (Below w.heap.size w w'))
  case atStart => exact ⟨(y163), (1), (by first | rfl | (simp; done) | (simp [*]; done)), H', ⟨Nat.le_refl _⟩, ⟨vR HO165.out⟩, ⟨vW HB.out⟩⟩
  case round =>
   clear H'
   obtain ⟨x6_1, x7_1, rfl, HA, HK1, HO_6, HB⟩ := hrel
   cases gk with
   | zero => exact absurd HA.out (by simp [gimbalref11_Tight.l0])
   | succ k1 =>
    have H := HA.out
    clear HA
    simp only [gimbalref11_Tight.l0] at H
    by_cases c5 : x7_1 ≤ (wrap64 (2 * a1))
    ·
     rw [if_pos c5] at H
     have c5b0 : decide (x7_1 ≤ (wrap64 (2 * a1))) = true := decide_eq_true c5
     clear c5
     obtain ⟨ji6, hji6⟩ : ∃ j_ : Int, (wrap64 (a1 * a1)) = j_ := ⟨_, rfl⟩
     replace H : (if 0 ≤ (ji6) then (if (ji6 : Int).toNat ≤ 35184372088832 then (gimbalref11_Tight.l1 k1 a1 x6_1 x7_1 (List.replicate (ji6 : Int).toNat 0) 0) else (none)) else (none)) = some (r1, r2) := by first | (rw [hji6] at H; exact H) | (simp only [hji6] at H ⊢; exact H)
     have hji6w : (IntKind.i64.wrap (a1 * a1)) = ji6 := (i64_w _).trans hji6
     by_cases c7 : 0 ≤ (ji6)
     ·
      rw [if_pos c7] at H
      have c7b0 := eq_true c7
      have c7b1 : decide (0 ≤ (ji6)) = true := decide_eq_true c7
      clear c7
      by_cases c8 : (ji6 : Int).toNat ≤ 35184372088832
      ·
       rw [if_pos c8] at H
       have c8b0 := eq_true c8
       have c8b1 : decide ((ji6 : Int).toNat ≤ 35184372088832) = true := decide_eq_true c8
       clear c8
       obtain ⟨y166, hy166⟩ : ∃ y_ : List Int, y_ = (List.replicate (ji6 : Int).toNat 0) := ⟨_, rfl⟩
       replace H : (gimbalref11_Tight.l1 k1 a1 x6_1 x7_1 y166 0) = some (r1, r2) := by first | (rw [hy166]; with_reducible exact H) | (have H2_ := (Option.bind_some _ _).symm.trans H; rw [hy166]; with_reducible exact H2_) | (have H2_ := (Option.bind_some _ _).symm.trans H; with_reducible exact H2_) | with_reducible exact H | (rw [hy166]; exact H) | exact H
       have Ny166 := Aside0.mk hy166
       clear hy166
       have H' := Aside0.mk H
       clear H
       go_wp2_with ((with_reducible refine gate_dst (N := 32) rfl ?_); refine Kd.R_make (Kd.int .i64) _ 2 rfl (N := 32) rfl 23 _ _ rfl ji6 rfl rfl Try.underlying23 (.int .i64 0) 8 info2 rfl (by decide) (by omega) 0 (ok := fun _ => True) (okp := fun _ => True) rfl (fun _ hk => hk) trivial (of_decide_eq_true (by first | (with_reducible assumption) | assumption)) (Nat.le_trans (Nat.mul_le_mul_right _ (of_decide_eq_true (by first | (with_reducible assumption) | assumption) : ji6.toNat ≤ 35184372088832)) (by omega)) (Below.refl _ _) (Nat.le_refl _) ?_; intro v167 w9 ho10 hb hg_ hnew_; clear hg_ hnew_; (first | rw [← Ny166.out] at ho10 | (simp only [Int.reduceToNat] at ho10; rw [← Ny166.out] at ho10)); have HO168 := Aside0.mk (Kd.R_lower (Kd.R_new' ho10 (Kd.R_lt (vR HO_6.out))) (below_size (vW HB.out))); replace HO_6 := Aside0.mk (Kd.R_elder' (vR HO_6.out) (Kd.R_base ho10) hb); replace HB := vWs HB hb; clear hb ho10)
       go_loopg [9] k1 (fun kq v9 w' => ∃ (x8_2 : List Int) (x9_2 : Int), v9 = .int .i64 x9_2 ∧ Aside0 (gimbalref11_Tight.l1 kq a1 x6_1 x7_1 x8_2 x9_2 = some (r1, r2)) ∧ Aside0 (kq ≤ k1) ∧ Aside0 (Kd.R (Kd.int .i64) 2 w' w.heap.size (fun k_ => some k_ ≠ (v167 : Value).ownBlock) u6 x6_1) ∧ Aside0 (Kd.R (Kd.int .i64) 2 w' w.heap.size (fun k_ => some k_ ≠ (u6 : Value).ownBlock) v167 x8_2) ∧ Aside0 (Below w.heap.size w w'))
       case atStart => exact ⟨(y166), (0), (by first | rfl | (simp; done) | (simp [*]; done)), H', ⟨Nat.le_refl _⟩, ⟨by (with_reducible repeat (first | apply Kd.R_alloc | apply Kd.R_drewN | apply Kd.R_drew)); exact Kd.R_mono HO_6.out (fun _ hk => hk.2)⟩, ⟨by (with_reducible repeat (first | apply Kd.R_alloc | apply Kd.R_drewN | apply Kd.R_drew)); exact Kd.R_mono HO168.out (fun _ hk => hk.2)⟩, ⟨vW HB.out⟩⟩
       case round =>
        clear H'
        try clear c5b0
        try clear c7b0
        try clear c7b1
        try clear c8b0
        try clear c8b1
        obtain ⟨x8_2, x9_2, rfl, HA, HK2, HO_6, HO_8, HB⟩ := hrel
        cases gk with
        | zero => exact absurd HA.out (by simp [gimbalref11_Tight.l1])
        | succ k2 =>
         have H := HA.out
         clear HA
         simp only [gimbalref11_Tight.l1] at H
         by_cases c11 : x9_2 < a1
         ·
          rw [if_pos c11] at H
          have c11b0 : decide (x9_2 < a1) = true := decide_eq_true c11
          clear c11
          have H' := Aside0.mk H
          clear H
          go_wp2
          go_loopg [10] k2 (fun kq v10 w' => ∃ (x8_3 : List Int) (x10_3 : Int), v10 = .int .i64 x10_3 ∧ Aside0 (gimbalref11_Tight.l2 kq a1 x6_1 x7_1 x8_3 x9_2 x10_3 = some (r1, r2)) ∧ Aside0 (kq ≤ k2) ∧ Aside0 (Kd.R (Kd.int .i64) 2 w' w.heap.size (fun k_ => some k_ ≠ (v167 : Value).ownBlock) u6 x6_1) ∧ Aside0 (Kd.R (Kd.int .i64) 2 w' w.heap.size (fun k_ => some k_ ≠ (u6 : Value).ownBlock) v167 x8_3) ∧ Aside0 (Below w.heap.size w w'))
          case atStart => exact ⟨(x8_2), (0), (by first | rfl | (simp; done) | (simp [*]; done)), H', ⟨Nat.le_refl _⟩, ⟨vR HO_6.out⟩, ⟨vR HO_8.out⟩, ⟨vW HB.out⟩⟩
          case round =>
           clear H'
           try clear c11b0
           obtain ⟨x8_3, x10_3, rfl, HA, HK3, HO_6, HO_8, HB⟩ := hrel
           cases gk with
           | zero => exact absurd HA.out (by simp [gimbalref11_Tight.l2])
           | succ k3 =>
            have H := HA.out
            clear HA
            simp only [gimbalref11_Tight.l2] at H
            by_cases c12 : x10_3 < a1
            ·
             rw [if_pos c12] at H
             have c12b0 : decide (x10_3 < a1) = true := decide_eq_true c12
             clear c12
             obtain ⟨ji13, hji13⟩ : ∃ j_ : Int, (wrap64 ((wrap64 (x9_2 * a1)) + x10_3)) = j_ := ⟨_, rfl⟩
             replace H : (if 0 ≤ (ji13) then (if (ji13) < (x6_1.length : Int) then (gimbalref11_Tight.l3 k3 a1 x6_1 x7_1 x8_3 x9_2 x10_3 (rd x6_1 (ji13)) 0) else (none)) else (none)) = some (r1, r2) := by first | (rw [hji13] at H; exact H) | (simp only [hji13] at H ⊢; exact H)
             have hji13w : (IntKind.i64.wrap ((wrap64 (x9_2 * a1)) + x10_3)) = ji13 := (i64_w _).trans hji13
             by_cases c14 : 0 ≤ (ji13)
             ·
              rw [if_pos c14] at H
              have c14b0 : decide (0 ≤ (ji13)) = true := decide_eq_true c14
              clear c14
              by_cases c15 : (ji13) < (x6_1.length : Int)
              ·
               rw [if_pos c15] at H
               have c15b0 : decide ((ji13) < (x6_1.length : Int)) = true := decide_eq_true c15
               clear c15
               have H' := Aside0.mk H
               clear H
               obtain ⟨Ao16, co16, eo16⟩ := Kd.R_slice HO_6.out
               subst eo16
               have p170 : 0 ≤ ((ji13) : Int) := of_decide_eq_true (by first | (with_reducible assumption) | assumption)
               have q170 : (ji13) < (x6_1.length : Int) := of_decide_eq_true (by first | (with_reducible assumption) | assumption)
               (try (obtain ⟨AoZ, coZ, eoZ⟩ := Kd.R_slice HO_6.out; subst eoZ))
               obtain ⟨ad170, e170, hx170_0⟩ := Kd.at_int (Kd.R_reads' HO_6.out).2.2 (ji13) p170 q170
               cases e170
               replace p170 := eq_true p170
               replace q170 := eq_true q170
               go_wp2
               go_loopg [11, 12] k3 (fun kq v11 v12 w' => ∃ (x11_4 : Int) (x12_4 : Int), v11 = .int .i64 x11_4 ∧ v12 = .int .i64 x12_4 ∧ Aside0 (gimbalref11_Tight.l3 kq a1 x6_1 x7_1 x8_3 x9_2 x10_3 x11_4 x12_4 = some (r1, r2)) ∧ Aside0 (kq ≤ k3) ∧ Aside0 (Kd.R (Kd.int .i64) 2 w' w.heap.size (fun k_ => some k_ ≠ (v167 : Value).ownBlock) (.slice (some ad170) x6_1.length co16) x6_1) ∧ Aside0 (Kd.R (Kd.int .i64) 2 w' w.heap.size (fun k_ => some k_ ≠ ((.slice (some ad170) x6_1.length co16) : Value).ownBlock) v167 x8_3) ∧ Aside0 (Below w.heap.size w w'))
               case atStart => exact ⟨(rd x6_1 (ji13)), (0), (by first | rfl | (simp; done) | (simp only [← hji13] <;> (first | rfl | simp)) | (simp [*]; done)), (by first | rfl | (simp; done) | (simp [*]; done)), H', ⟨Nat.le_refl _⟩, ⟨vR HO_6.out⟩, ⟨vR HO_8.out⟩, ⟨vW HB.out⟩⟩
               case round =>
                clear H'
                try clear c12b0
                try clear c14b0
                try clear c15b0
                try clear hx170_0
                try clear p170
                try clear q170
                obtain ⟨x11_4, x12_4, rfl, rfl, HA, HK4, HO_6, HO_8, HB⟩ := hrel
                cases gk with
                | zero => exact absurd HA.out (by simp [gimbalref11_Tight.l3])
                | succ k4 =>
                 have H := HA.out
                 clear HA
                 simp only [gimbalref11_Tight.l3] at H
                 by_cases c17 : x12_4 < a1
                 ·
                  rw [if_pos c17] at H
                  have c17b0 : decide (x12_4 < a1) = true := decide_eq_true c17
                  clear c17
                  obtain ⟨ji18, hji18⟩ : ∃ j_ : Int, (wrap64 ((wrap64 (x9_2 * a1)) + x12_4)) = j_ := ⟨_, rfl⟩
                  replace H : (if 0 ≤ (ji18) then (if (ji18) < (x6_1.length : Int) then (if 0 ≤ (wrap64 ((wrap64 (x12_4 * a1)) + x10_3)) then (if (wrap64 ((wrap64 (x12_4 * a1)) + x10_3)) < (x6_1.length : Int) then ((gimbalref11_plus.f (rd x6_1 (ji18)) (rd x6_1 (wrap64 ((wrap64 (x12_4 * a1)) + x10_3)))).bind fun t173 => (gimbalref11_Tight.l3 k4 a1 x6_1 x7_1 x8_3 x9_2 x10_3 (mn x11_4 t173) (wrap64 (x12_4 + 1)))) else (none)) else (none)) else (none)) else (none)) = some (r1, r2) := by first | (rw [hji18] at H; exact H) | (simp only [hji18] at H ⊢; exact H)
                  have hji18w : (IntKind.i64.wrap ((wrap64 (x9_2 * a1)) + x12_4)) = ji18 := (i64_w _).trans hji18
                  by_cases c19 : 0 ≤ (ji18)
                  ·
                   rw [if_pos c19] at H
                   have c19b0 : decide (0 ≤ (ji18)) = true := decide_eq_true c19
                   clear c19
                   by_cases c20 : (ji18) < (x6_1.length : Int)
                   ·
                    rw [if_pos c20] at H
                    have c20b0 : decide ((ji18) < (x6_1.length : Int)) = true := decide_eq_true c20
                    clear c20
                    obtain ⟨ji21, hji21⟩ : ∃ j_ : Int, (wrap64 ((wrap64 (x12_4 * a1)) + x10_3)) = j_ := ⟨_, rfl⟩
                    replace H : (if 0 ≤ (ji21) then (if (ji21) < (x6_1.length : Int) then ((gimbalref11_plus.f (rd x6_1 (ji18)) (rd x6_1 (ji21))).bind fun t173 => (gimbalref11_Tight.l3 k4 a1 x6_1 x7_1 x8_3 x9_2 x10_3 (mn x11_4 t173) (wrap64 (x12_4 + 1)))) else (none)) else (none)) = some (r1, r2) := by first | (rw [hji21] at H; exact H) | (simp only [hji21] at H ⊢; exact H)
                    have hji21w : (IntKind.i64.wrap ((wrap64 (x12_4 * a1)) + x10_3)) = ji21 := (i64_w _).trans hji21
                    by_cases c22 : 0 ≤ (ji21)
                    ·
                     rw [if_pos c22] at H
                     have c22b0 : decide (0 ≤ (ji21)) = true := decide_eq_true c22
                     clear c22
                     by_cases c23 : (ji21) < (x6_1.length : Int)
                     ·
                      rw [if_pos c23] at H
                      have c23b0 : decide ((ji21) < (x6_1.length : Int)) = true := decide_eq_true c23
                      clear c23
                      replace H := Option.bind_eq_some_iff.mp H
                      obtain ⟨t173, A240, H⟩ := H
                      replace H : (gimbalref11_Tight.l3 k4 a1 x6_1 x7_1 x8_3 x9_2 x10_3 (mn x11_4 t173) (wrap64 (x12_4 + 1))) = some (r1, r2) := H
                      have A24 := Aside0.mk A240
                      clear A240
                      obtain ⟨ji25, hji25⟩ : ∃ j_ : Int, (mn x11_4 t173) = j_ := ⟨_, rfl⟩
                      replace H : (gimbalref11_Tight.l3 k4 a1 x6_1 x7_1 x8_3 x9_2 x10_3 ji25 (wrap64 (x12_4 + 1))) = some (r1, r2) := by first | (rw [hji25] at H; exact H) | (simp only [hji25] at H ⊢; exact H)
                      (try rw [hji25] at A24)
                      have hji25_ : (if t173 < x11_4 then t173 else x11_4) = ji25 := hji25
                      have H' := Aside0.mk H
                      clear H
                      try go_wp2
                      replace HO_6 := Aside0.mk (Kd.R_drew HO_6.out)
                      replace HO_8 := Aside0.mk (Kd.R_drew HO_8.out)
                      replace HB := Aside0.mk (below_drew1 HB.out)
                      have p171 : 0 ≤ ((ji18) : Int) := of_decide_eq_true (by first | (with_reducible assumption) | assumption)
                      have q171 : (ji18) < (x6_1.length : Int) := of_decide_eq_true (by first | (with_reducible assumption) | assumption)
                      (try (obtain ⟨AoZ, coZ, eoZ⟩ := Kd.R_slice HO_6.out; subst eoZ))
                      obtain ⟨ad171, e171, hx171_0⟩ := Kd.at_int (Kd.R_reads' HO_6.out).2.2 (ji18) p171 q171
                      obtain rfl : ad170 = ad171 := (by injection e171)
                      replace p171 := eq_true p171
                      replace q171 := eq_true q171
                      have p172 : 0 ≤ ((ji21) : Int) := of_decide_eq_true (by first | (with_reducible assumption) | assumption)
                      have q172 : (ji21) < (x6_1.length : Int) := of_decide_eq_true (by first | (with_reducible assumption) | assumption)
                      (try (obtain ⟨AoZ, coZ, eoZ⟩ := Kd.R_slice HO_6.out; subst eoZ))
                      obtain ⟨ad172, e172, hx172_0⟩ := Kd.at_int (Kd.R_reads' HO_6.out).2.2 (ji21) p172 q172
                      obtain rfl : ad170 = ad172 := (by injection e172)
                      replace p172 := eq_true p172
                      replace q172 := eq_true q172
                      refine start_ (n := 20) (S := fun w' => w'.cell? (ad170.add ((ji18)).toNat) = some (.int .i64 (rd x6_1 (ji18))) ∧ w'.cell? (ad170.add ((ji21)).toNat) = some (.int .i64 (rd x6_1 (ji21)))) (ds := []) (mB 20 0) (by kernel_rfl) rfl rfl ⟨hx171_0, hx172_0⟩ (fun hHeld => ?_); refine with_tabW gimbalref11_Tight.tab17 gimbalref11_Tight.bits17 (fun HT_ HW_ => ?_)
                      generalize wr.drew = w26 at HO_6 HO_8 HB hx171_0 hx172_0 hHeld ⊢
                      refine pV_ 0 56 (mB 20 1) HT_ ?_
                      refine pV_ 1 57 (mB 20 3) HT_ ?_
                      refine pV_ 2 58 (mB 20 7) HT_ ?_
                      refine pV_ 3 59 (mB 20 15) HT_ ?_
                      refine pV_ 4 60 (mB 20 31) HT_ ?_
                      refine pV_ 5 61 (mB 20 63) HT_ ?_
                      refine pV_ 6 62 (mB 20 127) HT_ ?_
                      refine pV_ 7 63 (mB 20 255) HT_ ?_
                      refine pV_ 9 65 (mB 20 767) HT_ ?_
                      refine pV_ 10 66 (mB 20 1791) HT_ ?_
                      refine pV_ 11 67 (mB 20 3839) HT_ ?_
                      refine pV_ 12 68 (mB 20 7935) HT_ ?_
                      refine pV_ 13 69 (mB 20 16127) HT_ ?_
                      refine pV_ 14 70 (mB 20 32511) HT_ ?_
                      refine pV_ 15 71 (mB 20 65279) HT_ ?_
                      refine tV_ 8 64 (mB 20 65535) HT_ HW_ hHeld ?_
                      refine tV_ 16 72 (mB 20 131071) HT_ HW_ hHeld ?_
                      refine one_ (i := 17) (N := some 73) (mB 20 262143) rfl rfl (one_of HT_.out (by kernel_rfl)) (by decide) (fun K hK => ?_)
                      refine goes_ Try.func84 (by kernel_rfl) rfl #[.int .i64 (rd x6_1 (ji18)), .int .i64 (rd x6_1 (ji21))] (by rfl) rfl rfl (by (try simp only [List.map_toArray, List.map_cons, List.map_nil]); first | done | (simp only [hji18, hji21]; rfl) | rfl | (simp only [List.length_drop, List.length_take]; rfl)) ?_
                      with_reducible refine (gimbalref11_plus.calls (rd x6_1 (ji18)) (rd x6_1 (ji21)) t173 _ A24.out).mono ?_
                      rintro e w' ⟨rfl, ⟨nd, rfl⟩⟩
                      refine ⟨_, rfl, ?_⟩
                      refine hK.out _ _ ⟨hHeld.1, hHeld.2⟩ (fun hHeld => ?_)
                      clear hK K
                      refine norm_ (a' := ?_) ?_ ?_
                      rotate_left
                      ·
                       show Act.put _ (some 73) _ = _
                       simp only [Act.put, List.setIfInBounds_toArray, List.set_cons_zero, List.set_cons_succ, i64_w, i32_w]
                       rfl
                      refine pV_ 18 74 (mB 20 524287) HT_ ?_
                      refine pV_ 19 11 (mB 20 1048575) HT_ ?_
                      refine done_ (done_of HT_.out (by kernel_rfl)) ?_
                      try go_wp2
                      go_roundg k4
                      case measure => have := HK1.out; have := HK2.out; have := HK3.out; have := HK4.out; omega
                      case rel => exact ⟨(ji25), (wrap64 (x12_4 + 1)), (by first | rfl | (simp; done) | (simp only [← hji25] <;> (first | rfl | simp)) | (simp [*]; done)), (by first | rfl | (simp; done) | (simp [*]; done)), H', ⟨by have := HK1.out; have := HK2.out; have := HK3.out; have := HK4.out; omega⟩, ⟨vR HO_6.out⟩, ⟨vR HO_8.out⟩, ⟨vW HB.out⟩⟩
                     ·
                      rw [if_neg c23] at H
                      exact absurd H (by simp)
                    ·
                     rw [if_neg c22] at H
                     exact absurd H (by simp)
                   ·
                    rw [if_neg c20] at H
                    exact absurd H (by simp)
                  ·
                   rw [if_neg c19] at H
                   exact absurd H (by simp)
                 ·
                  rw [if_neg c17] at H
                  have c17b0 : decide (x12_4 < a1) = false := decide_eq_false c17
                  clear c17
                  obtain ⟨ji27, hji27⟩ : ∃ j_ : Int, (wrap64 ((wrap64 (x9_2 * a1)) + x10_3)) = j_ := ⟨_, rfl⟩
                  replace H : (if 0 ≤ (ji27) then (if (ji27) < (x8_3.length : Int) then (gimbalref11_Tight.l2 k4 a1 x6_1 x7_1 (x8_3.set ((ji27) : Int).toNat x11_4) x9_2 (wrap64 (x10_3 + 1))) else (none)) else (none)) = some (r1, r2) := by first | (rw [hji27] at H; exact H) | (simp only [hji27] at H ⊢; exact H)
                  have hji27w : (IntKind.i64.wrap ((wrap64 (x9_2 * a1)) + x10_3)) = ji27 := (i64_w _).trans hji27
                  (try (obtain rfl : ji27 = ji13 := hji27.symm.trans hji13))
                  by_cases c28 : 0 ≤ (ji27)
                  ·
                   rw [if_pos c28] at H
                   have c28b0 : decide (0 ≤ (ji27)) = true := decide_eq_true c28
                   clear c28
                   by_cases c29 : (ji27) < (x8_3.length : Int)
                   ·
                    rw [if_pos c29] at H
                    have c29b0 : decide ((ji27) < (x8_3.length : Int)) = true := decide_eq_true c29
                    clear c29
                    obtain ⟨y174, hy174⟩ : ∃ y_ : List Int, y_ = (x8_3.set ((ji27) : Int).toNat x11_4) := ⟨_, rfl⟩
                    replace H : (gimbalref11_Tight.l2 k4 a1 x6_1 x7_1 y174 x9_2 (wrap64 (x10_3 + 1))) = some (r1, r2) := by first | (rw [hy174]; with_reducible exact H) | (have H2_ := (Option.bind_some _ _).symm.trans H; rw [hy174]; with_reducible exact H2_) | (have H2_ := (Option.bind_some _ _).symm.trans H; with_reducible exact H2_) | with_reducible exact H | (rw [hy174]; exact H) | exact H
                    have Ny174 := Aside0.mk hy174
                    clear hy174
                    have H' := Aside0.mk H
                    clear H
                    have p30 : 0 ≤ ((ji27) : Int) := of_decide_eq_true (by first | (with_reducible assumption) | assumption)
                    have q30 : ((ji27) : Int) < ((x8_3.length : Int) : Int) := of_decide_eq_true (by first | (with_reducible assumption) | assumption)
                    obtain ⟨go30, co30, eo30, gb30, gl30, cl30, HG30⟩ := Kd.R_form HO_8.out (by omega)
                    (first | cases eo30 | (injection eo30 with ea_ en_ ec_; (first | subst ea_ | (injection ea_ with ea_; subst ea_)); subst ec_; clear en_))
                    have GB30 := Aside0.mk gb30
                    have GG30 := Aside0.mk HG30
                    clear gb30 gl30 HG30
                    obtain ⟨hx30_0, hf30_0⟩ := Kd.R_celln 0 HO_8.out ((ji27) : Int) p30 q30
                    replace p30 := eq_true p30
                    replace q30 := eq_true q30
                    have HP31 := Kd.R_putg HO_8.out ((ji27) : Int) x11_4
                    go_wp2_with ((with_reducible refine gate_store (t := 2) (p := 82) rfl ?_); refine store_event (t := 2) (p := 82) (v := ?vo_w32) (w1 := (wr.setCell ⟨go30, ((ji27) : Int).toNat, none⟩ (.int .i64 x11_4))) ?hg ?ho ?hn ?hr ?_; (case ho => rfl); (case hg => rfl); (case hn => rfl); (case hr => first | (go_simp; done) | (go_simp; rfl)); intro w32 hw; have hg : wr.grownBy w32 (some go30) := (by rw [hw]; exact HP31.2); have hp_ : Kd.R (Kd.int .i64) 2 w32 w.heap.size (fun k_ => some k_ ≠ (.slice (some ad170) x6_1.length co16 : Value).ownBlock) (.slice (some ⟨go30, 0, none⟩) x8_3.length co30) y174 := (by rw [hw, Ny174.out]; exact HP31.1); clear HP31; replace HO_6 := Aside0.mk (Kd.R_after (v := (.slice (some ⟨go30, 0, none⟩) x8_3.length co30)) (v1 := (.slice (some ⟨go30, 0, none⟩) x8_3.length co30)) (ok := (fun _ => True)) (by (with_reducible repeat (first | apply Kd.R_alloc | apply Kd.R_drewN | apply Kd.R_drew)); exact Kd.R_mono HO_6.out (fun _ hk => ⟨trivial, hk⟩)) hg (.inl rfl)); replace HO_8 := Aside0.mk (hp_); replace HB := Aside0.mk ((by rw [hw]; exact below_set (HB.out) GB30.out : Below w.heap.size w w32)); clear hg hw hp_)
                    go_roundg k4
                    case measure => have := HK1.out; have := HK2.out; have := HK3.out; have := HK4.out; omega
                    case rel => exact ⟨(y174), (wrap64 (x10_3 + 1)), (by first | rfl | (simp; done) | (simp [*]; done)), H', ⟨by have := HK1.out; have := HK2.out; have := HK3.out; have := HK4.out; omega⟩, ⟨by (with_reducible repeat (first | apply Kd.R_alloc | apply Kd.R_drewN | apply Kd.R_drew)); exact Kd.R_mono HO_6.out (fun _ hk => hk.2)⟩, ⟨vR HO_8.out⟩, ⟨vW HB.out⟩⟩
                   ·
                    rw [if_neg c29] at H
                    exact absurd H (by simp)
                  ·
                   rw [if_neg c28] at H
                   exact absurd H (by simp)
              ·
               rw [if_neg c15] at H
               exact absurd H (by simp)
             ·
              rw [if_neg c14] at H
              exact absurd H (by simp)
            ·
             rw [if_neg c12] at H
             have c12b0 : decide (x10_3 < a1) = false := decide_eq_false c12
             clear c12
             obtain ⟨ji33, hji33⟩ : ∃ j_ : Int, (wrap64 ((wrap64 (x9_2 * a1)) + x9_2)) = j_ := ⟨_, rfl⟩
             replace H : (if 0 ≤ (ji33) then (if (ji33) < (x8_3.length : Int) then (if (rd x8_3 (ji33)) < 0 then (some (([] : List Int), false)) else (gimbalref11_Tight.l1 k3 a1 x6_1 x7_1 x8_3 (wrap64 (x9_2 + 1)))) else (none)) else (none)) = some (r1, r2) := by first | (rw [hji33] at H; exact H) | (simp only [hji33] at H ⊢; exact H)
             have hji33w : (IntKind.i64.wrap ((wrap64 (x9_2 * a1)) + x9_2)) = ji33 := (i64_w _).trans hji33
             by_cases c34 : 0 ≤ (ji33)
             ·
              rw [if_pos c34] at H
              have c34b0 : decide (0 ≤ (ji33)) = true := decide_eq_true c34
              clear c34
              by_cases c35 : (ji33) < (x8_3.length : Int)
              ·
               rw [if_pos c35] at H
               have c35b0 : decide ((ji33) < (x8_3.length : Int)) = true := decide_eq_true c35
               clear c35
               by_cases c36 : (rd x8_3 (ji33)) < 0
               ·
                rw [if_pos c36] at H
                have c36b0 : decide ((rd x8_3 (ji33)) < 0) = true := decide_eq_true c36
                clear c36
                simp only [Option.some.injEq, Prod.mk.injEq] at H
                obtain ⟨rfl, rfl⟩ := H
                obtain ⟨Ao37, co37, eo37⟩ := Kd.R_slice HO_8.out
                subst eo37
                have p169 : 0 ≤ ((ji33) : Int) := of_decide_eq_true (by first | (with_reducible assumption) | assumption)
                have q169 : (ji33) < (x8_3.length : Int) := of_decide_eq_true (by first | (with_reducible assumption) | assumption)
                obtain ⟨ad169, e169, hx169_0⟩ := Kd.at_int (Kd.R_reads' HO_8.out).2.2 (ji33) p169 q169
                cases e169
                replace p169 := eq_true p169
                replace q169 := eq_true q169
                go_wp2
                go_ret2
                exact ⟨_, by first | rfl | (simp [errW_none, errW_some] <;> rfl) | (simp only [← hji6, ← hji33]; first | rfl | (simp [errW_none, errW_some] <;> rfl)) | (simp [*, errW_none, errW_some] <;> rfl) | (simp [wrap64]; done), by first | exact Kd.R_nil _ _ _ _ _ | exact Kd.N_nil _ _ _ _ _ | exact Kd.V_nil _ _ _ _ _ | exact Kd.Q_nil _ _ _ _ _ | exact Kd.S_nil _ _ _ _ _, vW HB.out⟩
               ·
                rw [if_neg c36] at H
                have c36b0 : decide ((rd x8_3 (ji33)) < 0) = false := decide_eq_false c36
                clear c36
                have H' := Aside0.mk H
                clear H
                obtain ⟨Ao38, co38, eo38⟩ := Kd.R_slice HO_8.out
                subst eo38
                have p169 : 0 ≤ ((ji33) : Int) := of_decide_eq_true (by first | (with_reducible assumption) | assumption)
                have q169 : (ji33) < (x8_3.length : Int) := of_decide_eq_true (by first | (with_reducible assumption) | assumption)
                obtain ⟨ad169, e169, hx169_0⟩ := Kd.at_int (Kd.R_reads' HO_8.out).2.2 (ji33) p169 q169
                cases e169
                replace p169 := eq_true p169
                replace q169 := eq_true q169
                go_wp2
                go_roundg k3
                case measure => have := HK1.out; have := HK2.out; have := HK3.out; omega
                case rel => exact ⟨(x8_3), (wrap64 (x9_2 + 1)), (by first | rfl | (simp; done) | (simp [*]; done)), H', ⟨by have := HK1.out; have := HK2.out; have := HK3.out; omega⟩, ⟨vR HO_6.out⟩, ⟨vR HO_8.out⟩, ⟨vW HB.out⟩⟩
              ·
               rw [if_neg c35] at H
               exact absurd H (by simp)
             ·
              rw [if_neg c34] at H
              exact absurd H (by simp)
         ·
          rw [if_neg c11] at H
          have c11b0 : decide (x9_2 < a1) = false := decide_eq_false c11
          clear c11
          have H' := Aside0.mk H
          clear H
          go_wp2
          go_roundg k2
          case measure => have := HK1.out; have := HK2.out; omega
          case rel => exact ⟨(x8_2), (wrap64 (2 * x7_1)), (by first | rfl | (simp; done) | (simp [*]; done)), H', ⟨by have := HK1.out; have := HK2.out; omega⟩, ⟨by (with_reducible repeat (first | apply Kd.R_alloc | apply Kd.R_drewN | apply Kd.R_drew)); exact Kd.R_mono HO_8.out (fun _ hk => trivial)⟩, ⟨vW HB.out⟩⟩
      ·
       rw [if_neg c8] at H
       exact absurd H (by simp)
     ·
      rw [if_neg c7] at H
      exact absurd H (by simp)
    ·
     rw [if_neg c5] at H
     have c5b0 : decide (x7_1 ≤ (wrap64 (2 * a1))) = false := decide_eq_false c5
     clear c5
     have H' := Aside0.mk H
     clear H
     go_wp2
     go_loopg [13] k1 (fun kq v13 w' => ∃ (x6_2 : List Int) (x13_2 : Int), v13 = .int .i64 x13_2 ∧ Aside0 (gimbalref11_Tight.l4 kq a1 x6_2 x13_2 = some (r1, r2)) ∧ Aside0 (kq ≤ k1) ∧ Aside0 (Kd.R (Kd.int .i64) 2 w' w.heap.size (fun _ => True) u6 x6_2) ∧ Aside0 (Below w.heap.size w w'))
     case atStart => exact ⟨(x6_1), (0), (by first | rfl | (simp; done) | (simp [*]; done)), H', ⟨Nat.le_refl _⟩, ⟨vR HO_6.out⟩, ⟨vW HB.out⟩⟩
     case round =>
      clear H'
      try clear c5b0
      obtain ⟨x6_2, x13_2, rfl, HA, HK2, HO_6, HB⟩ := hrel
      cases gk with
      | zero => exact absurd HA.out (by simp [gimbalref11_Tight.l4])
      | succ k2 =>
       have H := HA.out
       clear HA
       simp only [gimbalref11_Tight.l4] at H
       by_cases c39 : x13_2 < a1
       ·
        rw [if_pos c39] at H
        have c39b0 : decide (x13_2 < a1) = true := decide_eq_true c39
        clear c39
        replace H := Option.bind_eq_some_iff.mp H
        obtain ⟨t175, A400, H⟩ := H
        replace H : (if 0 ≤ (wrap64 ((wrap64 (x13_2 * a1)) + t175)) then (if (wrap64 ((wrap64 (x13_2 * a1)) + t175)) < (x6_2.length : Int) then (if (rd x6_2 (wrap64 ((wrap64 (x13_2 * a1)) + t175))) = 4611686018427387904 then (gimbalref11_Tight.l4 k2 a1 x6_2 (wrap64 (x13_2 + 1))) else ((gimbalref11_halved.f (rd x6_2 (wrap64 ((wrap64 (x13_2 * a1)) + t175)))).bind fun t178 => (gimbalref11_Tight.l4 k2 a1 (x6_2.set ((wrap64 ((wrap64 (x13_2 * a1)) + t175)) : Int).toNat (wrap64 (2 * t178))) (wrap64 (x13_2 + 1))))) else (none)) else (none)) = some (r1, r2) := H
        have A40 := Aside0.mk A400
        clear A400
        obtain ⟨ji41, hji41⟩ : ∃ j_ : Int, (wrap64 ((wrap64 (x13_2 * a1)) + t175)) = j_ := ⟨_, rfl⟩
        replace H : (if 0 ≤ (ji41) then (if (ji41) < (x6_2.length : Int) then (if (rd x6_2 (ji41)) = 4611686018427387904 then (gimbalref11_Tight.l4 k2 a1 x6_2 (wrap64 (x13_2 + 1))) else ((gimbalref11_halved.f (rd x6_2 (ji41))).bind fun t178 => (gimbalref11_Tight.l4 k2 a1 (x6_2.set ((ji41) : Int).toNat (wrap64 (2 * t178))) (wrap64 (x13_2 + 1))))) else (none)) else (none)) = some (r1, r2) := by first | (rw [hji41] at H; exact H) | (simp only [hji41] at H ⊢; exact H)
        (try rw [hji41] at A40)
        have hji41w : (IntKind.i64.wrap ((wrap64 (x13_2 * a1)) + t175)) = ji41 := (i64_w _).trans hji41
        by_cases c42 : 0 ≤ (ji41)
        ·
         rw [if_pos c42] at H
         have c42b0 : decide (0 ≤ (ji41)) = true := decide_eq_true c42
         clear c42
         by_cases c43 : (ji41) < (x6_2.length : Int)
         ·
          rw [if_pos c43] at H
          have c43b0 : decide ((ji41) < (x6_2.length : Int)) = true := decide_eq_true c43
          clear c43
          by_cases c44 : (rd x6_2 (ji41)) = 4611686018427387904
          ·
           rw [if_pos c44] at H
           have c44b0 : ((rd x6_2 (ji41)) == 4611686018427387904) = true := beq_iff_eq.mpr c44
           have c44b1 : ((rd x6_2 (ji41)) != 4611686018427387904) = false := bne_eq_false_iff_eq.mpr c44
           clear c44
           have H' := Aside0.mk H
           clear H
           go_wp2_with ((with_reducible refine gate_callee (f := 53) rfl ?_); refine goesL_ (some 102) rfl rfl Try.func53 (by kernel_rfl) rfl #[.int .i64 x13_2] rfl vL ?_; (with_reducible refine (gimbalref11_bar.calls x13_2 t175 _ A40.out).mono ?_); rintro e w' ⟨rfl, ⟨nd, rfl⟩⟩; refine ⟨_, rfl, ?_⟩; obtain ⟨Ao45, co45, eo45⟩ := Kd.R_slice HO_6.out; subst eo45; have p176 : 0 ≤ ((ji41) : Int) := of_decide_eq_true (by first | (with_reducible assumption) | assumption); have q176 : (ji41) < (x6_2.length : Int) := of_decide_eq_true (by first | (with_reducible assumption) | assumption); obtain ⟨ad176, e176, hx176_0⟩ := Kd.at_int (Kd.R_reads' HO_6.out).2.2 (ji41) p176 q176; cases e176; replace p176 := eq_true p176; replace q176 := eq_true q176)
           go_roundg k2
           case measure => have := HK1.out; have := HK2.out; omega
           case rel => exact ⟨(x6_2), (wrap64 (x13_2 + 1)), (by first | rfl | (simp; done) | (simp [*]; done)), H', ⟨by have := HK1.out; have := HK2.out; omega⟩, ⟨vR HO_6.out⟩, ⟨vW HB.out⟩⟩
          ·
           rw [if_neg c44] at H
           have c44b0 : ((rd x6_2 (ji41)) == 4611686018427387904) = false := beq_eq_false_iff_ne.mpr c44
           have c44b1 : ((rd x6_2 (ji41)) != 4611686018427387904) = true := bne_iff_ne.mpr c44
           replace H := Option.bind_eq_some_iff.mp H
           obtain ⟨t178, A460, H⟩ := H
           replace H : (gimbalref11_Tight.l4 k2 a1 (x6_2.set ((ji41) : Int).toNat (wrap64 (2 * t178))) (wrap64 (x13_2 + 1))) = some (r1, r2) := H
           have A46 := Aside0.mk A460
           clear A460
           obtain ⟨y179, hy179⟩ : ∃ y_ : List Int, y_ = (x6_2.set ((ji41) : Int).toNat (wrap64 (2 * t178))) := ⟨_, rfl⟩
           replace H : (gimbalref11_Tight.l4 k2 a1 y179 (wrap64 (x13_2 + 1))) = some (r1, r2) := by first | (rw [hy179]; with_reducible exact H) | (have H2_ := (Option.bind_some _ _).symm.trans H; rw [hy179]; with_reducible exact H2_) | (have H2_ := (Option.bind_some _ _).symm.trans H; with_reducible exact H2_) | with_reducible exact H | (rw [hy179]; exact H) | exact H
           have Ny179 := Aside0.mk hy179
           clear hy179
           have H' := Aside0.mk H
           clear H
           go_wp2_with (first | ((with_reducible refine gate_callee (f := 53) rfl ?_); refine goesL_ (some 102) rfl rfl Try.func53 (by kernel_rfl) rfl #[.int .i64 x13_2] rfl vL ?_; (with_reducible refine (gimbalref11_bar.calls x13_2 t175 _ A40.out).mono ?_); rintro e w' ⟨rfl, ⟨nd, rfl⟩⟩; refine ⟨_, rfl, ?_⟩; (try (rw [drewN_self wr]; generalize hq_ : World.drewN wr _ = wr; have n0_ : Aside0 (Kd.R (Kd.int .i64) 2 wr w.heap.size (fun _ => True) u6 x6_2) := ⟨by rw [← hq_]; exact (vR HO_6.out)⟩; have n1_ : Aside0 (Below w.heap.size w wr) := ⟨by rw [← hq_]; exact (vW HB.out)⟩; clear HO_6 HB hq_; have HO_6 := n0_; have HB := n1_; clear n0_ n1_)); obtain ⟨Ao48, co48, eo48⟩ := Kd.R_slice HO_6.out; subst eo48; have p176 : 0 ≤ ((ji41) : Int) := of_decide_eq_true (by first | (with_reducible assumption) | assumption); have q176 : (ji41) < (x6_2.length : Int) := of_decide_eq_true (by first | (with_reducible assumption) | assumption); obtain ⟨ad176, e176, hx176_0⟩ := Kd.at_int (Kd.R_reads' HO_6.out).2.2 (ji41) p176 q176; cases e176; replace p176 := eq_true p176; replace q176 := eq_true q176; have p177 : 0 ≤ ((ji41) : Int) := of_decide_eq_true (by first | (with_reducible assumption) | assumption); have q177 : (ji41) < (x6_2.length : Int) := of_decide_eq_true (by first | (with_reducible assumption) | assumption); obtain ⟨ad177, e177, hx177_0⟩ := Kd.at_int (Kd.R_reads' HO_6.out).2.2 (ji41) p177 q177; obtain rfl : ad176 = ad177 := (by injection e177); replace p177 := eq_true p177; replace q177 := eq_true q177) | ((with_reducible refine gate_callee (f := 85) rfl ?_); refine goesL_ (some 115) rfl rfl Try.func85 (by kernel_rfl) rfl #[.int .i64 (rd x6_2 (ji41))] rfl (by (try simp only [List.map_toArray, List.map_cons, List.map_nil]); first | done | (simp only [hji41]; rfl) | rfl | (simp only [List.length_drop, List.length_take]; rfl)) ?_; (with_reducible refine (gimbalref11_halved.calls (rd x6_2 (ji41)) t178 _ A46.out).mono ?_); rintro e w' ⟨rfl, ⟨nd, rfl⟩⟩; refine ⟨_, rfl, ?_⟩; (try (rw [drewN_self wr]; generalize hq_ : World.drewN wr _ = wr; have n0_ : Aside0 (Kd.R (Kd.int .i64) 2 wr w.heap.size (fun _ => True) (.slice (some ad176) x6_2.length co48) x6_2) := ⟨by rw [← hq_]; exact (vR HO_6.out)⟩; have n1_ : Aside0 (Below w.heap.size w wr) := ⟨by rw [← hq_]; exact (vW HB.out)⟩; clear HO_6 HB hq_; have HO_6 := n0_; have HB := n1_; clear n0_ n1_)); have p47 : 0 ≤ ((ji41) : Int) := of_decide_eq_true (by first | (with_reducible assumption) | assumption); have q47 : ((ji41) : Int) < ((x6_2.length : Int) : Int) := of_decide_eq_true (by first | (with_reducible assumption) | assumption); obtain ⟨go47, co47, eo47, gb47, gl47, cl47, HG47⟩ := Kd.R_form HO_6.out (by omega); (first | cases eo47 | (injection eo47 with ea_ en_ ec_; (first | subst ea_ | (injection ea_ with ea_; subst ea_)); subst ec_; clear en_)); have GB47 := Aside0.mk gb47; have GG47 := Aside0.mk HG47; clear gb47 gl47 HG47; (first | simp only [add_plain] at hx176_0 | skip); (first | simp only [add_plain] at hx177_0 | skip); obtain ⟨hx47_0, hf47_0⟩ := Kd.R_celln 0 HO_6.out ((ji41) : Int) p47 q47; replace p47 := eq_true p47; replace q47 := eq_true q47; obtain ⟨hy49_, hz49_⟩ := Kd.R_celln 0 HO_6.out ((ji41) : Int) (of_decide_eq_true (by first | (with_reducible assumption) | assumption)) (of_decide_eq_true (by first | (with_reducible assumption) | assumption)); have HP49 := Kd.R_putg HO_6.out ((ji41) : Int) (wrap64 (2 * t178))) | ((with_reducible refine gate_store (t := 2) (p := 117) rfl ?_); refine store_event (t := 2) (p := 117) (v := ?vo_w50) (w1 := (wr.setCell ⟨go47, ((ji41) : Int).toNat, none⟩ (.int .i64 (wrap64 (2 * t178))))) ?hg ?ho ?hn ?hr ?_; (case ho => rfl); (case hg => rfl); (case hn => rfl); (case hr => first | (go_simp; done) | (go_simp; rfl)); intro w50 hw; have hg : wr.grownBy w50 (some go47) := (by rw [hw]; exact HP49.2); have hp_ : Kd.R (Kd.int .i64) 2 w50 w.heap.size (fun _ => True) (.slice (some ⟨go47, 0, none⟩) x6_2.length co48) y179 := (by rw [hw, Ny179.out]; exact HP49.1); clear HP49; replace HO_6 := Aside0.mk (hp_); replace HB := Aside0.mk ((by rw [hw]; exact below_set (HB.out) GB47.out : Below w.heap.size w w50)); clear hg hw hp_))
           go_roundg k2
           case measure => have := HK1.out; have := HK2.out; omega
           case rel => exact ⟨(y179), (wrap64 (x13_2 + 1)), (by first | rfl | (simp; done) | (simp [*]; done)), H', ⟨by have := HK1.out; have := HK2.out; omega⟩, ⟨vR HO_6.out⟩, ⟨vW HB.out⟩⟩
         ·
          rw [if_neg c43] at H
          exact absurd H (by simp)
        ·
         rw [if_neg c42] at H
         exact absurd H (by simp)
       ·
        rw [if_neg c39] at H
        have c39b0 : decide (x13_2 < a1) = false := decide_eq_false c39
        clear c39
        have H' := Aside0.mk H
        clear H
        go_wp2
        go_loopg [15] k2 (fun kq v15 w' => ∃ (x15_3 : Int), v15 = .int .i64 x15_3 ∧ Aside0 (gimbalref11_Tight.l5 kq a1 x6_2 x15_3 = some (r1, r2)) ∧ Aside0 (kq ≤ k2) ∧ Aside0 (Kd.R (Kd.int .i64) 2 w' w.heap.size (fun _ => True) u6 x6_2) ∧ Aside0 (Below w.heap.size w w'))
        case atStart => exact ⟨(0), (by first | rfl | (simp; done) | (simp [*]; done)), H', ⟨Nat.le_refl _⟩, ⟨vR HO_6.out⟩, ⟨vW HB.out⟩⟩
        case round =>
         clear H'
         try clear c39b0
         obtain ⟨x15_3, rfl, HA, HK3, HO_6, HB⟩ := hrel
         cases gk with
         | zero => exact absurd HA.out (by simp [gimbalref11_Tight.l5])
         | succ k3 =>
          have H := HA.out
          clear HA
          simp only [gimbalref11_Tight.l5] at H
          by_cases c51 : x15_3 < a1
          ·
           rw [if_pos c51] at H
           have c51b0 : decide (x15_3 < a1) = true := decide_eq_true c51
           clear c51
           replace H := Option.bind_eq_some_iff.mp H
           obtain ⟨t180, A520, H⟩ := H
           replace H : (if 0 ≤ (wrap64 ((wrap64 (x15_3 * a1)) + t180)) then (if (wrap64 ((wrap64 (x15_3 * a1)) + t180)) < (x6_2.length : Int) then ((gimbalref11_bar.f x15_3).bind fun t182 => (if 0 ≤ (wrap64 ((wrap64 (t182 * a1)) + x15_3)) then (if (wrap64 ((wrap64 (t182 * a1)) + x15_3)) < (x6_2.length : Int) then ((gimbalref11_plus.f (rd x6_2 (wrap64 ((wrap64 (x15_3 * a1)) + t180))) (rd x6_2 (wrap64 ((wrap64 (t182 * a1)) + x15_3)))).bind fun t184 => (if t184 < 0 then (some (([] : List Int), false)) else (gimbalref11_Tight.l5 k3 a1 x6_2 (wrap64 (x15_3 + 1))))) else (none)) else (none))) else (none)) else (none)) = some (r1, r2) := H
           have A52 := Aside0.mk A520
           clear A520
           obtain ⟨ji53, hji53⟩ : ∃ j_ : Int, (wrap64 ((wrap64 (x15_3 * a1)) + t180)) = j_ := ⟨_, rfl⟩
           replace H : (if 0 ≤ (ji53) then (if (ji53) < (x6_2.length : Int) then ((gimbalref11_bar.f x15_3).bind fun t182 => (if 0 ≤ (wrap64 ((wrap64 (t182 * a1)) + x15_3)) then (if (wrap64 ((wrap64 (t182 * a1)) + x15_3)) < (x6_2.length : Int) then ((gimbalref11_plus.f (rd x6_2 (ji53)) (rd x6_2 (wrap64 ((wrap64 (t182 * a1)) + x15_3)))).bind fun t184 => (if t184 < 0 then (some (([] : List Int), false)) else (gimbalref11_Tight.l5 k3 a1 x6_2 (wrap64 (x15_3 + 1))))) else (none)) else (none))) else (none)) else (none)) = some (r1, r2) := by first | (rw [hji53] at H; exact H) | (simp only [hji53] at H ⊢; exact H)
           (try rw [hji53] at A52)
           have hji53w : (IntKind.i64.wrap ((wrap64 (x15_3 * a1)) + t180)) = ji53 := (i64_w _).trans hji53
           by_cases c54 : 0 ≤ (ji53)
           ·
            rw [if_pos c54] at H
            have c54b0 : decide (0 ≤ (ji53)) = true := decide_eq_true c54
            clear c54
            by_cases c55 : (ji53) < (x6_2.length : Int)
            ·
             rw [if_pos c55] at H
             have c55b0 : decide ((ji53) < (x6_2.length : Int)) = true := decide_eq_true c55
             clear c55
             replace H := Option.bind_eq_some_iff.mp H
             obtain ⟨t182, A560, H⟩ := H
             replace H : (if 0 ≤ (wrap64 ((wrap64 (t182 * a1)) + x15_3)) then (if (wrap64 ((wrap64 (t182 * a1)) + x15_3)) < (x6_2.length : Int) then ((gimbalref11_plus.f (rd x6_2 (ji53)) (rd x6_2 (wrap64 ((wrap64 (t182 * a1)) + x15_3)))).bind fun t184 => (if t184 < 0 then (some (([] : List Int), false)) else (gimbalref11_Tight.l5 k3 a1 x6_2 (wrap64 (x15_3 + 1))))) else (none)) else (none)) = some (r1, r2) := H
             have A56 := Aside0.mk A560
             clear A560
             obtain ⟨ji57, hji57⟩ : ∃ j_ : Int, (wrap64 ((wrap64 (t182 * a1)) + x15_3)) = j_ := ⟨_, rfl⟩
             replace H : (if 0 ≤ (ji57) then (if (ji57) < (x6_2.length : Int) then ((gimbalref11_plus.f (rd x6_2 (ji53)) (rd x6_2 (ji57))).bind fun t184 => (if t184 < 0 then (some (([] : List Int), false)) else (gimbalref11_Tight.l5 k3 a1 x6_2 (wrap64 (x15_3 + 1))))) else (none)) else (none)) = some (r1, r2) := by first | (rw [hji57] at H; exact H) | (simp only [hji57] at H ⊢; exact H)
             (try rw [hji57] at A52)
             (try rw [hji57] at A56)
             have hji57w : (IntKind.i64.wrap ((wrap64 (t182 * a1)) + x15_3)) = ji57 := (i64_w _).trans hji57
             by_cases c58 : 0 ≤ (ji57)
             ·
              rw [if_pos c58] at H
              have c58b0 : decide (0 ≤ (ji57)) = true := decide_eq_true c58
              clear c58
              by_cases c59 : (ji57) < (x6_2.length : Int)
              ·
               rw [if_pos c59] at H
               have c59b0 : decide ((ji57) < (x6_2.length : Int)) = true := decide_eq_true c59
               clear c59
               replace H := Option.bind_eq_some_iff.mp H
               obtain ⟨t184, A600, H⟩ := H
               replace H : (if t184 < 0 then (some (([] : List Int), false)) else (gimbalref11_Tight.l5 k3 a1 x6_2 (wrap64 (x15_3 + 1)))) = some (r1, r2) := H
               have A60 := Aside0.mk A600
               clear A600
               by_cases c61 : t184 < 0
               ·
                rw [if_pos c61] at H
                have c61b0 : decide (t184 < 0) = true := decide_eq_true c61
                clear c61
                simp only [Option.some.injEq, Prod.mk.injEq] at H
                obtain ⟨rfl, rfl⟩ := H
                try go_wp2
                replace HO_6 := Aside0.mk (Kd.R_drew HO_6.out)
                replace HB := Aside0.mk (below_drew1 HB.out)
                have p181 : 0 ≤ ((ji53) : Int) := of_decide_eq_true (by first | (with_reducible assumption) | assumption)
                have q181 : (ji53) < (x6_2.length : Int) := of_decide_eq_true (by first | (with_reducible assumption) | assumption)
                (try (obtain ⟨AoZ, coZ, eoZ⟩ := Kd.R_slice HO_6.out; subst eoZ))
                obtain ⟨ad181, e181, hx181_0⟩ := Kd.at_int (Kd.R_reads' HO_6.out).2.2 (ji53) p181 q181
                cases e181
                replace p181 := eq_true p181
                replace q181 := eq_true q181
                have p183 : 0 ≤ ((ji57) : Int) := of_decide_eq_true (by first | (with_reducible assumption) | assumption)
                have q183 : (ji57) < (x6_2.length : Int) := of_decide_eq_true (by first | (with_reducible assumption) | assumption)
                (try (obtain ⟨AoZ, coZ, eoZ⟩ := Kd.R_slice HO_6.out; subst eoZ))
                obtain ⟨ad183, e183, hx183_0⟩ := Kd.at_int (Kd.R_reads' HO_6.out).2.2 (ji57) p183 q183
                obtain rfl : ad181 = ad183 := (by injection e183)
                replace p183 := eq_true p183
                replace q183 := eq_true q183
                refine start_ (n := 20) (S := fun w' => w'.cell? (ad181.add ((ji53)).toNat) = some (.int .i64 (rd x6_2 (ji53))) ∧ w'.cell? (ad181.add ((ji57)).toNat) = some (.int .i64 (rd x6_2 (ji57)))) (ds := []) (mB 20 0) (by kernel_rfl) rfl rfl ⟨hx181_0, hx183_0⟩ (fun hHeld => ?_); refine with_tabW gimbalref11_Tight.tab31 gimbalref11_Tight.bits31 (fun HT_ HW_ => ?_)
                generalize wr.drew = w62 at HO_6 HB hx181_0 hx183_0 hHeld ⊢
                refine pV_ 0 123 (mB 20 1) HT_ ?_
                refine pV_ 1 124 (mB 20 3) HT_ ?_
                refine pV_ 2 125 (mB 20 7) HT_ ?_
                refine pV_ 3 126 (mB 20 15) HT_ ?_
                refine pV_ 4 127 (mB 20 31) HT_ ?_
                refine pV_ 9 132 (mB 20 543) HT_ ?_
                refine pV_ 10 133 (mB 20 1567) HT_ ?_
                refine pV_ 12 135 (mB 20 5663) HT_ ?_
                refine pV_ 14 137 (mB 20 22047) HT_ ?_
                refine one_ (i := 5) (N := some 128) (mB 20 22079) rfl rfl (one_of HT_.out (by kernel_rfl)) (by decide) (fun K hK => ?_)
                refine goes_ Try.func53 (by kernel_rfl) rfl #[.int .i64 x15_3] (by rfl) rfl rfl vL ?_
                with_reducible refine (gimbalref11_bar.calls x15_3 t180 _ A52.out).mono ?_
                rintro e w' ⟨rfl, ⟨nd, rfl⟩⟩
                refine ⟨_, rfl, ?_⟩
                obtain ⟨Ao63, co63, eo63⟩ := Kd.R_slice HO_6.out
                (first | subst eo63 | (injection eo63 with f1_ f2_ f3_; have f4_ := f1_.symm; have f5_ := f3_.symm; clear f1_ f2_ f3_; subst f4_; subst f5_))
                refine hK.out _ _ ⟨hHeld.1, hHeld.2⟩ (fun hHeld => ?_)
                clear hK K
                refine norm_ (a' := ?_) ?_ ?_
                rotate_left
                ·
                 show Act.put _ (some 128) _ = _
                 simp only [Act.put, List.setIfInBounds_toArray, List.set_cons_zero, List.set_cons_succ, i64_w, i32_w]
                 rfl
                refine pV_ 6 129 (mB 20 22143) HT_ ?_
                refine pV_ 7 130 (mB 20 22271) HT_ ?_
                refine tV_ 8 131 (mB 20 22527) HT_ HW_ hHeld ?_
                refine one_ (i := 11) (N := some 134) (mB 20 24575) rfl rfl (one_of HT_.out (by kernel_rfl)) (by decide) (fun K hK => ?_)
                refine goes_ Try.func53 (by kernel_rfl) rfl #[.int .i64 x15_3] (by rfl) rfl rfl vL ?_
                with_reducible refine (gimbalref11_bar.calls x15_3 t182 _ A56.out).mono ?_
                rintro e w' ⟨rfl, ⟨nd, rfl⟩⟩
                refine ⟨_, rfl, ?_⟩
                refine hK.out _ _ ⟨hHeld.1, hHeld.2⟩ (fun hHeld => ?_)
                clear hK K
                refine norm_ (a' := ?_) ?_ ?_
                rotate_left
                ·
                 show Act.put _ (some 134) _ = _
                 simp only [Act.put, List.setIfInBounds_toArray, List.set_cons_zero, List.set_cons_succ, i64_w, i32_w]
                 rfl
                refine pV_ 13 136 (mB 20 32767) HT_ ?_
                refine pV_ 15 138 (mB 20 65535) HT_ ?_
                refine pV_ 16 139 (mB 20 131071) HT_ ?_
                refine tV_ 17 140 (mB 20 262143) HT_ HW_ hHeld ?_
                refine one_ (i := 18) (N := some 141) (mB 20 524287) rfl rfl (one_of HT_.out (by kernel_rfl)) (by decide) (fun K hK => ?_)
                refine goes_ Try.func84 (by kernel_rfl) rfl #[.int .i64 (rd x6_2 (ji53)), .int .i64 (rd x6_2 (ji57))] (by rfl) rfl rfl (by (try simp only [List.map_toArray, List.map_cons, List.map_nil]); first | done | (simp only [hji53, hji57]; rfl) | rfl | (simp only [List.length_drop, List.length_take]; rfl)) ?_
                with_reducible refine (gimbalref11_plus.calls (rd x6_2 (ji53)) (rd x6_2 (ji57)) t184 _ A60.out).mono ?_
                rintro e w' ⟨rfl, ⟨nd, rfl⟩⟩
                refine ⟨_, rfl, ?_⟩
                refine hK.out _ _ ⟨hHeld.1, hHeld.2⟩ (fun hHeld => ?_)
                clear hK K
                refine norm_ (a' := ?_) ?_ ?_
                rotate_left
                ·
                 show Act.put _ (some 141) _ = _
                 simp only [Act.put, List.setIfInBounds_toArray, List.set_cons_zero, List.set_cons_succ, i64_w, i32_w]
                 rfl
                refine pV_ 19 142 (mB 20 1048575) HT_ ?_
                refine done_ (done_of HT_.out (by kernel_rfl)) ?_
                try go_wp2
                go_ret2
                exact ⟨_, by first | rfl | (simp [errW_none, errW_some] <;> rfl) | (simp only [← hji53, ← hji57]; first | rfl | (simp [errW_none, errW_some] <;> rfl)) | (simp [*, errW_none, errW_some] <;> rfl) | (simp [wrap64]; done), by first | exact Kd.R_nil _ _ _ _ _ | exact Kd.N_nil _ _ _ _ _ | exact Kd.V_nil _ _ _ _ _ | exact Kd.Q_nil _ _ _ _ _ | exact Kd.S_nil _ _ _ _ _, vW HB.out⟩
               ·
                rw [if_neg c61] at H
                have c61b0 : decide (t184 < 0) = false := decide_eq_false c61
                clear c61
                have H' := Aside0.mk H
                clear H
                try go_wp2
                replace HO_6 := Aside0.mk (Kd.R_drew HO_6.out)
                replace HB := Aside0.mk (below_drew1 HB.out)
                have p181 : 0 ≤ ((ji53) : Int) := of_decide_eq_true (by first | (with_reducible assumption) | assumption)
                have q181 : (ji53) < (x6_2.length : Int) := of_decide_eq_true (by first | (with_reducible assumption) | assumption)
                (try (obtain ⟨AoZ, coZ, eoZ⟩ := Kd.R_slice HO_6.out; subst eoZ))
                obtain ⟨ad181, e181, hx181_0⟩ := Kd.at_int (Kd.R_reads' HO_6.out).2.2 (ji53) p181 q181
                cases e181
                replace p181 := eq_true p181
                replace q181 := eq_true q181
                have p183 : 0 ≤ ((ji57) : Int) := of_decide_eq_true (by first | (with_reducible assumption) | assumption)
                have q183 : (ji57) < (x6_2.length : Int) := of_decide_eq_true (by first | (with_reducible assumption) | assumption)
                (try (obtain ⟨AoZ, coZ, eoZ⟩ := Kd.R_slice HO_6.out; subst eoZ))
                obtain ⟨ad183, e183, hx183_0⟩ := Kd.at_int (Kd.R_reads' HO_6.out).2.2 (ji57) p183 q183
                obtain rfl : ad181 = ad183 := (by injection e183)
                replace p183 := eq_true p183
                replace q183 := eq_true q183
                refine start_ (n := 20) (S := fun w' => w'.cell? (ad181.add ((ji53)).toNat) = some (.int .i64 (rd x6_2 (ji53))) ∧ w'.cell? (ad181.add ((ji57)).toNat) = some (.int .i64 (rd x6_2 (ji57)))) (ds := []) (mB 20 0) (by kernel_rfl) rfl rfl ⟨hx181_0, hx183_0⟩ (fun hHeld => ?_); refine with_tabW gimbalref11_Tight.tab31 gimbalref11_Tight.bits31 (fun HT_ HW_ => ?_)
                generalize wr.drew = w64 at HO_6 HB hx181_0 hx183_0 hHeld ⊢
                refine pV_ 0 123 (mB 20 1) HT_ ?_
                refine pV_ 1 124 (mB 20 3) HT_ ?_
                refine pV_ 2 125 (mB 20 7) HT_ ?_
                refine pV_ 3 126 (mB 20 15) HT_ ?_
                refine pV_ 4 127 (mB 20 31) HT_ ?_
                refine pV_ 9 132 (mB 20 543) HT_ ?_
                refine pV_ 10 133 (mB 20 1567) HT_ ?_
                refine pV_ 12 135 (mB 20 5663) HT_ ?_
                refine pV_ 14 137 (mB 20 22047) HT_ ?_
                refine one_ (i := 5) (N := some 128) (mB 20 22079) rfl rfl (one_of HT_.out (by kernel_rfl)) (by decide) (fun K hK => ?_)
                refine goes_ Try.func53 (by kernel_rfl) rfl #[.int .i64 x15_3] (by rfl) rfl rfl vL ?_
                with_reducible refine (gimbalref11_bar.calls x15_3 t180 _ A52.out).mono ?_
                rintro e w' ⟨rfl, ⟨nd, rfl⟩⟩
                refine ⟨_, rfl, ?_⟩
                obtain ⟨Ao65, co65, eo65⟩ := Kd.R_slice HO_6.out
                (first | subst eo65 | (injection eo65 with f1_ f2_ f3_; have f4_ := f1_.symm; have f5_ := f3_.symm; clear f1_ f2_ f3_; subst f4_; subst f5_))
                refine hK.out _ _ ⟨hHeld.1, hHeld.2⟩ (fun hHeld => ?_)
                clear hK K
                refine norm_ (a' := ?_) ?_ ?_
                rotate_left
                ·
                 show Act.put _ (some 128) _ = _
                 simp only [Act.put, List.setIfInBounds_toArray, List.set_cons_zero, List.set_cons_succ, i64_w, i32_w]
                 rfl
                refine pV_ 6 129 (mB 20 22143) HT_ ?_
                refine pV_ 7 130 (mB 20 22271) HT_ ?_
                refine tV_ 8 131 (mB 20 22527) HT_ HW_ hHeld ?_
                refine one_ (i := 11) (N := some 134) (mB 20 24575) rfl rfl (one_of HT_.out (by kernel_rfl)) (by decide) (fun K hK => ?_)
                refine goes_ Try.func53 (by kernel_rfl) rfl #[.int .i64 x15_3] (by rfl) rfl rfl vL ?_
                with_reducible refine (gimbalref11_bar.calls x15_3 t182 _ A56.out).mono ?_
                rintro e w' ⟨rfl, ⟨nd, rfl⟩⟩
                refine ⟨_, rfl, ?_⟩
                refine hK.out _ _ ⟨hHeld.1, hHeld.2⟩ (fun hHeld => ?_)
                clear hK K
                refine norm_ (a' := ?_) ?_ ?_
                rotate_left
                ·
                 show Act.put _ (some 134) _ = _
                 simp only [Act.put, List.setIfInBounds_toArray, List.set_cons_zero, List.set_cons_succ, i64_w, i32_w]
                 rfl
                refine pV_ 13 136 (mB 20 32767) HT_ ?_
                refine pV_ 15 138 (mB 20 65535) HT_ ?_
                refine pV_ 16 139 (mB 20 131071) HT_ ?_
                refine tV_ 17 140 (mB 20 262143) HT_ HW_ hHeld ?_
                refine one_ (i := 18) (N := some 141) (mB 20 524287) rfl rfl (one_of HT_.out (by kernel_rfl)) (by decide) (fun K hK => ?_)
                refine goes_ Try.func84 (by kernel_rfl) rfl #[.int .i64 (rd x6_2 (ji53)), .int .i64 (rd x6_2 (ji57))] (by rfl) rfl rfl (by (try simp only [List.map_toArray, List.map_cons, List.map_nil]); first | done | (simp only [hji53, hji57]; rfl) | rfl | (simp only [List.length_drop, List.length_take]; rfl)) ?_
                with_reducible refine (gimbalref11_plus.calls (rd x6_2 (ji53)) (rd x6_2 (ji57)) t184 _ A60.out).mono ?_
                rintro e w' ⟨rfl, ⟨nd, rfl⟩⟩
                refine ⟨_, rfl, ?_⟩
                refine hK.out _ _ ⟨hHeld.1, hHeld.2⟩ (fun hHeld => ?_)
                clear hK K
                refine norm_ (a' := ?_) ?_ ?_
                rotate_left
                ·
                 show Act.put _ (some 141) _ = _
                 simp only [Act.put, List.setIfInBounds_toArray, List.set_cons_zero, List.set_cons_succ, i64_w, i32_w]
                 rfl
                refine pV_ 19 142 (mB 20 1048575) HT_ ?_
                refine done_ (done_of HT_.out (by kernel_rfl)) ?_
                try go_wp2
                go_roundg k3
                case measure => have := HK1.out; have := HK2.out; have := HK3.out; omega
                case rel => exact ⟨(wrap64 (x15_3 + 1)), (by first | rfl | (simp; done) | (simp [*]; done)), H', ⟨by have := HK1.out; have := HK2.out; have := HK3.out; omega⟩, ⟨vR HO_6.out⟩, ⟨vW HB.out⟩⟩
              ·
               rw [if_neg c59] at H
               exact absurd H (by simp)
             ·
              rw [if_neg c58] at H
              exact absurd H (by simp)
            ·
             rw [if_neg c55] at H
             exact absurd H (by simp)
           ·
            rw [if_neg c54] at H
            exact absurd H (by simp)
          ·
           rw [if_neg c51] at H
           have c51b0 : decide (x15_3 < a1) = false := decide_eq_false c51
           clear c51
           obtain ⟨ji66, hji66⟩ : ∃ j_ : Int, (wrap64 (a1 * a1)) = j_ := ⟨_, rfl⟩
           replace H : (if 0 ≤ (ji66) then (if (ji66 : Int).toNat ≤ 35184372088832 then (gimbalref11_Tight.l6 k3 a1 x6_2 (List.replicate (ji66 : Int).toNat 0) 0) else (none)) else (none)) = some (r1, r2) := by first | (rw [hji66] at H; exact H) | (simp only [hji66] at H ⊢; exact H)
           have hji66w : (IntKind.i64.wrap (a1 * a1)) = ji66 := (i64_w _).trans hji66
           by_cases c67 : 0 ≤ (ji66)
           ·
            rw [if_pos c67] at H
            have c67b0 := eq_true c67
            have c67b1 : decide (0 ≤ (ji66)) = true := decide_eq_true c67
            clear c67
            by_cases c68 : (ji66 : Int).toNat ≤ 35184372088832
            ·
             rw [if_pos c68] at H
             have c68b0 := eq_true c68
             have c68b1 : decide ((ji66 : Int).toNat ≤ 35184372088832) = true := decide_eq_true c68
             clear c68
             obtain ⟨y185, hy185⟩ : ∃ y_ : List Int, y_ = (List.replicate (ji66 : Int).toNat 0) := ⟨_, rfl⟩
             replace H : (gimbalref11_Tight.l6 k3 a1 x6_2 y185 0) = some (r1, r2) := by first | (rw [hy185]; with_reducible exact H) | (have H2_ := (Option.bind_some _ _).symm.trans H; rw [hy185]; with_reducible exact H2_) | (have H2_ := (Option.bind_some _ _).symm.trans H; with_reducible exact H2_) | with_reducible exact H | (rw [hy185]; exact H) | exact H
             have Ny185 := Aside0.mk hy185
             clear hy185
             have H' := Aside0.mk H
             clear H
             go_wp2_with ((with_reducible refine gate_dst (N := 146) rfl ?_); refine Kd.R_make (Kd.int .i64) _ 2 rfl (N := 146) rfl 23 _ _ rfl ji66 rfl rfl Try.underlying23 (.int .i64 0) 8 info2 rfl (by decide) (by omega) 0 (ok := fun _ => True) (okp := fun _ => True) rfl (fun _ hk => hk) trivial (of_decide_eq_true (by first | (with_reducible assumption) | assumption)) (Nat.le_trans (Nat.mul_le_mul_right _ (of_decide_eq_true (by first | (with_reducible assumption) | assumption) : ji66.toNat ≤ 35184372088832)) (by omega)) (Below.refl _ _) (Nat.le_refl _) ?_; intro v186 w69 ho70 hb hg_ hnew_; clear hg_ hnew_; (first | rw [← Ny185.out] at ho70 | (simp only [Int.reduceToNat] at ho70; rw [← Ny185.out] at ho70)); have HO187 := Aside0.mk (Kd.R_lower (Kd.R_new' ho70 (Kd.R_lt (vR HO_6.out))) (below_size (vW HB.out))); replace HO_6 := Aside0.mk (Kd.R_elder' (vR HO_6.out) (Kd.R_base ho70) hb); replace HB := vWs HB hb; clear hb ho70)
             go_loopg [17] k3 (fun kq v17 w' => ∃ (x16_4 : List Int) (x17_4 : Int), v17 = .int .i64 x17_4 ∧ Aside0 (gimbalref11_Tight.l6 kq a1 x6_2 x16_4 x17_4 = some (r1, r2)) ∧ Aside0 (kq ≤ k3) ∧ Aside0 (Kd.R (Kd.int .i64) 2 w' w.heap.size (fun k_ => some k_ ≠ (v186 : Value).ownBlock) u6 x6_2) ∧ Aside0 (Kd.R (Kd.int .i64) 2 w' w.heap.size (fun k_ => some k_ ≠ (u6 : Value).ownBlock) v186 x16_4) ∧ Aside0 (Below w.heap.size w w'))
             case atStart => exact ⟨(y185), (0), (by first | rfl | (simp; done) | (simp [*]; done)), H', ⟨Nat.le_refl _⟩, ⟨by (with_reducible repeat (first | apply Kd.R_alloc | apply Kd.R_drewN | apply Kd.R_drew)); exact Kd.R_mono HO_6.out (fun _ hk => hk.2)⟩, ⟨by (with_reducible repeat (first | apply Kd.R_alloc | apply Kd.R_drewN | apply Kd.R_drew)); exact Kd.R_mono HO187.out (fun _ hk => hk.2)⟩, ⟨vW HB.out⟩⟩
             case round =>
              clear H'
              try clear c51b0
              try clear c67b0
              try clear c67b1
              try clear c68b0
              try clear c68b1
              obtain ⟨x16_4, x17_4, rfl, HA, HK4, HO_6, HO_16, HB⟩ := hrel
              cases gk with
              | zero => exact absurd HA.out (by simp [gimbalref11_Tight.l6])
              | succ k4 =>
               have H := HA.out
               clear HA
               simp only [gimbalref11_Tight.l6] at H
               by_cases c71 : x17_4 < a1
               ·
                rw [if_pos c71] at H
                have c71b0 : decide (x17_4 < a1) = true := decide_eq_true c71
                clear c71
                have H' := Aside0.mk H
                clear H
                go_wp2
                go_loopg [18] k4 (fun kq v18 w' => ∃ (x16_5 : List Int) (x18_5 : Int), v18 = .int .i64 x18_5 ∧ Aside0 (gimbalref11_Tight.l7 kq a1 x6_2 x16_5 x17_4 x18_5 = some (r1, r2)) ∧ Aside0 (kq ≤ k4) ∧ Aside0 (Kd.R (Kd.int .i64) 2 w' w.heap.size (fun k_ => some k_ ≠ (v186 : Value).ownBlock) u6 x6_2) ∧ Aside0 (Kd.R (Kd.int .i64) 2 w' w.heap.size (fun k_ => some k_ ≠ (u6 : Value).ownBlock) v186 x16_5) ∧ Aside0 (Below w.heap.size w w'))
                case atStart => exact ⟨(x16_4), (0), (by first | rfl | (simp; done) | (simp [*]; done)), H', ⟨Nat.le_refl _⟩, ⟨vR HO_6.out⟩, ⟨vR HO_16.out⟩, ⟨vW HB.out⟩⟩
                case round =>
                 clear H'
                 try clear c71b0
                 obtain ⟨x16_5, x18_5, rfl, HA, HK5, HO_6, HO_16, HB⟩ := hrel
                 cases gk with
                 | zero => exact absurd HA.out (by simp [gimbalref11_Tight.l7])
                 | succ k5 =>
                  have H := HA.out
                  clear HA
                  simp only [gimbalref11_Tight.l7] at H
                  by_cases c72 : x18_5 < a1
                  ·
                   rw [if_pos c72] at H
                   have c72b0 : decide (x18_5 < a1) = true := decide_eq_true c72
                   clear c72
                   obtain ⟨ji73, hji73⟩ : ∃ j_ : Int, (wrap64 ((wrap64 (x17_4 * a1)) + x18_5)) = j_ := ⟨_, rfl⟩
                   replace H : (if 0 ≤ (ji73) then (if (ji73) < (x6_2.length : Int) then (if (ji73) < (x16_5.length : Int) then ((some (x16_5.set ((ji73) : Int).toNat (rd x6_2 (ji73)) : List Int)).bind fun y189 => ((gimbalref11_bar.f x17_4).bind fun t190 => (if 0 ≤ (wrap64 ((wrap64 (x17_4 * a1)) + t190)) then (if (wrap64 ((wrap64 (x17_4 * a1)) + t190)) < (x6_2.length : Int) then ((gimbalref11_bar.f x18_5).bind fun t192 => (if 0 ≤ (wrap64 ((wrap64 (t192 * a1)) + x18_5)) then (if (wrap64 ((wrap64 (t192 * a1)) + x18_5)) < (x6_2.length : Int) then ((gimbalref11_plus.f (rd x6_2 (wrap64 ((wrap64 (x17_4 * a1)) + t190))) (rd x6_2 (wrap64 ((wrap64 (t192 * a1)) + x18_5)))).bind fun t194 => (if t194 = 4611686018427387904 then (gimbalref11_Tight.l7 k5 a1 x6_2 y189 x17_4 (wrap64 (x18_5 + 1))) else ((gimbalref11_halved.f t194).bind fun t196 => (gimbalref11_Tight.l7 k5 a1 x6_2 (y189.set ((ji73) : Int).toNat (mn (rd y189 (ji73)) t196)) x17_4 (wrap64 (x18_5 + 1)))))) else (none)) else (none))) else (none)) else (none)))) else (none)) else (none)) else (none)) = some (r1, r2) := by first | (rw [hji73] at H; exact H) | (simp only [hji73] at H ⊢; exact H)
                   have hji73w : (IntKind.i64.wrap ((wrap64 (x17_4 * a1)) + x18_5)) = ji73 := (i64_w _).trans hji73
                   by_cases c74 : 0 ≤ (ji73)
                   ·
                    rw [if_pos c74] at H
                    have c74b0 : decide (0 ≤ (ji73)) = true := decide_eq_true c74
                    clear c74
                    by_cases c75 : (ji73) < (x6_2.length : Int)
                    ·
                     rw [if_pos c75] at H
                     have c75b0 : decide ((ji73) < (x6_2.length : Int)) = true := decide_eq_true c75
                     clear c75
                     by_cases c76 : (ji73) < (x16_5.length : Int)
                     ·
                      rw [if_pos c76] at H
                      have c76b0 : decide ((ji73) < (x16_5.length : Int)) = true := decide_eq_true c76
                      clear c76
                      obtain ⟨y189, hy189⟩ : ∃ y_ : List Int, y_ = (x16_5.set ((ji73) : Int).toNat (rd x6_2 (ji73))) := ⟨_, rfl⟩
                      replace H : ((gimbalref11_bar.f x17_4).bind fun t190 => (if 0 ≤ (wrap64 ((wrap64 (x17_4 * a1)) + t190)) then (if (wrap64 ((wrap64 (x17_4 * a1)) + t190)) < (x6_2.length : Int) then ((gimbalref11_bar.f x18_5).bind fun t192 => (if 0 ≤ (wrap64 ((wrap64 (t192 * a1)) + x18_5)) then (if (wrap64 ((wrap64 (t192 * a1)) + x18_5)) < (x6_2.length : Int) then ((gimbalref11_plus.f (rd x6_2 (wrap64 ((wrap64 (x17_4 * a1)) + t190))) (rd x6_2 (wrap64 ((wrap64 (t192 * a1)) + x18_5)))).bind fun t194 => (if t194 = 4611686018427387904 then (gimbalref11_Tight.l7 k5 a1 x6_2 y189 x17_4 (wrap64 (x18_5 + 1))) else ((gimbalref11_halved.f t194).bind fun t196 => (gimbalref11_Tight.l7 k5 a1 x6_2 (y189.set ((ji73) : Int).toNat (mn (rd y189 (ji73)) t196)) x17_4 (wrap64 (x18_5 + 1)))))) else (none)) else (none))) else (none)) else (none))) = some (r1, r2) := by first | (rw [hy189]; with_reducible exact H) | (have H2_ := (Option.bind_some _ _).symm.trans H; rw [hy189]; with_reducible exact H2_) | (have H2_ := (Option.bind_some _ _).symm.trans H; with_reducible exact H2_) | with_reducible exact H | (rw [hy189]; exact H) | exact H
                      have Ny189 := Aside0.mk hy189
                      clear hy189
                      replace H := Option.bind_eq_some_iff.mp H
                      obtain ⟨t190, A780, H⟩ := H
                      replace H : (if 0 ≤ (wrap64 ((wrap64 (x17_4 * a1)) + t190)) then (if (wrap64 ((wrap64 (x17_4 * a1)) + t190)) < (x6_2.length : Int) then ((gimbalref11_bar.f x18_5).bind fun t192 => (if 0 ≤ (wrap64 ((wrap64 (t192 * a1)) + x18_5)) then (if (wrap64 ((wrap64 (t192 * a1)) + x18_5)) < (x6_2.length : Int) then ((gimbalref11_plus.f (rd x6_2 (wrap64 ((wrap64 (x17_4 * a1)) + t190))) (rd x6_2 (wrap64 ((wrap64 (t192 * a1)) + x18_5)))).bind fun t194 => (if t194 = 4611686018427387904 then (gimbalref11_Tight.l7 k5 a1 x6_2 y189 x17_4 (wrap64 (x18_5 + 1))) else ((gimbalref11_halved.f t194).bind fun t196 => (gimbalref11_Tight.l7 k5 a1 x6_2 (y189.set ((ji73) : Int).toNat (mn (rd y189 (ji73)) t196)) x17_4 (wrap64 (x18_5 + 1)))))) else (none)) else (none))) else (none)) else (none)) = some (r1, r2) := H
                      have A78 := Aside0.mk A780
                      clear A780
                      obtain ⟨ji79, hji79⟩ : ∃ j_ : Int, (wrap64 ((wrap64 (x17_4 * a1)) + t190)) = j_ := ⟨_, rfl⟩
                      replace H : (if 0 ≤ (ji79) then (if (ji79) < (x6_2.length : Int) then ((gimbalref11_bar.f x18_5).bind fun t192 => (if 0 ≤ (wrap64 ((wrap64 (t192 * a1)) + x18_5)) then (if (wrap64 ((wrap64 (t192 * a1)) + x18_5)) < (x6_2.length : Int) then ((gimbalref11_plus.f (rd x6_2 (ji79)) (rd x6_2 (wrap64 ((wrap64 (t192 * a1)) + x18_5)))).bind fun t194 => (if t194 = 4611686018427387904 then (gimbalref11_Tight.l7 k5 a1 x6_2 y189 x17_4 (wrap64 (x18_5 + 1))) else ((gimbalref11_halved.f t194).bind fun t196 => (gimbalref11_Tight.l7 k5 a1 x6_2 (y189.set ((ji73) : Int).toNat (mn (rd y189 (ji73)) t196)) x17_4 (wrap64 (x18_5 + 1)))))) else (none)) else (none))) else (none)) else (none)) = some (r1, r2) := by first | (rw [hji79] at H; exact H) | (simp only [hji79] at H ⊢; exact H)
                      (try rw [hji79] at A78)
                      have hji79w : (IntKind.i64.wrap ((wrap64 (x17_4 * a1)) + t190)) = ji79 := (i64_w _).trans hji79
                      by_cases c80 : 0 ≤ (ji79)
                      ·
                       rw [if_pos c80] at H
                       have c80b0 : decide (0 ≤ (ji79)) = true := decide_eq_true c80
                       clear c80
                       by_cases c81 : (ji79) < (x6_2.length : Int)
                       ·
                        rw [if_pos c81] at H
                        have c81b0 : decide ((ji79) < (x6_2.length : Int)) = true := decide_eq_true c81
                        clear c81
                        replace H := Option.bind_eq_some_iff.mp H
                        obtain ⟨t192, A820, H⟩ := H
                        replace H : (if 0 ≤ (wrap64 ((wrap64 (t192 * a1)) + x18_5)) then (if (wrap64 ((wrap64 (t192 * a1)) + x18_5)) < (x6_2.length : Int) then ((gimbalref11_plus.f (rd x6_2 (ji79)) (rd x6_2 (wrap64 ((wrap64 (t192 * a1)) + x18_5)))).bind fun t194 => (if t194 = 4611686018427387904 then (gimbalref11_Tight.l7 k5 a1 x6_2 y189 x17_4 (wrap64 (x18_5 + 1))) else ((gimbalref11_halved.f t194).bind fun t196 => (gimbalref11_Tight.l7 k5 a1 x6_2 (y189.set ((ji73) : Int).toNat (mn (rd y189 (ji73)) t196)) x17_4 (wrap64 (x18_5 + 1)))))) else (none)) else (none)) = some (r1, r2) := H
                        have A82 := Aside0.mk A820
                        clear A820
                        obtain ⟨ji83, hji83⟩ : ∃ j_ : Int, (wrap64 ((wrap64 (t192 * a1)) + x18_5)) = j_ := ⟨_, rfl⟩
                        replace H : (if 0 ≤ (ji83) then (if (ji83) < (x6_2.length : Int) then ((gimbalref11_plus.f (rd x6_2 (ji79)) (rd x6_2 (ji83))).bind fun t194 => (if t194 = 4611686018427387904 then (gimbalref11_Tight.l7 k5 a1 x6_2 y189 x17_4 (wrap64 (x18_5 + 1))) else ((gimbalref11_halved.f t194).bind fun t196 => (gimbalref11_Tight.l7 k5 a1 x6_2 (y189.set ((ji73) : Int).toNat (mn (rd y189 (ji73)) t196)) x17_4 (wrap64 (x18_5 + 1)))))) else (none)) else (none)) = some (r1, r2) := by first | (rw [hji83] at H; exact H) | (simp only [hji83] at H ⊢; exact H)
                        (try rw [hji83] at A78)
                        (try rw [hji83] at A82)
                        have hji83w : (IntKind.i64.wrap ((wrap64 (t192 * a1)) + x18_5)) = ji83 := (i64_w _).trans hji83
                        by_cases c84 : 0 ≤ (ji83)
                        ·
                         rw [if_pos c84] at H
                         have c84b0 : decide (0 ≤ (ji83)) = true := decide_eq_true c84
                         clear c84
                         by_cases c85 : (ji83) < (x6_2.length : Int)
                         ·
                          rw [if_pos c85] at H
                          have c85b0 : decide ((ji83) < (x6_2.length : Int)) = true := decide_eq_true c85
                          clear c85
                          replace H := Option.bind_eq_some_iff.mp H
                          obtain ⟨t194, A860, H⟩ := H
                          replace H : (if t194 = 4611686018427387904 then (gimbalref11_Tight.l7 k5 a1 x6_2 y189 x17_4 (wrap64 (x18_5 + 1))) else ((gimbalref11_halved.f t194).bind fun t196 => (gimbalref11_Tight.l7 k5 a1 x6_2 (y189.set ((ji73) : Int).toNat (mn (rd y189 (ji73)) t196)) x17_4 (wrap64 (x18_5 + 1))))) = some (r1, r2) := H
                          have A86 := Aside0.mk A860
                          clear A860
                          by_cases c87 : t194 = 4611686018427387904
                          ·
                           rw [if_pos c87] at H
                           have c87b0 : (t194 == 4611686018427387904) = true := beq_iff_eq.mpr c87
                           have c87b1 : (t194 != 4611686018427387904) = false := bne_eq_false_iff_eq.mpr c87
                           clear c87
                           have H' := Aside0.mk H
                           clear H
                           obtain ⟨Ao88, co88, eo88⟩ := Kd.R_slice HO_6.out
                           subst eo88
                           have p188 : 0 ≤ ((ji73) : Int) := of_decide_eq_true (by first | (with_reducible assumption) | assumption)
                           have q188 : (ji73) < (x6_2.length : Int) := of_decide_eq_true (by first | (with_reducible assumption) | assumption)
                           (try (obtain ⟨AoZ, coZ, eoZ⟩ := Kd.R_slice HO_6.out; subst eoZ))
                           obtain ⟨ad188, e188, hx188_0⟩ := Kd.at_int (Kd.R_reads' HO_6.out).2.2 (ji73) p188 q188
                           cases e188
                           replace p188 := eq_true p188
                           replace q188 := eq_true q188
                           have p77 : 0 ≤ ((ji73) : Int) := of_decide_eq_true (by first | (with_reducible assumption) | assumption)
                           have q77 : ((ji73) : Int) < ((x16_5.length : Int) : Int) := of_decide_eq_true (by first | (with_reducible assumption) | assumption)
                           obtain ⟨go77, co77, eo77, gb77, gl77, cl77, HG77⟩ := Kd.R_form HO_16.out (by omega)
                           (first | cases eo77 | (injection eo77 with ea_ en_ ec_; (first | subst ea_ | (injection ea_ with ea_; subst ea_)); subst ec_; clear en_))
                           have GB77 := Aside0.mk gb77
                           have GG77 := Aside0.mk HG77
                           clear gb77 gl77 HG77
                           obtain ⟨hx77_0, hf77_0⟩ := Kd.R_celln 0 HO_16.out ((ji73) : Int) p77 q77
                           replace p77 := eq_true p77
                           replace q77 := eq_true q77
                           have HP89 := Kd.R_putg HO_16.out ((ji73) : Int) (rd x6_2 (ji73))
                           try go_wp2_with ((with_reducible refine gate_store (t := 2) (p := 171) rfl ?_); refine store_event (t := 2) (p := 171) (v := ?vo_w90) (w1 := (wr.setCell ⟨go77, ((ji73) : Int).toNat, none⟩ (.int .i64 (rd x6_2 (ji73))))) ?hg ?ho ?hn ?hr ?_; (case ho => rfl); (case hg => rfl); (case hn => rfl); (case hr => first | (go_simp; done) | (go_simp; rfl)); intro w90 hw; have hg : wr.grownBy w90 (some go77) := (by rw [hw]; exact HP89.2); have hp_ : Kd.R (Kd.int .i64) 2 w90 w.heap.size (fun k_ => some k_ ≠ (.slice (some ad188) x6_2.length co88 : Value).ownBlock) (.slice (some ⟨go77, 0, none⟩) x16_5.length co77) y189 := (by rw [hw, Ny189.out]; exact HP89.1); clear HP89; replace HO_6 := Aside0.mk (Kd.R_after (v := (.slice (some ⟨go77, 0, none⟩) x16_5.length co77)) (v1 := (.slice (some ⟨go77, 0, none⟩) x16_5.length co77)) (ok := (fun _ => True)) (by (with_reducible repeat (first | apply Kd.R_alloc | apply Kd.R_drewN | apply Kd.R_drew)); exact Kd.R_mono HO_6.out (fun _ hk => ⟨trivial, hk⟩)) hg (.inl rfl)); replace HO_16 := Aside0.mk (hp_); replace HB := Aside0.mk ((by rw [hw]; exact below_set (HB.out) GB77.out : Below w.heap.size w w90)); clear hg hw hp_)
                           replace HO_6 := Aside0.mk (Kd.R_drew HO_6.out)
                           replace HO_16 := Aside0.mk (Kd.R_drew HO_16.out)
                           replace HB := Aside0.mk (below_drew1 HB.out)
                           have p191 : 0 ≤ ((ji79) : Int) := of_decide_eq_true (by first | (with_reducible assumption) | assumption)
                           have q191 : (ji79) < (x6_2.length : Int) := of_decide_eq_true (by first | (with_reducible assumption) | assumption)
                           (try (obtain ⟨AoZ, coZ, eoZ⟩ := Kd.R_slice HO_6.out; subst eoZ))
                           obtain ⟨ad191, e191, hx191_0⟩ := Kd.at_int (Kd.R_reads' HO_6.out).2.2 (ji79) p191 q191
                           obtain rfl : ad188 = ad191 := (by injection e191)
                           replace p191 := eq_true p191
                           replace q191 := eq_true q191
                           have p193 : 0 ≤ ((ji83) : Int) := of_decide_eq_true (by first | (with_reducible assumption) | assumption)
                           have q193 : (ji83) < (x6_2.length : Int) := of_decide_eq_true (by first | (with_reducible assumption) | assumption)
                           (try (obtain ⟨AoZ, coZ, eoZ⟩ := Kd.R_slice HO_6.out; subst eoZ))
                           obtain ⟨ad193, e193, hx193_0⟩ := Kd.at_int (Kd.R_reads' HO_6.out).2.2 (ji83) p193 q193
                           obtain rfl : ad188 = ad193 := (by injection e193)
                           replace p193 := eq_true p193
                           replace q193 := eq_true q193
                           refine start_ (n := 20) (S := fun w' => w'.cell? (ad188.add ((ji79)).toNat) = some (.int .i64 (rd x6_2 (ji79))) ∧ w'.cell? (ad188.add ((ji83)).toNat) = some (.int .i64 (rd x6_2 (ji83)))) (ds := []) (mB 20 0) (by kernel_rfl) rfl rfl ⟨hx191_0, hx193_0⟩ (fun hHeld => ?_); refine with_tabW gimbalref11_Tight.tab41 gimbalref11_Tight.bits41 (fun HT_ HW_ => ?_)
                           generalize w90.drew = w91 at HO_6 HO_16 HB hx191_0 hx193_0 hHeld ⊢
                           refine pV_ 0 172 (mB 20 1) HT_ ?_
                           refine pV_ 1 173 (mB 20 3) HT_ ?_
                           refine pV_ 2 174 (mB 20 7) HT_ ?_
                           refine pV_ 3 175 (mB 20 15) HT_ ?_
                           refine pV_ 4 176 (mB 20 31) HT_ ?_
                           refine pV_ 9 181 (mB 20 543) HT_ ?_
                           refine pV_ 10 182 (mB 20 1567) HT_ ?_
                           refine pV_ 12 184 (mB 20 5663) HT_ ?_
                           refine pV_ 14 186 (mB 20 22047) HT_ ?_
                           refine one_ (i := 5) (N := some 177) (mB 20 22079) rfl rfl (one_of HT_.out (by kernel_rfl)) (by decide) (fun K hK => ?_)
                           refine goes_ Try.func53 (by kernel_rfl) rfl #[.int .i64 x17_4] (by rfl) rfl rfl vL ?_
                           with_reducible refine (gimbalref11_bar.calls x17_4 t190 _ A78.out).mono ?_
                           rintro e w' ⟨rfl, ⟨nd, rfl⟩⟩
                           refine ⟨_, rfl, ?_⟩
                           refine hK.out _ _ ⟨hHeld.1, hHeld.2⟩ (fun hHeld => ?_)
                           clear hK K
                           refine norm_ (a' := ?_) ?_ ?_
                           rotate_left
                           ·
                            show Act.put _ (some 177) _ = _
                            simp only [Act.put, List.setIfInBounds_toArray, List.set_cons_zero, List.set_cons_succ, i64_w, i32_w]
                            rfl
                           refine pV_ 6 178 (mB 20 22143) HT_ ?_
                           refine pV_ 7 179 (mB 20 22271) HT_ ?_
                           refine tV_ 8 180 (mB 20 22527) HT_ HW_ hHeld ?_
                           refine one_ (i := 11) (N := some 183) (mB 20 24575) rfl rfl (one_of HT_.out (by kernel_rfl)) (by decide) (fun K hK => ?_)
                           refine goes_ Try.func53 (by kernel_rfl) rfl #[.int .i64 x18_5] (by rfl) rfl rfl vL ?_
                           with_reducible refine (gimbalref11_bar.calls x18_5 t192 _ A82.out).mono ?_
                           rintro e w' ⟨rfl, ⟨nd, rfl⟩⟩
                           refine ⟨_, rfl, ?_⟩
                           refine hK.out _ _ ⟨hHeld.1, hHeld.2⟩ (fun hHeld => ?_)
                           clear hK K
                           refine norm_ (a' := ?_) ?_ ?_
                           rotate_left
                           ·
                            show Act.put _ (some 183) _ = _
                            simp only [Act.put, List.setIfInBounds_toArray, List.set_cons_zero, List.set_cons_succ, i64_w, i32_w]
                            rfl
                           refine pV_ 13 185 (mB 20 32767) HT_ ?_
                           refine pV_ 15 187 (mB 20 65535) HT_ ?_
                           refine pV_ 16 188 (mB 20 131071) HT_ ?_
                           refine tV_ 17 189 (mB 20 262143) HT_ HW_ hHeld ?_
                           refine one_ (i := 18) (N := some 190) (mB 20 524287) rfl rfl (one_of HT_.out (by kernel_rfl)) (by decide) (fun K hK => ?_)
                           refine goes_ Try.func84 (by kernel_rfl) rfl #[.int .i64 (rd x6_2 (ji79)), .int .i64 (rd x6_2 (ji83))] (by rfl) rfl rfl (by (try simp only [List.map_toArray, List.map_cons, List.map_nil]); first | done | (simp only [hji79, hji83]; rfl) | rfl | (simp only [List.length_drop, List.length_take]; rfl)) ?_
                           with_reducible refine (gimbalref11_plus.calls (rd x6_2 (ji79)) (rd x6_2 (ji83)) t194 _ A86.out).mono ?_
                           rintro e w' ⟨rfl, ⟨nd, rfl⟩⟩
                           refine ⟨_, rfl, ?_⟩
                           refine hK.out _ _ ⟨hHeld.1, hHeld.2⟩ (fun hHeld => ?_)
                           clear hK K
                           refine norm_ (a' := ?_) ?_ ?_
                           rotate_left
                           ·
                            show Act.put _ (some 190) _ = _
                            simp only [Act.put, List.setIfInBounds_toArray, List.set_cons_zero, List.set_cons_succ, i64_w, i32_w]
                            rfl
                           refine pV_ 19 19 (mB 20 1048575) HT_ ?_
                           refine done_ (done_of HT_.out (by kernel_rfl)) ?_
                           try go_wp2
                           go_roundg k5
                           case measure => have := HK1.out; have := HK2.out; have := HK3.out; have := HK4.out; have := HK5.out; omega
                           case rel => exact ⟨(y189), (wrap64 (x18_5 + 1)), (by first | rfl | (simp; done) | (simp [*]; done)), H', ⟨by have := HK1.out; have := HK2.out; have := HK3.out; have := HK4.out; have := HK5.out; omega⟩, ⟨by (with_reducible repeat (first | apply Kd.R_alloc | apply Kd.R_drewN | apply Kd.R_drew)); exact Kd.R_mono HO_6.out (fun _ hk => hk.2)⟩, ⟨vR HO_16.out⟩, ⟨vW HB.out⟩⟩
                          ·
                           rw [if_neg c87] at H
                           have c87b0 : (t194 == 4611686018427387904) = false := beq_eq_false_iff_ne.mpr c87
                           have c87b1 : (t194 != 4611686018427387904) = true := bne_iff_ne.mpr c87
                           replace H := Option.bind_eq_some_iff.mp H
                           obtain ⟨t196, A920, H⟩ := H
                           replace H : (gimbalref11_Tight.l7 k5 a1 x6_2 (y189.set ((ji73) : Int).toNat (mn (rd y189 (ji73)) t196)) x17_4 (wrap64 (x18_5 + 1))) = some (r1, r2) := H
                           have A92 := Aside0.mk A920
                           clear A920
                           obtain ⟨ji93, hji93⟩ : ∃ j_ : Int, (mn (rd y189 (ji73)) t196) = j_ := ⟨_, rfl⟩
                           replace H : (gimbalref11_Tight.l7 k5 a1 x6_2 (y189.set ((ji73) : Int).toNat (ji93)) x17_4 (wrap64 (x18_5 + 1))) = some (r1, r2) := by first | (rw [hji93] at H; exact H) | (simp only [hji93] at H ⊢; exact H)
                           (try rw [hji93] at A78)
                           (try rw [hji93] at A82)
                           (try rw [hji93] at A86)
                           (try rw [hji93] at A92)
                           have hji93_ : (if t196 < (rd y189 (ji73)) then t196 else (rd y189 (ji73))) = ji93 := hji93
                           obtain ⟨y197, hy197⟩ : ∃ y_ : List Int, y_ = (y189.set ((ji73) : Int).toNat (ji93)) := ⟨_, rfl⟩
                           replace H : (gimbalref11_Tight.l7 k5 a1 x6_2 y197 x17_4 (wrap64 (x18_5 + 1))) = some (r1, r2) := by first | (rw [hy197]; with_reducible exact H) | (have H2_ := (Option.bind_some _ _).symm.trans H; rw [hy197]; with_reducible exact H2_) | (have H2_ := (Option.bind_some _ _).symm.trans H; with_reducible exact H2_) | with_reducible exact H | (rw [hy197]; exact H) | exact H
                           have Ny197 := Aside0.mk hy197
                           clear hy197
                           have H' := Aside0.mk H
                           clear H
                           obtain ⟨Ao95, co95, eo95⟩ := Kd.R_slice HO_6.out
                           subst eo95
                           have p188 : 0 ≤ ((ji73) : Int) := of_decide_eq_true (by first | (with_reducible assumption) | assumption)
                           have q188 : (ji73) < (x6_2.length : Int) := of_decide_eq_true (by first | (with_reducible assumption) | assumption)
                           (try (obtain ⟨AoZ, coZ, eoZ⟩ := Kd.R_slice HO_6.out; subst eoZ))
                           obtain ⟨ad188, e188, hx188_0⟩ := Kd.at_int (Kd.R_reads' HO_6.out).2.2 (ji73) p188 q188
                           cases e188
                           replace p188 := eq_true p188
                           replace q188 := eq_true q188
                           have p77 : 0 ≤ ((ji73) : Int) := of_decide_eq_true (by first | (with_reducible assumption) | assumption)
                           have q77 : ((ji73) : Int) < ((x16_5.length : Int) : Int) := of_decide_eq_true (by first | (with_reducible assumption) | assumption)
                           obtain ⟨go77, co77, eo77, gb77, gl77, cl77, HG77⟩ := Kd.R_form HO_16.out (by omega)
                           (first | cases eo77 | (injection eo77 with ea_ en_ ec_; (first | subst ea_ | (injection ea_ with ea_; subst ea_)); subst ec_; clear en_))
                           have GB77 := Aside0.mk gb77
                           have GG77 := Aside0.mk HG77
                           clear gb77 gl77 HG77
                           obtain ⟨hx77_0, hf77_0⟩ := Kd.R_celln 0 HO_16.out ((ji73) : Int) p77 q77
                           replace p77 := eq_true p77
                           replace q77 := eq_true q77
                           have HP96 := Kd.R_putg HO_16.out ((ji73) : Int) (rd x6_2 (ji73))
                           try go_wp2_with ((with_reducible refine gate_store (t := 2) (p := 171) rfl ?_); refine store_event (t := 2) (p := 171) (v := ?vo_w97) (w1 := (wr.setCell ⟨go77, ((ji73) : Int).toNat, none⟩ (.int .i64 (rd x6_2 (ji73))))) ?hg ?ho ?hn ?hr ?_; (case ho => rfl); (case hg => rfl); (case hn => rfl); (case hr => first | (go_simp; done) | (go_simp; rfl)); intro w97 hw; have hg : wr.grownBy w97 (some go77) := (by rw [hw]; exact HP96.2); have hp_ : Kd.R (Kd.int .i64) 2 w97 w.heap.size (fun k_ => some k_ ≠ (.slice (some ad188) x6_2.length co95 : Value).ownBlock) (.slice (some ⟨go77, 0, none⟩) x16_5.length co77) y189 := (by rw [hw, Ny189.out]; exact HP96.1); clear HP96; replace HO_6 := Aside0.mk (Kd.R_after (v := (.slice (some ⟨go77, 0, none⟩) x16_5.length co77)) (v1 := (.slice (some ⟨go77, 0, none⟩) x16_5.length co77)) (ok := (fun _ => True)) (by (with_reducible repeat (first | apply Kd.R_alloc | apply Kd.R_drewN | apply Kd.R_drew)); exact Kd.R_mono HO_6.out (fun _ hk => ⟨trivial, hk⟩)) hg (.inl rfl)); replace HO_16 := Aside0.mk (hp_); replace HB := Aside0.mk ((by rw [hw]; exact below_set (HB.out) GB77.out : Below w.heap.size w w97)); clear hg hw hp_)
                           replace HO_6 := Aside0.mk (Kd.R_drew HO_6.out)
                           replace HO_16 := Aside0.mk (Kd.R_drew HO_16.out)
                           replace HB := Aside0.mk (below_drew1 HB.out)
                           have p191 : 0 ≤ ((ji79) : Int) := of_decide_eq_true (by first | (with_reducible assumption) | assumption)
                           have q191 : (ji79) < (x6_2.length : Int) := of_decide_eq_true (by first | (with_reducible assumption) | assumption)
                           (try (obtain ⟨AoZ, coZ, eoZ⟩ := Kd.R_slice HO_6.out; subst eoZ))
                           obtain ⟨ad191, e191, hx191_0⟩ := Kd.at_int (Kd.R_reads' HO_6.out).2.2 (ji79) p191 q191
                           obtain rfl : ad188 = ad191 := (by injection e191)
                           replace p191 := eq_true p191
                           replace q191 := eq_true q191
                           have p193 : 0 ≤ ((ji83) : Int) := of_decide_eq_true (by first | (with_reducible assumption) | assumption)
                           have q193 : (ji83) < (x6_2.length : Int) := of_decide_eq_true (by first | (with_reducible assumption) | assumption)
                           (try (obtain ⟨AoZ, coZ, eoZ⟩ := Kd.R_slice HO_6.out; subst eoZ))
                           obtain ⟨ad193, e193, hx193_0⟩ := Kd.at_int (Kd.R_reads' HO_6.out).2.2 (ji83) p193 q193
                           obtain rfl : ad188 = ad193 := (by injection e193)
                           replace p193 := eq_true p193
                           replace q193 := eq_true q193
                           refine start_ (n := 20) (S := fun w' => w'.cell? (ad188.add ((ji79)).toNat) = some (.int .i64 (rd x6_2 (ji79))) ∧ w'.cell? (ad188.add ((ji83)).toNat) = some (.int .i64 (rd x6_2 (ji83)))) (ds := []) (mB 20 0) (by kernel_rfl) rfl rfl ⟨hx191_0, hx193_0⟩ (fun hHeld => ?_); refine with_tabW gimbalref11_Tight.tab41 gimbalref11_Tight.bits41 (fun HT_ HW_ => ?_)
                           generalize w97.drew = w98 at HO_6 HO_16 HB hx191_0 hx193_0 hHeld ⊢
                           refine pV_ 0 172 (mB 20 1) HT_ ?_
                           refine pV_ 1 173 (mB 20 3) HT_ ?_
                           refine pV_ 2 174 (mB 20 7) HT_ ?_
                           refine pV_ 3 175 (mB 20 15) HT_ ?_
                           refine pV_ 4 176 (mB 20 31) HT_ ?_
                           refine pV_ 9 181 (mB 20 543) HT_ ?_
                           refine pV_ 10 182 (mB 20 1567) HT_ ?_
                           refine pV_ 12 184 (mB 20 5663) HT_ ?_
                           refine pV_ 14 186 (mB 20 22047) HT_ ?_
                           refine one_ (i := 5) (N := some 177) (mB 20 22079) rfl rfl (one_of HT_.out (by kernel_rfl)) (by decide) (fun K hK => ?_)
                           refine goes_ Try.func53 (by kernel_rfl) rfl #[.int .i64 x17_4] (by rfl) rfl rfl vL ?_
                           with_reducible refine (gimbalref11_bar.calls x17_4 t190 _ A78.out).mono ?_
                           rintro e w' ⟨rfl, ⟨nd, rfl⟩⟩
                           refine ⟨_, rfl, ?_⟩
                           refine hK.out _ _ ⟨hHeld.1, hHeld.2⟩ (fun hHeld => ?_)
                           clear hK K
                           refine norm_ (a' := ?_) ?_ ?_
                           rotate_left
                           ·
                            show Act.put _ (some 177) _ = _
                            simp only [Act.put, List.setIfInBounds_toArray, List.set_cons_zero, List.set_cons_succ, i64_w, i32_w]
                            rfl
                           refine pV_ 6 178 (mB 20 22143) HT_ ?_
                           refine pV_ 7 179 (mB 20 22271) HT_ ?_
                           refine tV_ 8 180 (mB 20 22527) HT_ HW_ hHeld ?_
                           refine one_ (i := 11) (N := some 183) (mB 20 24575) rfl rfl (one_of HT_.out (by kernel_rfl)) (by decide) (fun K hK => ?_)
                           refine goes_ Try.func53 (by kernel_rfl) rfl #[.int .i64 x18_5] (by rfl) rfl rfl vL ?_
                           with_reducible refine (gimbalref11_bar.calls x18_5 t192 _ A82.out).mono ?_
                           rintro e w' ⟨rfl, ⟨nd, rfl⟩⟩
                           refine ⟨_, rfl, ?_⟩
                           refine hK.out _ _ ⟨hHeld.1, hHeld.2⟩ (fun hHeld => ?_)
                           clear hK K
                           refine norm_ (a' := ?_) ?_ ?_
                           rotate_left
                           ·
                            show Act.put _ (some 183) _ = _
                            simp only [Act.put, List.setIfInBounds_toArray, List.set_cons_zero, List.set_cons_succ, i64_w, i32_w]
                            rfl
                           refine pV_ 13 185 (mB 20 32767) HT_ ?_
                           refine pV_ 15 187 (mB 20 65535) HT_ ?_
                           refine pV_ 16 188 (mB 20 131071) HT_ ?_
                           refine tV_ 17 189 (mB 20 262143) HT_ HW_ hHeld ?_
                           refine one_ (i := 18) (N := some 190) (mB 20 524287) rfl rfl (one_of HT_.out (by kernel_rfl)) (by decide) (fun K hK => ?_)
                           refine goes_ Try.func84 (by kernel_rfl) rfl #[.int .i64 (rd x6_2 (ji79)), .int .i64 (rd x6_2 (ji83))] (by rfl) rfl rfl (by (try simp only [List.map_toArray, List.map_cons, List.map_nil]); first | done | (simp only [hji79, hji83]; rfl) | rfl | (simp only [List.length_drop, List.length_take]; rfl)) ?_
                           with_reducible refine (gimbalref11_plus.calls (rd x6_2 (ji79)) (rd x6_2 (ji83)) t194 _ A86.out).mono ?_
                           rintro e w' ⟨rfl, ⟨nd, rfl⟩⟩
                           refine ⟨_, rfl, ?_⟩
                           refine hK.out _ _ ⟨hHeld.1, hHeld.2⟩ (fun hHeld => ?_)
                           clear hK K
                           refine norm_ (a' := ?_) ?_ ?_
                           rotate_left
                           ·
                            show Act.put _ (some 190) _ = _
                            simp only [Act.put, List.setIfInBounds_toArray, List.set_cons_zero, List.set_cons_succ, i64_w, i32_w]
                            rfl
                           refine pV_ 19 19 (mB 20 1048575) HT_ ?_
                           refine done_ (done_of HT_.out (by kernel_rfl)) ?_
                           try go_wp2
                           (try (rw [drewN_self w98]; generalize hq_ : World.drewN w98 _ = w98; have n0_ : Aside0 (Kd.R (Kd.int .i64) 2 w98 w.heap.size (fun k_ => some k_ ≠ (.slice (some ad188) x6_2.length co95 : Value).ownBlock) (.slice (some ⟨go77, 0, none⟩) x16_5.length co77) y189) := ⟨by rw [← hq_]; exact (vR HO_16.out)⟩; have n1_ : Aside0 (Kd.R (Kd.int .i64) 2 w98 w.heap.size (fun k_ => some k_ ≠ (.slice (some ⟨go77, 0, none⟩) x16_5.length co77 : Value).ownBlock) (.slice (some ad188) x6_2.length co95) x6_2) := ⟨by rw [← hq_]; exact (by (with_reducible repeat (first | apply Kd.R_alloc | apply Kd.R_drewN | apply Kd.R_drew)); exact Kd.R_mono HO_6.out (fun _ hk => hk.2))⟩; have n2_ : Aside0 (Below w.heap.size w w98) := ⟨by rw [← hq_]; exact (vW HB.out)⟩; clear HO_16 HO_6 HB hq_; have HO_16 := n0_; have HO_6 := n1_; have HB := n2_; clear n0_ n1_ n2_))
                           replace HO_6 := Aside0.mk (Kd.R_drew HO_6.out)
                           replace HO_16 := Aside0.mk (Kd.R_drew HO_16.out)
                           replace HB := Aside0.mk (below_drew1 HB.out)
                           have p195 : 0 ≤ ((ji73) : Int) := of_decide_eq_true (by first | (with_reducible assumption) | assumption)
                           have q195 : (ji73) < (y189.length : Int) := (by have h_ : ((ji73) : Int) < ((x16_5.length : Int) : Int) := of_decide_eq_true (by first | (with_reducible assumption) | assumption); first | (have e_ := (Kd.R_reads' HO_16.out).1; omega) | simpa only [Ny189.out, List.length_set] using h_)
                           have ql195 : (((ji73) : Int) < ((x16_5.length : Int) : Int)) = True := eq_true (of_decide_eq_true (by first | (with_reducible assumption) | assumption))
                           obtain ⟨ad195, e195, hx195_0⟩ := Kd.at_int (Kd.R_reads' HO_16.out).2.2 (ji73) p195 q195
                           obtain rfl : (⟨go77, 0, none⟩ : Addr) = ad195 := (by injection e195)
                           (first | simp only [add_plain] at hx195_0 | simp only [add_at] at hx195_0 | simp only [Addr.add, Nat.zero_add] at hx195_0 | skip)
                           replace p195 := eq_true p195
                           replace q195 := eq_true q195
                           refine start_ (n := 19) (S := fun w' => w'.cell? ⟨go77, ((ji73)).toNat, none⟩ = some (.int .i64 (rd y189 (ji73)))) (ds := [18]) (mB 19 0) (by kernel_rfl) rfl rfl (hx195_0) (fun hHeld => ?_); refine with_tabW gimbalref11_Tight.tab43 gimbalref11_Tight.bits43 (fun HT_ HW_ => ?_)
                           generalize w98.drew = w99 at HO_6 HO_16 HB hx195_0 hHeld ⊢
                           refine pV_ 0 193 (mB 19 1) HT_ ?_
                           refine pV_ 1 194 (mB 19 3) HT_ ?_
                           refine pV_ 2 195 (mB 19 7) HT_ ?_
                           refine pV_ 3 196 (mB 19 15) HT_ ?_
                           refine pV_ 4 197 (mB 19 31) HT_ ?_
                           refine pV_ 5 198 (mB 19 63) HT_ ?_
                           refine pV_ 6 199 (mB 19 127) HT_ ?_
                           refine pV_ 7 200 (mB 19 255) HT_ ?_
                           refine pV_ 8 201 (mB 19 511) HT_ ?_
                           refine pV_ 9 202 (mB 19 1023) HT_ ?_
                           refine pV_ 10 203 (mB 19 2047) HT_ ?_
                           refine pV_ 11 204 (mB 19 4095) HT_ ?_
                           refine pV_ 12 205 (mB 19 8191) HT_ ?_
                           refine pV_ 14 207 (mB 19 24575) HT_ ?_
                           refine tV_ 13 206 (mB 19 32767) HT_ HW_ hHeld ?_
                           refine one_ (i := 15) (N := some 208) (mB 19 65535) rfl rfl (one_of HT_.out (by kernel_rfl)) (by decide) (fun K hK => ?_)
                           refine goes_ Try.func85 (by kernel_rfl) rfl #[.int .i64 t194] (by rfl) rfl rfl vL ?_
                           with_reducible refine (gimbalref11_halved.calls t194 t196 _ A92.out).mono ?_
                           rintro e w' ⟨rfl, ⟨nd, rfl⟩⟩
                           refine ⟨_, rfl, ?_⟩
                           have p94 : 0 ≤ ((ji73) : Int) := of_decide_eq_true (by first | (with_reducible assumption) | assumption)
                           have q94 : ((ji73) : Int) < ((x16_5.length : Int) : Int) := of_decide_eq_true (by first | (with_reducible assumption) | assumption)
                           obtain ⟨hx94_0, hf94_0⟩ := Kd.R_celln 0 HO_16.out ((ji73) : Int) p94 q94
                           replace p94 := eq_true p94
                           replace q94 := eq_true q94
                           have HP100 := Kd.R_putn HO_16.out ((ji73) : Int) ji93
                           rw [← Ny197.out] at HP100
                           have HQ100 := Aside0.mk HP100
                           clear HP100
                           refine hK.out _ _ (hHeld) (fun hHeld => ?_)
                           clear hK K
                           refine norm_ (a' := ?_) ?_ ?_
                           rotate_left
                           ·
                            show Act.put _ (some 208) _ = _
                            simp only [Act.put, List.setIfInBounds_toArray, List.set_cons_zero, List.set_cons_succ, i64_w, i32_w]
                            rfl
                           refine pV_ 16 209 (mB 19 131071) HT_ ?_
                           refine pV_ 17 210 (mB 19 262143) HT_ ?_
                           refine last_ (i := 18) (N := none) (mB 19 524287) rfl rfl (one_of HT_.out (by kernel_rfl)) (by decide) (fun K hK => ?_)
                           refine skip_ (w1 := ?_) (by rfl) rfl ?_ ?_
                           rotate_left
                           ·
                            go_simp
                            rfl
                           refine hK.out _ _ ?_
                           clear hK K
                           refine done_ (done_of HT_.out (by kernel_rfl)) ?_
                           try go_wp2
                           go_roundg k5
                           case measure => have := HK1.out; have := HK2.out; have := HK3.out; have := HK4.out; have := HK5.out; omega
                           case rel => exact ⟨(y197), (wrap64 (x18_5 + 1)), (by first | rfl | (simp; done) | (simp [*]; done)), H', ⟨by have := HK1.out; have := HK2.out; have := HK3.out; have := HK4.out; have := HK5.out; omega⟩, ⟨by (with_reducible repeat (first | apply Kd.R_alloc | apply Kd.R_drewN | apply Kd.R_drew)); exact Kd.R_mono (Kd.R_far (p := ⟨go77, ((ji73) : Int).toNat, none⟩) (Kd.R_mono HO_6.out (fun k_ hk => (⟨hk, fun e_ => hk (by rw [e_]; rfl)⟩ : _ ∧ k_ ≠ go77))) (fun _ hk => hk.2) (.int .i64 ji93)) (fun _ hk => hk.1)⟩, ⟨vR HQ100.out⟩, ⟨vW HB.out⟩⟩
                         ·
                          rw [if_neg c85] at H
                          exact absurd H (by simp)
                        ·
                         rw [if_neg c84] at H
                         exact absurd H (by simp)
                       ·
                        rw [if_neg c81] at H
                        exact absurd H (by simp)
                      ·
                       rw [if_neg c80] at H
                       exact absurd H (by simp)
                     ·
                      rw [if_neg c76] at H
                      exact absurd H (by simp)
                    ·
                     rw [if_neg c75] at H
                     exact absurd H (by simp)
                   ·
                    rw [if_neg c74] at H
                    exact absurd H (by simp)
                  ·
                   rw [if_neg c72] at H
                   have c72b0 : decide (x18_5 < a1) = false := decide_eq_false c72
                   clear c72
                   have H' := Aside0.mk H
                   clear H
                   go_wp2
                   go_roundg k5
                   case measure => have := HK1.out; have := HK2.out; have := HK3.out; have := HK4.out; have := HK5.out; omega
                   case rel => exact ⟨(x16_5), (wrap64 (x17_4 + 1)), (by first | rfl | (simp; done) | (simp [*]; done)), H', ⟨by have := HK1.out; have := HK2.out; have := HK3.out; have := HK4.out; have := HK5.out; omega⟩, ⟨vR HO_6.out⟩, ⟨vR HO_16.out⟩, ⟨vW HB.out⟩⟩
               ·
                rw [if_neg c71] at H
                have c71b0 : decide (x17_4 < a1) = false := decide_eq_false c71
                clear c71
                simp only [Option.some.injEq, Prod.mk.injEq] at H
                obtain ⟨rfl, rfl⟩ := H
                go_wp2
                go_ret2
                exact ⟨_, by first | rfl | (simp [errW_none, errW_some] <;> rfl) | (simp only [← hji66]; first | rfl | (simp [errW_none, errW_some] <;> rfl)) | (simp [*, errW_none, errW_some] <;> rfl) | (simp [wrap64]; done), by (with_reducible repeat (first | apply Kd.R_alloc | apply Kd.R_drewN | apply Kd.R_drew)); exact Kd.R_mono HO_16.out (fun _ hk => trivial), vW HB.out⟩
            ·
             rw [if_neg c68] at H
             exact absurd H (by simp)
           ·
            rw [if_neg c67] at H
            exact absurd H (by simp)
 ·
  rw [if_neg c3] at H
  exact absurd H (by simp)
end Go.Proofs.Ytomgebmimgaojaa.QO
end
end
section
/- Written by a program of this session out of the translation. -/
noncomputable section
namespace Go.Proofs.Ytomgebmimgaojaa.QO
open Go.RowKit Go.Proofs.YtomgebmimgaojaaW.PrintWords Go.Proofs.YtomgebmimgaojaaW.PrintLast
set_option linter.unusedVariables false
set_option linter.unusedSimpArgs false
/-! ### gimbalref11_clip: function 60 -/
def gimbalref11_clip.f (a0 : Int) : Option (Int) := if a0 > 1099511627776 then (some 4611686018427387904) else (if a0 < (-1099511627776) then (some (-1099511627776)) else (some a0))
set_option maxHeartbeats 8000000 in
set_option maxRecDepth 100000 in
theorem gimbalref11_clip.calls (a0 : Int) (r : Int) (w : World) (h : gimbalref11_clip.f a0 = some r) :
 Calls Try.prog 60 #[.int .i64 a0] w fun e w' => e = .returned (.int .i64 r) ∧ Drawn0 w w' := by
 have H : (if a0 > 1099511627776 then (some 4611686018427387904) else (if a0 < (-1099511627776) then (some (-1099511627776)) else (some a0))) = some r := h
 clear h
 by_cases c2 : a0 > 1099511627776
 ·
  rw [if_pos c2] at H
  have c2b0 : decide (1099511627776 < a0) = true := decide_eq_true c2
  clear c2
  obtain rfl := Option.some.inj H
  go_enter Try.func60, Try.ntmps60
  go_wp2
  go_ret
  exact ⟨by first | rfl | (simp; done) | (simp [*]; done), by repeat (first | exact Drawn0.refl _ | apply Drawn0.step)⟩
 ·
  rw [if_neg c2] at H
  have c2b0 : decide (1099511627776 < a0) = false := decide_eq_false c2
  clear c2
  by_cases c3 : a0 < (-1099511627776)
  ·
   rw [if_pos c3] at H
   have c3b0 : decide (a0 < (-1099511627776)) = true := decide_eq_true c3
   clear c3
   obtain rfl := Option.some.inj H
   go_enter Try.func60, Try.ntmps60
   go_wp2
   go_ret
   exact ⟨by first | rfl | (simp; done) | (simp [*]; done), by repeat (first | exact Drawn0.refl _ | apply Drawn0.step)⟩
  ·
   rw [if_neg c3] at H
   have c3b0 : decide (a0 < (-1099511627776)) = false := decide_eq_false c3
   clear c3
   obtain rfl := Option.some.inj H
   go_enter Try.func60, Try.ntmps60
   go_wp2
   go_ret
   exact ⟨by first | rfl | (simp; done) | (simp [*]; done), by repeat (first | exact Drawn0.refl _ | apply Drawn0.step)⟩
end Go.Proofs.Ytomgebmimgaojaa.QO
end
end
section
/- Written by a program of this session out of the translation. -/
noncomputable section
namespace Go.Proofs.Ytomgebmimgaojaa.QO
open Go.RowKit Go.Proofs.YtomgebmimgaojaaW.PrintWords Go.Proofs.YtomgebmimgaojaaW.PrintLast
set_option linter.unusedVariables false
set_option linter.unusedSimpArgs false
/-! ### gimbalref11_Close: function 23 -/
def gimbalref11_Close.l0 : Nat → List Int → Int → Int → List Int → List Int → Bool → Option (List Int × List Int × Bool)
 | 0, _, _, _, _, _, _ => none
 | k + 1, x32, x33, x34, x222000, x222001, x222002 => if x34 < x33 then (if 0 ≤ x34 then (if x34 < (x32.length : Int) then ((gimbalref11_clip.f (rd x32 x34)).bind fun t223 => (if x222001.length < 17592186044416 then (gimbalref11_Close.l0 k x32 x33 (wrap64 (x34 + 1)) x222000 (x222001 ++ [t223]) x222002) else (none))) else (none)) else (none)) else (some (x222000, x222001, x222002))
def gimbalref11_Close.f (k : Nat) (l0_0 : List Int) (l0_1 : List Int) (a0_2 : Bool) : Option (List Int × List Int × Bool) := if a0_2 = true then ((gimbalref11_Bottom.f l0_0).bind fun bt200 => (some (bt200.1, bt200.2.1, bt200.2.2))) else ((gimbalref11_Tight.f k l0_1 (wrap64 (2 * (l0_0.length : Int)))).bind fun bt207 => (if bt207.2 = true then ((gimbalref11_copied.f l0_0).bind fun t218 => (gimbalref11_Close.l0 k bt207.1 (bt207.1.length : Int) 0 t218 ([] : List Int) false)) else ((gimbalref11_Bottom.f l0_0).bind fun bt211 => (some (bt211.1, bt211.2.1, bt211.2.2)))))
theorem gimbalref11_Close.mono_l : ∀ k, (∀ y0 y1 y2 y3 y4 y5, LeO (gimbalref11_Close.l0 k y0 y1 y2 y3 y4 y5) (gimbalref11_Close.l0 (k + 1) y0 y1 y2 y3 y4 y5))
 | 0 => fun _ _ _ _ _ _ r h => by simp [gimbalref11_Close.l0] at h
 | k + 1 => by
  have ih0 := gimbalref11_Close.mono_l k
  ·
   intro y0 y1 y2 y3 y4 y5
   unfold gimbalref11_Close.l0
   repeat' first
   | (with_reducible exact ih0 _ _ _ _ _ _)
   | (with_reducible exact gimbalref11_Tight.mono _ _ _)
   | (with_reducible exact LeO.refl _)
   | (with_reducible exact LeO.none _)
   | (with_reducible refine LeO.ite ?_ ?_)
   | (with_reducible refine LeO.bind ?_ (fun _ => ?_))
   | exact ih0 _ _ _ _ _ _
   | exact gimbalref11_Tight.mono _ _ _
   | exact LeO.none _
   | refine LeO.ite ?_ ?_
   | refine LeO.bind ?_ (fun _ => ?_)
theorem gimbalref11_Close.mono : ∀ a0 a1 a2 k, LeO (gimbalref11_Close.f k a0 a1 a2) (gimbalref11_Close.f (k + 1) a0 a1 a2) := by
 intro a0 a1 a2 k
 have ih0 := gimbalref11_Close.mono_l k
 unfold gimbalref11_Close.f
 repeat' first
  | (with_reducible exact ih0 _ _ _ _ _ _)
  | (with_reducible exact gimbalref11_Tight.mono _ _ _)
  | (with_reducible exact LeO.refl _)
  | (with_reducible exact LeO.none _)
  | (with_reducible refine LeO.ite ?_ ?_)
  | (with_reducible refine LeO.bind ?_ (fun _ => ?_))
  | exact ih0 _ _ _ _ _ _
  | exact gimbalref11_Tight.mono _ _ _
  | exact LeO.none _
  | refine LeO.ite ?_ ?_
  | refine LeO.bind ?_ (fun _ => ?_)
def gimbalref11_Close.T10 : Bool × List (List Nat × List Nat) := (true, [([], []), ([0], [0]), ([], []), ([2], [2]), ([3], [3]), ([1, 4, 3], [1, 4]), ([0, 1, 2, 3, 4, 5], []), ([6, 5, 5, 0, 1, 2, 3, 4, 5], [5, 6])])
def gimbalref11_Close.B10 : List Nat := [0, 1, 0, 4, 12, 31, 63, 127]
theorem gimbalref11_Close.tab10 : rtab .any (opsOf Try.f23 10) = gimbalref11_Close.T10 := by kernel_rfl
theorem gimbalref11_Close.bits10 : waitsOk gimbalref11_Close.T10.2 gimbalref11_Close.B10 = true := by kernel_rfl
set_option maxHeartbeats 8000000 in
set_option maxRecDepth 100000 in
theorem gimbalref11_Close.calls (k : Nat) (A0_0 : Option Addr) (c0_0 : Nat) (l0_0 : List Int) (A0_1 : Option Addr) (c0_1 : Nat) (l0_1 : List Int) (a0_2 : Bool) (r1 : List Int) (r2 : List Int) (r3 : Bool) (w : World) (hr0_0 : Kd.C (Kd.int .i64) w A0_0 l0_0.length l0_0) (hc0_0 : l0_0.length ≤ c0_0) (hr0_1 : Kd.C (Kd.int .i64) w A0_1 l0_1.length l0_1) (hc0_1 : l0_1.length ≤ c0_1) (h : gimbalref11_Close.f k l0_0 l0_1 a0_2 = some (r1, r2, r3)) :
 Calls Try.prog 23 #[.agg #[.slice A0_0 l0_0.length c0_0, .slice A0_1 l0_1.length c0_1, .bool a0_2]] w fun e w' => ∃ v0_ v1_ : Value, e = .returned (.agg #[v0_, v1_, .bool r3]) ∧ Kd.R (Kd.int .i64) 3 w' w.heap.size (fun _ => True) v0_ r1 ∧ Kd.R (Kd.int .i64) 2 w' w.heap.size (fun _ => True) v1_ r2 ∧ Below w.heap.size w w' := by
 have hu25 := Try.underlying25
 have HR0_0 := Aside0.mk hr0_0
 have HC0_0 := Aside0.mk hc0_0
 clear hr0_0 hc0_0
 have HR0_1 := Aside0.mk hr0_1
 have HC0_1 := Aside0.mk hc0_1
 clear hr0_1 hc0_1
 have HB := Aside0.mk (Below.refl w.heap.size w)
 have H : (if a0_2 = true then ((gimbalref11_Bottom.f l0_0).bind fun bt200 => (some (bt200.1, bt200.2.1, bt200.2.2))) else ((gimbalref11_Tight.f k l0_1 (wrap64 (2 * (l0_0.length : Int)))).bind fun bt207 => (if bt207.2 = true then ((gimbalref11_copied.f l0_0).bind fun t218 => (gimbalref11_Close.l0 k bt207.1 (bt207.1.length : Int) 0 t218 ([] : List Int) false)) else ((gimbalref11_Bottom.f l0_0).bind fun bt211 => (some (bt211.1, bt211.2.1, bt211.2.2)))))) = some (r1, r2, r3) := h
 clear h
 by_cases c2 : a0_2 = true
 ·
  subst c2
  have H1 : ((gimbalref11_Bottom.f l0_0).bind fun bt200 => (some (bt200.1, bt200.2.1, bt200.2.2))) = some (r1, r2, r3) := by rw [if_pos rfl] at H; exact H
  clear H
  have H := H1
  clear H1
  replace H := Option.bind_eq_some_iff.mp H
  obtain ⟨⟨t200, t203, t206⟩, A30, H⟩ := H
  replace H : (some (t200, t203, t206)) = some (r1, r2, r3) := H
  have A3 := Aside0.mk A30
  clear A30
  simp only [Option.some.injEq, Prod.mk.injEq] at H
  obtain ⟨rfl, rfl, rfl⟩ := H
  go_enter Try.func23, Try.ntmps23
  go_wp2_with (first | ((with_reducible refine gate_dst (N := 1) rfl ?_); refine box_event ?hg (N := 1) ?hd (cs := #[.slice A0_0 l0_0.length c0_0, .slice A0_1 l0_1.length c0_1, .bool true]) (t := 25) ?hr ?_; (case hd => rfl); (case hg => rfl); (case hr => first | (go_simp; done) | (go_simp; rfl)); intro gb198 hg w4 hbox hb; have BK198 := Aside0.mk (hbox); have GW198 := vS hg HB; have GE198 := vS hg HB; replace HB := vWs HB hb; clear hb hbox hg) | ((with_reducible refine gate_dst (N := 2) rfl ?_); refine box_event ?hg (N := 2) ?hd (cs := #[.slice none 0 0, .slice none 0 0, .bool false]) (t := 25) ?hr ?_; (case hd => rfl); (case hg => rfl); (case hr => first | (go_simp; done) | (go_simp; rfl)); intro gb199 hg w5 hbox hb; have BK199 := Aside0.mk (hbox); have GW199 := vS hg HB; have GE199 := vS hg HB; replace HB := vWs HB hb; have NB198_199 := vNl hg BK198; have NB199_198 := vNg hg BK198; replace BK198 := vBb BK198 hb; clear hb hbox hg; have hnb6 := NB198_199.out; have hnc6 := NB199_198.out; obtain ⟨hcz7_0, hcz7_1, hcz7_2, hfz7_0, hfz7_1, hfz7_2⟩ := vF3 BK198.out) | ((with_reducible refine gate_callee (f := 17) rfl ?_); refine goesL_ (some 12) rfl rfl Try.func17 (by kernel_rfl) rfl #[.slice A0_0 l0_0.length c0_0] rfl vL ?_; (with_reducible refine (gimbalref11_Bottom.calls _ _ l0_0 t200 t203 t206 _ ?side1 ?side2 A3.out).mono ?_); (case side1 => exact vC (Kd.C_below HR0_0.out HB.out)); (case side2 => exact HC0_0.out); rintro e w8 ⟨v201, v204, rfl, ho0, ho1, hb⟩; refine ⟨_, rfl, ?_⟩; have HO202 := Aside0.mk (Kd.R_lower ho0 (below_size (vW HB.out))); have HO205 := Aside0.mk (Kd.R_lower ho1 (below_size (vW HB.out))); replace BK198 := vBb BK198 hb; replace BK199 := vBb BK199 hb; replace HB := vWs HB hb; (try clear hb); (try clear hb2); (try clear hk); (try clear hi); (try clear ho0); (try clear ho1); obtain ⟨Ao9, co9, eo9⟩ := Kd.R_slice HO202.out; subst eo9; obtain ⟨hcz10_0, hcz10_1, hcz10_2, hfz10_0, hfz10_1, hfz10_2⟩ := vF3 BK199.out; obtain ⟨Ao11, co11, eo11⟩ := Kd.R_slice HO205.out; subst eo11))
  refine bodyPost_ret (results_cell_row rfl _ _ gb199 25 #[.slice Ao9 t200.length co9, .slice Ao11 t203.length co11, .bool t206] (0, 0) _ rfl (by (with_reducible repeat (first | refine blk_drewN ?_ _ | refine blk_drew ?_ | refine blk_alloc ?_ _)); refine blk_put (cs := #[.slice Ao9 t200.length co9, .slice Ao11 t203.length co11, .bool false]) ?_ 2 _ rfl; (with_reducible repeat (first | refine blk_drewN ?_ _ | refine blk_drew ?_ | refine blk_alloc ?_ _)); refine blk_put (cs := #[.slice Ao9 t200.length co9, .slice none 0 0, .bool false]) ?_ 1 _ rfl; (with_reducible repeat (first | refine blk_drewN ?_ _ | refine blk_drew ?_ | refine blk_alloc ?_ _)); refine blk_put (cs := #[.slice none 0 0, .slice none 0 0, .bool false]) ?_ 0 _ rfl; (with_reducible repeat (first | refine blk_drewN ?_ _ | refine blk_drew ?_ | refine blk_alloc ?_ _)); exact BK199.out) Try.underlying25 rfl (by kernel_rfl)) rfl ?_
  exact ⟨_, _, by first | rfl | (simp [errW_none, errW_some] <;> rfl) | (simp [*, errW_none, errW_some] <;> rfl) | (simp [wrap64]; done), by (with_reducible repeat (first | apply Kd.R_alloc | apply Kd.R_drewN | apply Kd.R_drew)); exact Kd.R_mono (Kd.R_far (p := ⟨gb199, 2, none⟩) (Kd.R_far (p := ⟨gb199, 1, none⟩) (Kd.R_far (p := ⟨gb199, 0, none⟩) (Kd.R_types HO202.out BK199.out (by decide)) (fun _ hk => hk.2) (.slice Ao9 t200.length co9)) (fun _ hk => hk.2) (.slice Ao11 t203.length co11)) (fun _ hk => hk.2) (.bool t206)) (fun _ hk => trivial), by (with_reducible repeat (first | apply Kd.R_alloc | apply Kd.R_drewN | apply Kd.R_drew)); exact Kd.R_mono (Kd.R_far (p := ⟨gb199, 2, none⟩) (Kd.R_far (p := ⟨gb199, 1, none⟩) (Kd.R_far (p := ⟨gb199, 0, none⟩) (Kd.R_types HO205.out BK199.out (by decide)) (fun _ hk => hk.2) (.slice Ao9 t200.length co9)) (fun _ hk => hk.2) (.slice Ao11 t203.length co11)) (fun _ hk => hk.2) (.bool t206)) (fun _ hk => trivial), vW HB.out⟩
 ·
  replace c2 := Bool.eq_false_iff.mpr c2
  subst c2
  have H1 : ((gimbalref11_Tight.f k l0_1 (wrap64 (2 * (l0_0.length : Int)))).bind fun bt207 => (if bt207.2 = true then ((gimbalref11_copied.f l0_0).bind fun t218 => (gimbalref11_Close.l0 k bt207.1 (bt207.1.length : Int) 0 t218 ([] : List Int) false)) else ((gimbalref11_Bottom.f l0_0).bind fun bt211 => (some (bt211.1, bt211.2.1, bt211.2.2))))) = some (r1, r2, r3) := by rw [if_neg (show ¬ (false = true) by decide)] at H; exact H
  clear H
  have H := H1
  clear H1
  replace H := Option.bind_eq_some_iff.mp H
  obtain ⟨⟨t207, t208⟩, A120, H⟩ := H
  replace H : (if t208 = true then ((gimbalref11_copied.f l0_0).bind fun t218 => (gimbalref11_Close.l0 k t207 (t207.length : Int) 0 t218 ([] : List Int) false)) else ((gimbalref11_Bottom.f l0_0).bind fun bt211 => (some (bt211.1, bt211.2.1, bt211.2.2)))) = some (r1, r2, r3) := H
  have A12 := Aside0.mk A120
  clear A120
  by_cases c13 : t208 = true
  ·
   subst c13
   have H1 : ((gimbalref11_copied.f l0_0).bind fun t218 => (gimbalref11_Close.l0 k t207 (t207.length : Int) 0 t218 ([] : List Int) false)) = some (r1, r2, r3) := by rw [if_pos rfl] at H; exact H
   clear H
   have H := H1
   clear H1
   replace H := Option.bind_eq_some_iff.mp H
   obtain ⟨t218, A140, H⟩ := H
   replace H : (gimbalref11_Close.l0 k t207 (t207.length : Int) 0 t218 ([] : List Int) false) = some (r1, r2, r3) := H
   have A14 := Aside0.mk A140
   clear A140
   have H' := Aside0.mk H
   clear H
   go_enter Try.func23, Try.ntmps23
   go_wp2_with (first | ((with_reducible refine gate_dst (N := 1) rfl ?_); refine box_event ?hg (N := 1) ?hd (cs := #[.slice A0_0 l0_0.length c0_0, .slice A0_1 l0_1.length c0_1, .bool false]) (t := 25) ?hr ?_; (case hd => rfl); (case hg => rfl); (case hr => first | (go_simp; done) | (go_simp; rfl)); intro gb198 hg w15 hbox hb; have BK198 := Aside0.mk (hbox); have GW198 := vS hg HB; have GE198 := vS hg HB; replace HB := vWs HB hb; clear hb hbox hg) | ((with_reducible refine gate_dst (N := 2) rfl ?_); refine box_event ?hg (N := 2) ?hd (cs := #[.slice none 0 0, .slice none 0 0, .bool false]) (t := 25) ?hr ?_; (case hd => rfl); (case hg => rfl); (case hr => first | (go_simp; done) | (go_simp; rfl)); intro gb199 hg w16 hbox hb; have BK199 := Aside0.mk (hbox); have GW199 := vS hg HB; have GE199 := vS hg HB; replace HB := vWs HB hb; have NB198_199 := vNl hg BK198; have NB199_198 := vNg hg BK198; replace BK198 := vBb BK198 hb; clear hb hbox hg; have hnb17 := NB198_199.out; have hnc17 := NB199_198.out; obtain ⟨hcz18_0, hcz18_1, hcz18_2, hfz18_0, hfz18_1, hfz18_2⟩ := vF3 BK198.out) | ((with_reducible refine gate_callee (f := 59) rfl ?_); refine goesL_ (some 20) rfl rfl Try.func59 (by kernel_rfl) rfl #[.slice A0_1 l0_1.length c0_1, .int .i64 (wrap64 (2 * (l0_0.length : Int)))] rfl vL ?_; (with_reducible refine (gimbalref11_Tight.calls k _ _ l0_1 (wrap64 (2 * (l0_0.length : Int))) t207 true _ ?side1 ?side2 A12.out).mono ?_); (case side1 => exact vC (Kd.C_below HR0_1.out HB.out)); (case side2 => exact HC0_1.out); rintro e w19 ⟨v209, rfl, ho0, hb⟩; refine ⟨_, rfl, ?_⟩; have HO210 := Aside0.mk (Kd.R_lower ho0 (below_size (vW HB.out))); replace BK198 := vBb BK198 hb; replace BK199 := vBb BK199 hb; replace HB := vWs HB hb; (try clear hb); (try clear hb2); (try clear hk); (try clear hi); (try clear ho0); obtain ⟨hcz20_0, hcz20_1, hcz20_2, hfz20_0, hfz20_1, hfz20_2⟩ := vF3 BK198.out) | ((with_reducible refine gate_callee (f := 50) rfl ?_); refine goesL_ (some 30) rfl rfl Try.func50 (by kernel_rfl) rfl #[.slice A0_0 l0_0.length c0_0] rfl vL ?_; (with_reducible refine (gimbalref11_copied.calls _ _ l0_0 t218 _ ?side1 ?side2 A14.out).mono ?_); (case side1 => exact vC (Kd.C_below HR0_0.out HB.out)); (case side2 => exact HC0_0.out); rintro e w21 ⟨v219, rfl, ho0, hb⟩; refine ⟨_, rfl, ?_⟩; replace HO210 := vRb HO210 hb; have HO220 := Aside0.mk (Kd.R_lower ho0 (below_size (vW HB.out))); replace BK198 := vBb BK198 hb; replace BK199 := vBb BK199 hb; replace HB := vWs HB hb; (try clear hb); (try clear hb2); (try clear hk); (try clear hi); (try clear ho0); obtain ⟨Ao22, co22, eo22⟩ := Kd.R_slice HO220.out; subst eo22) | ((with_reducible refine gate_dst (N := 5) rfl ?_); refine box_event ?hg (N := 5) ?hd (cs := #[.slice none 0 0, .slice none 0 0, .bool false]) (t := 25) ?hr ?_; (case hd => rfl); (case hg => rfl); (case hr => first | (go_simp; done) | (go_simp; rfl)); intro gb221 hg w23 hbox hb; replace HO210 := vRb HO210 hb; replace HO220 := vRb HO220 hb; have BK221 := Aside0.mk (hbox); have GW221 := vS hg HB; have GE221 := vS hg HB; replace HB := vWs HB hb; have NB198_221 := vNl hg BK198; have NB221_198 := vNg hg BK198; replace BK198 := vBb BK198 hb; have NB199_221 := vNl hg BK199; have NB221_199 := vNg hg BK199; replace BK199 := vBb BK199 hb; clear hb hbox hg; have hnb24 := NB221_198.out; have hnc24 := NB198_221.out; have hnb25 := NB221_199.out; have hnc25 := NB199_221.out; obtain ⟨hcz26_0, hcz26_1, hcz26_2, hfz26_0, hfz26_1, hfz26_2⟩ := vF3 BK221.out; obtain ⟨Ao27, co27, eo27⟩ := Kd.R_slice HO210.out; subst eo27))
   go_loopg [34] k (fun kq v34 w' => ∃ (x34_1 : Int) (x222001_1 : List Int) (u222001 : Value), v34 = .int .i64 x34_1 ∧ Aside0 (gimbalref11_Close.l0 kq t207 (t207.length : Int) x34_1 t218 x222001_1 false = some (r1, r2, r3)) ∧ Aside0 (kq ≤ k) ∧ Aside0 (Kd.R (Kd.int .i64) 2 w' w.heap.size (fun k_ => some k_ ≠ (u222001 : Value).ownBlock) (.slice Ao27 t207.length co27) t207) ∧ Aside0 (Kd.R (Kd.int .i64) 3 w' w.heap.size (fun _ => True) (.slice Ao22 t218.length co22) t218) ∧ Aside0 (Kd.R (Kd.int .i64) 2 w' w.heap.size (fun k_ => some k_ ≠ ((.slice Ao27 t207.length co27) : Value).ownBlock) u222001 x222001_1) ∧ Aside0 (w'.heap[gb198]? = some (.cells #[(.slice A0_0 l0_0.length c0_0), (.slice A0_1 l0_1.length c0_1), .bool false] 25 (0, 0))) ∧ Aside0 (w'.heap[gb199]? = some (.cells #[(.slice none 0 0), (.slice none 0 0), .bool false] 25 (0, 0))) ∧ Aside0 (w'.heap[gb221]? = some (.cells #[(.slice Ao22 t218.length co22), u222001, .bool false] 25 (0, 0))) ∧ Aside0 (Below w.heap.size w w'))
   case atStart => exact ⟨(0), (([] : List Int)), (.slice none 0 0), (by first | rfl | (simp; done) | (simp [*]; done)), H', ⟨Nat.le_refl _⟩, ⟨by (with_reducible repeat (first | apply Kd.R_alloc | apply Kd.R_drewN | apply Kd.R_drew)); exact Kd.R_mono (Kd.R_far (p := ⟨gb221, 2, none⟩) (Kd.R_far (p := ⟨gb221, 1, none⟩) (Kd.R_far (p := ⟨gb221, 0, none⟩) (Kd.R_types HO210.out BK221.out (by decide)) (fun _ hk => hk.2) (.slice Ao22 t218.length co22)) (fun _ hk => hk.2) (.slice none 0 0)) (fun _ hk => hk.2) (.bool false)) (fun _ hk => (by simp [Value.ownBlock]))⟩, ⟨by (with_reducible repeat (first | apply Kd.R_alloc | apply Kd.R_drewN | apply Kd.R_drew)); exact Kd.R_mono (Kd.R_far (p := ⟨gb221, 2, none⟩) (Kd.R_far (p := ⟨gb221, 1, none⟩) (Kd.R_far (p := ⟨gb221, 0, none⟩) (Kd.R_types HO220.out BK221.out (by decide)) (fun _ hk => hk.2) (.slice Ao22 t218.length co22)) (fun _ hk => hk.2) (.slice none 0 0)) (fun _ hk => hk.2) (.bool false)) (fun _ hk => trivial)⟩, ⟨by first | exact Kd.R_nil _ _ _ _ _ | exact Kd.N_nil _ _ _ _ _ | exact Kd.V_nil _ _ _ _ _ | exact Kd.Q_nil _ _ _ _ _ | exact Kd.S_nil _ _ _ _ _⟩, ⟨vB BK198.out⟩, ⟨vB BK199.out⟩, ⟨by (with_reducible repeat (first | refine blk_drewN ?_ _ | refine blk_drew ?_ | refine blk_alloc ?_ _)); refine blk_put (cs := #[.slice Ao22 t218.length co22, .slice none 0 0, .bool false]) ?_ 2 _ rfl; (with_reducible repeat (first | refine blk_drewN ?_ _ | refine blk_drew ?_ | refine blk_alloc ?_ _)); refine blk_put (cs := #[.slice Ao22 t218.length co22, .slice none 0 0, .bool false]) ?_ 1 _ rfl; (with_reducible repeat (first | refine blk_drewN ?_ _ | refine blk_drew ?_ | refine blk_alloc ?_ _)); refine blk_put (cs := #[.slice none 0 0, .slice none 0 0, .bool false]) ?_ 0 _ rfl; (with_reducible repeat (first | refine blk_drewN ?_ _ | refine blk_drew ?_ | refine blk_alloc ?_ _)); exact BK221.out⟩, ⟨vW HB.out⟩⟩
   case round =>
    clear H'
    try clear c1
    try clear c2
    try clear p2
    try clear c5
    try clear c6
    try clear p6
    try clear c13
    try clear c17
    try clear c23
    try clear c24
    try clear c25
    try clear hcz10_0
    try clear hcz10_1
    try clear hcz10_2
    try clear hcz18_0
    try clear hcz18_1
    try clear hcz18_2
    try clear hcz20_0
    try clear hcz20_1
    try clear hcz20_2
    try clear hcz26_0
    try clear hcz26_1
    try clear hcz26_2
    try clear hcz7_0
    try clear hcz7_1
    try clear hcz7_2
    try clear hfz10_0
    try clear hfz10_1
    try clear hfz10_2
    try clear hfz18_0
    try clear hfz18_1
    try clear hfz18_2
    try clear hfz20_0
    try clear hfz20_1
    try clear hfz20_2
    try clear hfz26_0
    try clear hfz26_1
    try clear hfz26_2
    try clear hfz7_0
    try clear hfz7_1
    try clear hfz7_2
    obtain ⟨x34_1, x222001_1, u222001, rfl, HA, HK1, HO_32, HO_222000, HO_222001, BK198, BK199, BK221, HB⟩ := hrel
    cases gk with
    | zero => exact absurd HA.out (by simp [gimbalref11_Close.l0])
    | succ k1 =>
     have H := HA.out
     clear HA
     simp only [gimbalref11_Close.l0] at H
     by_cases c28 : x34_1 < (t207.length : Int)
     ·
      rw [if_pos c28] at H
      have c28b0 : decide (x34_1 < (t207.length : Int)) = true := decide_eq_true c28
      clear c28
      by_cases c29 : 0 ≤ x34_1
      ·
       rw [if_pos c29] at H
       have c29b0 : decide (0 ≤ x34_1) = true := decide_eq_true c29
       clear c29
       by_cases c30 : x34_1 < (t207.length : Int)
       ·
        rw [if_pos c30] at H
        have c30b0 : decide (x34_1 < (t207.length : Int)) = true := decide_eq_true c30
        clear c30
        replace H := Option.bind_eq_some_iff.mp H
        obtain ⟨t223, A310, H⟩ := H
        replace H : (if x222001_1.length < 17592186044416 then (gimbalref11_Close.l0 k1 t207 (t207.length : Int) (wrap64 (x34_1 + 1)) t218 (x222001_1 ++ [t223]) false) else (none)) = some (r1, r2, r3) := H
        have A31 := Aside0.mk A310
        clear A310
        by_cases c32 : x222001_1.length < 17592186044416
        ·
         rw [if_pos c32] at H
         have LMc32 := Aside0.mk c32
         clear c32
         obtain ⟨y224, hy224⟩ : ∃ y_ : List Int, y_ = (x222001_1 ++ [t223]) := ⟨_, rfl⟩
         replace H : (gimbalref11_Close.l0 k1 t207 (t207.length : Int) (wrap64 (x34_1 + 1)) t218 y224 false) = some (r1, r2, r3) := by first | (rw [hy224]; with_reducible exact H) | (have H2_ := (Option.bind_some _ _).symm.trans H; rw [hy224]; with_reducible exact H2_) | (have H2_ := (Option.bind_some _ _).symm.trans H; with_reducible exact H2_) | with_reducible exact H | (rw [hy224]; exact H) | exact H
         have Ny224 := Aside0.mk hy224
         clear hy224
         have H' := Aside0.mk H
         clear H
         have p222 : 0 ≤ (x34_1 : Int) := of_decide_eq_true (by first | (with_reducible assumption) | assumption)
         have q222 : x34_1 < (t207.length : Int) := of_decide_eq_true (by first | (with_reducible assumption) | assumption)
         obtain ⟨ad222, e222, hx222_0⟩ := Kd.at_int (Kd.R_reads' HO_32.out).2.2 x34_1 p222 q222
         cases e222
         replace p222 := eq_true p222
         replace q222 := eq_true q222
         try go_wp2
         replace HO_32 := Aside0.mk (Kd.R_drew HO_32.out)
         replace HO_222000 := Aside0.mk (Kd.R_drew HO_222000.out)
         replace HO_222001 := Aside0.mk (Kd.R_drew HO_222001.out)
         replace BK198 := Aside0.mk (blk_drew BK198.out)
         replace BK199 := Aside0.mk (blk_drew BK199.out)
         replace BK221 := Aside0.mk (blk_drew BK221.out)
         replace HB := Aside0.mk (below_drew1 HB.out)
         refine start_ (n := 8) (S := fun w' => w'.cell? ⟨gb221, 0, none⟩ = some (.slice Ao22 t218.length co22) ∧ w'.cell? ⟨gb221, 1, none⟩ = some (u222001) ∧ w'.cell? ⟨gb221, 2, none⟩ = some (.bool false)) (ds := [7]) (mB 8 0) (by kernel_rfl) rfl rfl ⟨(blk_cell BK221.out 0).trans rfl, (blk_cell BK221.out 1).trans rfl, (blk_cell BK221.out 2).trans rfl⟩ (fun hHeld => ?_); refine with_tabW gimbalref11_Close.tab10 gimbalref11_Close.bits10 (fun HT_ HW_ => ?_)
         generalize wr.drew = w33 at HO_32 HO_222000 HO_222001 BK198 BK199 BK221 HB hHeld ⊢
         refine pV_ 0 38 (mB 8 1) HT_ ?_
         refine pV_ 2 40 (mB 8 5) HT_ ?_
         refine tV_ 1 39 (mB 8 7) HT_ HW_ hHeld ?_
         refine one_ (i := 3) (N := some 41) (mB 8 15) rfl rfl (one_of HT_.out (by kernel_rfl)) (by decide) (fun K hK => ?_)
         refine goes_ Try.func60 (by kernel_rfl) rfl #[.int .i64 (rd t207 x34_1)] (by rfl) rfl rfl vL ?_
         with_reducible refine (gimbalref11_clip.calls (rd t207 x34_1) t223 _ A31.out).mono ?_
         rintro e w' ⟨rfl, ⟨nd, rfl⟩⟩
         refine ⟨_, rfl, ?_⟩
         refine hK.out _ _ ⟨(blk_cell BK221.out 0).trans rfl, (blk_cell BK221.out 1).trans rfl, (blk_cell BK221.out 2).trans rfl⟩ (fun hHeld => ?_)
         clear hK K
         refine norm_ (a' := ?_) ?_ ?_
         rotate_left
         ·
          show Act.put _ (some 41) _ = _
          simp only [Act.put, List.setIfInBounds_toArray, List.set_cons_zero, List.set_cons_succ, i64_w, i32_w]
          rfl
         refine one_ (i := 4) (N := some 42) (mB 8 31) rfl rfl (one_of HT_.out (by kernel_rfl)) (by decide) (fun K hK => ?_)
         refine value_ (w1 := ?_) (v := ?_) (by rfl) rfl ?_ ?_
         rotate_left 2
         ·
          go_simp
          constructor
          ·
           rfl
          ·
           rfl
         refine hK.out _ _ ⟨(blk_cell (blk_alloc BK221.out _) 0).trans rfl, (blk_cell (blk_alloc BK221.out _) 1).trans rfl, (blk_cell (blk_alloc BK221.out _) 2).trans rfl⟩ (fun hHeld => ?_)
         clear hK K
         refine norm_ (a' := ?_) ?_ ?_
         rotate_left
         ·
          show Act.put _ (some 42) _ = _
          simp only [Act.put, List.setIfInBounds_toArray, List.set_cons_zero, List.set_cons_succ, i64_w, i32_w]
          rfl
         refine one_ (i := 5) (N := some 43) (mB 8 63) rfl rfl (one_of HT_.out (by kernel_rfl)) (by decide) (fun K hK => ?_)
         refine Kd.R_append_step (Kd.int .i64) (w0 := w) w.heap.size (by rfl) (.tmp 39) (.tmp 42) 23 2 (.int .i64 0) 8 rfl Try.underlying23 info2 rfl (by decide) (by omega) u222001 x222001_1 t223 [.int .i64 t223] (fun k_ => some k_ ≠ (.slice (some ad222) t207.length co27 : Value).ownBlock) (fun _ => False) rfl rfl ?aP (fun _ hk => hk.elim) ?aF ?aO ?aB ?aS ?aL ?_
         (case aP => exact rfl)
         (case aB => exact (vW HB.out))
         (case aF => exact (fun k_ hk => Kd.fresh' (Kd.R_lt (vR HO_32.out)) k_ hk))
         (case aO => exact (vR HO_222001.out))
         (case aS => exact (below_size (vW HB.out)))
         (case aL => have := LMc32.out; omega)
         intro v225 w34 ho hb hg hat
         rw [← Ny224.out] at ho
         replace HO_32 := Aside0.mk (Kd.R_after (ok := (fun _ => True)) (by (with_reducible repeat (first | apply Kd.R_alloc | apply Kd.R_drewN | apply Kd.R_drew)); exact Kd.R_mono HO_32.out (fun _ hk => ⟨trivial, hk⟩)) hg hat)
         replace HO_222000 := Aside0.mk (Kd.R_over' (vR HO_222000.out) (Kd.R_typed (vR HO_222001.out)) (by decide) hg)
         replace BK198 := Aside0.mk (blk_grown (g := gb198) (o := .cells #[.slice A0_0 l0_0.length c0_0, .slice A0_1 l0_1.length c0_1, .bool false] 25 (0, 0)) (vB BK198.out) hg (Kd.R_ne HO_222001.out BK198.out (by decide)))
         replace BK199 := Aside0.mk (blk_grown (g := gb199) (o := .cells #[.slice none 0 0, .slice none 0 0, .bool false] 25 (0, 0)) (vB BK199.out) hg (Kd.R_ne HO_222001.out BK199.out (by decide)))
         replace BK221 := Aside0.mk (blk_grown (g := gb221) (o := .cells #[.slice Ao22 t218.length co22, u222001, .bool false] 25 (0, 0)) (vB BK221.out) hg (Kd.R_ne HO_222001.out BK221.out (by decide)))
         replace HB := Aside0.mk (hb)
         have HO226 := Aside0.mk (ho)
         clear HO_222001
         clear ho hb hg hat
         obtain ⟨Ao35, co35, eo35⟩ := Kd.R_slice HO226.out
         (first | subst eo35 | (injection eo35 with f1_ f2_ f3_; have f4_ := f1_.symm; have f5_ := f3_.symm; clear f1_ f2_ f3_; subst f4_; subst f5_))
         refine hK.out _ _ ⟨(blk_cell BK221.out 0).trans rfl, (blk_cell BK221.out 1).trans rfl, (blk_cell BK221.out 2).trans rfl⟩ (fun hHeld => ?_)
         clear hK K
         refine norm_ (a' := ?_) ?_ ?_
         rotate_left
         ·
          show Act.put _ (some 43) _ = _
          simp only [Act.put, List.setIfInBounds_toArray, List.set_cons_zero, List.set_cons_succ, i64_w, i32_w]
          rfl
         refine pV_ 6 44 (mB 8 127) HT_ ?_
         refine last_ (i := 7) (N := none) (mB 8 255) rfl rfl (one_of HT_.out (by kernel_rfl)) (by decide) (fun K hK => ?_)
         have hs36 : w34.cell? ⟨gb221, 1, none⟩ = some (u222001) := (blk_cell BK221.out 1).trans rfl
         have hfs36 := blk_frozen BK221.out 1
         have hns36_0 := NB198_221.out
         have hns36_1 := NB199_221.out
         have hms36_0 := NB221_198.out
         have hms36_1 := NB221_199.out
         refine skip_ (w1 := ?_) (by rfl) rfl ?_ ?_
         rotate_left
         ·
          go_simp
          rfl
         refine hK.out _ _ ?_
         clear hK K
         refine done_ (done_of HT_.out (by kernel_rfl)) ?_
         try go_wp2
         go_roundg k1
         case measure => have := HK1.out; omega
         case rel => exact ⟨(wrap64 (x34_1 + 1)), (y224), (.slice Ao35 y224.length co35), (by first | rfl | (simp; done) | (simp [*]; done)), H', ⟨by have := HK1.out; omega⟩, ⟨by (with_reducible repeat (first | apply Kd.R_alloc | apply Kd.R_drewN | apply Kd.R_drew)); exact Kd.R_mono (Kd.R_far (p := ⟨gb221, 1, none⟩) (Kd.R_types HO_32.out BK221.out (by decide)) (fun _ hk => hk.2) (.slice Ao35 y224.length co35)) (fun _ hk => hk.1.2)⟩, ⟨by (with_reducible repeat (first | apply Kd.R_alloc | apply Kd.R_drewN | apply Kd.R_drew)); exact Kd.R_mono (Kd.R_far (p := ⟨gb221, 1, none⟩) (Kd.R_types HO_222000.out BK221.out (by decide)) (fun _ hk => hk.2) (.slice Ao35 y224.length co35)) (fun _ hk => trivial)⟩, ⟨by (with_reducible repeat (first | apply Kd.R_alloc | apply Kd.R_drewN | apply Kd.R_drew)); exact Kd.R_mono (Kd.R_far (p := ⟨gb221, 1, none⟩) (Kd.R_types HO226.out BK221.out (by decide)) (fun _ hk => hk.2) (.slice Ao35 y224.length co35)) (fun _ hk => hk.1)⟩, ⟨vB BK198.out⟩, ⟨vB BK199.out⟩, ⟨by (with_reducible repeat (first | refine blk_drewN ?_ _ | refine blk_drew ?_ | refine blk_alloc ?_ _)); refine blk_put (cs := #[.slice Ao22 t218.length co22, u222001, .bool false]) ?_ 1 _ rfl; (with_reducible repeat (first | refine blk_drewN ?_ _ | refine blk_drew ?_ | refine blk_alloc ?_ _)); exact BK221.out⟩, ⟨vW HB.out⟩⟩
        ·
         rw [if_neg c32] at H
         exact absurd H (by simp)
       ·
        rw [if_neg c30] at H
        exact absurd H (by simp)
      ·
       rw [if_neg c29] at H
       exact absurd H (by simp)
     ·
      rw [if_neg c28] at H
      have c28b0 : decide (x34_1 < (t207.length : Int)) = false := decide_eq_false c28
      clear c28
      simp only [Option.some.injEq, Prod.mk.injEq] at H
      obtain ⟨rfl, rfl, rfl⟩ := H
      have hnb37 := NB221_198.out
      have hnc37 := NB198_221.out
      have hnb38 := NB221_199.out
      have hnc38 := NB199_221.out
      obtain ⟨hcz39_0, hcz39_1, hcz39_2, hfz39_0, hfz39_1, hfz39_2⟩ := vF3 BK221.out
      have hnb40 := NB199_198.out
      have hnc40 := NB198_199.out
      obtain ⟨hcz41_0, hcz41_1, hcz41_2, hfz41_0, hfz41_1, hfz41_2⟩ := vF3 BK199.out
      obtain ⟨Ao42, co42, eo42⟩ := Kd.R_slice HO_222001.out
      subst eo42
      go_wp2
      refine bodyPost_ret (results_cell_row rfl _ _ gb199 25 #[.slice Ao22 t218.length co22, .slice Ao42 x222001_1.length co42, .bool false] (0, 0) _ rfl (by (with_reducible repeat (first | refine blk_drewN ?_ _ | refine blk_drew ?_ | refine blk_alloc ?_ _)); refine blk_put (cs := #[.slice Ao22 t218.length co22, .slice Ao42 x222001_1.length co42, .bool false]) ?_ 2 _ rfl; (with_reducible repeat (first | refine blk_drewN ?_ _ | refine blk_drew ?_ | refine blk_alloc ?_ _)); refine blk_put (cs := #[.slice Ao22 t218.length co22, .slice none 0 0, .bool false]) ?_ 1 _ rfl; (with_reducible repeat (first | refine blk_drewN ?_ _ | refine blk_drew ?_ | refine blk_alloc ?_ _)); refine blk_put (cs := #[.slice none 0 0, .slice none 0 0, .bool false]) ?_ 0 _ rfl; (with_reducible repeat (first | refine blk_drewN ?_ _ | refine blk_drew ?_ | refine blk_alloc ?_ _)); exact BK199.out) Try.underlying25 rfl (by kernel_rfl)) rfl ?_
      exact ⟨_, _, by first | rfl | (simp [errW_none, errW_some] <;> rfl) | (simp [*, errW_none, errW_some] <;> rfl) | (simp [wrap64]; done), by (with_reducible repeat (first | apply Kd.R_alloc | apply Kd.R_drewN | apply Kd.R_drew)); exact Kd.R_mono (Kd.R_far (p := ⟨gb199, 2, none⟩) (Kd.R_far (p := ⟨gb199, 1, none⟩) (Kd.R_far (p := ⟨gb199, 0, none⟩) (Kd.R_types HO_222000.out BK199.out (by decide)) (fun _ hk => hk.2) (.slice Ao22 t218.length co22)) (fun _ hk => hk.2) (.slice Ao42 x222001_1.length co42)) (fun _ hk => hk.2) (.bool false)) (fun _ hk => trivial), by (with_reducible repeat (first | apply Kd.R_alloc | apply Kd.R_drewN | apply Kd.R_drew)); exact Kd.R_mono (Kd.R_far (p := ⟨gb199, 2, none⟩) (Kd.R_far (p := ⟨gb199, 1, none⟩) (Kd.R_far (p := ⟨gb199, 0, none⟩) (Kd.R_types HO_222001.out BK199.out (by decide)) (fun _ hk => hk.2) (.slice Ao22 t218.length co22)) (fun _ hk => hk.2) (.slice Ao42 x222001_1.length co42)) (fun _ hk => hk.2) (.bool false)) (fun _ hk => trivial), vW HB.out⟩
  ·
   replace c13 := Bool.eq_false_iff.mpr c13
   subst c13
   have H1 : ((gimbalref11_Bottom.f l0_0).bind fun bt211 => (some (bt211.1, bt211.2.1, bt211.2.2))) = some (r1, r2, r3) := by rw [if_neg (show ¬ (false = true) by decide)] at H; exact H
   clear H
   have H := H1
   clear H1
   replace H := Option.bind_eq_some_iff.mp H
   obtain ⟨⟨t211, t214, t217⟩, A430, H⟩ := H
   replace H : (some (t211, t214, t217)) = some (r1, r2, r3) := H
   have A43 := Aside0.mk A430
   clear A430
   simp only [Option.some.injEq, Prod.mk.injEq] at H
   obtain ⟨rfl, rfl, rfl⟩ := H
   go_enter Try.func23, Try.ntmps23
   go_wp2_with (first | ((with_reducible refine gate_dst (N := 1) rfl ?_); refine box_event ?hg (N := 1) ?hd (cs := #[.slice A0_0 l0_0.length c0_0, .slice A0_1 l0_1.length c0_1, .bool false]) (t := 25) ?hr ?_; (case hd => rfl); (case hg => rfl); (case hr => first | (go_simp; done) | (go_simp; rfl)); intro gb198 hg w44 hbox hb; have BK198 := Aside0.mk (hbox); have GW198 := vS hg HB; have GE198 := vS hg HB; replace HB := vWs HB hb; clear hb hbox hg) | ((with_reducible refine gate_dst (N := 2) rfl ?_); refine box_event ?hg (N := 2) ?hd (cs := #[.slice none 0 0, .slice none 0 0, .bool false]) (t := 25) ?hr ?_; (case hd => rfl); (case hg => rfl); (case hr => first | (go_simp; done) | (go_simp; rfl)); intro gb199 hg w45 hbox hb; have BK199 := Aside0.mk (hbox); have GW199 := vS hg HB; have GE199 := vS hg HB; replace HB := vWs HB hb; have NB198_199 := vNl hg BK198; have NB199_198 := vNg hg BK198; replace BK198 := vBb BK198 hb; clear hb hbox hg; have hnb46 := NB198_199.out; have hnc46 := NB199_198.out; obtain ⟨hcz47_0, hcz47_1, hcz47_2, hfz47_0, hfz47_1, hfz47_2⟩ := vF3 BK198.out) | ((with_reducible refine gate_callee (f := 59) rfl ?_); refine goesL_ (some 20) rfl rfl Try.func59 (by kernel_rfl) rfl #[.slice A0_1 l0_1.length c0_1, .int .i64 (wrap64 (2 * (l0_0.length : Int)))] rfl vL ?_; (with_reducible refine (gimbalref11_Tight.calls k _ _ l0_1 (wrap64 (2 * (l0_0.length : Int))) t207 false _ ?side1 ?side2 A12.out).mono ?_); (case side1 => exact vC (Kd.C_below HR0_1.out HB.out)); (case side2 => exact HC0_1.out); rintro e w48 ⟨v209, rfl, ho0, hb⟩; refine ⟨_, rfl, ?_⟩; have HO210 := Aside0.mk (Kd.R_lower ho0 (below_size (vW HB.out))); replace BK198 := vBb BK198 hb; replace BK199 := vBb BK199 hb; replace HB := vWs HB hb; (try clear hb); (try clear hb2); (try clear hk); (try clear hi); (try clear ho0); obtain ⟨hcz49_0, hcz49_1, hcz49_2, hfz49_0, hfz49_1, hfz49_2⟩ := vF3 BK198.out) | ((with_reducible refine gate_callee (f := 17) rfl ?_); refine goesL_ (some 27) rfl rfl Try.func17 (by kernel_rfl) rfl #[.slice A0_0 l0_0.length c0_0] rfl vL ?_; (with_reducible refine (gimbalref11_Bottom.calls _ _ l0_0 t211 t214 t217 _ ?side1 ?side2 A43.out).mono ?_); (case side1 => exact vC (Kd.C_below HR0_0.out HB.out)); (case side2 => exact HC0_0.out); rintro e w50 ⟨v212, v215, rfl, ho0, ho1, hb⟩; refine ⟨_, rfl, ?_⟩; have HO213 := Aside0.mk (Kd.R_lower ho0 (below_size (vW HB.out))); have HO216 := Aside0.mk (Kd.R_lower (Kd.R_new' ho1 (Kd.R_lt (vR HO210.out))) (below_size (vW HB.out))); replace HO210 := Aside0.mk (Kd.R_elder' (vR HO210.out) (Kd.R_base ho1) hb); replace BK198 := vBb BK198 hb; replace BK199 := vBb BK199 hb; replace HB := vWs HB hb; (try clear hb); (try clear hb2); (try clear hk); (try clear hi); (try clear ho0); (try clear ho1); obtain ⟨Ao51, co51, eo51⟩ := Kd.R_slice HO213.out; subst eo51; obtain ⟨hcz52_0, hcz52_1, hcz52_2, hfz52_0, hfz52_1, hfz52_2⟩ := vF3 BK199.out; obtain ⟨Ao53, co53, eo53⟩ := Kd.R_slice HO216.out; subst eo53))
   refine bodyPost_ret (results_cell_row rfl _ _ gb199 25 #[.slice Ao51 t211.length co51, .slice Ao53 t214.length co53, .bool t217] (0, 0) _ rfl (by (with_reducible repeat (first | refine blk_drewN ?_ _ | refine blk_drew ?_ | refine blk_alloc ?_ _)); refine blk_put (cs := #[.slice Ao51 t211.length co51, .slice Ao53 t214.length co53, .bool false]) ?_ 2 _ rfl; (with_reducible repeat (first | refine blk_drewN ?_ _ | refine blk_drew ?_ | refine blk_alloc ?_ _)); refine blk_put (cs := #[.slice Ao51 t211.length co51, .slice none 0 0, .bool false]) ?_ 1 _ rfl; (with_reducible repeat (first | refine blk_drewN ?_ _ | refine blk_drew ?_ | refine blk_alloc ?_ _)); refine blk_put (cs := #[.slice none 0 0, .slice none 0 0, .bool false]) ?_ 0 _ rfl; (with_reducible repeat (first | refine blk_drewN ?_ _ | refine blk_drew ?_ | refine blk_alloc ?_ _)); exact BK199.out) Try.underlying25 rfl (by kernel_rfl)) rfl ?_
   exact ⟨_, _, by first | rfl | (simp [errW_none, errW_some] <;> rfl) | (simp [*, errW_none, errW_some] <;> rfl) | (simp [wrap64]; done), by (with_reducible repeat (first | apply Kd.R_alloc | apply Kd.R_drewN | apply Kd.R_drew)); exact Kd.R_mono (Kd.R_far (p := ⟨gb199, 2, none⟩) (Kd.R_far (p := ⟨gb199, 1, none⟩) (Kd.R_far (p := ⟨gb199, 0, none⟩) (Kd.R_types HO213.out BK199.out (by decide)) (fun _ hk => hk.2) (.slice Ao51 t211.length co51)) (fun _ hk => hk.2) (.slice Ao53 t214.length co53)) (fun _ hk => hk.2) (.bool t217)) (fun _ hk => trivial), by (with_reducible repeat (first | apply Kd.R_alloc | apply Kd.R_drewN | apply Kd.R_drew)); exact Kd.R_mono (Kd.R_far (p := ⟨gb199, 2, none⟩) (Kd.R_far (p := ⟨gb199, 1, none⟩) (Kd.R_far (p := ⟨gb199, 0, none⟩) (Kd.R_types HO216.out BK199.out (by decide)) (fun _ hk => hk.2) (.slice Ao51 t211.length co51)) (fun _ hk => hk.2) (.slice Ao53 t214.length co53)) (fun _ hk => hk.2) (.bool t217)) (fun _ hk => trivial), vW HB.out⟩
end Go.Proofs.Ytomgebmimgaojaa.QO
end
end
section
/- Written by a program of this session out of the translation. -/
noncomputable section
namespace Go.Proofs.Ytomgebmimgaojaa.QO
open Go.RowKit Go.Proofs.YtomgebmimgaojaaW.PrintWords Go.Proofs.YtomgebmimgaojaaW.PrintLast
set_option linter.unusedVariables false
set_option linter.unusedSimpArgs false
/-! ### gimbalref11_Place: function 78 -/
def gimbalref11_Place.l0 : Nat → Int → List Int → Int → Int → Option (Int)
 | 0, _, _, _, _ => none
 | k + 1, x1, x8, x9, x10 => if x10 < x9 then (if 0 ≤ x10 then (if x10 < (x8.length : Int) then (if (rd x8 x10) = x1 then (some x10) else (gimbalref11_Place.l0 k x1 x8 x9 (wrap64 (x10 + 1)))) else (none)) else (none)) else (some (-1))
def gimbalref11_Place.f (k : Nat) (l0_0 : List Int) (l0_1 : List Int) (a0_2 : Bool) (a1 : Int) : Option (Int) := gimbalref11_Place.l0 k a1 l0_0 (l0_0.length : Int) 0
theorem gimbalref11_Place.mono_l : ∀ k, (∀ y0 y1 y2 y3, LeO (gimbalref11_Place.l0 k y0 y1 y2 y3) (gimbalref11_Place.l0 (k + 1) y0 y1 y2 y3))
 | 0 => fun _ _ _ _ r h => by simp [gimbalref11_Place.l0] at h
 | k + 1 => by
  have ih0 := gimbalref11_Place.mono_l k
  ·
   intro y0 y1 y2 y3
   unfold gimbalref11_Place.l0
   repeat' first
   | (with_reducible exact ih0 _ _ _ _)
   | (with_reducible exact LeO.refl _)
   | (with_reducible exact LeO.none _)
   | (with_reducible refine LeO.ite ?_ ?_)
   | (with_reducible refine LeO.bind ?_ (fun _ => ?_))
   | exact ih0 _ _ _ _
   | exact LeO.none _
   | refine LeO.ite ?_ ?_
   | refine LeO.bind ?_ (fun _ => ?_)
theorem gimbalref11_Place.mono : ∀ a0 a1 a2 a3 k, LeO (gimbalref11_Place.f k a0 a1 a2 a3) (gimbalref11_Place.f (k + 1) a0 a1 a2 a3) := by
 intro a0 a1 a2 a3 k
 have ih0 := gimbalref11_Place.mono_l k
 unfold gimbalref11_Place.f
 repeat' first
  | (with_reducible exact ih0 _ _ _ _)
  | (with_reducible exact LeO.refl _)
  | (with_reducible exact LeO.none _)
  | (with_reducible refine LeO.ite ?_ ?_)
  | (with_reducible refine LeO.bind ?_ (fun _ => ?_))
  | exact ih0 _ _ _ _
  | exact LeO.none _
  | refine LeO.ite ?_ ?_
  | refine LeO.bind ?_ (fun _ => ?_)
set_option maxHeartbeats 8000000 in
set_option maxRecDepth 100000 in
theorem gimbalref11_Place.calls (k : Nat) (A0_0 : Option Addr) (c0_0 : Nat) (l0_0 : List Int) (A0_1 : Option Addr) (c0_1 : Nat) (l0_1 : List Int) (a0_2 : Bool) (a1 : Int) (r : Int) (w : World) (hr0_0 : Kd.C (Kd.int .i64) w A0_0 l0_0.length l0_0) (hc0_0 : l0_0.length ≤ c0_0) (hr0_1 : Kd.C (Kd.int .i64) w A0_1 l0_1.length l0_1) (hc0_1 : l0_1.length ≤ c0_1) (h : gimbalref11_Place.f k l0_0 l0_1 a0_2 a1 = some r) :
 Calls Try.prog 78 #[.agg #[.slice A0_0 l0_0.length c0_0, .slice A0_1 l0_1.length c0_1, .bool a0_2], .int .i64 a1] w fun e w' => e = .returned (.int .i64 r) ∧ Below w.heap.size w w' := by
 have hu25 := Try.underlying25
 have HR0_0 := Aside0.mk hr0_0
 have HC0_0 := Aside0.mk hc0_0
 clear hr0_0 hc0_0
 have HR0_1 := Aside0.mk hr0_1
 have HC0_1 := Aside0.mk hc0_1
 clear hr0_1 hc0_1
 have HB := Aside0.mk (Below.refl w.heap.size w)
 have H : (gimbalref11_Place.l0 k a1 l0_0 (l0_0.length : Int) 0) = some r := h
 clear h
 have H' := Aside0.mk H
 clear H
 go_enter Try.func78, Try.ntmps78
 go_wp2_with (first | ((with_reducible refine gate_dst (N := 2) rfl ?_); refine box_event ?hg (N := 2) ?hd (cs := #[.slice A0_0 l0_0.length c0_0, .slice A0_1 l0_1.length c0_1, .bool a0_2]) (t := 25) ?hr ?_; (case hd => rfl); (case hg => rfl); (case hr => first | (go_simp; done) | (go_simp; rfl)); intro gb292 hg w3 hbox hb; have BK292 := Aside0.mk (hbox); have GW292 := vS hg HB; have GE292 := vS hg HB; replace HB := vWs HB hb; clear hb hbox hg; obtain ⟨hcz4_0, hcz4_1, hcz4_2, hfz4_0, hfz4_1, hfz4_2⟩ := vF3 BK292.out))
 go_loopg [10] k (fun kq v10 w' => ∃ (x10_1 : Int), v10 = .int .i64 x10_1 ∧ Aside0 (gimbalref11_Place.l0 kq a1 l0_0 (l0_0.length : Int) x10_1 = some r) ∧ Aside0 (kq ≤ k) ∧ Aside0 (w'.heap[gb292]? = some (.cells #[(.slice A0_0 l0_0.length c0_0), (.slice A0_1 l0_1.length c0_1), .bool a0_2] 25 (0, 0))) ∧ Aside0 (Below w.heap.size w w'))
 case atStart => exact ⟨(0), (by first | rfl | (simp; done) | (simp [*]; done)), H', ⟨Nat.le_refl _⟩, ⟨vB BK292.out⟩, ⟨vW HB.out⟩⟩
 case round =>
  clear H'
  try clear p2
  try clear hcz4_0
  try clear hcz4_1
  try clear hcz4_2
  try clear hfz4_0
  try clear hfz4_1
  try clear hfz4_2
  obtain ⟨x10_1, rfl, HA, HK1, BK292, HB⟩ := hrel
  cases gk with
  | zero => exact absurd HA.out (by simp [gimbalref11_Place.l0])
  | succ k1 =>
   have H := HA.out
   clear HA
   simp only [gimbalref11_Place.l0] at H
   by_cases c5 : x10_1 < (l0_0.length : Int)
   ·
    rw [if_pos c5] at H
    have c5b0 : decide (x10_1 < (l0_0.length : Int)) = true := decide_eq_true c5
    clear c5
    by_cases c6 : 0 ≤ x10_1
    ·
     rw [if_pos c6] at H
     have c6b0 : decide (0 ≤ x10_1) = true := decide_eq_true c6
     clear c6
     by_cases c7 : x10_1 < (l0_0.length : Int)
     ·
      rw [if_pos c7] at H
      have c7b0 : decide (x10_1 < (l0_0.length : Int)) = true := decide_eq_true c7
      clear c7
      by_cases c8 : (rd l0_0 x10_1) = a1
      ·
       rw [if_pos c8] at H
       have c8b0 : ((rd l0_0 x10_1) == a1) = true := beq_iff_eq.mpr c8
       have c8b1 : ((rd l0_0 x10_1) != a1) = false := bne_eq_false_iff_eq.mpr c8
       clear c8
       obtain rfl := Option.some.inj H
       have p293 : 0 ≤ (x10_1 : Int) := of_decide_eq_true (by first | (with_reducible assumption) | assumption)
       have q293 : x10_1 < (l0_0.length : Int) := of_decide_eq_true (by first | (with_reducible assumption) | assumption)
       obtain ⟨ad293, e293, hx293_0⟩ := Kd.at_int HR0_0.out x10_1 p293 q293
       cases e293
       replace hx293_0 := (HB.out.cell (World.block_lt_of_cell? w _ hx293_0)).trans hx293_0
       replace p293 := eq_true p293
       replace q293 := eq_true q293
       go_wp2
       go_ret
       exact ⟨by first | rfl | (simp [errW_none, errW_some] <;> rfl) | (simp [*, errW_none, errW_some] <;> rfl) | (simp [wrap64]; done), vW HB.out⟩
      ·
       rw [if_neg c8] at H
       have c8b0 : ((rd l0_0 x10_1) == a1) = false := beq_eq_false_iff_ne.mpr c8
       have c8b1 : ((rd l0_0 x10_1) != a1) = true := bne_iff_ne.mpr c8
       have H' := Aside0.mk H
       clear H
       have p293 : 0 ≤ (x10_1 : Int) := of_decide_eq_true (by first | (with_reducible assumption) | assumption)
       have q293 : x10_1 < (l0_0.length : Int) := of_decide_eq_true (by first | (with_reducible assumption) | assumption)
       obtain ⟨ad293, e293, hx293_0⟩ := Kd.at_int HR0_0.out x10_1 p293 q293
       cases e293
       replace hx293_0 := (HB.out.cell (World.block_lt_of_cell? w _ hx293_0)).trans hx293_0
       replace p293 := eq_true p293
       replace q293 := eq_true q293
       go_wp2
       go_roundg k1
       case measure => have := HK1.out; omega
       case rel => exact ⟨(wrap64 (x10_1 + 1)), (by first | rfl | (simp; done) | (simp [*]; done)), H', ⟨by have := HK1.out; omega⟩, ⟨vB BK292.out⟩, ⟨vW HB.out⟩⟩
     ·
      rw [if_neg c7] at H
      exact absurd H (by simp)
    ·
     rw [if_neg c6] at H
     exact absurd H (by simp)
   ·
    rw [if_neg c5] at H
    have c5b0 : decide (x10_1 < (l0_0.length : Int)) = false := decide_eq_false c5
    clear c5
    obtain rfl := Option.some.inj H
    go_wp2
    go_ret
    exact ⟨by first | rfl | (simp [errW_none, errW_some] <;> rfl) | (simp [*, errW_none, errW_some] <;> rfl) | (simp [wrap64]; done), vW HB.out⟩
end Go.Proofs.Ytomgebmimgaojaa.QO
end
end
section
/- Written by a program of this session out of the translation. -/
noncomputable section
namespace Go.Proofs.Ytomgebmimgaojaa.QO
open Go.RowKit Go.Proofs.YtomgebmimgaojaaW.PrintWords Go.Proofs.YtomgebmimgaojaaW.PrintLast
set_option linter.unusedVariables false
set_option linter.unusedSimpArgs false
/-! ### gimbalref11_Node: function 93 -/
def gimbalref11_Node.f (a0 : Int) (a1 : Int) : Option (Int) := if a1 > 0 then (some (wrap64 (2 * a0))) else (some (wrap64 ((wrap64 (2 * a0)) + 1)))
set_option maxHeartbeats 8000000 in
set_option maxRecDepth 100000 in
theorem gimbalref11_Node.calls (a0 : Int) (a1 : Int) (r : Int) (w : World) (h : gimbalref11_Node.f a0 a1 = some r) :
 Calls Try.prog 93 #[.int .i64 a0, .int .i64 a1] w fun e w' => e = .returned (.int .i64 r) ∧ Drawn0 w w' := by
 have H : (if a1 > 0 then (some (wrap64 (2 * a0))) else (some (wrap64 ((wrap64 (2 * a0)) + 1)))) = some r := h
 clear h
 by_cases c3 : a1 > 0
 ·
  rw [if_pos c3] at H
  have c3b0 : decide (0 < a1) = true := decide_eq_true c3
  clear c3
  obtain rfl := Option.some.inj H
  go_enter Try.func93, Try.ntmps93
  go_wp2
  go_ret
  exact ⟨by first | rfl | (simp; done) | (simp [*]; done), by repeat (first | exact Drawn0.refl _ | apply Drawn0.step)⟩
 ·
  rw [if_neg c3] at H
  have c3b0 : decide (0 < a1) = false := decide_eq_false c3
  clear c3
  obtain rfl := Option.some.inj H
  go_enter Try.func93, Try.ntmps93
  go_wp2
  go_ret
  exact ⟨by first | rfl | (simp; done) | (simp [*]; done), by repeat (first | exact Drawn0.refl _ | apply Drawn0.step)⟩
end Go.Proofs.Ytomgebmimgaojaa.QO
end
end
section
/- Written by a program of this session out of the translation. -/
noncomputable section
namespace Go.Proofs.Ytomgebmimgaojaa.QO
open Go.RowKit Go.Proofs.YtomgebmimgaojaaW.PrintWords Go.Proofs.YtomgebmimgaojaaW.PrintLast
set_option linter.unusedVariables false
set_option linter.unusedSimpArgs false
/-! ### gimbalref11_greatest: function 79 -/
def gimbalref11_greatest.f (k : Nat) (l0_0 : List Int) (l0_1 : List Int) (a0_2 : Bool) (a1_0 : Int) (a1_1 : Int) (a1_2 : Int) (a1_3 : Int) (a1_4 : Int) : Option (Int) := if a1_1 = 0 then (some 0) else ((gimbalref11_Place.f k l0_0 l0_1 a0_2 a1_0).bind fun t296 => ((gimbalref11_Node.f t296 a1_1).bind fun t297 => (if a1_3 = 0 then ((gimbalref11_bar.f t297).bind fun t298 => (if 0 ≤ (wrap64 ((wrap64 (t298 * (wrap64 (2 * (l0_0.length : Int))))) + t297)) then (if (wrap64 ((wrap64 (t298 * (wrap64 (2 * (l0_0.length : Int))))) + t297)) < (l0_1.length : Int) then (if (rd l0_1 (wrap64 ((wrap64 (t298 * (wrap64 (2 * (l0_0.length : Int))))) + t297))) = 4611686018427387904 then (some 4611686018427387904) else ((gimbalref11_halved.f (rd l0_1 (wrap64 ((wrap64 (t298 * (wrap64 (2 * (l0_0.length : Int))))) + t297)))).bind fun t300 => (some t300))) else (none)) else (none))) else ((gimbalref11_Place.f k l0_0 l0_1 a0_2 a1_2).bind fun t301 => ((gimbalref11_Node.f t301 a1_3).bind fun t302 => ((gimbalref11_bar.f t297).bind fun t303 => (if 0 ≤ (wrap64 ((wrap64 (t303 * (wrap64 (2 * (l0_0.length : Int))))) + t302)) then (if (wrap64 ((wrap64 (t303 * (wrap64 (2 * (l0_0.length : Int))))) + t302)) < (l0_1.length : Int) then (some (rd l0_1 (wrap64 ((wrap64 (t303 * (wrap64 (2 * (l0_0.length : Int))))) + t302)))) else (none)) else (none))))))))
theorem gimbalref11_greatest.mono : ∀ a0 a1 a2 a3 a4 a5 a6 a7 k, LeO (gimbalref11_greatest.f k a0 a1 a2 a3 a4 a5 a6 a7) (gimbalref11_greatest.f (k + 1) a0 a1 a2 a3 a4 a5 a6 a7) := by
 intro a0 a1 a2 a3 a4 a5 a6 a7 k
 unfold gimbalref11_greatest.f
 repeat' first
  | (with_reducible exact gimbalref11_Place.mono _ _ _ _ _)
  | (with_reducible exact LeO.refl _)
  | (with_reducible exact LeO.none _)
  | (with_reducible refine LeO.ite ?_ ?_)
  | (with_reducible refine LeO.bind ?_ (fun _ => ?_))
  | exact gimbalref11_Place.mono _ _ _ _ _
  | exact LeO.none _
  | refine LeO.ite ?_ ?_
  | refine LeO.bind ?_ (fun _ => ?_)
def gimbalref11_greatest.T4 : Bool × List (List Nat × List Nat) := (true, [([], []), ([], []), ([1], [1]), ([0, 2], [0, 2]), ([], []), ([4], [4]), ([3, 5, 3], [3, 5]), ([6, 6, 0, 1, 2, 3, 4, 5, 6], [6])])
def gimbalref11_greatest.B4 : List Nat := [0, 0, 2, 7, 0, 16, 63, 127]
theorem gimbalref11_greatest.tab4 : rtab .any (opsOf Try.f79 4) = gimbalref11_greatest.T4 := by kernel_rfl
theorem gimbalref11_greatest.bits4 : waitsOk gimbalref11_greatest.T4.2 gimbalref11_greatest.B4 = true := by kernel_rfl
def gimbalref11_greatest.T6 : Bool × List (List Nat × List Nat) := (true, [([], []), ([0], [0]), ([], []), ([2], [2]), ([], []), ([3, 4], [3, 4]), ([], []), ([5, 6], [5, 6]), ([1, 7], [1, 7]), ([8], [8]), ([9, 3, 0, 1, 2, 3, 4, 5, 6, 7, 8, 9], [9])])
def gimbalref11_greatest.B6 : List Nat := [0, 1, 0, 4, 0, 28, 0, 124, 255, 511, 1023]
theorem gimbalref11_greatest.tab6 : rtab .any (opsOf Try.f79 6) = gimbalref11_greatest.T6 := by kernel_rfl
theorem gimbalref11_greatest.bits6 : waitsOk gimbalref11_greatest.T6.2 gimbalref11_greatest.B6 = true := by kernel_rfl
def gimbalref11_greatest.T10 : Bool × List (List Nat × List Nat) := (true, [([], []), ([], []), ([1], [1]), ([0, 2], [0, 2]), ([], []), ([4], [4]), ([3, 5, 3], [3, 5]), ([6, 6, 0, 1, 2, 3, 4, 5, 6], [6])])
def gimbalref11_greatest.B10 : List Nat := [0, 0, 2, 7, 0, 16, 63, 127]
theorem gimbalref11_greatest.tab10 : rtab .any (opsOf Try.f79 10) = gimbalref11_greatest.T10 := by kernel_rfl
theorem gimbalref11_greatest.bits10 : waitsOk gimbalref11_greatest.T10.2 gimbalref11_greatest.B10 = true := by kernel_rfl
def gimbalref11_greatest.T11 : Bool × List (List Nat × List Nat) := (true, [([], []), ([0], [0]), ([], []), ([2], [2]), ([], []), ([3, 4], [3, 4]), ([], []), ([5, 6], [5, 6]), ([1, 7], [1, 7]), ([8], [8]), ([9, 3, 0, 1, 2, 3, 4, 5, 6, 7, 8, 9], [9])])
def gimbalref11_greatest.B11 : List Nat := [0, 1, 0, 4, 0, 28, 0, 124, 255, 511, 1023]
theorem gimbalref11_greatest.tab11 : rtab .any (opsOf Try.f79 11) = gimbalref11_greatest.T11 := by kernel_rfl
theorem gimbalref11_greatest.bits11 : waitsOk gimbalref11_greatest.T11.2 gimbalref11_greatest.B11 = true := by kernel_rfl
set_option maxHeartbeats 8000000 in
set_option maxRecDepth 100000 in
theorem gimbalref11_greatest.calls (k : Nat) (A0_0 : Option Addr) (c0_0 : Nat) (l0_0 : List Int) (A0_1 : Option Addr) (c0_1 : Nat) (l0_1 : List Int) (a0_2 : Bool) (a1_0 : Int) (a1_1 : Int) (a1_2 : Int) (a1_3 : Int) (a1_4 : Int) (r : Int) (w : World) (hr0_0 : Kd.C (Kd.int .i64) w A0_0 l0_0.length l0_0) (hc0_0 : l0_0.length ≤ c0_0) (hr0_1 : Kd.C (Kd.int .i64) w A0_1 l0_1.length l0_1) (hc0_1 : l0_1.length ≤ c0_1) (h : gimbalref11_greatest.f k l0_0 l0_1 a0_2 a1_0 a1_1 a1_2 a1_3 a1_4 = some r) :
 Calls Try.prog 79 #[.agg #[.slice A0_0 l0_0.length c0_0, .slice A0_1 l0_1.length c0_1, .bool a0_2], .agg #[.int .i64 a1_0, .int .i64 a1_1, .int .i64 a1_2, .int .i64 a1_3, .int .i64 a1_4]] w fun e w' => e = .returned (.int .i64 r) ∧ Below w.heap.size w w' := by
 have hu25 := Try.underlying25
 have hu49 := Try.underlying49
 have HR0_0 := Aside0.mk hr0_0
 have HC0_0 := Aside0.mk hc0_0
 clear hr0_0 hc0_0
 have HR0_1 := Aside0.mk hr0_1
 have HC0_1 := Aside0.mk hc0_1
 clear hr0_1 hc0_1
 have HB := Aside0.mk (Below.refl w.heap.size w)
 have H : (if a1_1 = 0 then (some 0) else ((gimbalref11_Place.f k l0_0 l0_1 a0_2 a1_0).bind fun t296 => ((gimbalref11_Node.f t296 a1_1).bind fun t297 => (if a1_3 = 0 then ((gimbalref11_bar.f t297).bind fun t298 => (if 0 ≤ (wrap64 ((wrap64 (t298 * (wrap64 (2 * (l0_0.length : Int))))) + t297)) then (if (wrap64 ((wrap64 (t298 * (wrap64 (2 * (l0_0.length : Int))))) + t297)) < (l0_1.length : Int) then (if (rd l0_1 (wrap64 ((wrap64 (t298 * (wrap64 (2 * (l0_0.length : Int))))) + t297))) = 4611686018427387904 then (some 4611686018427387904) else ((gimbalref11_halved.f (rd l0_1 (wrap64 ((wrap64 (t298 * (wrap64 (2 * (l0_0.length : Int))))) + t297)))).bind fun t300 => (some t300))) else (none)) else (none))) else ((gimbalref11_Place.f k l0_0 l0_1 a0_2 a1_2).bind fun t301 => ((gimbalref11_Node.f t301 a1_3).bind fun t302 => ((gimbalref11_bar.f t297).bind fun t303 => (if 0 ≤ (wrap64 ((wrap64 (t303 * (wrap64 (2 * (l0_0.length : Int))))) + t302)) then (if (wrap64 ((wrap64 (t303 * (wrap64 (2 * (l0_0.length : Int))))) + t302)) < (l0_1.length : Int) then (some (rd l0_1 (wrap64 ((wrap64 (t303 * (wrap64 (2 * (l0_0.length : Int))))) + t302)))) else (none)) else (none))))))))) = some r := h
 clear h
 by_cases c3 : a1_1 = 0
 ·
  rw [if_pos c3] at H
  have c3b0 : (a1_1 == 0) = true := beq_iff_eq.mpr c3
  have c3b1 : (a1_1 != 0) = false := bne_eq_false_iff_eq.mpr c3
  clear c3
  obtain rfl := Option.some.inj H
  go_enter Try.func79, Try.ntmps79
  go_wp2_with (first | ((with_reducible refine gate_dst (N := 2) rfl ?_); refine box_event ?hg (N := 2) ?hd (cs := #[.slice A0_0 l0_0.length c0_0, .slice A0_1 l0_1.length c0_1, .bool a0_2]) (t := 25) ?hr ?_; (case hd => rfl); (case hg => rfl); (case hr => first | (go_simp; done) | (go_simp; rfl)); intro gb294 hg w4 hbox hb; have BK294 := Aside0.mk (hbox); have GW294 := vS hg HB; have GE294 := vS hg HB; replace HB := vWs HB hb; clear hb hbox hg) | ((with_reducible refine gate_dst (N := 3) rfl ?_); refine box_event ?hg (N := 3) ?hd (cs := #[.int .i64 a1_0, .int .i64 a1_1, .int .i64 a1_2, .int .i64 a1_3, .int .i64 a1_4]) (t := 49) ?hr ?_; (case hd => rfl); (case hg => rfl); (case hr => first | (go_simp; done) | (go_simp; rfl)); intro gb295 hg w5 hbox hb; have BK295 := Aside0.mk (hbox); have GW295 := vS hg HB; have GE295 := vS hg HB; replace HB := vWs HB hb; have NB294_295 := vNl hg BK294; have NB295_294 := vNg hg BK294; replace BK294 := vBb BK294 hb; clear hb hbox hg; have hnb6 := NB294_295.out; have hnc6 := NB295_294.out; obtain ⟨hcz7_0, hcz7_1, hcz7_2, hfz7_0, hfz7_1, hfz7_2⟩ := vF3 BK294.out; obtain ⟨hcz8_0, hcz8_1, hcz8_2, hcz8_3, hcz8_4, hfz8_0, hfz8_1, hfz8_2, hfz8_3, hfz8_4⟩ := vF5 BK295.out))
  go_ret
  exact ⟨by first | rfl | (simp [errW_none, errW_some] <;> rfl) | (simp [*, errW_none, errW_some] <;> rfl) | (simp [wrap64]; done), vW HB.out⟩
 ·
  rw [if_neg c3] at H
  have c3b0 : (a1_1 == 0) = false := beq_eq_false_iff_ne.mpr c3
  have c3b1 : (a1_1 != 0) = true := bne_iff_ne.mpr c3
  replace H := Option.bind_eq_some_iff.mp H
  obtain ⟨t296, A90, H⟩ := H
  replace H : ((gimbalref11_Node.f t296 a1_1).bind fun t297 => (if a1_3 = 0 then ((gimbalref11_bar.f t297).bind fun t298 => (if 0 ≤ (wrap64 ((wrap64 (t298 * (wrap64 (2 * (l0_0.length : Int))))) + t297)) then (if (wrap64 ((wrap64 (t298 * (wrap64 (2 * (l0_0.length : Int))))) + t297)) < (l0_1.length : Int) then (if (rd l0_1 (wrap64 ((wrap64 (t298 * (wrap64 (2 * (l0_0.length : Int))))) + t297))) = 4611686018427387904 then (some 4611686018427387904) else ((gimbalref11_halved.f (rd l0_1 (wrap64 ((wrap64 (t298 * (wrap64 (2 * (l0_0.length : Int))))) + t297)))).bind fun t300 => (some t300))) else (none)) else (none))) else ((gimbalref11_Place.f k l0_0 l0_1 a0_2 a1_2).bind fun t301 => ((gimbalref11_Node.f t301 a1_3).bind fun t302 => ((gimbalref11_bar.f t297).bind fun t303 => (if 0 ≤ (wrap64 ((wrap64 (t303 * (wrap64 (2 * (l0_0.length : Int))))) + t302)) then (if (wrap64 ((wrap64 (t303 * (wrap64 (2 * (l0_0.length : Int))))) + t302)) < (l0_1.length : Int) then (some (rd l0_1 (wrap64 ((wrap64 (t303 * (wrap64 (2 * (l0_0.length : Int))))) + t302)))) else (none)) else (none))))))) = some r := H
  have A9 := Aside0.mk A90
  clear A90
  replace H := Option.bind_eq_some_iff.mp H
  obtain ⟨t297, A100, H⟩ := H
  replace H : (if a1_3 = 0 then ((gimbalref11_bar.f t297).bind fun t298 => (if 0 ≤ (wrap64 ((wrap64 (t298 * (wrap64 (2 * (l0_0.length : Int))))) + t297)) then (if (wrap64 ((wrap64 (t298 * (wrap64 (2 * (l0_0.length : Int))))) + t297)) < (l0_1.length : Int) then (if (rd l0_1 (wrap64 ((wrap64 (t298 * (wrap64 (2 * (l0_0.length : Int))))) + t297))) = 4611686018427387904 then (some 4611686018427387904) else ((gimbalref11_halved.f (rd l0_1 (wrap64 ((wrap64 (t298 * (wrap64 (2 * (l0_0.length : Int))))) + t297)))).bind fun t300 => (some t300))) else (none)) else (none))) else ((gimbalref11_Place.f k l0_0 l0_1 a0_2 a1_2).bind fun t301 => ((gimbalref11_Node.f t301 a1_3).bind fun t302 => ((gimbalref11_bar.f t297).bind fun t303 => (if 0 ≤ (wrap64 ((wrap64 (t303 * (wrap64 (2 * (l0_0.length : Int))))) + t302)) then (if (wrap64 ((wrap64 (t303 * (wrap64 (2 * (l0_0.length : Int))))) + t302)) < (l0_1.length : Int) then (some (rd l0_1 (wrap64 ((wrap64 (t303 * (wrap64 (2 * (l0_0.length : Int))))) + t302)))) else (none)) else (none)))))) = some r := H
  have A10 := Aside0.mk A100
  clear A100
  by_cases c11 : a1_3 = 0
  ·
   rw [if_pos c11] at H
   have c11b0 : (a1_3 == 0) = true := beq_iff_eq.mpr c11
   have c11b1 : (a1_3 != 0) = false := bne_eq_false_iff_eq.mpr c11
   clear c11
   replace H := Option.bind_eq_some_iff.mp H
   obtain ⟨t298, A120, H⟩ := H
   replace H : (if 0 ≤ (wrap64 ((wrap64 (t298 * (wrap64 (2 * (l0_0.length : Int))))) + t297)) then (if (wrap64 ((wrap64 (t298 * (wrap64 (2 * (l0_0.length : Int))))) + t297)) < (l0_1.length : Int) then (if (rd l0_1 (wrap64 ((wrap64 (t298 * (wrap64 (2 * (l0_0.length : Int))))) + t297))) = 4611686018427387904 then (some 4611686018427387904) else ((gimbalref11_halved.f (rd l0_1 (wrap64 ((wrap64 (t298 * (wrap64 (2 * (l0_0.length : Int))))) + t297)))).bind fun t300 => (some t300))) else (none)) else (none)) = some r := H
   have A12 := Aside0.mk A120
   clear A120
   obtain ⟨ji13, hji13⟩ : ∃ j_ : Int, (wrap64 ((wrap64 (t298 * (wrap64 (2 * (l0_0.length : Int))))) + t297)) = j_ := ⟨_, rfl⟩
   replace H : (if 0 ≤ (ji13) then (if (ji13) < (l0_1.length : Int) then (if (rd l0_1 (ji13)) = 4611686018427387904 then (some 4611686018427387904) else ((gimbalref11_halved.f (rd l0_1 (ji13))).bind fun t300 => (some t300))) else (none)) else (none)) = some r := by first | (rw [hji13] at H; exact H) | (simp only [hji13] at H ⊢; exact H)
   (try rw [hji13] at A9)
   (try rw [hji13] at A10)
   (try rw [hji13] at A12)
   have hji13w : (IntKind.i64.wrap ((wrap64 (t298 * (wrap64 (2 * (l0_0.length : Int))))) + t297)) = ji13 := (i64_w _).trans hji13
   by_cases c14 : 0 ≤ (ji13)
   ·
    rw [if_pos c14] at H
    have c14b0 : decide (0 ≤ (ji13)) = true := decide_eq_true c14
    clear c14
    by_cases c15 : (ji13) < (l0_1.length : Int)
    ·
     rw [if_pos c15] at H
     have c15b0 : decide ((ji13) < (l0_1.length : Int)) = true := decide_eq_true c15
     clear c15
     by_cases c16 : (rd l0_1 (ji13)) = 4611686018427387904
     ·
      rw [if_pos c16] at H
      have c16b0 : ((rd l0_1 (ji13)) == 4611686018427387904) = true := beq_iff_eq.mpr c16
      have c16b1 : ((rd l0_1 (ji13)) != 4611686018427387904) = false := bne_eq_false_iff_eq.mpr c16
      clear c16
      obtain rfl := Option.some.inj H
      go_enter Try.func79, Try.ntmps79
      try go_wp2_with (first | ((with_reducible refine gate_dst (N := 2) rfl ?_); refine box_event ?hg (N := 2) ?hd (cs := #[.slice A0_0 l0_0.length c0_0, .slice A0_1 l0_1.length c0_1, .bool a0_2]) (t := 25) ?hr ?_; (case hd => rfl); (case hg => rfl); (case hr => first | (go_simp; done) | (go_simp; rfl)); intro gb294 hg w17 hbox hb; have BK294 := Aside0.mk (hbox); have GW294 := vS hg HB; have GE294 := vS hg HB; replace HB := vWs HB hb; clear hb hbox hg) | ((with_reducible refine gate_dst (N := 3) rfl ?_); refine box_event ?hg (N := 3) ?hd (cs := #[.int .i64 a1_0, .int .i64 a1_1, .int .i64 a1_2, .int .i64 a1_3, .int .i64 a1_4]) (t := 49) ?hr ?_; (case hd => rfl); (case hg => rfl); (case hr => first | (go_simp; done) | (go_simp; rfl)); intro gb295 hg w18 hbox hb; have BK295 := Aside0.mk (hbox); have GW295 := vS hg HB; have GE295 := vS hg HB; replace HB := vWs HB hb; have NB294_295 := vNl hg BK294; have NB295_294 := vNg hg BK294; replace BK294 := vBb BK294 hb; clear hb hbox hg; have hnb19 := NB294_295.out; have hnc19 := NB295_294.out; obtain ⟨hcz20_0, hcz20_1, hcz20_2, hfz20_0, hfz20_1, hfz20_2⟩ := vF3 BK294.out; obtain ⟨hcz21_0, hcz21_1, hcz21_2, hcz21_3, hcz21_4, hfz21_0, hfz21_1, hfz21_2, hfz21_3, hfz21_4⟩ := vF5 BK295.out))
      replace BK294 := Aside0.mk (blk_drew BK294.out)
      replace BK295 := Aside0.mk (blk_drew BK295.out)
      replace HB := Aside0.mk (below_drew1 HB.out)
      refine start_ (n := 8) (S := fun w' => w'.cell? ⟨gb294, 0, none⟩ = some (.slice A0_0 l0_0.length c0_0) ∧ w'.cell? ⟨gb294, 1, none⟩ = some (.slice A0_1 l0_1.length c0_1) ∧ w'.cell? ⟨gb294, 2, none⟩ = some (.bool a0_2) ∧ w'.cell? ⟨gb295, 0, none⟩ = some (.int .i64 a1_0) ∧ w'.cell? ⟨gb295, 1, none⟩ = some (.int .i64 a1_1) ∧ w'.cell? ⟨gb295, 2, none⟩ = some (.int .i64 a1_2) ∧ w'.cell? ⟨gb295, 3, none⟩ = some (.int .i64 a1_3) ∧ w'.cell? ⟨gb295, 4, none⟩ = some (.int .i64 a1_4)) (ds := []) (mB 8 0) (by kernel_rfl) rfl rfl ⟨(blk_cell BK294.out 0).trans rfl, (blk_cell BK294.out 1).trans rfl, (blk_cell BK294.out 2).trans rfl, (blk_cell BK295.out 0).trans rfl, (blk_cell BK295.out 1).trans rfl, (blk_cell BK295.out 2).trans rfl, (blk_cell BK295.out 3).trans rfl, (blk_cell BK295.out 4).trans rfl⟩ (fun hHeld => ?_); refine with_tabW gimbalref11_greatest.tab4 gimbalref11_greatest.bits4 (fun HT_ HW_ => ?_)
      generalize w18.drew = w22 at BK294 BK295 HB hHeld ⊢
      refine pV_ 1 17 (mB 8 2) HT_ ?_
      refine pV_ 4 20 (mB 8 18) HT_ ?_
      refine tV_ 0 16 (mB 8 19) HT_ HW_ hHeld ?_
      refine tV_ 2 18 (mB 8 23) HT_ HW_ hHeld ?_
      refine tV_ 5 21 (mB 8 55) HT_ HW_ hHeld ?_
      refine one_ (i := 3) (N := some 19) (mB 8 63) rfl rfl (one_of HT_.out (by kernel_rfl)) (by decide) (fun K hK => ?_)
      refine goes_ Try.func78 (by kernel_rfl) rfl #[.agg #[.slice A0_0 l0_0.length c0_0, .slice A0_1 l0_1.length c0_1, .bool a0_2], .int .i64 a1_0] (by rfl) rfl rfl vL ?_
      with_reducible refine (gimbalref11_Place.calls k _ _ l0_0 _ _ l0_1 a0_2 a1_0 t296 _ ?side1 ?side2 ?side3 ?side4 A9.out).mono ?_
      (case side1 => exact vC (Kd.C_below HR0_0.out HB.out))
      (case side2 => exact HC0_0.out)
      (case side3 => exact vC (Kd.C_below HR0_1.out HB.out))
      (case side4 => exact HC0_1.out)
      rintro e w23 ⟨rfl, hb⟩
      refine ⟨_, rfl, ?_⟩
      replace BK294 := vBb BK294 hb
      replace BK295 := vBb BK295 hb
      replace HB := vWs HB hb
      (try clear hb)
      (try clear hb2)
      (try clear hk)
      (try clear hi)
      refine hK.out _ _ ⟨(blk_cell BK294.out 0).trans rfl, (blk_cell BK294.out 1).trans rfl, (blk_cell BK294.out 2).trans rfl, (blk_cell BK295.out 0).trans rfl, (blk_cell BK295.out 1).trans rfl, (blk_cell BK295.out 2).trans rfl, (blk_cell BK295.out 3).trans rfl, (blk_cell BK295.out 4).trans rfl⟩ (fun hHeld => ?_)
      clear hK K
      refine norm_ (a' := ?_) ?_ ?_
      rotate_left
      ·
       show Act.put _ (some 19) _ = _
       simp only [Act.put, List.setIfInBounds_toArray, List.set_cons_zero, List.set_cons_succ, i64_w, i32_w]
       rfl
      refine one_ (i := 6) (N := some 22) (mB 8 127) rfl rfl (one_of HT_.out (by kernel_rfl)) (by decide) (fun K hK => ?_)
      refine goes_ Try.func93 (by kernel_rfl) rfl #[.int .i64 t296, .int .i64 a1_1] (by rfl) rfl rfl vL ?_
      with_reducible refine (gimbalref11_Node.calls t296 a1_1 t297 _ A10.out).mono ?_
      rintro e w' ⟨rfl, ⟨nd, rfl⟩⟩
      refine ⟨_, rfl, ?_⟩
      refine hK.out _ _ ⟨(blk_cell BK294.out 0).trans rfl, (blk_cell BK294.out 1).trans rfl, (blk_cell BK294.out 2).trans rfl, (blk_cell BK295.out 0).trans rfl, (blk_cell BK295.out 1).trans rfl, (blk_cell BK295.out 2).trans rfl, (blk_cell BK295.out 3).trans rfl, (blk_cell BK295.out 4).trans rfl⟩ (fun hHeld => ?_)
      clear hK K
      refine norm_ (a' := ?_) ?_ ?_
      rotate_left
      ·
       show Act.put _ (some 22) _ = _
       simp only [Act.put, List.setIfInBounds_toArray, List.set_cons_zero, List.set_cons_succ, i64_w, i32_w]
       rfl
      refine pV_ 7 6 (mB 8 255) HT_ ?_
      refine done_ (done_of HT_.out (by kernel_rfl)) ?_
      obtain ⟨hcz24_0, hcz24_1, hcz24_2, hcz24_3, hcz24_4, hfz24_0, hfz24_1, hfz24_2, hfz24_3, hfz24_4⟩ := vF5 BK295.out
      try go_wp2
      (try (rw [drewN_self w23]; generalize hq_ : World.drewN w23 _ = w23; have n0_ : Aside0 (w23.heap[gb294]? = some (.cells #[.slice A0_0 l0_0.length c0_0, .slice A0_1 l0_1.length c0_1, .bool a0_2] 25 (0, 0))) := ⟨by rw [← hq_]; exact (vB BK294.out)⟩; have n1_ : Aside0 (w23.heap[gb295]? = some (.cells #[.int .i64 a1_0, .int .i64 a1_1, .int .i64 a1_2, .int .i64 a1_3, .int .i64 a1_4] 49 (0, 0))) := ⟨by rw [← hq_]; exact (vB BK295.out)⟩; have n2_ : Aside0 (Below w.heap.size w w23) := ⟨by rw [← hq_]; exact (vW HB.out)⟩; clear BK294 BK295 HB hq_; have BK294 := n0_; have BK295 := n1_; have HB := n2_; clear n0_ n1_ n2_))
      replace BK294 := Aside0.mk (blk_drew BK294.out)
      replace BK295 := Aside0.mk (blk_drew BK295.out)
      replace HB := Aside0.mk (below_drew1 HB.out)
      have p299 : 0 ≤ ((ji13) : Int) := of_decide_eq_true (by first | (with_reducible assumption) | assumption)
      have q299 : (ji13) < (l0_1.length : Int) := of_decide_eq_true (by first | (with_reducible assumption) | assumption)
      obtain ⟨ad299, e299, hx299_0⟩ := Kd.at_int HR0_1.out (ji13) p299 q299
      have hw299_0 := hx299_0
      cases e299
      replace hx299_0 := (HB.out.cell (World.block_lt_of_cell? w _ hx299_0)).trans hx299_0
      replace p299 := eq_true p299
      replace q299 := eq_true q299
      refine start_ (n := 11) (S := fun w' => w'.cell? ⟨gb294, 0, none⟩ = some (.slice A0_0 l0_0.length c0_0) ∧ w'.cell? ⟨gb294, 1, none⟩ = some (.slice (some ad299) l0_1.length c0_1) ∧ w'.cell? ⟨gb294, 2, none⟩ = some (.bool a0_2) ∧ w'.cell? (ad299.add ((ji13)).toNat) = some (.int .i64 (rd l0_1 (ji13)))) (ds := []) (mB 11 0) (by kernel_rfl) rfl rfl ⟨(blk_cell BK294.out 0).trans rfl, (blk_cell BK294.out 1).trans rfl, (blk_cell BK294.out 2).trans rfl, ((HB.out.cell (World.block_lt_of_cell? w _ hw299_0)).trans hw299_0)⟩ (fun hHeld => ?_); refine with_tabW gimbalref11_greatest.tab6 gimbalref11_greatest.bits6 (fun HT_ HW_ => ?_)
      generalize w23.drew = w25 at BK294 BK295 HB hx299_0 hHeld ⊢
      refine pV_ 0 26 (mB 11 1) HT_ ?_
      refine pV_ 2 28 (mB 11 5) HT_ ?_
      refine pV_ 4 30 (mB 11 21) HT_ ?_
      refine pV_ 6 32 (mB 11 85) HT_ ?_
      refine tV_ 1 27 (mB 11 87) HT_ HW_ hHeld ?_
      refine one_ (i := 3) (N := some 29) (mB 11 95) rfl rfl (one_of HT_.out (by kernel_rfl)) (by decide) (fun K hK => ?_)
      refine goes_ Try.func53 (by kernel_rfl) rfl #[.int .i64 t297] (by rfl) rfl rfl vL ?_
      with_reducible refine (gimbalref11_bar.calls t297 t298 _ A12.out).mono ?_
      rintro e w' ⟨rfl, ⟨nd, rfl⟩⟩
      refine ⟨_, rfl, ?_⟩
      refine hK.out _ _ ⟨(blk_cell BK294.out 0).trans rfl, (blk_cell BK294.out 1).trans rfl, (blk_cell BK294.out 2).trans rfl, ((HB.out.cell (World.block_lt_of_cell? w _ hw299_0)).trans hw299_0)⟩ (fun hHeld => ?_)
      clear hK K
      refine norm_ (a' := ?_) ?_ ?_
      rotate_left
      ·
       show Act.put _ (some 29) _ = _
       simp only [Act.put, List.setIfInBounds_toArray, List.set_cons_zero, List.set_cons_succ, i64_w, i32_w]
       rfl
      refine pV_ 5 31 (mB 11 127) HT_ ?_
      refine pV_ 7 33 (mB 11 255) HT_ ?_
      refine pV_ 8 34 (mB 11 511) HT_ ?_
      refine tV_ 9 35 (mB 11 1023) HT_ HW_ hHeld ?_
      refine pV_ 10 7 (mB 11 2047) HT_ ?_
      refine done_ (done_of HT_.out (by kernel_rfl)) ?_
      try go_wp2
      go_ret
      exact ⟨by first | rfl | (simp [errW_none, errW_some] <;> rfl) | (simp only [← hji13]; first | rfl | (simp [errW_none, errW_some] <;> rfl)) | (simp [*, errW_none, errW_some] <;> rfl) | (simp [wrap64]; done), vW HB.out⟩
     ·
      rw [if_neg c16] at H
      have c16b0 : ((rd l0_1 (ji13)) == 4611686018427387904) = false := beq_eq_false_iff_ne.mpr c16
      have c16b1 : ((rd l0_1 (ji13)) != 4611686018427387904) = true := bne_iff_ne.mpr c16
      replace H := Option.bind_eq_some_iff.mp H
      obtain ⟨t300, A260, H⟩ := H
      replace H : (some t300) = some r := H
      have A26 := Aside0.mk A260
      clear A260
      obtain rfl := Option.some.inj H
      go_enter Try.func79, Try.ntmps79
      try go_wp2_with (first | ((with_reducible refine gate_dst (N := 2) rfl ?_); refine box_event ?hg (N := 2) ?hd (cs := #[.slice A0_0 l0_0.length c0_0, .slice A0_1 l0_1.length c0_1, .bool a0_2]) (t := 25) ?hr ?_; (case hd => rfl); (case hg => rfl); (case hr => first | (go_simp; done) | (go_simp; rfl)); intro gb294 hg w27 hbox hb; have BK294 := Aside0.mk (hbox); have GW294 := vS hg HB; have GE294 := vS hg HB; replace HB := vWs HB hb; clear hb hbox hg) | ((with_reducible refine gate_dst (N := 3) rfl ?_); refine box_event ?hg (N := 3) ?hd (cs := #[.int .i64 a1_0, .int .i64 a1_1, .int .i64 a1_2, .int .i64 a1_3, .int .i64 a1_4]) (t := 49) ?hr ?_; (case hd => rfl); (case hg => rfl); (case hr => first | (go_simp; done) | (go_simp; rfl)); intro gb295 hg w28 hbox hb; have BK295 := Aside0.mk (hbox); have GW295 := vS hg HB; have GE295 := vS hg HB; replace HB := vWs HB hb; have NB294_295 := vNl hg BK294; have NB295_294 := vNg hg BK294; replace BK294 := vBb BK294 hb; clear hb hbox hg; have hnb29 := NB294_295.out; have hnc29 := NB295_294.out; obtain ⟨hcz30_0, hcz30_1, hcz30_2, hfz30_0, hfz30_1, hfz30_2⟩ := vF3 BK294.out; obtain ⟨hcz31_0, hcz31_1, hcz31_2, hcz31_3, hcz31_4, hfz31_0, hfz31_1, hfz31_2, hfz31_3, hfz31_4⟩ := vF5 BK295.out))
      replace BK294 := Aside0.mk (blk_drew BK294.out)
      replace BK295 := Aside0.mk (blk_drew BK295.out)
      replace HB := Aside0.mk (below_drew1 HB.out)
      refine start_ (n := 8) (S := fun w' => w'.cell? ⟨gb294, 0, none⟩ = some (.slice A0_0 l0_0.length c0_0) ∧ w'.cell? ⟨gb294, 1, none⟩ = some (.slice A0_1 l0_1.length c0_1) ∧ w'.cell? ⟨gb294, 2, none⟩ = some (.bool a0_2) ∧ w'.cell? ⟨gb295, 0, none⟩ = some (.int .i64 a1_0) ∧ w'.cell? ⟨gb295, 1, none⟩ = some (.int .i64 a1_1) ∧ w'.cell? ⟨gb295, 2, none⟩ = some (.int .i64 a1_2) ∧ w'.cell? ⟨gb295, 3, none⟩ = some (.int .i64 a1_3) ∧ w'.cell? ⟨gb295, 4, none⟩ = some (.int .i64 a1_4)) (ds := []) (mB 8 0) (by kernel_rfl) rfl rfl ⟨(blk_cell BK294.out 0).trans rfl, (blk_cell BK294.out 1).trans rfl, (blk_cell BK294.out 2).trans rfl, (blk_cell BK295.out 0).trans rfl, (blk_cell BK295.out 1).trans rfl, (blk_cell BK295.out 2).trans rfl, (blk_cell BK295.out 3).trans rfl, (blk_cell BK295.out 4).trans rfl⟩ (fun hHeld => ?_); refine with_tabW gimbalref11_greatest.tab4 gimbalref11_greatest.bits4 (fun HT_ HW_ => ?_)
      generalize w28.drew = w32 at BK294 BK295 HB hHeld ⊢
      refine pV_ 1 17 (mB 8 2) HT_ ?_
      refine pV_ 4 20 (mB 8 18) HT_ ?_
      refine tV_ 0 16 (mB 8 19) HT_ HW_ hHeld ?_
      refine tV_ 2 18 (mB 8 23) HT_ HW_ hHeld ?_
      refine tV_ 5 21 (mB 8 55) HT_ HW_ hHeld ?_
      refine one_ (i := 3) (N := some 19) (mB 8 63) rfl rfl (one_of HT_.out (by kernel_rfl)) (by decide) (fun K hK => ?_)
      refine goes_ Try.func78 (by kernel_rfl) rfl #[.agg #[.slice A0_0 l0_0.length c0_0, .slice A0_1 l0_1.length c0_1, .bool a0_2], .int .i64 a1_0] (by rfl) rfl rfl vL ?_
      with_reducible refine (gimbalref11_Place.calls k _ _ l0_0 _ _ l0_1 a0_2 a1_0 t296 _ ?side1 ?side2 ?side3 ?side4 A9.out).mono ?_
      (case side1 => exact vC (Kd.C_below HR0_0.out HB.out))
      (case side2 => exact HC0_0.out)
      (case side3 => exact vC (Kd.C_below HR0_1.out HB.out))
      (case side4 => exact HC0_1.out)
      rintro e w33 ⟨rfl, hb⟩
      refine ⟨_, rfl, ?_⟩
      replace BK294 := vBb BK294 hb
      replace BK295 := vBb BK295 hb
      replace HB := vWs HB hb
      (try clear hb)
      (try clear hb2)
      (try clear hk)
      (try clear hi)
      refine hK.out _ _ ⟨(blk_cell BK294.out 0).trans rfl, (blk_cell BK294.out 1).trans rfl, (blk_cell BK294.out 2).trans rfl, (blk_cell BK295.out 0).trans rfl, (blk_cell BK295.out 1).trans rfl, (blk_cell BK295.out 2).trans rfl, (blk_cell BK295.out 3).trans rfl, (blk_cell BK295.out 4).trans rfl⟩ (fun hHeld => ?_)
      clear hK K
      refine norm_ (a' := ?_) ?_ ?_
      rotate_left
      ·
       show Act.put _ (some 19) _ = _
       simp only [Act.put, List.setIfInBounds_toArray, List.set_cons_zero, List.set_cons_succ, i64_w, i32_w]
       rfl
      refine one_ (i := 6) (N := some 22) (mB 8 127) rfl rfl (one_of HT_.out (by kernel_rfl)) (by decide) (fun K hK => ?_)
      refine goes_ Try.func93 (by kernel_rfl) rfl #[.int .i64 t296, .int .i64 a1_1] (by rfl) rfl rfl vL ?_
      with_reducible refine (gimbalref11_Node.calls t296 a1_1 t297 _ A10.out).mono ?_
      rintro e w' ⟨rfl, ⟨nd, rfl⟩⟩
      refine ⟨_, rfl, ?_⟩
      refine hK.out _ _ ⟨(blk_cell BK294.out 0).trans rfl, (blk_cell BK294.out 1).trans rfl, (blk_cell BK294.out 2).trans rfl, (blk_cell BK295.out 0).trans rfl, (blk_cell BK295.out 1).trans rfl, (blk_cell BK295.out 2).trans rfl, (blk_cell BK295.out 3).trans rfl, (blk_cell BK295.out 4).trans rfl⟩ (fun hHeld => ?_)
      clear hK K
      refine norm_ (a' := ?_) ?_ ?_
      rotate_left
      ·
       show Act.put _ (some 22) _ = _
       simp only [Act.put, List.setIfInBounds_toArray, List.set_cons_zero, List.set_cons_succ, i64_w, i32_w]
       rfl
      refine pV_ 7 6 (mB 8 255) HT_ ?_
      refine done_ (done_of HT_.out (by kernel_rfl)) ?_
      obtain ⟨hcz34_0, hcz34_1, hcz34_2, hcz34_3, hcz34_4, hfz34_0, hfz34_1, hfz34_2, hfz34_3, hfz34_4⟩ := vF5 BK295.out
      try go_wp2
      (try (rw [drewN_self w33]; generalize hq_ : World.drewN w33 _ = w33; have n0_ : Aside0 (w33.heap[gb294]? = some (.cells #[.slice A0_0 l0_0.length c0_0, .slice A0_1 l0_1.length c0_1, .bool a0_2] 25 (0, 0))) := ⟨by rw [← hq_]; exact (vB BK294.out)⟩; have n1_ : Aside0 (w33.heap[gb295]? = some (.cells #[.int .i64 a1_0, .int .i64 a1_1, .int .i64 a1_2, .int .i64 a1_3, .int .i64 a1_4] 49 (0, 0))) := ⟨by rw [← hq_]; exact (vB BK295.out)⟩; have n2_ : Aside0 (Below w.heap.size w w33) := ⟨by rw [← hq_]; exact (vW HB.out)⟩; clear BK294 BK295 HB hq_; have BK294 := n0_; have BK295 := n1_; have HB := n2_; clear n0_ n1_ n2_))
      replace BK294 := Aside0.mk (blk_drew BK294.out)
      replace BK295 := Aside0.mk (blk_drew BK295.out)
      replace HB := Aside0.mk (below_drew1 HB.out)
      have p299 : 0 ≤ ((ji13) : Int) := of_decide_eq_true (by first | (with_reducible assumption) | assumption)
      have q299 : (ji13) < (l0_1.length : Int) := of_decide_eq_true (by first | (with_reducible assumption) | assumption)
      obtain ⟨ad299, e299, hx299_0⟩ := Kd.at_int HR0_1.out (ji13) p299 q299
      have hw299_0 := hx299_0
      cases e299
      replace hx299_0 := (HB.out.cell (World.block_lt_of_cell? w _ hx299_0)).trans hx299_0
      replace p299 := eq_true p299
      replace q299 := eq_true q299
      refine start_ (n := 11) (S := fun w' => w'.cell? ⟨gb294, 0, none⟩ = some (.slice A0_0 l0_0.length c0_0) ∧ w'.cell? ⟨gb294, 1, none⟩ = some (.slice (some ad299) l0_1.length c0_1) ∧ w'.cell? ⟨gb294, 2, none⟩ = some (.bool a0_2) ∧ w'.cell? (ad299.add ((ji13)).toNat) = some (.int .i64 (rd l0_1 (ji13)))) (ds := []) (mB 11 0) (by kernel_rfl) rfl rfl ⟨(blk_cell BK294.out 0).trans rfl, (blk_cell BK294.out 1).trans rfl, (blk_cell BK294.out 2).trans rfl, ((HB.out.cell (World.block_lt_of_cell? w _ hw299_0)).trans hw299_0)⟩ (fun hHeld => ?_); refine with_tabW gimbalref11_greatest.tab6 gimbalref11_greatest.bits6 (fun HT_ HW_ => ?_)
      generalize w33.drew = w35 at BK294 BK295 HB hx299_0 hHeld ⊢
      refine pV_ 0 26 (mB 11 1) HT_ ?_
      refine pV_ 2 28 (mB 11 5) HT_ ?_
      refine pV_ 4 30 (mB 11 21) HT_ ?_
      refine pV_ 6 32 (mB 11 85) HT_ ?_
      refine tV_ 1 27 (mB 11 87) HT_ HW_ hHeld ?_
      refine one_ (i := 3) (N := some 29) (mB 11 95) rfl rfl (one_of HT_.out (by kernel_rfl)) (by decide) (fun K hK => ?_)
      refine goes_ Try.func53 (by kernel_rfl) rfl #[.int .i64 t297] (by rfl) rfl rfl vL ?_
      with_reducible refine (gimbalref11_bar.calls t297 t298 _ A12.out).mono ?_
      rintro e w' ⟨rfl, ⟨nd, rfl⟩⟩
      refine ⟨_, rfl, ?_⟩
      refine hK.out _ _ ⟨(blk_cell BK294.out 0).trans rfl, (blk_cell BK294.out 1).trans rfl, (blk_cell BK294.out 2).trans rfl, ((HB.out.cell (World.block_lt_of_cell? w _ hw299_0)).trans hw299_0)⟩ (fun hHeld => ?_)
      clear hK K
      refine norm_ (a' := ?_) ?_ ?_
      rotate_left
      ·
       show Act.put _ (some 29) _ = _
       simp only [Act.put, List.setIfInBounds_toArray, List.set_cons_zero, List.set_cons_succ, i64_w, i32_w]
       rfl
      refine pV_ 5 31 (mB 11 127) HT_ ?_
      refine pV_ 7 33 (mB 11 255) HT_ ?_
      refine pV_ 8 34 (mB 11 511) HT_ ?_
      refine tV_ 9 35 (mB 11 1023) HT_ HW_ hHeld ?_
      refine pV_ 10 7 (mB 11 2047) HT_ ?_
      refine done_ (done_of HT_.out (by kernel_rfl)) ?_
      try go_wp2_with ((with_reducible refine gate_callee (f := 85) rfl ?_); refine goesL_ (some 39) rfl rfl Try.func85 (by kernel_rfl) rfl #[.int .i64 (rd l0_1 (ji13))] rfl (by (try simp only [List.map_toArray, List.map_cons, List.map_nil]); first | done | (simp only [hji13]; rfl) | rfl | (simp only [List.length_drop, List.length_take]; rfl)) ?_; (with_reducible refine (gimbalref11_halved.calls (rd l0_1 (ji13)) t300 _ A26.out).mono ?_); rintro e w' ⟨rfl, ⟨nd, rfl⟩⟩; refine ⟨_, rfl, ?_⟩)
      go_ret
      exact ⟨by first | rfl | (simp [errW_none, errW_some] <;> rfl) | (simp only [← hji13]; first | rfl | (simp [errW_none, errW_some] <;> rfl)) | (simp [*, errW_none, errW_some] <;> rfl) | (simp [wrap64]; done), vW HB.out⟩
    ·
     rw [if_neg c15] at H
     exact absurd H (by simp)
   ·
    rw [if_neg c14] at H
    exact absurd H (by simp)
  ·
   rw [if_neg c11] at H
   have c11b0 : (a1_3 == 0) = false := beq_eq_false_iff_ne.mpr c11
   have c11b1 : (a1_3 != 0) = true := bne_iff_ne.mpr c11
   replace H := Option.bind_eq_some_iff.mp H
   obtain ⟨t301, A360, H⟩ := H
   replace H : ((gimbalref11_Node.f t301 a1_3).bind fun t302 => ((gimbalref11_bar.f t297).bind fun t303 => (if 0 ≤ (wrap64 ((wrap64 (t303 * (wrap64 (2 * (l0_0.length : Int))))) + t302)) then (if (wrap64 ((wrap64 (t303 * (wrap64 (2 * (l0_0.length : Int))))) + t302)) < (l0_1.length : Int) then (some (rd l0_1 (wrap64 ((wrap64 (t303 * (wrap64 (2 * (l0_0.length : Int))))) + t302)))) else (none)) else (none)))) = some r := H
   have A36 := Aside0.mk A360
   clear A360
   replace H := Option.bind_eq_some_iff.mp H
   obtain ⟨t302, A370, H⟩ := H
   replace H : ((gimbalref11_bar.f t297).bind fun t303 => (if 0 ≤ (wrap64 ((wrap64 (t303 * (wrap64 (2 * (l0_0.length : Int))))) + t302)) then (if (wrap64 ((wrap64 (t303 * (wrap64 (2 * (l0_0.length : Int))))) + t302)) < (l0_1.length : Int) then (some (rd l0_1 (wrap64 ((wrap64 (t303 * (wrap64 (2 * (l0_0.length : Int))))) + t302)))) else (none)) else (none))) = some r := H
   have A37 := Aside0.mk A370
   clear A370
   replace H := Option.bind_eq_some_iff.mp H
   obtain ⟨t303, A380, H⟩ := H
   replace H : (if 0 ≤ (wrap64 ((wrap64 (t303 * (wrap64 (2 * (l0_0.length : Int))))) + t302)) then (if (wrap64 ((wrap64 (t303 * (wrap64 (2 * (l0_0.length : Int))))) + t302)) < (l0_1.length : Int) then (some (rd l0_1 (wrap64 ((wrap64 (t303 * (wrap64 (2 * (l0_0.length : Int))))) + t302)))) else (none)) else (none)) = some r := H
   have A38 := Aside0.mk A380
   clear A380
   obtain ⟨ji39, hji39⟩ : ∃ j_ : Int, (wrap64 ((wrap64 (t303 * (wrap64 (2 * (l0_0.length : Int))))) + t302)) = j_ := ⟨_, rfl⟩
   replace H : (if 0 ≤ (ji39) then (if (ji39) < (l0_1.length : Int) then (some (rd l0_1 (ji39))) else (none)) else (none)) = some r := by first | (rw [hji39] at H; exact H) | (simp only [hji39] at H ⊢; exact H)
   (try rw [hji39] at A9)
   (try rw [hji39] at A10)
   (try rw [hji39] at A36)
   (try rw [hji39] at A37)
   (try rw [hji39] at A38)
   have hji39w : (IntKind.i64.wrap ((wrap64 (t303 * (wrap64 (2 * (l0_0.length : Int))))) + t302)) = ji39 := (i64_w _).trans hji39
   by_cases c40 : 0 ≤ (ji39)
   ·
    rw [if_pos c40] at H
    have c40b0 : decide (0 ≤ (ji39)) = true := decide_eq_true c40
    clear c40
    by_cases c41 : (ji39) < (l0_1.length : Int)
    ·
     rw [if_pos c41] at H
     have c41b0 : decide ((ji39) < (l0_1.length : Int)) = true := decide_eq_true c41
     clear c41
     obtain rfl := Option.some.inj H
     go_enter Try.func79, Try.ntmps79
     try go_wp2_with (first | ((with_reducible refine gate_dst (N := 2) rfl ?_); refine box_event ?hg (N := 2) ?hd (cs := #[.slice A0_0 l0_0.length c0_0, .slice A0_1 l0_1.length c0_1, .bool a0_2]) (t := 25) ?hr ?_; (case hd => rfl); (case hg => rfl); (case hr => first | (go_simp; done) | (go_simp; rfl)); intro gb294 hg w42 hbox hb; have BK294 := Aside0.mk (hbox); have GW294 := vS hg HB; have GE294 := vS hg HB; replace HB := vWs HB hb; clear hb hbox hg) | ((with_reducible refine gate_dst (N := 3) rfl ?_); refine box_event ?hg (N := 3) ?hd (cs := #[.int .i64 a1_0, .int .i64 a1_1, .int .i64 a1_2, .int .i64 a1_3, .int .i64 a1_4]) (t := 49) ?hr ?_; (case hd => rfl); (case hg => rfl); (case hr => first | (go_simp; done) | (go_simp; rfl)); intro gb295 hg w43 hbox hb; have BK295 := Aside0.mk (hbox); have GW295 := vS hg HB; have GE295 := vS hg HB; replace HB := vWs HB hb; have NB294_295 := vNl hg BK294; have NB295_294 := vNg hg BK294; replace BK294 := vBb BK294 hb; clear hb hbox hg; have hnb44 := NB294_295.out; have hnc44 := NB295_294.out; obtain ⟨hcz45_0, hcz45_1, hcz45_2, hfz45_0, hfz45_1, hfz45_2⟩ := vF3 BK294.out; obtain ⟨hcz46_0, hcz46_1, hcz46_2, hcz46_3, hcz46_4, hfz46_0, hfz46_1, hfz46_2, hfz46_3, hfz46_4⟩ := vF5 BK295.out))
     replace BK294 := Aside0.mk (blk_drew BK294.out)
     replace BK295 := Aside0.mk (blk_drew BK295.out)
     replace HB := Aside0.mk (below_drew1 HB.out)
     refine start_ (n := 8) (S := fun w' => w'.cell? ⟨gb294, 0, none⟩ = some (.slice A0_0 l0_0.length c0_0) ∧ w'.cell? ⟨gb294, 1, none⟩ = some (.slice A0_1 l0_1.length c0_1) ∧ w'.cell? ⟨gb294, 2, none⟩ = some (.bool a0_2) ∧ w'.cell? ⟨gb295, 0, none⟩ = some (.int .i64 a1_0) ∧ w'.cell? ⟨gb295, 1, none⟩ = some (.int .i64 a1_1) ∧ w'.cell? ⟨gb295, 2, none⟩ = some (.int .i64 a1_2) ∧ w'.cell? ⟨gb295, 3, none⟩ = some (.int .i64 a1_3) ∧ w'.cell? ⟨gb295, 4, none⟩ = some (.int .i64 a1_4)) (ds := []) (mB 8 0) (by kernel_rfl) rfl rfl ⟨(blk_cell BK294.out 0).trans rfl, (blk_cell BK294.out 1).trans rfl, (blk_cell BK294.out 2).trans rfl, (blk_cell BK295.out 0).trans rfl, (blk_cell BK295.out 1).trans rfl, (blk_cell BK295.out 2).trans rfl, (blk_cell BK295.out 3).trans rfl, (blk_cell BK295.out 4).trans rfl⟩ (fun hHeld => ?_); refine with_tabW gimbalref11_greatest.tab4 gimbalref11_greatest.bits4 (fun HT_ HW_ => ?_)
     generalize w43.drew = w47 at BK294 BK295 HB hHeld ⊢
     refine pV_ 1 17 (mB 8 2) HT_ ?_
     refine pV_ 4 20 (mB 8 18) HT_ ?_
     refine tV_ 0 16 (mB 8 19) HT_ HW_ hHeld ?_
     refine tV_ 2 18 (mB 8 23) HT_ HW_ hHeld ?_
     refine tV_ 5 21 (mB 8 55) HT_ HW_ hHeld ?_
     refine one_ (i := 3) (N := some 19) (mB 8 63) rfl rfl (one_of HT_.out (by kernel_rfl)) (by decide) (fun K hK => ?_)
     refine goes_ Try.func78 (by kernel_rfl) rfl #[.agg #[.slice A0_0 l0_0.length c0_0, .slice A0_1 l0_1.length c0_1, .bool a0_2], .int .i64 a1_0] (by rfl) rfl rfl vL ?_
     with_reducible refine (gimbalref11_Place.calls k _ _ l0_0 _ _ l0_1 a0_2 a1_0 t296 _ ?side1 ?side2 ?side3 ?side4 A9.out).mono ?_
     (case side1 => exact vC (Kd.C_below HR0_0.out HB.out))
     (case side2 => exact HC0_0.out)
     (case side3 => exact vC (Kd.C_below HR0_1.out HB.out))
     (case side4 => exact HC0_1.out)
     rintro e w48 ⟨rfl, hb⟩
     refine ⟨_, rfl, ?_⟩
     replace BK294 := vBb BK294 hb
     replace BK295 := vBb BK295 hb
     replace HB := vWs HB hb
     (try clear hb)
     (try clear hb2)
     (try clear hk)
     (try clear hi)
     refine hK.out _ _ ⟨(blk_cell BK294.out 0).trans rfl, (blk_cell BK294.out 1).trans rfl, (blk_cell BK294.out 2).trans rfl, (blk_cell BK295.out 0).trans rfl, (blk_cell BK295.out 1).trans rfl, (blk_cell BK295.out 2).trans rfl, (blk_cell BK295.out 3).trans rfl, (blk_cell BK295.out 4).trans rfl⟩ (fun hHeld => ?_)
     clear hK K
     refine norm_ (a' := ?_) ?_ ?_
     rotate_left
     ·
      show Act.put _ (some 19) _ = _
      simp only [Act.put, List.setIfInBounds_toArray, List.set_cons_zero, List.set_cons_succ, i64_w, i32_w]
      rfl
     refine one_ (i := 6) (N := some 22) (mB 8 127) rfl rfl (one_of HT_.out (by kernel_rfl)) (by decide) (fun K hK => ?_)
     refine goes_ Try.func93 (by kernel_rfl) rfl #[.int .i64 t296, .int .i64 a1_1] (by rfl) rfl rfl vL ?_
     with_reducible refine (gimbalref11_Node.calls t296 a1_1 t297 _ A10.out).mono ?_
     rintro e w' ⟨rfl, ⟨nd, rfl⟩⟩
     refine ⟨_, rfl, ?_⟩
     refine hK.out _ _ ⟨(blk_cell BK294.out 0).trans rfl, (blk_cell BK294.out 1).trans rfl, (blk_cell BK294.out 2).trans rfl, (blk_cell BK295.out 0).trans rfl, (blk_cell BK295.out 1).trans rfl, (blk_cell BK295.out 2).trans rfl, (blk_cell BK295.out 3).trans rfl, (blk_cell BK295.out 4).trans rfl⟩ (fun hHeld => ?_)
     clear hK K
     refine norm_ (a' := ?_) ?_ ?_
     rotate_left
     ·
      show Act.put _ (some 22) _ = _
      simp only [Act.put, List.setIfInBounds_toArray, List.set_cons_zero, List.set_cons_succ, i64_w, i32_w]
      rfl
     refine pV_ 7 6 (mB 8 255) HT_ ?_
     refine done_ (done_of HT_.out (by kernel_rfl)) ?_
     obtain ⟨hcz49_0, hcz49_1, hcz49_2, hcz49_3, hcz49_4, hfz49_0, hfz49_1, hfz49_2, hfz49_3, hfz49_4⟩ := vF5 BK295.out
     try go_wp2
     (try (rw [drewN_self w48]; generalize hq_ : World.drewN w48 _ = w48; have n0_ : Aside0 (w48.heap[gb294]? = some (.cells #[.slice A0_0 l0_0.length c0_0, .slice A0_1 l0_1.length c0_1, .bool a0_2] 25 (0, 0))) := ⟨by rw [← hq_]; exact (vB BK294.out)⟩; have n1_ : Aside0 (w48.heap[gb295]? = some (.cells #[.int .i64 a1_0, .int .i64 a1_1, .int .i64 a1_2, .int .i64 a1_3, .int .i64 a1_4] 49 (0, 0))) := ⟨by rw [← hq_]; exact (vB BK295.out)⟩; have n2_ : Aside0 (Below w.heap.size w w48) := ⟨by rw [← hq_]; exact (vW HB.out)⟩; clear BK294 BK295 HB hq_; have BK294 := n0_; have BK295 := n1_; have HB := n2_; clear n0_ n1_ n2_))
     replace BK294 := Aside0.mk (blk_drew BK294.out)
     replace BK295 := Aside0.mk (blk_drew BK295.out)
     replace HB := Aside0.mk (below_drew1 HB.out)
     refine start_ (n := 8) (S := fun w' => w'.cell? ⟨gb294, 0, none⟩ = some (.slice A0_0 l0_0.length c0_0) ∧ w'.cell? ⟨gb294, 1, none⟩ = some (.slice A0_1 l0_1.length c0_1) ∧ w'.cell? ⟨gb294, 2, none⟩ = some (.bool a0_2) ∧ w'.cell? ⟨gb295, 0, none⟩ = some (.int .i64 a1_0) ∧ w'.cell? ⟨gb295, 1, none⟩ = some (.int .i64 a1_1) ∧ w'.cell? ⟨gb295, 2, none⟩ = some (.int .i64 a1_2) ∧ w'.cell? ⟨gb295, 3, none⟩ = some (.int .i64 a1_3) ∧ w'.cell? ⟨gb295, 4, none⟩ = some (.int .i64 a1_4)) (ds := []) (mB 8 0) (by kernel_rfl) rfl rfl ⟨(blk_cell BK294.out 0).trans rfl, (blk_cell BK294.out 1).trans rfl, (blk_cell BK294.out 2).trans rfl, (blk_cell BK295.out 0).trans rfl, (blk_cell BK295.out 1).trans rfl, (blk_cell BK295.out 2).trans rfl, (blk_cell BK295.out 3).trans rfl, (blk_cell BK295.out 4).trans rfl⟩ (fun hHeld => ?_); refine with_tabW gimbalref11_greatest.tab10 gimbalref11_greatest.bits10 (fun HT_ HW_ => ?_)
     generalize w48.drew = w50 at BK294 BK295 HB hHeld ⊢
     refine pV_ 1 41 (mB 8 2) HT_ ?_
     refine pV_ 4 44 (mB 8 18) HT_ ?_
     refine tV_ 0 40 (mB 8 19) HT_ HW_ hHeld ?_
     refine tV_ 2 42 (mB 8 23) HT_ HW_ hHeld ?_
     refine tV_ 5 45 (mB 8 55) HT_ HW_ hHeld ?_
     refine one_ (i := 3) (N := some 43) (mB 8 63) rfl rfl (one_of HT_.out (by kernel_rfl)) (by decide) (fun K hK => ?_)
     refine goes_ Try.func78 (by kernel_rfl) rfl #[.agg #[.slice A0_0 l0_0.length c0_0, .slice A0_1 l0_1.length c0_1, .bool a0_2], .int .i64 a1_2] (by rfl) rfl rfl vL ?_
     with_reducible refine (gimbalref11_Place.calls k _ _ l0_0 _ _ l0_1 a0_2 a1_2 t301 _ ?side1 ?side2 ?side3 ?side4 A36.out).mono ?_
     (case side1 => exact vC (Kd.C_below HR0_0.out HB.out))
     (case side2 => exact HC0_0.out)
     (case side3 => exact vC (Kd.C_below HR0_1.out HB.out))
     (case side4 => exact HC0_1.out)
     rintro e w51 ⟨rfl, hb⟩
     refine ⟨_, rfl, ?_⟩
     replace BK294 := vBb BK294 hb
     replace BK295 := vBb BK295 hb
     replace HB := vWs HB hb
     (try clear hb)
     (try clear hb2)
     (try clear hk)
     (try clear hi)
     refine hK.out _ _ ⟨(blk_cell BK294.out 0).trans rfl, (blk_cell BK294.out 1).trans rfl, (blk_cell BK294.out 2).trans rfl, (blk_cell BK295.out 0).trans rfl, (blk_cell BK295.out 1).trans rfl, (blk_cell BK295.out 2).trans rfl, (blk_cell BK295.out 3).trans rfl, (blk_cell BK295.out 4).trans rfl⟩ (fun hHeld => ?_)
     clear hK K
     refine norm_ (a' := ?_) ?_ ?_
     rotate_left
     ·
      show Act.put _ (some 43) _ = _
      simp only [Act.put, List.setIfInBounds_toArray, List.set_cons_zero, List.set_cons_succ, i64_w, i32_w]
      rfl
     refine one_ (i := 6) (N := some 46) (mB 8 127) rfl rfl (one_of HT_.out (by kernel_rfl)) (by decide) (fun K hK => ?_)
     refine goes_ Try.func93 (by kernel_rfl) rfl #[.int .i64 t301, .int .i64 a1_3] (by rfl) rfl rfl vL ?_
     with_reducible refine (gimbalref11_Node.calls t301 a1_3 t302 _ A37.out).mono ?_
     rintro e w' ⟨rfl, ⟨nd, rfl⟩⟩
     refine ⟨_, rfl, ?_⟩
     refine hK.out _ _ ⟨(blk_cell BK294.out 0).trans rfl, (blk_cell BK294.out 1).trans rfl, (blk_cell BK294.out 2).trans rfl, (blk_cell BK295.out 0).trans rfl, (blk_cell BK295.out 1).trans rfl, (blk_cell BK295.out 2).trans rfl, (blk_cell BK295.out 3).trans rfl, (blk_cell BK295.out 4).trans rfl⟩ (fun hHeld => ?_)
     clear hK K
     refine norm_ (a' := ?_) ?_ ?_
     rotate_left
     ·
      show Act.put _ (some 46) _ = _
      simp only [Act.put, List.setIfInBounds_toArray, List.set_cons_zero, List.set_cons_succ, i64_w, i32_w]
      rfl
     refine pV_ 7 8 (mB 8 255) HT_ ?_
     refine done_ (done_of HT_.out (by kernel_rfl)) ?_
     try go_wp2
     (try (rw [drewN_self w51]; generalize hq_ : World.drewN w51 _ = w51; have n0_ : Aside0 (w51.heap[gb294]? = some (.cells #[.slice A0_0 l0_0.length c0_0, .slice A0_1 l0_1.length c0_1, .bool a0_2] 25 (0, 0))) := ⟨by rw [← hq_]; exact (vB BK294.out)⟩; have n1_ : Aside0 (w51.heap[gb295]? = some (.cells #[.int .i64 a1_0, .int .i64 a1_1, .int .i64 a1_2, .int .i64 a1_3, .int .i64 a1_4] 49 (0, 0))) := ⟨by rw [← hq_]; exact (vB BK295.out)⟩; have n2_ : Aside0 (Below w.heap.size w w51) := ⟨by rw [← hq_]; exact (vW HB.out)⟩; clear BK294 BK295 HB hq_; have BK294 := n0_; have BK295 := n1_; have HB := n2_; clear n0_ n1_ n2_))
     replace BK294 := Aside0.mk (blk_drew BK294.out)
     replace BK295 := Aside0.mk (blk_drew BK295.out)
     replace HB := Aside0.mk (below_drew1 HB.out)
     have p304 : 0 ≤ ((ji39) : Int) := of_decide_eq_true (by first | (with_reducible assumption) | assumption)
     have q304 : (ji39) < (l0_1.length : Int) := of_decide_eq_true (by first | (with_reducible assumption) | assumption)
     obtain ⟨ad304, e304, hx304_0⟩ := Kd.at_int HR0_1.out (ji39) p304 q304
     have hw304_0 := hx304_0
     cases e304
     replace hx304_0 := (HB.out.cell (World.block_lt_of_cell? w _ hx304_0)).trans hx304_0
     replace p304 := eq_true p304
     replace q304 := eq_true q304
     refine start_ (n := 11) (S := fun w' => w'.cell? ⟨gb294, 0, none⟩ = some (.slice A0_0 l0_0.length c0_0) ∧ w'.cell? ⟨gb294, 1, none⟩ = some (.slice (some ad304) l0_1.length c0_1) ∧ w'.cell? ⟨gb294, 2, none⟩ = some (.bool a0_2) ∧ w'.cell? (ad304.add ((ji39)).toNat) = some (.int .i64 (rd l0_1 (ji39)))) (ds := []) (mB 11 0) (by kernel_rfl) rfl rfl ⟨(blk_cell BK294.out 0).trans rfl, (blk_cell BK294.out 1).trans rfl, (blk_cell BK294.out 2).trans rfl, ((HB.out.cell (World.block_lt_of_cell? w _ hw304_0)).trans hw304_0)⟩ (fun hHeld => ?_); refine with_tabW gimbalref11_greatest.tab11 gimbalref11_greatest.bits11 (fun HT_ HW_ => ?_)
     generalize w51.drew = w52 at BK294 BK295 HB hx304_0 hHeld ⊢
     refine pV_ 0 47 (mB 11 1) HT_ ?_
     refine pV_ 2 49 (mB 11 5) HT_ ?_
     refine pV_ 4 51 (mB 11 21) HT_ ?_
     refine pV_ 6 53 (mB 11 85) HT_ ?_
     refine tV_ 1 48 (mB 11 87) HT_ HW_ hHeld ?_
     refine one_ (i := 3) (N := some 50) (mB 11 95) rfl rfl (one_of HT_.out (by kernel_rfl)) (by decide) (fun K hK => ?_)
     refine goes_ Try.func53 (by kernel_rfl) rfl #[.int .i64 t297] (by rfl) rfl rfl vL ?_
     with_reducible refine (gimbalref11_bar.calls t297 t303 _ A38.out).mono ?_
     rintro e w' ⟨rfl, ⟨nd, rfl⟩⟩
     refine ⟨_, rfl, ?_⟩
     refine hK.out _ _ ⟨(blk_cell BK294.out 0).trans rfl, (blk_cell BK294.out 1).trans rfl, (blk_cell BK294.out 2).trans rfl, ((HB.out.cell (World.block_lt_of_cell? w _ hw304_0)).trans hw304_0)⟩ (fun hHeld => ?_)
     clear hK K
     refine norm_ (a' := ?_) ?_ ?_
     rotate_left
     ·
      show Act.put _ (some 50) _ = _
      simp only [Act.put, List.setIfInBounds_toArray, List.set_cons_zero, List.set_cons_succ, i64_w, i32_w]
      rfl
     refine pV_ 5 52 (mB 11 127) HT_ ?_
     refine pV_ 7 54 (mB 11 255) HT_ ?_
     refine pV_ 8 55 (mB 11 511) HT_ ?_
     refine tV_ 9 56 (mB 11 1023) HT_ HW_ hHeld ?_
     refine pV_ 10 4 (mB 11 2047) HT_ ?_
     refine done_ (done_of HT_.out (by kernel_rfl)) ?_
     try go_wp2
     go_ret
     exact ⟨by first | rfl | (simp [errW_none, errW_some] <;> rfl) | (simp only [← hji39]; first | rfl | (simp [errW_none, errW_some] <;> rfl)) | (simp [*, errW_none, errW_some] <;> rfl) | (simp [wrap64]; done), vW HB.out⟩
    ·
     rw [if_neg c41] at H
     exact absurd H (by simp)
   ·
    rw [if_neg c40] at H
    exact absurd H (by simp)
end Go.Proofs.Ytomgebmimgaojaa.QO
end
end
