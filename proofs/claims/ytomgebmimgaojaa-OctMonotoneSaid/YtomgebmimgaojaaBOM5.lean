/- Own texts of this claim, joined: QOx1043, BndF, QOx1042, Form, WalkOctMonotone, Open -/
import Derived.Test.YtomgebmimgaojaaBOM0
import Derived.Test.YtomgebmimgaojaaBOM1
import Derived.Test.YtomgebmimgaojaaBOM2
import Derived.Test.YtomgebmimgaojaaBOM3
import Derived.Test.YtomgebmimgaojaaBOM4
import Derived.ChangeArms
import Derived.SizedLaws
section
/- Written by a program of this session out of the translation. -/
noncomputable section
namespace Go.Proofs.Ytomgebmimgaojaa.QO
open Go.RowKit Go.Proofs.YtomgebmimgaojaaW.PrintWords Go.Proofs.YtomgebmimgaojaaW.PrintLast
set_option linter.unusedVariables false
set_option linter.unusedSimpArgs false
/-! ### oct_Bounds: function 43 -/
def oct_Bounds.j0 : Nat → Bool → Int → Int → Int → Int → Int → List Int → List Int → Bool → Option (Int × Int)
 | 0, _, _, _, _, _, _, _, _, _ => none
 | k + 1, x33, x824000, x824001, x824002, x824003, x824004, x833000, x833001, x833002 => if x33 = true then (some ((-4611686018427387904), 4611686018427387904)) else ((oct_most.f k x833000 x833001 x833002 x824000 (wrap64 (-x824001)) x824002 (wrap64 (-x824003)) x824004).bind fun t837 => ((bound_Neg.f t837).bind fun t838 => ((bound_Down.f x824004 t838).bind fun t839 => ((oct_most.f k x833000 x833001 x833002 x824000 x824001 x824002 x824003 x824004).bind fun t840 => ((bound_Up.f x824004 t840).bind fun t841 => (some (t839, t841)))))))
def oct_Bounds.f (k : Nat) (l0_0 : List Int) (l0_1 : List Int) (a0_2 : Bool) (a1_0 : Int) (a1_1 : Int) (a1_2 : Int) (a1_3 : Int) (a1_4 : Int) : Option (Int × Int) := (oct_Close.f l0_0 l0_1 a0_2).bind fun bt825 => (if bt825.2.2 = true then (some (1, 0)) else (if a1_1 = 0 then (if a1_3 = 0 then (oct_Bounds.j0 k false a1_0 a1_1 a1_2 a1_3 a1_4 bt825.1 bt825.2.1 bt825.2.2) else ((oct_node.f k bt825.1 bt825.2.1 bt825.2.2 a1_2 1).bind fun t833 => (oct_Bounds.j0 k (decide (t833 < 0)) a1_0 a1_1 a1_2 a1_3 a1_4 bt825.1 bt825.2.1 bt825.2.2))) else ((oct_node.f k bt825.1 bt825.2.1 bt825.2.2 a1_0 1).bind fun t834 => (if t834 < 0 then (oct_Bounds.j0 k true a1_0 a1_1 a1_2 a1_3 a1_4 bt825.1 bt825.2.1 bt825.2.2) else (if a1_3 = 0 then (oct_Bounds.j0 k false a1_0 a1_1 a1_2 a1_3 a1_4 bt825.1 bt825.2.1 bt825.2.2) else ((oct_node.f k bt825.1 bt825.2.1 bt825.2.2 a1_2 1).bind fun t835 => (oct_Bounds.j0 k (decide (t835 < 0)) a1_0 a1_1 a1_2 a1_3 a1_4 bt825.1 bt825.2.1 bt825.2.2)))))))
theorem oct_Bounds.mono_l : ∀ k, (∀ y0 y1 y2 y3 y4 y5 y6 y7 y8, LeO (oct_Bounds.j0 k y0 y1 y2 y3 y4 y5 y6 y7 y8) (oct_Bounds.j0 (k + 1) y0 y1 y2 y3 y4 y5 y6 y7 y8))
 | 0 => fun _ _ _ _ _ _ _ _ _ r h => by simp [oct_Bounds.j0] at h
 | k + 1 => by
  have ih0 := oct_Bounds.mono_l k
  ·
   intro y0 y1 y2 y3 y4 y5 y6 y7 y8
   unfold oct_Bounds.j0
   repeat' first
   | (with_reducible exact ih0 _ _ _ _ _ _ _ _ _)
   | (with_reducible exact oct_most.mono _ _ _ _ _ _ _ _ _)
   | (with_reducible exact oct_node.mono _ _ _ _ _ _)
   | (with_reducible exact LeO.refl _)
   | (with_reducible exact LeO.none _)
   | (with_reducible refine LeO.ite ?_ ?_)
   | (with_reducible refine LeO.bind ?_ (fun _ => ?_))
   | exact ih0 _ _ _ _ _ _ _ _ _
   | exact oct_most.mono _ _ _ _ _ _ _ _ _
   | exact oct_node.mono _ _ _ _ _ _
   | exact LeO.none _
   | refine LeO.ite ?_ ?_
   | refine LeO.bind ?_ (fun _ => ?_)
theorem oct_Bounds.mono : ∀ a0 a1 a2 a3 a4 a5 a6 a7 k, LeO (oct_Bounds.f k a0 a1 a2 a3 a4 a5 a6 a7) (oct_Bounds.f (k + 1) a0 a1 a2 a3 a4 a5 a6 a7) := by
 intro a0 a1 a2 a3 a4 a5 a6 a7 k
 have ih0 := oct_Bounds.mono_l k
 unfold oct_Bounds.f
 repeat' first
  | (with_reducible exact ih0 _ _ _ _ _ _ _ _ _)
  | (with_reducible exact oct_most.mono _ _ _ _ _ _ _ _ _)
  | (with_reducible exact oct_node.mono _ _ _ _ _ _)
  | (with_reducible exact LeO.refl _)
  | (with_reducible exact LeO.none _)
  | (with_reducible refine LeO.ite ?_ ?_)
  | (with_reducible refine LeO.bind ?_ (fun _ => ?_))
  | exact ih0 _ _ _ _ _ _ _ _ _
  | exact oct_most.mono _ _ _ _ _ _ _ _ _
  | exact oct_node.mono _ _ _ _ _ _
  | exact LeO.none _
  | refine LeO.ite ?_ ?_
  | refine LeO.bind ?_ (fun _ => ?_)
def oct_Bounds.T7 : Bool × List (List Nat × List Nat) := (true, [([], []), ([0], [0]), ([1], [1]), ([], []), ([3], [3]), ([4], [4]), ([0, 1, 2], []), ([6, 2, 0, 1, 2], [2, 6]), ([0, 1, 2, 3, 4, 5, 6, 7], []), ([8, 5, 7, 0, 1, 2, 3, 4, 5, 6, 7], [5, 8])])
def oct_Bounds.B7 : List Nat := [0, 1, 3, 0, 8, 24, 7, 71, 255, 511]
theorem oct_Bounds.tab7 : rtab .any (opsOf Try.f43 7) = oct_Bounds.T7 := by kernel_rfl
theorem oct_Bounds.bits7 : waitsOk oct_Bounds.T7.2 oct_Bounds.B7 = true := by kernel_rfl
def oct_Bounds.T8 : Bool × List (List Nat × List Nat) := (true, [([], []), ([0], [0]), ([], []), ([], []), ([2, 3], [2, 3]), ([4, 4], [4]), ([1, 5, 5], [1, 5]), ([], []), ([7], [7]), ([], []), ([], []), ([9, 10, 6], [9, 10]), ([8, 11, 11], [8, 11]), ([6, 12], [6, 12]), ([13, 12, 0, 1, 2, 3, 4, 5, 6, 7, 8, 9, 10, 11, 12, 13], [13])])
def oct_Bounds.B8 : List Nat := [0, 1, 0, 0, 12, 28, 63, 0, 128, 0, 0, 1663, 4095, 8191, 16383]
theorem oct_Bounds.tab8 : rtab .any (opsOf Try.f43 8) = oct_Bounds.T8 := by kernel_rfl
theorem oct_Bounds.bits8 : waitsOk oct_Bounds.T8.2 oct_Bounds.B8 = true := by kernel_rfl
set_option maxHeartbeats 8000000 in
set_option maxRecDepth 100000 in
theorem oct_Bounds.calls (k : Nat) (A0_0 : Option Addr) (c0_0 : Nat) (l0_0 : List Int) (A0_1 : Option Addr) (c0_1 : Nat) (l0_1 : List Int) (a0_2 : Bool) (a1_0 : Int) (a1_1 : Int) (a1_2 : Int) (a1_3 : Int) (a1_4 : Int) (r1 : Int) (r2 : Int) (w : World) (hr0_0 : Kd.C (Kd.int .i64) w A0_0 l0_0.length l0_0) (hc0_0 : l0_0.length ≤ c0_0) (hr0_1 : Kd.C (Kd.int .i64) w A0_1 l0_1.length l0_1) (hc0_1 : l0_1.length ≤ c0_1) (h : oct_Bounds.f k l0_0 l0_1 a0_2 a1_0 a1_1 a1_2 a1_3 a1_4 = some (r1, r2)) :
 Calls Try.prog 43 #[.agg #[.slice A0_0 l0_0.length c0_0, .slice A0_1 l0_1.length c0_1, .bool a0_2], .agg #[.int .i64 a1_0, .int .i64 a1_1, .int .i64 a1_2, .int .i64 a1_3, .int .i64 a1_4]] w fun e w' => e = .returned (.agg #[.int .i64 r1, .int .i64 r2]) ∧ Below w.heap.size w w' := by
 have hu25 := Try.underlying25
 have hu49 := Try.underlying49
 have hu37 := Try.underlying37
 have HR0_0 := Aside0.mk hr0_0
 have HC0_0 := Aside0.mk hc0_0
 clear hr0_0 hc0_0
 have HR0_1 := Aside0.mk hr0_1
 have HC0_1 := Aside0.mk hc0_1
 clear hr0_1 hc0_1
 have HB := Aside0.mk (Below.refl w.heap.size w)
 have H : ((oct_Close.f l0_0 l0_1 a0_2).bind fun bt825 => (if bt825.2.2 = true then (some (1, 0)) else (if a1_1 = 0 then (if a1_3 = 0 then (oct_Bounds.j0 k false a1_0 a1_1 a1_2 a1_3 a1_4 bt825.1 bt825.2.1 bt825.2.2) else ((oct_node.f k bt825.1 bt825.2.1 bt825.2.2 a1_2 1).bind fun t833 => (oct_Bounds.j0 k (decide (t833 < 0)) a1_0 a1_1 a1_2 a1_3 a1_4 bt825.1 bt825.2.1 bt825.2.2))) else ((oct_node.f k bt825.1 bt825.2.1 bt825.2.2 a1_0 1).bind fun t834 => (if t834 < 0 then (oct_Bounds.j0 k true a1_0 a1_1 a1_2 a1_3 a1_4 bt825.1 bt825.2.1 bt825.2.2) else (if a1_3 = 0 then (oct_Bounds.j0 k false a1_0 a1_1 a1_2 a1_3 a1_4 bt825.1 bt825.2.1 bt825.2.2) else ((oct_node.f k bt825.1 bt825.2.1 bt825.2.2 a1_2 1).bind fun t835 => (oct_Bounds.j0 k (decide (t835 < 0)) a1_0 a1_1 a1_2 a1_3 a1_4 bt825.1 bt825.2.1 bt825.2.2)))))))) = some (r1, r2) := h
 clear h
 replace H := Option.bind_eq_some_iff.mp H
 obtain ⟨⟨t825, t828, t831⟩, A30, H⟩ := H
 replace H : (if t831 = true then (some (1, 0)) else (if a1_1 = 0 then (if a1_3 = 0 then (oct_Bounds.j0 k false a1_0 a1_1 a1_2 a1_3 a1_4 t825 t828 t831) else ((oct_node.f k t825 t828 t831 a1_2 1).bind fun t833 => (oct_Bounds.j0 k (decide (t833 < 0)) a1_0 a1_1 a1_2 a1_3 a1_4 t825 t828 t831))) else ((oct_node.f k t825 t828 t831 a1_0 1).bind fun t834 => (if t834 < 0 then (oct_Bounds.j0 k true a1_0 a1_1 a1_2 a1_3 a1_4 t825 t828 t831) else (if a1_3 = 0 then (oct_Bounds.j0 k false a1_0 a1_1 a1_2 a1_3 a1_4 t825 t828 t831) else ((oct_node.f k t825 t828 t831 a1_2 1).bind fun t835 => (oct_Bounds.j0 k (decide (t835 < 0)) a1_0 a1_1 a1_2 a1_3 a1_4 t825 t828 t831))))))) = some (r1, r2) := H
 have A3 := Aside0.mk A30
 clear A30
 by_cases c4 : t831 = true
 ·
  subst c4
  have H1 : (some (1, 0)) = some (r1, r2) := by rw [if_pos rfl] at H; exact H
  clear H
  have H := H1
  clear H1
  simp only [Option.some.injEq, Prod.mk.injEq] at H
  obtain ⟨rfl, rfl⟩ := H
  go_enter Try.func43, Try.ntmps43
  go_wp2_with (first | ((with_reducible refine gate_dst (N := 2) rfl ?_); refine box_event ?hg (N := 2) ?hd (cs := #[.slice A0_0 l0_0.length c0_0, .slice A0_1 l0_1.length c0_1, .bool a0_2]) (t := 25) ?hr ?_; (case hd => rfl); (case hg => rfl); (case hr => first | (go_simp; done) | (go_simp; rfl)); intro gb822 hg w5 hbox hb; have BK822 := Aside0.mk (hbox); have GW822 := vS hg HB; have GE822 := vS hg HB; replace HB := vWs HB hb; clear hb hbox hg) | ((with_reducible refine gate_dst (N := 3) rfl ?_); refine box_event ?hg (N := 3) ?hd (cs := #[.int .i64 a1_0, .int .i64 a1_1, .int .i64 a1_2, .int .i64 a1_3, .int .i64 a1_4]) (t := 49) ?hr ?_; (case hd => rfl); (case hg => rfl); (case hr => first | (go_simp; done) | (go_simp; rfl)); intro gb823 hg w6 hbox hb; have BK823 := Aside0.mk (hbox); have GW823 := vS hg HB; have GE823 := vS hg HB; replace HB := vWs HB hb; have NB822_823 := vNl hg BK822; have NB823_822 := vNg hg BK822; replace BK822 := vBb BK822 hb; clear hb hbox hg) | ((with_reducible refine gate_dst (N := 4) rfl ?_); refine box_event ?hg (N := 4) ?hd (cs := #[.int .i64 0, .int .i64 0]) (t := 37) ?hr ?_; (case hd => rfl); (case hg => rfl); (case hr => first | (go_simp; done) | (go_simp; rfl)); intro gb824 hg w7 hbox hb; have BK824 := Aside0.mk (hbox); have GW824 := vS hg HB; have GE824 := vS hg HB; replace HB := vWs HB hb; have NB822_824 := vNl hg BK822; have NB824_822 := vNg hg BK822; replace BK822 := vBb BK822 hb; have NB823_824 := vNl hg BK823; have NB824_823 := vNg hg BK823; replace BK823 := vBb BK823 hb; clear hb hbox hg; have hnb8 := NB822_823.out; have hnc8 := NB823_822.out; have hnb9 := NB822_824.out; have hnc9 := NB824_822.out; obtain ⟨hcz10_0, hcz10_1, hcz10_2, hfz10_0, hfz10_1, hfz10_2⟩ := vF3 BK822.out) | ((with_reducible refine gate_callee (f := 22) rfl ?_); refine goesL_ (some 8) rfl rfl Try.func22 (by kernel_rfl) rfl #[.agg #[.slice A0_0 l0_0.length c0_0, .slice A0_1 l0_1.length c0_1, .bool a0_2]] rfl vL ?_; (with_reducible refine (oct_Close.calls _ _ l0_0 _ _ l0_1 a0_2 t825 t828 true _ ?side1 ?side2 ?side3 ?side4 A3.out).mono ?_); (case side1 => exact vC (Kd.C_below HR0_0.out HB.out)); (case side2 => exact HC0_0.out); (case side3 => exact vC (Kd.C_below HR0_1.out HB.out)); (case side4 => exact HC0_1.out); rintro e w11 ⟨v826, v829, rfl, ho0, ho1, hb⟩; refine ⟨_, rfl, ?_⟩; have HO827 := Aside0.mk (Kd.R_lower ho0 (below_size (vW HB.out))); have HO830 := Aside0.mk (Kd.R_lower ho1 (below_size (vW HB.out))); replace BK822 := vBb BK822 hb; replace BK823 := vBb BK823 hb; replace BK824 := vBb BK824 hb; replace HB := vWs HB hb; (try clear hb); (try clear hb2); (try clear hk); (try clear hi); (try clear ho0); (try clear ho1)) | ((with_reducible refine gate_dst (N := 5) rfl ?_); refine box_event ?hg (N := 5) ?hd (cs := #[.slice none 0 0, .slice none 0 0, .bool false]) (t := 25) ?hr ?_; (case hd => rfl); (case hg => rfl); (case hr => first | (go_simp; done) | (go_simp; rfl)); intro gb832 hg w12 hbox hb; replace HO827 := vRb HO827 hb; replace HO830 := vRb HO830 hb; have BK832 := Aside0.mk (hbox); have GW832 := vS hg HB; have GE832 := vS hg HB; replace HB := vWs HB hb; have NB822_832 := vNl hg BK822; have NB832_822 := vNg hg BK822; replace BK822 := vBb BK822 hb; have NB823_832 := vNl hg BK823; have NB832_823 := vNg hg BK823; replace BK823 := vBb BK823 hb; have NB824_832 := vNl hg BK824; have NB832_824 := vNg hg BK824; replace BK824 := vBb BK824 hb; clear hb hbox hg; obtain ⟨Ao13, co13, eo13⟩ := Kd.R_slice HO827.out; subst eo13; have hnb14 := NB832_822.out; have hnc14 := NB822_832.out; have hnb15 := NB832_823.out; have hnc15 := NB823_832.out; have hnb16 := NB832_824.out; have hnc16 := NB824_832.out; obtain ⟨hcz17_0, hcz17_1, hcz17_2, hfz17_0, hfz17_1, hfz17_2⟩ := vF3 BK832.out; obtain ⟨Ao18, co18, eo18⟩ := Kd.R_slice HO830.out; subst eo18; have hnb19 := NB824_823.out; have hnc19 := NB823_824.out; obtain ⟨hcz20_0, hcz20_1, hfz20_0, hfz20_1⟩ := vF2 BK824.out))
  refine bodyPost_ret (results_cell_row rfl _ _ gb824 37 #[.int .i64 1, .int .i64 0] (0, 0) _ rfl (by (with_reducible repeat (first | refine blk_drewN ?_ _ | refine blk_drew ?_ | refine blk_alloc ?_ _)); refine blk_put (cs := #[.int .i64 1, .int .i64 0]) ?_ 1 _ rfl; (with_reducible repeat (first | refine blk_drewN ?_ _ | refine blk_drew ?_ | refine blk_alloc ?_ _)); refine blk_put (cs := #[.int .i64 0, .int .i64 0]) ?_ 0 _ rfl; (with_reducible repeat (first | refine blk_drewN ?_ _ | refine blk_drew ?_ | refine blk_alloc ?_ _)); refine blk_far ?_ NB824_832.out _; (with_reducible repeat (first | refine blk_drewN ?_ _ | refine blk_drew ?_ | refine blk_alloc ?_ _)); refine blk_far ?_ NB824_832.out _; (with_reducible repeat (first | refine blk_drewN ?_ _ | refine blk_drew ?_ | refine blk_alloc ?_ _)); refine blk_far ?_ NB824_832.out _; (with_reducible repeat (first | refine blk_drewN ?_ _ | refine blk_drew ?_ | refine blk_alloc ?_ _)); exact BK824.out) Try.underlying37 rfl (by kernel_rfl)) rfl ?_
  exact ⟨by first | rfl | (simp [errW_none, errW_some] <;> rfl) | (simp [*, errW_none, errW_some] <;> rfl) | (simp [wrap64]; done), vW HB.out⟩
 ·
  replace c4 := Bool.eq_false_iff.mpr c4
  subst c4
  have H1 : (if a1_1 = 0 then (if a1_3 = 0 then (oct_Bounds.j0 k false a1_0 a1_1 a1_2 a1_3 a1_4 t825 t828 false) else ((oct_node.f k t825 t828 false a1_2 1).bind fun t833 => (oct_Bounds.j0 k (decide (t833 < 0)) a1_0 a1_1 a1_2 a1_3 a1_4 t825 t828 false))) else ((oct_node.f k t825 t828 false a1_0 1).bind fun t834 => (if t834 < 0 then (oct_Bounds.j0 k true a1_0 a1_1 a1_2 a1_3 a1_4 t825 t828 false) else (if a1_3 = 0 then (oct_Bounds.j0 k false a1_0 a1_1 a1_2 a1_3 a1_4 t825 t828 false) else ((oct_node.f k t825 t828 false a1_2 1).bind fun t835 => (oct_Bounds.j0 k (decide (t835 < 0)) a1_0 a1_1 a1_2 a1_3 a1_4 t825 t828 false)))))) = some (r1, r2) := by rw [if_neg (show ¬ (false = true) by decide)] at H; exact H
  clear H
  have H := H1
  clear H1
  have HC21 := Aside0.mk H
  clear H
  go_enter Try.func43, Try.ntmps43
  go_upto_region 4 with (first | ((with_reducible refine gate_dst (N := 2) rfl ?_); refine box_event ?hg (N := 2) ?hd (cs := #[.slice A0_0 l0_0.length c0_0, .slice A0_1 l0_1.length c0_1, .bool a0_2]) (t := 25) ?hr ?_; (case hd => rfl); (case hg => rfl); (case hr => first | (go_simp; done) | (go_simp; rfl)); intro gb822 hg w22 hbox hb; have BK822 := Aside0.mk (hbox); have GW822 := vS hg HB; have GE822 := vS hg HB; replace HB := vWs HB hb; clear hb hbox hg) | ((with_reducible refine gate_dst (N := 3) rfl ?_); refine box_event ?hg (N := 3) ?hd (cs := #[.int .i64 a1_0, .int .i64 a1_1, .int .i64 a1_2, .int .i64 a1_3, .int .i64 a1_4]) (t := 49) ?hr ?_; (case hd => rfl); (case hg => rfl); (case hr => first | (go_simp; done) | (go_simp; rfl)); intro gb823 hg w23 hbox hb; have BK823 := Aside0.mk (hbox); have GW823 := vS hg HB; have GE823 := vS hg HB; replace HB := vWs HB hb; have NB822_823 := vNl hg BK822; have NB823_822 := vNg hg BK822; replace BK822 := vBb BK822 hb; clear hb hbox hg) | ((with_reducible refine gate_dst (N := 4) rfl ?_); refine box_event ?hg (N := 4) ?hd (cs := #[.int .i64 0, .int .i64 0]) (t := 37) ?hr ?_; (case hd => rfl); (case hg => rfl); (case hr => first | (go_simp; done) | (go_simp; rfl)); intro gb824 hg w24 hbox hb; have BK824 := Aside0.mk (hbox); have GW824 := vS hg HB; have GE824 := vS hg HB; replace HB := vWs HB hb; have NB822_824 := vNl hg BK822; have NB824_822 := vNg hg BK822; replace BK822 := vBb BK822 hb; have NB823_824 := vNl hg BK823; have NB824_823 := vNg hg BK823; replace BK823 := vBb BK823 hb; clear hb hbox hg; have hnb25 := NB822_823.out; have hnc25 := NB823_822.out; have hnb26 := NB822_824.out; have hnc26 := NB824_822.out; obtain ⟨hcz27_0, hcz27_1, hcz27_2, hfz27_0, hfz27_1, hfz27_2⟩ := vF3 BK822.out) | ((with_reducible refine gate_callee (f := 22) rfl ?_); refine goesL_ (some 8) rfl rfl Try.func22 (by kernel_rfl) rfl #[.agg #[.slice A0_0 l0_0.length c0_0, .slice A0_1 l0_1.length c0_1, .bool a0_2]] rfl vL ?_; (with_reducible refine (oct_Close.calls _ _ l0_0 _ _ l0_1 a0_2 t825 t828 false _ ?side1 ?side2 ?side3 ?side4 A3.out).mono ?_); (case side1 => exact vC (Kd.C_below HR0_0.out HB.out)); (case side2 => exact HC0_0.out); (case side3 => exact vC (Kd.C_below HR0_1.out HB.out)); (case side4 => exact HC0_1.out); rintro e w28 ⟨v826, v829, rfl, ho0, ho1, hb⟩; refine ⟨_, rfl, ?_⟩; have HO827 := Aside0.mk (Kd.R_lower ho0 (below_size (vW HB.out))); have HO830 := Aside0.mk (Kd.R_lower ho1 (below_size (vW HB.out))); replace BK822 := vBb BK822 hb; replace BK823 := vBb BK823 hb; replace BK824 := vBb BK824 hb; replace HB := vWs HB hb; (try clear hb); (try clear hb2); (try clear hk); (try clear hi); (try clear ho0); (try clear ho1)) | ((with_reducible refine gate_dst (N := 5) rfl ?_); refine box_event ?hg (N := 5) ?hd (cs := #[.slice none 0 0, .slice none 0 0, .bool false]) (t := 25) ?hr ?_; (case hd => rfl); (case hg => rfl); (case hr => first | (go_simp; done) | (go_simp; rfl)); intro gb832 hg w29 hbox hb; replace HO827 := vRb HO827 hb; replace HO830 := vRb HO830 hb; have BK832 := Aside0.mk (hbox); have GW832 := vS hg HB; have GE832 := vS hg HB; replace HB := vWs HB hb; have NB822_832 := vNl hg BK822; have NB832_822 := vNg hg BK822; replace BK822 := vBb BK822 hb; have NB823_832 := vNl hg BK823; have NB832_823 := vNg hg BK823; replace BK823 := vBb BK823 hb; have NB824_832 := vNl hg BK824; have NB832_824 := vNg hg BK824; replace BK824 := vBb BK824 hb; clear hb hbox hg; obtain ⟨Ao30, co30, eo30⟩ := Kd.R_slice HO827.out; subst eo30; have hnb31 := NB832_822.out; have hnc31 := NB822_832.out; have hnb32 := NB832_823.out; have hnc32 := NB823_832.out; have hnb33 := NB832_824.out; have hnc33 := NB824_832.out; obtain ⟨hcz34_0, hcz34_1, hcz34_2, hfz34_0, hfz34_1, hfz34_2⟩ := vF3 BK832.out; obtain ⟨Ao35, co35, eo35⟩ := Kd.R_slice HO830.out; subst eo35))
  (try simp only [Act.put, List.setIfInBounds_toArray, List.set_cons_zero, List.set_cons_succ])
  go_cut [33] (fun v33 wc => ∃ (kq : Nat) (x33_20 : Bool), v33 = .bool x33_20 ∧ Aside0 (oct_Bounds.j0 kq x33_20 a1_0 a1_1 a1_2 a1_3 a1_4 t825 t828 false = some (r1, r2)) ∧ Aside0 (kq ≤ k) ∧ Aside0 (Kd.R (Kd.int .i64) 3 wc w.heap.size (fun _ => True) (.slice Ao30 t825.length co30) t825) ∧ Aside0 (Kd.R (Kd.int .i64) 2 wc w.heap.size (fun _ => True) (.slice Ao35 t828.length co35) t828) ∧ Aside0 (wc.heap[gb822]? = some (.cells #[(.slice A0_0 l0_0.length c0_0), (.slice A0_1 l0_1.length c0_1), .bool a0_2] 25 (0, 0))) ∧ Aside0 (wc.heap[gb823]? = some (.cells #[.int .i64 a1_0, .int .i64 a1_1, .int .i64 a1_2, .int .i64 a1_3, .int .i64 a1_4] 49 (0, 0))) ∧ Aside0 (wc.heap[gb824]? = some (.cells #[.int .i64 0, .int .i64 0] 37 (0, 0))) ∧ Aside0 (wc.heap[gb832]? = some (.cells #[(.slice Ao30 t825.length co30), (.slice Ao35 t828.length co35), .bool false] 25 (0, 0))) ∧ Aside0 (Below w.heap.size w wc))
  case first =>
   have H := HC21.out
   clear HC21
   by_cases c36 : a1_1 = 0
   ·
    rw [if_pos c36] at H
    have c36b0 : (a1_1 == 0) = true := beq_iff_eq.mpr c36
    have c36b1 : (a1_1 != 0) = false := bne_eq_false_iff_eq.mpr c36
    clear c36
    (first | rw [c36b0] | (simp only [i64_w, i32_w]; rw [c36b0]) | skip)
    by_cases c37 : a1_3 = 0
    ·
     rw [if_pos c37] at H
     have c37b0 : (a1_3 == 0) = true := beq_iff_eq.mpr c37
     have c37b1 : (a1_3 != 0) = false := bne_eq_false_iff_eq.mpr c37
     clear c37
     have H' := Aside0.mk H
     clear H
     have hnb38 := NB823_822.out
     have hnc38 := NB822_823.out
     have hnb39 := NB823_824.out
     have hnc39 := NB824_823.out
     have hnb40 := NB823_832.out
     have hnc40 := NB832_823.out
     obtain ⟨hcz41_0, hcz41_1, hcz41_2, hcz41_3, hcz41_4, hfz41_0, hfz41_1, hfz41_2, hfz41_3, hfz41_4⟩ := vF5 BK823.out
     go_wp2
     go_meet
     case rel => exact ⟨_, (false), (by first | rfl | (simp; done) | (simp [*]; done)), H', ⟨by first | omega | exact Nat.le_refl _⟩, ⟨by (with_reducible repeat (first | apply Kd.R_alloc | apply Kd.R_drewN | apply Kd.R_drew)); exact Kd.R_mono (Kd.R_far (p := ⟨gb832, 2, none⟩) (Kd.R_far (p := ⟨gb832, 1, none⟩) (Kd.R_far (p := ⟨gb832, 0, none⟩) (Kd.R_types HO827.out BK832.out (by decide)) (fun _ hk => hk.2) (.slice Ao30 t825.length co30)) (fun _ hk => hk.2) (.slice Ao35 t828.length co35)) (fun _ hk => hk.2) (.bool false)) (fun _ hk => trivial)⟩, ⟨by (with_reducible repeat (first | apply Kd.R_alloc | apply Kd.R_drewN | apply Kd.R_drew)); exact Kd.R_mono (Kd.R_far (p := ⟨gb832, 2, none⟩) (Kd.R_far (p := ⟨gb832, 1, none⟩) (Kd.R_far (p := ⟨gb832, 0, none⟩) (Kd.R_types HO830.out BK832.out (by decide)) (fun _ hk => hk.2) (.slice Ao30 t825.length co30)) (fun _ hk => hk.2) (.slice Ao35 t828.length co35)) (fun _ hk => hk.2) (.bool false)) (fun _ hk => trivial)⟩, ⟨vB BK822.out⟩, ⟨vB BK823.out⟩, ⟨vB BK824.out⟩, ⟨by (with_reducible repeat (first | refine blk_drewN ?_ _ | refine blk_drew ?_ | refine blk_alloc ?_ _)); refine blk_put (cs := #[.slice Ao30 t825.length co30, .slice Ao35 t828.length co35, .bool false]) ?_ 2 _ rfl; (with_reducible repeat (first | refine blk_drewN ?_ _ | refine blk_drew ?_ | refine blk_alloc ?_ _)); refine blk_put (cs := #[.slice Ao30 t825.length co30, .slice none 0 0, .bool false]) ?_ 1 _ rfl; (with_reducible repeat (first | refine blk_drewN ?_ _ | refine blk_drew ?_ | refine blk_alloc ?_ _)); refine blk_put (cs := #[.slice none 0 0, .slice none 0 0, .bool false]) ?_ 0 _ rfl; (with_reducible repeat (first | refine blk_drewN ?_ _ | refine blk_drew ?_ | refine blk_alloc ?_ _)); exact BK832.out⟩, ⟨vW HB.out⟩⟩
    ·
     rw [if_neg c37] at H
     have c37b0 : (a1_3 == 0) = false := beq_eq_false_iff_ne.mpr c37
     have c37b1 : (a1_3 != 0) = true := bne_iff_ne.mpr c37
     replace H := Option.bind_eq_some_iff.mp H
     obtain ⟨t833, A420, H⟩ := H
     replace H : (oct_Bounds.j0 k (decide (t833 < 0)) a1_0 a1_1 a1_2 a1_3 a1_4 t825 t828 false) = some (r1, r2) := H
     have A42 := Aside0.mk A420
     clear A420
     have H' := Aside0.mk H
     clear H
     have hnb43 := NB823_822.out
     have hnc43 := NB822_823.out
     have hnb44 := NB823_824.out
     have hnc44 := NB824_823.out
     have hnb45 := NB823_832.out
     have hnc45 := NB832_823.out
     obtain ⟨hcz46_0, hcz46_1, hcz46_2, hcz46_3, hcz46_4, hfz46_0, hfz46_1, hfz46_2, hfz46_3, hfz46_4⟩ := vF5 BK823.out
     have hnb47 := NB832_822.out
     have hnc47 := NB822_832.out
     have hnb48 := NB832_824.out
     have hnc48 := NB824_832.out
     obtain ⟨hcz49_0, hcz49_1, hcz49_2, hfz49_0, hfz49_1, hfz49_2⟩ := vF3 BK832.out
     go_wp2_with (go_at_call 74; (with_reducible refine (oct_node.calls k _ _ t825 _ _ t828 false a1_2 1 t833 _ ?side1 ?side2 ?side3 ?side4 A42.out).mono ?_); (case side1 => exact vTr HO827.out BK832.out); (case side2 => exact (Kd.R_reads' HO827.out).2.1); (case side3 => exact vTr HO830.out BK832.out); (case side4 => exact (Kd.R_reads' HO830.out).2.1); rintro e w50 ⟨rfl, hb⟩; replace HO827 := vTb HO827 BK832 hb; replace HO830 := vTb HO830 BK832 hb; replace BK822 := vBb BK822 hb; replace BK823 := vBb BK823 hb; replace BK824 := vBb BK824 hb; replace BK832 := Aside0.mk (blk_below (g := gb832) (o := .cells #[.slice Ao30 t825.length co30, .slice Ao35 t828.length co35, .bool false] 25 (0, 0)) (by (with_reducible repeat (first | refine blk_drewN ?_ _ | refine blk_drew ?_ | refine blk_alloc ?_ _)); refine blk_put (cs := #[.slice Ao30 t825.length co30, .slice Ao35 t828.length co35, .bool false]) ?_ 2 _ rfl; (with_reducible repeat (first | refine blk_drewN ?_ _ | refine blk_drew ?_ | refine blk_alloc ?_ _)); refine blk_put (cs := #[.slice Ao30 t825.length co30, .slice none 0 0, .bool false]) ?_ 1 _ rfl; (with_reducible repeat (first | refine blk_drewN ?_ _ | refine blk_drew ?_ | refine blk_alloc ?_ _)); refine blk_put (cs := #[.slice none 0 0, .slice none 0 0, .bool false]) ?_ 0 _ rfl; (with_reducible repeat (first | refine blk_drewN ?_ _ | refine blk_drew ?_ | refine blk_alloc ?_ _)); exact BK832.out) hb); replace HB := vWs HB hb; (try clear hb); (try clear hb2); (try clear hk); (try clear hi))
     go_meet
     case rel => exact ⟨_, (decide (t833 < 0)), (by first | rfl | (simp; done) | (simp [*]; done)), H', ⟨by first | omega | exact Nat.le_refl _⟩, ⟨vR HO827.out⟩, ⟨vR HO830.out⟩, ⟨vB BK822.out⟩, ⟨vB BK823.out⟩, ⟨vB BK824.out⟩, ⟨vB BK832.out⟩, ⟨vW HB.out⟩⟩
   ·
    rw [if_neg c36] at H
    have c36b0 : (a1_1 == 0) = false := beq_eq_false_iff_ne.mpr c36
    have c36b1 : (a1_1 != 0) = true := bne_iff_ne.mpr c36
    (first | rw [c36b0] | (simp only [i64_w, i32_w]; rw [c36b0]) | skip)
    replace H := Option.bind_eq_some_iff.mp H
    obtain ⟨t834, A510, H⟩ := H
    replace H : (if t834 < 0 then (oct_Bounds.j0 k true a1_0 a1_1 a1_2 a1_3 a1_4 t825 t828 false) else (if a1_3 = 0 then (oct_Bounds.j0 k false a1_0 a1_1 a1_2 a1_3 a1_4 t825 t828 false) else ((oct_node.f k t825 t828 false a1_2 1).bind fun t835 => (oct_Bounds.j0 k (decide (t835 < 0)) a1_0 a1_1 a1_2 a1_3 a1_4 t825 t828 false)))) = some (r1, r2) := H
    have A51 := Aside0.mk A510
    clear A510
    by_cases c52 : t834 < 0
    ·
     rw [if_pos c52] at H
     have c52b0 : decide (t834 < 0) = true := decide_eq_true c52
     clear c52
     have H' := Aside0.mk H
     clear H
     have hnb53 := NB823_822.out
     have hnc53 := NB822_823.out
     have hnb54 := NB823_824.out
     have hnc54 := NB824_823.out
     have hnb55 := NB823_832.out
     have hnc55 := NB832_823.out
     obtain ⟨hcz56_0, hcz56_1, hcz56_2, hcz56_3, hcz56_4, hfz56_0, hfz56_1, hfz56_2, hfz56_3, hfz56_4⟩ := vF5 BK823.out
     have hnb57 := NB832_822.out
     have hnc57 := NB822_832.out
     have hnb58 := NB832_824.out
     have hnc58 := NB824_832.out
     obtain ⟨hcz59_0, hcz59_1, hcz59_2, hfz59_0, hfz59_1, hfz59_2⟩ := vF3 BK832.out
     go_wp2_with (go_at_call 74; (with_reducible refine (oct_node.calls k _ _ t825 _ _ t828 false a1_0 1 t834 _ ?side1 ?side2 ?side3 ?side4 A51.out).mono ?_); (case side1 => exact vTr HO827.out BK832.out); (case side2 => exact (Kd.R_reads' HO827.out).2.1); (case side3 => exact vTr HO830.out BK832.out); (case side4 => exact (Kd.R_reads' HO830.out).2.1); rintro e w60 ⟨rfl, hb⟩; replace HO827 := vTb HO827 BK832 hb; replace HO830 := vTb HO830 BK832 hb; replace BK822 := vBb BK822 hb; replace BK823 := vBb BK823 hb; replace BK824 := vBb BK824 hb; replace BK832 := Aside0.mk (blk_below (g := gb832) (o := .cells #[.slice Ao30 t825.length co30, .slice Ao35 t828.length co35, .bool false] 25 (0, 0)) (by (with_reducible repeat (first | refine blk_drewN ?_ _ | refine blk_drew ?_ | refine blk_alloc ?_ _)); refine blk_put (cs := #[.slice Ao30 t825.length co30, .slice Ao35 t828.length co35, .bool false]) ?_ 2 _ rfl; (with_reducible repeat (first | refine blk_drewN ?_ _ | refine blk_drew ?_ | refine blk_alloc ?_ _)); refine blk_put (cs := #[.slice Ao30 t825.length co30, .slice none 0 0, .bool false]) ?_ 1 _ rfl; (with_reducible repeat (first | refine blk_drewN ?_ _ | refine blk_drew ?_ | refine blk_alloc ?_ _)); refine blk_put (cs := #[.slice none 0 0, .slice none 0 0, .bool false]) ?_ 0 _ rfl; (with_reducible repeat (first | refine blk_drewN ?_ _ | refine blk_drew ?_ | refine blk_alloc ?_ _)); exact BK832.out) hb); replace HB := vWs HB hb; (try clear hb); (try clear hb2); (try clear hk); (try clear hi))
     go_meet
     case rel => exact ⟨_, (true), (by first | rfl | (simp; done) | (simp [*]; done)), H', ⟨by first | omega | exact Nat.le_refl _⟩, ⟨vR HO827.out⟩, ⟨vR HO830.out⟩, ⟨vB BK822.out⟩, ⟨vB BK823.out⟩, ⟨vB BK824.out⟩, ⟨vB BK832.out⟩, ⟨vW HB.out⟩⟩
    ·
     rw [if_neg c52] at H
     have c52b0 : decide (t834 < 0) = false := decide_eq_false c52
     clear c52
     by_cases c61 : a1_3 = 0
     ·
      rw [if_pos c61] at H
      have c61b0 : (a1_3 == 0) = true := beq_iff_eq.mpr c61
      have c61b1 : (a1_3 != 0) = false := bne_eq_false_iff_eq.mpr c61
      clear c61
      have H' := Aside0.mk H
      clear H
      have hnb62 := NB823_822.out
      have hnc62 := NB822_823.out
      have hnb63 := NB823_824.out
      have hnc63 := NB824_823.out
      have hnb64 := NB823_832.out
      have hnc64 := NB832_823.out
      obtain ⟨hcz65_0, hcz65_1, hcz65_2, hcz65_3, hcz65_4, hfz65_0, hfz65_1, hfz65_2, hfz65_3, hfz65_4⟩ := vF5 BK823.out
      have hnb66 := NB832_822.out
      have hnc66 := NB822_832.out
      have hnb67 := NB832_824.out
      have hnc67 := NB824_832.out
      obtain ⟨hcz68_0, hcz68_1, hcz68_2, hfz68_0, hfz68_1, hfz68_2⟩ := vF3 BK832.out
      go_wp2_with (go_at_call 74; (with_reducible refine (oct_node.calls k _ _ t825 _ _ t828 false a1_0 1 t834 _ ?side1 ?side2 ?side3 ?side4 A51.out).mono ?_); (case side1 => exact vTr HO827.out BK832.out); (case side2 => exact (Kd.R_reads' HO827.out).2.1); (case side3 => exact vTr HO830.out BK832.out); (case side4 => exact (Kd.R_reads' HO830.out).2.1); rintro e w69 ⟨rfl, hb⟩; replace HO827 := vTb HO827 BK832 hb; replace HO830 := vTb HO830 BK832 hb; replace BK822 := vBb BK822 hb; replace BK823 := vBb BK823 hb; replace BK824 := vBb BK824 hb; replace BK832 := Aside0.mk (blk_below (g := gb832) (o := .cells #[.slice Ao30 t825.length co30, .slice Ao35 t828.length co35, .bool false] 25 (0, 0)) (by (with_reducible repeat (first | refine blk_drewN ?_ _ | refine blk_drew ?_ | refine blk_alloc ?_ _)); refine blk_put (cs := #[.slice Ao30 t825.length co30, .slice Ao35 t828.length co35, .bool false]) ?_ 2 _ rfl; (with_reducible repeat (first | refine blk_drewN ?_ _ | refine blk_drew ?_ | refine blk_alloc ?_ _)); refine blk_put (cs := #[.slice Ao30 t825.length co30, .slice none 0 0, .bool false]) ?_ 1 _ rfl; (with_reducible repeat (first | refine blk_drewN ?_ _ | refine blk_drew ?_ | refine blk_alloc ?_ _)); refine blk_put (cs := #[.slice none 0 0, .slice none 0 0, .bool false]) ?_ 0 _ rfl; (with_reducible repeat (first | refine blk_drewN ?_ _ | refine blk_drew ?_ | refine blk_alloc ?_ _)); exact BK832.out) hb); replace HB := vWs HB hb; (try clear hb); (try clear hb2); (try clear hk); (try clear hi); obtain ⟨hcz70_0, hcz70_1, hcz70_2, hcz70_3, hcz70_4, hfz70_0, hfz70_1, hfz70_2, hfz70_3, hfz70_4⟩ := vF5 BK823.out)
      go_meet
      case rel => exact ⟨_, (false), (by first | rfl | (simp; done) | (simp [*]; done)), H', ⟨by first | omega | exact Nat.le_refl _⟩, ⟨vR HO827.out⟩, ⟨vR HO830.out⟩, ⟨vB BK822.out⟩, ⟨vB BK823.out⟩, ⟨vB BK824.out⟩, ⟨vB BK832.out⟩, ⟨vW HB.out⟩⟩
     ·
      rw [if_neg c61] at H
      have c61b0 : (a1_3 == 0) = false := beq_eq_false_iff_ne.mpr c61
      have c61b1 : (a1_3 != 0) = true := bne_iff_ne.mpr c61
      replace H := Option.bind_eq_some_iff.mp H
      obtain ⟨t835, A710, H⟩ := H
      replace H : (oct_Bounds.j0 k (decide (t835 < 0)) a1_0 a1_1 a1_2 a1_3 a1_4 t825 t828 false) = some (r1, r2) := H
      have A71 := Aside0.mk A710
      clear A710
      have H' := Aside0.mk H
      clear H
      have hnb72 := NB823_822.out
      have hnc72 := NB822_823.out
      have hnb73 := NB823_824.out
      have hnc73 := NB824_823.out
      have hnb74 := NB823_832.out
      have hnc74 := NB832_823.out
      obtain ⟨hcz75_0, hcz75_1, hcz75_2, hcz75_3, hcz75_4, hfz75_0, hfz75_1, hfz75_2, hfz75_3, hfz75_4⟩ := vF5 BK823.out
      have hnb76 := NB832_822.out
      have hnc76 := NB822_832.out
      have hnb77 := NB832_824.out
      have hnc77 := NB824_832.out
      obtain ⟨hcz78_0, hcz78_1, hcz78_2, hfz78_0, hfz78_1, hfz78_2⟩ := vF3 BK832.out
      go_wp2_with (first | (go_at_call 74; (with_reducible refine (oct_node.calls k _ _ t825 _ _ t828 false a1_0 1 t834 _ ?side1 ?side2 ?side3 ?side4 A51.out).mono ?_); (case side1 => exact vTr HO827.out BK832.out); (case side2 => exact (Kd.R_reads' HO827.out).2.1); (case side3 => exact vTr HO830.out BK832.out); (case side4 => exact (Kd.R_reads' HO830.out).2.1); rintro e w79 ⟨rfl, hb⟩; replace HO827 := vTb HO827 BK832 hb; replace HO830 := vTb HO830 BK832 hb; replace BK822 := vBb BK822 hb; replace BK823 := vBb BK823 hb; replace BK824 := vBb BK824 hb; replace BK832 := Aside0.mk (blk_below (g := gb832) (o := .cells #[.slice Ao30 t825.length co30, .slice Ao35 t828.length co35, .bool false] 25 (0, 0)) (by (with_reducible repeat (first | refine blk_drewN ?_ _ | refine blk_drew ?_ | refine blk_alloc ?_ _)); refine blk_put (cs := #[.slice Ao30 t825.length co30, .slice Ao35 t828.length co35, .bool false]) ?_ 2 _ rfl; (with_reducible repeat (first | refine blk_drewN ?_ _ | refine blk_drew ?_ | refine blk_alloc ?_ _)); refine blk_put (cs := #[.slice Ao30 t825.length co30, .slice none 0 0, .bool false]) ?_ 1 _ rfl; (with_reducible repeat (first | refine blk_drewN ?_ _ | refine blk_drew ?_ | refine blk_alloc ?_ _)); refine blk_put (cs := #[.slice none 0 0, .slice none 0 0, .bool false]) ?_ 0 _ rfl; (with_reducible repeat (first | refine blk_drewN ?_ _ | refine blk_drew ?_ | refine blk_alloc ?_ _)); exact BK832.out) hb); replace HB := vWs HB hb; (try clear hb); (try clear hb2); (try clear hk); (try clear hi); obtain ⟨hcz80_0, hcz80_1, hcz80_2, hcz80_3, hcz80_4, hfz80_0, hfz80_1, hfz80_2, hfz80_3, hfz80_4⟩ := vF5 BK823.out; obtain ⟨hcz81_0, hcz81_1, hcz81_2, hfz81_0, hfz81_1, hfz81_2⟩ := vF3 BK832.out) | (go_at_call 74; (with_reducible refine (oct_node.calls k _ _ t825 _ _ t828 false a1_2 1 t835 _ ?side1 ?side2 ?side3 ?side4 A71.out).mono ?_); (case side1 => repeat (first | exact (Kd.R_reads' HO827.out).2.2 | (with_reducible refine Kd.C_alloc ?_ _) | (with_reducible refine Kd.C_drewN ?_ _) | (with_reducible refine Kd.C_drew ?_))); (case side2 => exact (Kd.R_reads' HO827.out).2.1); (case side3 => repeat (first | exact (Kd.R_reads' HO830.out).2.2 | (with_reducible refine Kd.C_alloc ?_ _) | (with_reducible refine Kd.C_drewN ?_ _) | (with_reducible refine Kd.C_drew ?_))); (case side4 => exact (Kd.R_reads' HO830.out).2.1); rintro e w82 ⟨rfl, hb⟩; replace HO827 := vRb HO827 hb; replace HO830 := vRb HO830 hb; replace BK822 := vBb BK822 hb; replace BK823 := vBb BK823 hb; replace BK824 := vBb BK824 hb; replace BK832 := vBb BK832 hb; replace HB := vWs HB hb; (try clear hb); (try clear hb2); (try clear hk); (try clear hi)))
      go_meet
      case rel => exact ⟨_, (decide (t835 < 0)), (by first | rfl | (simp; done) | (simp [*]; done)), H', ⟨by first | omega | exact Nat.le_refl _⟩, ⟨vR HO827.out⟩, ⟨vR HO830.out⟩, ⟨vB BK822.out⟩, ⟨vB BK823.out⟩, ⟨vB BK824.out⟩, ⟨vB BK832.out⟩, ⟨vW HB.out⟩⟩
  case rest =>
   clear HC21
   try clear hcz27_0
   try clear hcz27_1
   try clear hcz27_2
   try clear hcz34_0
   try clear hcz34_1
   try clear hcz34_2
   try clear hfz27_0
   try clear hfz27_1
   try clear hfz27_2
   try clear hfz34_0
   try clear hfz34_1
   try clear hfz34_2
   obtain ⟨kq, x33_20, rfl, HA, HJ20, HO_833000, HO_833001, BK822, BK823, BK824, BK832, HB⟩ := hcut
   cases kq with
   | zero => exact absurd HA.out (by simp [oct_Bounds.j0])
   | succ kj20 =>
    have H := HA.out
    clear HA
    simp only [oct_Bounds.j0] at H
    by_cases c83 : x33_20 = true
    ·
     subst c83
     have H1 : (some ((-4611686018427387904), 4611686018427387904)) = some (r1, r2) := by rw [if_pos rfl] at H; exact H
     clear H
     have H := H1
     clear H1
     simp only [Option.some.injEq, Prod.mk.injEq] at H
     obtain ⟨rfl, rfl⟩ := H
     have hnb84 := NB824_822.out
     have hnc84 := NB822_824.out
     have hnb85 := NB824_823.out
     have hnc85 := NB823_824.out
     have hnb86 := NB824_832.out
     have hnc86 := NB832_824.out
     obtain ⟨hcz87_0, hcz87_1, hfz87_0, hfz87_1⟩ := vF2 BK824.out
     go_wp2
     refine bodyPost_ret (results_cell_row rfl _ _ gb824 37 #[.int .i64 (-4611686018427387904), .int .i64 4611686018427387904] (0, 0) _ rfl (by (with_reducible repeat (first | refine blk_drewN ?_ _ | refine blk_drew ?_ | refine blk_alloc ?_ _)); refine blk_put (cs := #[.int .i64 (-4611686018427387904), .int .i64 0]) ?_ 1 _ rfl; (with_reducible repeat (first | refine blk_drewN ?_ _ | refine blk_drew ?_ | refine blk_alloc ?_ _)); refine blk_put (cs := #[.int .i64 0, .int .i64 0]) ?_ 0 _ rfl; (with_reducible repeat (first | refine blk_drewN ?_ _ | refine blk_drew ?_ | refine blk_alloc ?_ _)); exact BK824.out) Try.underlying37 rfl (by kernel_rfl)) rfl ?_
     exact ⟨by first | rfl | (simp [errW_none, errW_some] <;> rfl) | (simp [*, errW_none, errW_some] <;> rfl) | (simp [wrap64]; done), vW HB.out⟩
    ·
     replace c83 := Bool.eq_false_iff.mpr c83
     subst c83
     have H1 : ((oct_most.f kj20 t825 t828 false a1_0 (wrap64 (-a1_1)) a1_2 (wrap64 (-a1_3)) a1_4).bind fun t837 => ((bound_Neg.f t837).bind fun t838 => ((bound_Down.f a1_4 t838).bind fun t839 => ((oct_most.f kj20 t825 t828 false a1_0 a1_1 a1_2 a1_3 a1_4).bind fun t840 => ((bound_Up.f a1_4 t840).bind fun t841 => (some (t839, t841))))))) = some (r1, r2) := by rw [if_neg (show ¬ (false = true) by decide)] at H; exact H
     clear H
     have H := H1
     clear H1
     replace H := Option.bind_eq_some_iff.mp H
     obtain ⟨t837, A880, H⟩ := H
     replace H : ((bound_Neg.f t837).bind fun t838 => ((bound_Down.f a1_4 t838).bind fun t839 => ((oct_most.f kj20 t825 t828 false a1_0 a1_1 a1_2 a1_3 a1_4).bind fun t840 => ((bound_Up.f a1_4 t840).bind fun t841 => (some (t839, t841)))))) = some (r1, r2) := H
     have A88 := Aside0.mk A880
     clear A880
     replace H := Option.bind_eq_some_iff.mp H
     obtain ⟨t838, A890, H⟩ := H
     replace H : ((bound_Down.f a1_4 t838).bind fun t839 => ((oct_most.f kj20 t825 t828 false a1_0 a1_1 a1_2 a1_3 a1_4).bind fun t840 => ((bound_Up.f a1_4 t840).bind fun t841 => (some (t839, t841))))) = some (r1, r2) := H
     have A89 := Aside0.mk A890
     clear A890
     replace H := Option.bind_eq_some_iff.mp H
     obtain ⟨t839, A900, H⟩ := H
     replace H : ((oct_most.f kj20 t825 t828 false a1_0 a1_1 a1_2 a1_3 a1_4).bind fun t840 => ((bound_Up.f a1_4 t840).bind fun t841 => (some (t839, t841)))) = some (r1, r2) := H
     have A90 := Aside0.mk A900
     clear A900
     replace H := Option.bind_eq_some_iff.mp H
     obtain ⟨t840, A910, H⟩ := H
     replace H : ((bound_Up.f a1_4 t840).bind fun t841 => (some (t839, t841))) = some (r1, r2) := H
     have A91 := Aside0.mk A910
     clear A910
     replace H := Option.bind_eq_some_iff.mp H
     obtain ⟨t841, A920, H⟩ := H
     replace H : (some (t839, t841)) = some (r1, r2) := H
     have A92 := Aside0.mk A920
     clear A920
     simp only [Option.some.injEq, Prod.mk.injEq] at H
     obtain ⟨rfl, rfl⟩ := H
     have hnb93 := NB823_822.out
     have hnc93 := NB822_823.out
     have hnb94 := NB823_824.out
     have hnc94 := NB824_823.out
     have hnb95 := NB823_832.out
     have hnc95 := NB832_823.out
     obtain ⟨hcz96_0, hcz96_1, hcz96_2, hcz96_3, hcz96_4, hfz96_0, hfz96_1, hfz96_2, hfz96_3, hfz96_4⟩ := vF5 BK823.out
     try go_wp2_with ((with_reducible refine gate_dst (N := 6) rfl ?_); refine box_event ?hg (N := 6) ?hd (cs := #[.int .i64 0, .int .i64 0, .int .i64 0, .int .i64 0, .int .i64 0]) (t := 49) ?hr ?_; (case hd => rfl); (case hg => rfl); (case hr => first | (go_simp; done) | (go_simp; rfl)); intro gb836 hg w97 hbox hb; replace HO_833000 := vRb HO_833000 hb; replace HO_833001 := vRb HO_833001 hb; have BK836 := Aside0.mk (hbox); have GW836 := vS hg HB; have GE836 := vS hg HB; replace HB := vWs HB hb; have NB822_836 := vNl hg BK822; have NB836_822 := vNg hg BK822; replace BK822 := vBb BK822 hb; have NB823_836 := vNl hg BK823; have NB836_823 := vNg hg BK823; replace BK823 := vBb BK823 hb; have NB824_836 := vNl hg BK824; have NB836_824 := vNg hg BK824; replace BK824 := vBb BK824 hb; have NB832_836 := vNl hg BK832; have NB836_832 := vNg hg BK832; replace BK832 := vBb BK832 hb; clear hb hbox hg; have hnb98 := NB836_822.out; have hnc98 := NB822_836.out; have hnb99 := NB836_823.out; have hnc99 := NB823_836.out; have hnb100 := NB836_824.out; have hnc100 := NB824_836.out; have hnb101 := NB836_832.out; have hnc101 := NB832_836.out; obtain ⟨hcz102_0, hcz102_1, hcz102_2, hcz102_3, hcz102_4, hfz102_0, hfz102_1, hfz102_2, hfz102_3, hfz102_4⟩ := vF5 BK836.out)
     have n0_ : Aside0 (Kd.R (Kd.int .i64) 3 (((((w97.setCell ⟨gb836, 0, none⟩ (.int .i64 a1_0)).setCell ⟨gb836, 1, none⟩ (.int .i64 a1_1)).setCell ⟨gb836, 2, none⟩ (.int .i64 a1_2)).setCell ⟨gb836, 3, none⟩ (.int .i64 a1_3)).setCell ⟨gb836, 4, none⟩ (.int .i64 a1_4)) w.heap.size (fun _ => True) (.slice Ao30 t825.length co30) t825) := ⟨by (with_reducible repeat (first | apply Kd.R_alloc | apply Kd.R_drewN | apply Kd.R_drew)); exact Kd.R_mono (Kd.R_far (p := ⟨gb836, 4, none⟩) (Kd.R_far (p := ⟨gb836, 3, none⟩) (Kd.R_far (p := ⟨gb836, 2, none⟩) (Kd.R_far (p := ⟨gb836, 1, none⟩) (Kd.R_far (p := ⟨gb836, 0, none⟩) (Kd.R_types HO_833000.out BK836.out (by decide)) (fun _ hk => hk.2) (.int .i64 a1_0)) (fun _ hk => hk.2) (.int .i64 a1_1)) (fun _ hk => hk.2) (.int .i64 a1_2)) (fun _ hk => hk.2) (.int .i64 a1_3)) (fun _ hk => hk.2) (.int .i64 a1_4)) (fun _ hk => trivial)⟩
     have n1_ : Aside0 (Kd.R (Kd.int .i64) 2 (((((w97.setCell ⟨gb836, 0, none⟩ (.int .i64 a1_0)).setCell ⟨gb836, 1, none⟩ (.int .i64 a1_1)).setCell ⟨gb836, 2, none⟩ (.int .i64 a1_2)).setCell ⟨gb836, 3, none⟩ (.int .i64 a1_3)).setCell ⟨gb836, 4, none⟩ (.int .i64 a1_4)) w.heap.size (fun _ => True) (.slice Ao35 t828.length co35) t828) := ⟨by (with_reducible repeat (first | apply Kd.R_alloc | apply Kd.R_drewN | apply Kd.R_drew)); exact Kd.R_mono (Kd.R_far (p := ⟨gb836, 4, none⟩) (Kd.R_far (p := ⟨gb836, 3, none⟩) (Kd.R_far (p := ⟨gb836, 2, none⟩) (Kd.R_far (p := ⟨gb836, 1, none⟩) (Kd.R_far (p := ⟨gb836, 0, none⟩) (Kd.R_types HO_833001.out BK836.out (by decide)) (fun _ hk => hk.2) (.int .i64 a1_0)) (fun _ hk => hk.2) (.int .i64 a1_1)) (fun _ hk => hk.2) (.int .i64 a1_2)) (fun _ hk => hk.2) (.int .i64 a1_3)) (fun _ hk => hk.2) (.int .i64 a1_4)) (fun _ hk => trivial)⟩
     have n2_ : Aside0 ((((((w97.setCell ⟨gb836, 0, none⟩ (.int .i64 a1_0)).setCell ⟨gb836, 1, none⟩ (.int .i64 a1_1)).setCell ⟨gb836, 2, none⟩ (.int .i64 a1_2)).setCell ⟨gb836, 3, none⟩ (.int .i64 a1_3)).setCell ⟨gb836, 4, none⟩ (.int .i64 a1_4)).heap[gb822]? = some (.cells #[.slice A0_0 l0_0.length c0_0, .slice A0_1 l0_1.length c0_1, .bool a0_2] 25 (0, 0))) := ⟨vB BK822.out⟩
     have n3_ : Aside0 ((((((w97.setCell ⟨gb836, 0, none⟩ (.int .i64 a1_0)).setCell ⟨gb836, 1, none⟩ (.int .i64 a1_1)).setCell ⟨gb836, 2, none⟩ (.int .i64 a1_2)).setCell ⟨gb836, 3, none⟩ (.int .i64 a1_3)).setCell ⟨gb836, 4, none⟩ (.int .i64 a1_4)).heap[gb823]? = some (.cells #[.int .i64 a1_0, .int .i64 a1_1, .int .i64 a1_2, .int .i64 a1_3, .int .i64 a1_4] 49 (0, 0))) := ⟨vB BK823.out⟩
     have n4_ : Aside0 ((((((w97.setCell ⟨gb836, 0, none⟩ (.int .i64 a1_0)).setCell ⟨gb836, 1, none⟩ (.int .i64 a1_1)).setCell ⟨gb836, 2, none⟩ (.int .i64 a1_2)).setCell ⟨gb836, 3, none⟩ (.int .i64 a1_3)).setCell ⟨gb836, 4, none⟩ (.int .i64 a1_4)).heap[gb824]? = some (.cells #[.int .i64 0, .int .i64 0] 37 (0, 0))) := ⟨vB BK824.out⟩
     have n5_ : Aside0 ((((((w97.setCell ⟨gb836, 0, none⟩ (.int .i64 a1_0)).setCell ⟨gb836, 1, none⟩ (.int .i64 a1_1)).setCell ⟨gb836, 2, none⟩ (.int .i64 a1_2)).setCell ⟨gb836, 3, none⟩ (.int .i64 a1_3)).setCell ⟨gb836, 4, none⟩ (.int .i64 a1_4)).heap[gb832]? = some (.cells #[.slice Ao30 t825.length co30, .slice Ao35 t828.length co35, .bool false] 25 (0, 0))) := ⟨vB BK832.out⟩
     have n6_ : Aside0 ((((((w97.setCell ⟨gb836, 0, none⟩ (.int .i64 a1_0)).setCell ⟨gb836, 1, none⟩ (.int .i64 a1_1)).setCell ⟨gb836, 2, none⟩ (.int .i64 a1_2)).setCell ⟨gb836, 3, none⟩ (.int .i64 a1_3)).setCell ⟨gb836, 4, none⟩ (.int .i64 a1_4)).heap[gb836]? = some (.cells #[.int .i64 a1_0, .int .i64 a1_1, .int .i64 a1_2, .int .i64 a1_3, .int .i64 a1_4] 49 (0, 0))) := ⟨by (with_reducible repeat (first | refine blk_drewN ?_ _ | refine blk_drew ?_ | refine blk_alloc ?_ _)); refine blk_put (cs := #[.int .i64 a1_0, .int .i64 a1_1, .int .i64 a1_2, .int .i64 a1_3, .int .i64 0]) ?_ 4 _ rfl; (with_reducible repeat (first | refine blk_drewN ?_ _ | refine blk_drew ?_ | refine blk_alloc ?_ _)); refine blk_put (cs := #[.int .i64 a1_0, .int .i64 a1_1, .int .i64 a1_2, .int .i64 0, .int .i64 0]) ?_ 3 _ rfl; (with_reducible repeat (first | refine blk_drewN ?_ _ | refine blk_drew ?_ | refine blk_alloc ?_ _)); refine blk_put (cs := #[.int .i64 a1_0, .int .i64 a1_1, .int .i64 0, .int .i64 0, .int .i64 0]) ?_ 2 _ rfl; (with_reducible repeat (first | refine blk_drewN ?_ _ | refine blk_drew ?_ | refine blk_alloc ?_ _)); refine blk_put (cs := #[.int .i64 a1_0, .int .i64 0, .int .i64 0, .int .i64 0, .int .i64 0]) ?_ 1 _ rfl; (with_reducible repeat (first | refine blk_drewN ?_ _ | refine blk_drew ?_ | refine blk_alloc ?_ _)); refine blk_put (cs := #[.int .i64 0, .int .i64 0, .int .i64 0, .int .i64 0, .int .i64 0]) ?_ 0 _ rfl; (with_reducible repeat (first | refine blk_drewN ?_ _ | refine blk_drew ?_ | refine blk_alloc ?_ _)); exact BK836.out⟩
     have n7_ : Aside0 (Below w.heap.size w (((((w97.setCell ⟨gb836, 0, none⟩ (.int .i64 a1_0)).setCell ⟨gb836, 1, none⟩ (.int .i64 a1_1)).setCell ⟨gb836, 2, none⟩ (.int .i64 a1_2)).setCell ⟨gb836, 3, none⟩ (.int .i64 a1_3)).setCell ⟨gb836, 4, none⟩ (.int .i64 a1_4))) := ⟨vW HB.out⟩
     (try clear HO_833000)
     (try clear HO_833001)
     (try clear BK822)
     (try clear BK823)
     (try clear BK824)
     (try clear BK832)
     (try clear BK836)
     (try clear HB)
     generalize (((((w97.setCell ⟨gb836, 0, none⟩ (.int .i64 a1_0)).setCell ⟨gb836, 1, none⟩ (.int .i64 a1_1)).setCell ⟨gb836, 2, none⟩ (.int .i64 a1_2)).setCell ⟨gb836, 3, none⟩ (.int .i64 a1_3)).setCell ⟨gb836, 4, none⟩ (.int .i64 a1_4)) = w103 at n0_ n1_ n2_ n3_ n4_ n5_ n6_ n7_ ⊢
     have HO_833000 := n0_
     have HO_833001 := n1_
     have BK822 := n2_
     have BK823 := n3_
     have BK824 := n4_
     have BK832 := n5_
     have BK836 := n6_
     have HB := n7_
     clear n0_ n1_ n2_ n3_ n4_ n5_ n6_ n7_
     replace HO_833000 := Aside0.mk (Kd.R_drew HO_833000.out)
     replace HO_833001 := Aside0.mk (Kd.R_drew HO_833001.out)
     replace BK822 := Aside0.mk (blk_drew BK822.out)
     replace BK823 := Aside0.mk (blk_drew BK823.out)
     replace BK824 := Aside0.mk (blk_drew BK824.out)
     replace BK832 := Aside0.mk (blk_drew BK832.out)
     replace BK836 := Aside0.mk (blk_drew BK836.out)
     replace HB := Aside0.mk (below_drew1 HB.out)
     refine start_ (n := 10) (S := fun w' => w'.cell? ⟨gb823, 0, none⟩ = some (.int .i64 a1_0) ∧ w'.cell? ⟨gb823, 1, none⟩ = some (.int .i64 a1_1) ∧ w'.cell? ⟨gb823, 2, none⟩ = some (.int .i64 a1_2) ∧ w'.cell? ⟨gb823, 3, none⟩ = some (.int .i64 a1_3) ∧ w'.cell? ⟨gb823, 4, none⟩ = some (.int .i64 a1_4)) (ds := []) (mB 10 0) (by kernel_rfl) rfl rfl ⟨(blk_cell BK823.out 0).trans rfl, (blk_cell BK823.out 1).trans rfl, (blk_cell BK823.out 2).trans rfl, (blk_cell BK823.out 3).trans rfl, (blk_cell BK823.out 4).trans rfl⟩ (fun hHeld => ?_); refine with_tabW oct_Bounds.tab7 oct_Bounds.bits7 (fun HT_ HW_ => ?_)
     generalize w103.drew = w104 at HO_833000 HO_833001 BK822 BK823 BK824 BK832 BK836 HB hHeld ⊢
     refine pV_ 0 36 (mB 10 1) HT_ ?_
     refine pV_ 3 39 (mB 10 9) HT_ ?_
     refine tV_ 1 37 (mB 10 11) HT_ HW_ hHeld ?_
     refine pV_ 2 38 (mB 10 15) HT_ ?_
     refine pV_ 6 42 (mB 10 79) HT_ ?_
     refine tV_ 4 40 (mB 10 95) HT_ HW_ hHeld ?_
     refine pV_ 5 41 (mB 10 127) HT_ ?_
     refine one_ (i := 7) (N := none) (mB 10 255) rfl rfl (one_of HT_.out (by kernel_rfl)) (by decide) (fun K hK => ?_)
     have hs105 : w104.cell? ⟨gb836, 1, none⟩ = some (.int .i64 a1_1) := (blk_cell BK836.out 1).trans rfl
     have hfs105 := blk_frozen BK836.out 1
     have hns105_0 := NB822_836.out
     have hns105_1 := NB823_836.out
     have hns105_2 := NB824_836.out
     have hns105_3 := NB832_836.out
     have hms105_0 := NB836_822.out
     have hms105_1 := NB836_823.out
     have hms105_2 := NB836_824.out
     have hms105_3 := NB836_832.out
     refine skip_ (w1 := ?_) (by rfl) rfl ?_ ?_
     rotate_left
     ·
      go_simp
      rfl
     refine hK.out _ _ ⟨((cell_far (p := ⟨gb836, _, none⟩) NB823_836.out _).trans (hHeld.1)), ((cell_far (p := ⟨gb836, _, none⟩) NB823_836.out _).trans (hHeld.2.1)), ((cell_far (p := ⟨gb836, _, none⟩) NB823_836.out _).trans (hHeld.2.2.1)), ((cell_far (p := ⟨gb836, _, none⟩) NB823_836.out _).trans (hHeld.2.2.2.1)), ((cell_far (p := ⟨gb836, _, none⟩) NB823_836.out _).trans (hHeld.2.2.2.2))⟩ (fun hHeld => ?_)
     clear hK K
     refine pV_ 8 43 (mB 10 511) HT_ ?_
     refine one_ (i := 9) (N := none) (mB 10 1023) rfl rfl (one_of HT_.out (by kernel_rfl)) (by decide) (fun K hK => ?_)
     have hs106 : w104.cell? ⟨gb836, 3, none⟩ = some (.int .i64 a1_3) := (blk_cell BK836.out 3).trans rfl
     have hfs106 := blk_frozen BK836.out 3
     have hns106_0 := NB822_836.out
     have hns106_1 := NB823_836.out
     have hns106_2 := NB824_836.out
     have hns106_3 := NB832_836.out
     have hms106_0 := NB836_822.out
     have hms106_1 := NB836_823.out
     have hms106_2 := NB836_824.out
     have hms106_3 := NB836_832.out
     refine skip_ (w1 := ?_) (by rfl) rfl ?_ ?_
     rotate_left
     ·
      go_simp
      rfl
     refine hK.out _ _ ⟨((cell_far (p := ⟨gb836, _, none⟩) NB823_836.out _).trans (hHeld.1)), ((cell_far (p := ⟨gb836, _, none⟩) NB823_836.out _).trans (hHeld.2.1)), ((cell_far (p := ⟨gb836, _, none⟩) NB823_836.out _).trans (hHeld.2.2.1)), ((cell_far (p := ⟨gb836, _, none⟩) NB823_836.out _).trans (hHeld.2.2.2.1)), ((cell_far (p := ⟨gb836, _, none⟩) NB823_836.out _).trans (hHeld.2.2.2.2))⟩ (fun hHeld => ?_)
     clear hK K
     refine done_ (done_of HT_.out (by kernel_rfl)) ?_
     try go_wp2
     have n0_ : Aside0 (Kd.R (Kd.int .i64) 3 ((w104.setCell ⟨gb836, 1, none⟩ (.int .i64 (wrap64 (-a1_1)))).setCell ⟨gb836, 3, none⟩ (.int .i64 (wrap64 (-a1_3)))) w.heap.size (fun _ => True) (.slice Ao30 t825.length co30) t825) := ⟨by (with_reducible repeat (first | apply Kd.R_alloc | apply Kd.R_drewN | apply Kd.R_drew)); exact Kd.R_mono (Kd.R_far (p := ⟨gb836, 3, none⟩) (Kd.R_far (p := ⟨gb836, 1, none⟩) (Kd.R_types HO_833000.out BK836.out (by decide)) (fun _ hk => hk.2) (.int .i64 (wrap64 (-a1_1)))) (fun _ hk => hk.2) (.int .i64 (wrap64 (-a1_3)))) (fun _ hk => trivial)⟩
     have n1_ : Aside0 (Kd.R (Kd.int .i64) 2 ((w104.setCell ⟨gb836, 1, none⟩ (.int .i64 (wrap64 (-a1_1)))).setCell ⟨gb836, 3, none⟩ (.int .i64 (wrap64 (-a1_3)))) w.heap.size (fun _ => True) (.slice Ao35 t828.length co35) t828) := ⟨by (with_reducible repeat (first | apply Kd.R_alloc | apply Kd.R_drewN | apply Kd.R_drew)); exact Kd.R_mono (Kd.R_far (p := ⟨gb836, 3, none⟩) (Kd.R_far (p := ⟨gb836, 1, none⟩) (Kd.R_types HO_833001.out BK836.out (by decide)) (fun _ hk => hk.2) (.int .i64 (wrap64 (-a1_1)))) (fun _ hk => hk.2) (.int .i64 (wrap64 (-a1_3)))) (fun _ hk => trivial)⟩
     have n2_ : Aside0 (((w104.setCell ⟨gb836, 1, none⟩ (.int .i64 (wrap64 (-a1_1)))).setCell ⟨gb836, 3, none⟩ (.int .i64 (wrap64 (-a1_3)))).heap[gb822]? = some (.cells #[.slice A0_0 l0_0.length c0_0, .slice A0_1 l0_1.length c0_1, .bool a0_2] 25 (0, 0))) := ⟨vB BK822.out⟩
     have n3_ : Aside0 (((w104.setCell ⟨gb836, 1, none⟩ (.int .i64 (wrap64 (-a1_1)))).setCell ⟨gb836, 3, none⟩ (.int .i64 (wrap64 (-a1_3)))).heap[gb823]? = some (.cells #[.int .i64 a1_0, .int .i64 a1_1, .int .i64 a1_2, .int .i64 a1_3, .int .i64 a1_4] 49 (0, 0))) := ⟨vB BK823.out⟩
     have n4_ : Aside0 (((w104.setCell ⟨gb836, 1, none⟩ (.int .i64 (wrap64 (-a1_1)))).setCell ⟨gb836, 3, none⟩ (.int .i64 (wrap64 (-a1_3)))).heap[gb824]? = some (.cells #[.int .i64 0, .int .i64 0] 37 (0, 0))) := ⟨vB BK824.out⟩
     have n5_ : Aside0 (((w104.setCell ⟨gb836, 1, none⟩ (.int .i64 (wrap64 (-a1_1)))).setCell ⟨gb836, 3, none⟩ (.int .i64 (wrap64 (-a1_3)))).heap[gb832]? = some (.cells #[.slice Ao30 t825.length co30, .slice Ao35 t828.length co35, .bool false] 25 (0, 0))) := ⟨vB BK832.out⟩
     have n6_ : Aside0 (((w104.setCell ⟨gb836, 1, none⟩ (.int .i64 (wrap64 (-a1_1)))).setCell ⟨gb836, 3, none⟩ (.int .i64 (wrap64 (-a1_3)))).heap[gb836]? = some (.cells #[.int .i64 a1_0, .int .i64 (wrap64 (-a1_1)), .int .i64 a1_2, .int .i64 (wrap64 (-a1_3)), .int .i64 a1_4] 49 (0, 0))) := ⟨by (with_reducible repeat (first | refine blk_drewN ?_ _ | refine blk_drew ?_ | refine blk_alloc ?_ _)); refine blk_put (cs := #[.int .i64 a1_0, .int .i64 (wrap64 (-a1_1)), .int .i64 a1_2, .int .i64 a1_3, .int .i64 a1_4]) ?_ 3 _ rfl; (with_reducible repeat (first | refine blk_drewN ?_ _ | refine blk_drew ?_ | refine blk_alloc ?_ _)); refine blk_put (cs := #[.int .i64 a1_0, .int .i64 a1_1, .int .i64 a1_2, .int .i64 a1_3, .int .i64 a1_4]) ?_ 1 _ rfl; (with_reducible repeat (first | refine blk_drewN ?_ _ | refine blk_drew ?_ | refine blk_alloc ?_ _)); exact BK836.out⟩
     have n7_ : Aside0 (Below w.heap.size w ((w104.setCell ⟨gb836, 1, none⟩ (.int .i64 (wrap64 (-a1_1)))).setCell ⟨gb836, 3, none⟩ (.int .i64 (wrap64 (-a1_3))))) := ⟨vW HB.out⟩
     (try clear HO_833000)
     (try clear HO_833001)
     (try clear BK822)
     (try clear BK823)
     (try clear BK824)
     (try clear BK832)
     (try clear BK836)
     (try clear HB)
     generalize ((w104.setCell ⟨gb836, 1, none⟩ (.int .i64 (wrap64 (-a1_1)))).setCell ⟨gb836, 3, none⟩ (.int .i64 (wrap64 (-a1_3)))) = w107 at n0_ n1_ n2_ n3_ n4_ n5_ n6_ n7_ ⊢
     have HO_833000 := n0_
     have HO_833001 := n1_
     have BK822 := n2_
     have BK823 := n3_
     have BK824 := n4_
     have BK832 := n5_
     have BK836 := n6_
     have HB := n7_
     clear n0_ n1_ n2_ n3_ n4_ n5_ n6_ n7_
     replace HO_833000 := Aside0.mk (Kd.R_drew HO_833000.out)
     replace HO_833001 := Aside0.mk (Kd.R_drew HO_833001.out)
     replace BK822 := Aside0.mk (blk_drew BK822.out)
     replace BK823 := Aside0.mk (blk_drew BK823.out)
     replace BK824 := Aside0.mk (blk_drew BK824.out)
     replace BK832 := Aside0.mk (blk_drew BK832.out)
     replace BK836 := Aside0.mk (blk_drew BK836.out)
     replace HB := Aside0.mk (below_drew1 HB.out)
     refine start_ (n := 15) (S := fun w' => w'.cell? ⟨gb823, 0, none⟩ = some (.int .i64 a1_0) ∧ w'.cell? ⟨gb823, 1, none⟩ = some (.int .i64 a1_1) ∧ w'.cell? ⟨gb823, 2, none⟩ = some (.int .i64 a1_2) ∧ w'.cell? ⟨gb823, 3, none⟩ = some (.int .i64 a1_3) ∧ w'.cell? ⟨gb823, 4, none⟩ = some (.int .i64 a1_4) ∧ w'.cell? ⟨gb832, 0, none⟩ = some (.slice Ao30 t825.length co30) ∧ w'.cell? ⟨gb832, 1, none⟩ = some (.slice Ao35 t828.length co35) ∧ w'.cell? ⟨gb832, 2, none⟩ = some (.bool false) ∧ w'.cell? ⟨gb836, 0, none⟩ = some (.int .i64 a1_0) ∧ w'.cell? ⟨gb836, 1, none⟩ = some (.int .i64 (wrap64 (-a1_1))) ∧ w'.cell? ⟨gb836, 2, none⟩ = some (.int .i64 a1_2) ∧ w'.cell? ⟨gb836, 3, none⟩ = some (.int .i64 (wrap64 (-a1_3))) ∧ w'.cell? ⟨gb836, 4, none⟩ = some (.int .i64 a1_4)) (ds := []) (mB 15 0) (by kernel_rfl) rfl rfl ⟨(blk_cell BK823.out 0).trans rfl, (blk_cell BK823.out 1).trans rfl, (blk_cell BK823.out 2).trans rfl, (blk_cell BK823.out 3).trans rfl, (blk_cell BK823.out 4).trans rfl, (blk_cell BK832.out 0).trans rfl, (blk_cell BK832.out 1).trans rfl, (blk_cell BK832.out 2).trans rfl, (blk_cell BK836.out 0).trans rfl, (blk_cell BK836.out 1).trans rfl, (blk_cell BK836.out 2).trans rfl, (blk_cell BK836.out 3).trans rfl, (blk_cell BK836.out 4).trans rfl⟩ (fun hHeld => ?_); refine with_tabW oct_Bounds.tab8 oct_Bounds.bits8 (fun HT_ HW_ => ?_)
     generalize w107.drew = w108 at HO_833000 HO_833001 BK822 BK823 BK824 BK832 BK836 HB hHeld ⊢
     refine pV_ 0 44 (mB 15 1) HT_ ?_
     refine pV_ 7 51 (mB 15 129) HT_ ?_
     refine tV_ 1 45 (mB 15 131) HT_ HW_ hHeld ?_
     refine tV_ 2 46 (mB 15 135) HT_ HW_ hHeld ?_
     refine tV_ 3 47 (mB 15 143) HT_ HW_ hHeld ?_
     refine tV_ 8 52 (mB 15 399) HT_ HW_ hHeld ?_
     refine tV_ 9 53 (mB 15 911) HT_ HW_ hHeld ?_
     refine tV_ 10 54 (mB 15 1935) HT_ HW_ hHeld ?_
     refine one_ (i := 4) (N := some 48) (mB 15 1951) rfl rfl (one_of HT_.out (by kernel_rfl)) (by decide) (fun K hK => ?_)
     refine goes_ Try.func77 (by kernel_rfl) rfl #[.agg #[.slice Ao30 t825.length co30, .slice Ao35 t828.length co35, .bool false], .agg #[.int .i64 a1_0, .int .i64 (wrap64 (-a1_1)), .int .i64 a1_2, .int .i64 (wrap64 (-a1_3)), .int .i64 a1_4]] (by rfl) rfl rfl vL ?_
     with_reducible refine (oct_most.calls kj20 _ _ t825 _ _ t828 false a1_0 (wrap64 (-a1_1)) a1_2 (wrap64 (-a1_3)) a1_4 t837 _ ?side1 ?side2 ?side3 ?side4 A88.out).mono ?_
     (case side1 => repeat (first | exact (Kd.R_reads' HO_833000.out).2.2 | (with_reducible refine Kd.C_alloc ?_ _) | (with_reducible refine Kd.C_drewN ?_ _) | (with_reducible refine Kd.C_drew ?_)))
     (case side2 => exact (Kd.R_reads' HO_833000.out).2.1)
     (case side3 => repeat (first | exact (Kd.R_reads' HO_833001.out).2.2 | (with_reducible refine Kd.C_alloc ?_ _) | (with_reducible refine Kd.C_drewN ?_ _) | (with_reducible refine Kd.C_drew ?_)))
     (case side4 => exact (Kd.R_reads' HO_833001.out).2.1)
     rintro e w109 ⟨rfl, hb⟩
     refine ⟨_, rfl, ?_⟩
     replace HO_833000 := vRb HO_833000 hb
     replace HO_833001 := vRb HO_833001 hb
     replace BK822 := vBb BK822 hb
     replace BK823 := vBb BK823 hb
     replace BK824 := vBb BK824 hb
     replace BK832 := vBb BK832 hb
     replace BK836 := vBb BK836 hb
     replace HB := vWs HB hb
     (try clear hb)
     (try clear hb2)
     (try clear hk)
     (try clear hi)
     refine hK.out _ _ ⟨(blk_cell BK823.out 0).trans rfl, (blk_cell BK823.out 1).trans rfl, (blk_cell BK823.out 2).trans rfl, (blk_cell BK823.out 3).trans rfl, (blk_cell BK823.out 4).trans rfl, (blk_cell BK832.out 0).trans rfl, (blk_cell BK832.out 1).trans rfl, (blk_cell BK832.out 2).trans rfl, (blk_cell BK836.out 0).trans rfl, (blk_cell BK836.out 1).trans rfl, (blk_cell BK836.out 2).trans rfl, (blk_cell BK836.out 3).trans rfl, (blk_cell BK836.out 4).trans rfl⟩ (fun hHeld => ?_)
     clear hK K
     refine norm_ (a' := ?_) ?_ ?_
     rotate_left
     ·
      show Act.put _ (some 48) _ = _
      simp only [Act.put, List.setIfInBounds_toArray, List.set_cons_zero, List.set_cons_succ, i64_w, i32_w]
      rfl
     refine one_ (i := 5) (N := some 49) (mB 15 1983) rfl rfl (one_of HT_.out (by kernel_rfl)) (by decide) (fun K hK => ?_)
     refine goes_ Try.func76 (by kernel_rfl) rfl #[.int .i64 t837] (by rfl) rfl rfl vL ?_
     with_reducible refine (bound_Neg.calls t837 t838 _ A89.out).mono ?_
     rintro e w' ⟨rfl, ⟨nd, rfl⟩⟩
     refine ⟨_, rfl, ?_⟩
     refine hK.out _ _ ⟨(blk_cell BK823.out 0).trans rfl, (blk_cell BK823.out 1).trans rfl, (blk_cell BK823.out 2).trans rfl, (blk_cell BK823.out 3).trans rfl, (blk_cell BK823.out 4).trans rfl, (blk_cell BK832.out 0).trans rfl, (blk_cell BK832.out 1).trans rfl, (blk_cell BK832.out 2).trans rfl, (blk_cell BK836.out 0).trans rfl, (blk_cell BK836.out 1).trans rfl, (blk_cell BK836.out 2).trans rfl, (blk_cell BK836.out 3).trans rfl, (blk_cell BK836.out 4).trans rfl⟩ (fun hHeld => ?_)
     clear hK K
     refine norm_ (a' := ?_) ?_ ?_
     rotate_left
     ·
      show Act.put _ (some 49) _ = _
      simp only [Act.put, List.setIfInBounds_toArray, List.set_cons_zero, List.set_cons_succ, i64_w, i32_w]
      rfl
     refine one_ (i := 6) (N := some 50) (mB 15 2047) rfl rfl (one_of HT_.out (by kernel_rfl)) (by decide) (fun K hK => ?_)
     refine goes_ Try.func75 (by kernel_rfl) rfl #[.int .i64 a1_4, .int .i64 t838] (by rfl) rfl rfl vL ?_
     with_reducible refine (bound_Down.calls a1_4 t838 t839 _ A90.out).mono ?_
     rintro e w110 ⟨rfl, hb⟩
     refine ⟨_, rfl, ?_⟩
     replace HO_833000 := vRb HO_833000 hb
     replace HO_833001 := vRb HO_833001 hb
     replace BK822 := vBb BK822 hb
     replace BK823 := vBb BK823 hb
     replace BK824 := vBb BK824 hb
     replace BK832 := vBb BK832 hb
     replace BK836 := vBb BK836 hb
     replace HB := vWs HB hb
     (try clear hb)
     (try clear hb2)
     (try clear hk)
     (try clear hi)
     refine hK.out _ _ ⟨(blk_cell BK823.out 0).trans rfl, (blk_cell BK823.out 1).trans rfl, (blk_cell BK823.out 2).trans rfl, (blk_cell BK823.out 3).trans rfl, (blk_cell BK823.out 4).trans rfl, (blk_cell BK832.out 0).trans rfl, (blk_cell BK832.out 1).trans rfl, (blk_cell BK832.out 2).trans rfl, (blk_cell BK836.out 0).trans rfl, (blk_cell BK836.out 1).trans rfl, (blk_cell BK836.out 2).trans rfl, (blk_cell BK836.out 3).trans rfl, (blk_cell BK836.out 4).trans rfl⟩ (fun hHeld => ?_)
     clear hK K
     refine norm_ (a' := ?_) ?_ ?_
     rotate_left
     ·
      show Act.put _ (some 50) _ = _
      simp only [Act.put, List.setIfInBounds_toArray, List.set_cons_zero, List.set_cons_succ, i64_w, i32_w]
      rfl
     refine one_ (i := 11) (N := some 55) (mB 15 4095) rfl rfl (one_of HT_.out (by kernel_rfl)) (by decide) (fun K hK => ?_)
     refine goes_ Try.func77 (by kernel_rfl) rfl #[.agg #[.slice Ao30 t825.length co30, .slice Ao35 t828.length co35, .bool false], .agg #[.int .i64 a1_0, .int .i64 a1_1, .int .i64 a1_2, .int .i64 a1_3, .int .i64 a1_4]] (by rfl) rfl rfl vL ?_
     with_reducible refine (oct_most.calls kj20 _ _ t825 _ _ t828 false a1_0 a1_1 a1_2 a1_3 a1_4 t840 _ ?side1 ?side2 ?side3 ?side4 A91.out).mono ?_
     (case side1 => repeat (first | exact (Kd.R_reads' HO_833000.out).2.2 | (with_reducible refine Kd.C_alloc ?_ _) | (with_reducible refine Kd.C_drewN ?_ _) | (with_reducible refine Kd.C_drew ?_)))
     (case side2 => exact (Kd.R_reads' HO_833000.out).2.1)
     (case side3 => repeat (first | exact (Kd.R_reads' HO_833001.out).2.2 | (with_reducible refine Kd.C_alloc ?_ _) | (with_reducible refine Kd.C_drewN ?_ _) | (with_reducible refine Kd.C_drew ?_)))
     (case side4 => exact (Kd.R_reads' HO_833001.out).2.1)
     rintro e w111 ⟨rfl, hb⟩
     refine ⟨_, rfl, ?_⟩
     replace HO_833000 := vRb HO_833000 hb
     replace HO_833001 := vRb HO_833001 hb
     replace BK822 := vBb BK822 hb
     replace BK823 := vBb BK823 hb
     replace BK824 := vBb BK824 hb
     replace BK832 := vBb BK832 hb
     replace BK836 := vBb BK836 hb
     replace HB := vWs HB hb
     (try clear hb)
     (try clear hb2)
     (try clear hk)
     (try clear hi)
     refine hK.out _ _ ⟨(blk_cell BK823.out 0).trans rfl, (blk_cell BK823.out 1).trans rfl, (blk_cell BK823.out 2).trans rfl, (blk_cell BK823.out 3).trans rfl, (blk_cell BK823.out 4).trans rfl, (blk_cell BK832.out 0).trans rfl, (blk_cell BK832.out 1).trans rfl, (blk_cell BK832.out 2).trans rfl, (blk_cell BK836.out 0).trans rfl, (blk_cell BK836.out 1).trans rfl, (blk_cell BK836.out 2).trans rfl, (blk_cell BK836.out 3).trans rfl, (blk_cell BK836.out 4).trans rfl⟩ (fun hHeld => ?_)
     clear hK K
     refine norm_ (a' := ?_) ?_ ?_
     rotate_left
     ·
      show Act.put _ (some 55) _ = _
      simp only [Act.put, List.setIfInBounds_toArray, List.set_cons_zero, List.set_cons_succ, i64_w, i32_w]
      rfl
     refine one_ (i := 12) (N := some 56) (mB 15 8191) rfl rfl (one_of HT_.out (by kernel_rfl)) (by decide) (fun K hK => ?_)
     refine goes_ Try.func57 (by kernel_rfl) rfl #[.int .i64 a1_4, .int .i64 t840] (by rfl) rfl rfl vL ?_
     with_reducible refine (bound_Up.calls a1_4 t840 t841 _ A92.out).mono ?_
     rintro e w112 ⟨rfl, hb⟩
     refine ⟨_, rfl, ?_⟩
     replace HO_833000 := vRb HO_833000 hb
     replace HO_833001 := vRb HO_833001 hb
     replace BK822 := vBb BK822 hb
     replace BK823 := vBb BK823 hb
     replace BK824 := vBb BK824 hb
     replace BK832 := vBb BK832 hb
     replace BK836 := vBb BK836 hb
     replace HB := vWs HB hb
     (try clear hb)
     (try clear hb2)
     (try clear hk)
     (try clear hi)
     refine hK.out _ _ ⟨(blk_cell BK823.out 0).trans rfl, (blk_cell BK823.out 1).trans rfl, (blk_cell BK823.out 2).trans rfl, (blk_cell BK823.out 3).trans rfl, (blk_cell BK823.out 4).trans rfl, (blk_cell BK832.out 0).trans rfl, (blk_cell BK832.out 1).trans rfl, (blk_cell BK832.out 2).trans rfl, (blk_cell BK836.out 0).trans rfl, (blk_cell BK836.out 1).trans rfl, (blk_cell BK836.out 2).trans rfl, (blk_cell BK836.out 3).trans rfl, (blk_cell BK836.out 4).trans rfl⟩ (fun hHeld => ?_)
     clear hK K
     refine norm_ (a' := ?_) ?_ ?_
     rotate_left
     ·
      show Act.put _ (some 56) _ = _
      simp only [Act.put, List.setIfInBounds_toArray, List.set_cons_zero, List.set_cons_succ, i64_w, i32_w]
      rfl
     refine pV_ 13 57 (mB 15 16383) HT_ ?_
     refine one_ (i := 14) (N := none) (mB 15 32767) rfl rfl (one_of HT_.out (by kernel_rfl)) (by decide) (fun K hK => ?_)
     have hs113 : w112.cell? ⟨gb824, 0, none⟩ = some (.int .i64 0) := (blk_cell BK824.out 0).trans rfl
     have hfs113 := blk_frozen BK824.out 0
     have hns113_0 := NB822_824.out
     have hns113_1 := NB823_824.out
     have hns113_3 := NB832_824.out
     have hns113_4 := NB836_824.out
     have hms113_0 := NB824_822.out
     have hms113_1 := NB824_823.out
     have hms113_3 := NB824_832.out
     have hms113_4 := NB824_836.out
     have hs114 : w112.cell? ⟨gb824, 1, none⟩ = some (.int .i64 0) := (blk_cell BK824.out 1).trans rfl
     have hfs114 := blk_frozen BK824.out 1
     have hns114_0 := NB822_824.out
     have hns114_1 := NB823_824.out
     have hns114_3 := NB832_824.out
     have hns114_4 := NB836_824.out
     have hms114_0 := NB824_822.out
     have hms114_1 := NB824_823.out
     have hms114_3 := NB824_832.out
     have hms114_4 := NB824_836.out
     refine skip_ (w1 := ?_) (by rfl) rfl ?_ ?_
     rotate_left
     ·
      go_simp
      rfl
     refine hK.out _ _ ⟨((cell_far (p := ⟨gb824, _, none⟩) NB823_824.out _).trans (((cell_far (p := ⟨gb824, _, none⟩) NB823_824.out _).trans (hHeld.1)))), ((cell_far (p := ⟨gb824, _, none⟩) NB823_824.out _).trans (((cell_far (p := ⟨gb824, _, none⟩) NB823_824.out _).trans (hHeld.2.1)))), ((cell_far (p := ⟨gb824, _, none⟩) NB823_824.out _).trans (((cell_far (p := ⟨gb824, _, none⟩) NB823_824.out _).trans (hHeld.2.2.1)))), ((cell_far (p := ⟨gb824, _, none⟩) NB823_824.out _).trans (((cell_far (p := ⟨gb824, _, none⟩) NB823_824.out _).trans (hHeld.2.2.2.1)))), ((cell_far (p := ⟨gb824, _, none⟩) NB823_824.out _).trans (((cell_far (p := ⟨gb824, _, none⟩) NB823_824.out _).trans (hHeld.2.2.2.2.1)))), ((cell_far (p := ⟨gb824, _, none⟩) NB832_824.out _).trans (((cell_far (p := ⟨gb824, _, none⟩) NB832_824.out _).trans (hHeld.2.2.2.2.2.1)))), ((cell_far (p := ⟨gb824, _, none⟩) NB832_824.out _).trans (((cell_far (p := ⟨gb824, _, none⟩) NB832_824.out _).trans (hHeld.2.2.2.2.2.2.1)))), ((cell_far (p := ⟨gb824, _, none⟩) NB832_824.out _).trans (((cell_far (p := ⟨gb824, _, none⟩) NB832_824.out _).trans (hHeld.2.2.2.2.2.2.2.1)))), ((cell_far (p := ⟨gb824, _, none⟩) NB836_824.out _).trans (((cell_far (p := ⟨gb824, _, none⟩) NB836_824.out _).trans (hHeld.2.2.2.2.2.2.2.2.1)))), ((cell_far (p := ⟨gb824, _, none⟩) NB836_824.out _).trans (((cell_far (p := ⟨gb824, _, none⟩) NB836_824.out _).trans (hHeld.2.2.2.2.2.2.2.2.2.1)))), ((cell_far (p := ⟨gb824, _, none⟩) NB836_824.out _).trans (((cell_far (p := ⟨gb824, _, none⟩) NB836_824.out _).trans (hHeld.2.2.2.2.2.2.2.2.2.2.1)))), ((cell_far (p := ⟨gb824, _, none⟩) NB836_824.out _).trans (((cell_far (p := ⟨gb824, _, none⟩) NB836_824.out _).trans (hHeld.2.2.2.2.2.2.2.2.2.2.2.1)))), ((cell_far (p := ⟨gb824, _, none⟩) NB836_824.out _).trans (((cell_far (p := ⟨gb824, _, none⟩) NB836_824.out _).trans (hHeld.2.2.2.2.2.2.2.2.2.2.2.2))))⟩ (fun hHeld => ?_)
     clear hK K
     refine done_ (done_of HT_.out (by kernel_rfl)) ?_
     try go_wp2
     refine bodyPost_ret (results_cell_row rfl _ _ gb824 37 #[.int .i64 t839, .int .i64 t841] (0, 0) _ rfl (by (with_reducible repeat (first | refine blk_drewN ?_ _ | refine blk_drew ?_ | refine blk_alloc ?_ _)); refine blk_put (cs := #[.int .i64 t839, .int .i64 0]) ?_ 1 _ rfl; (with_reducible repeat (first | refine blk_drewN ?_ _ | refine blk_drew ?_ | refine blk_alloc ?_ _)); refine blk_put (cs := #[.int .i64 0, .int .i64 0]) ?_ 0 _ rfl; (with_reducible repeat (first | refine blk_drewN ?_ _ | refine blk_drew ?_ | refine blk_alloc ?_ _)); exact BK824.out) Try.underlying37 rfl (by kernel_rfl)) rfl ?_
     exact ⟨by first | rfl | (simp [errW_none, errW_some] <;> rfl) | (simp [*, errW_none, errW_some] <;> rfl) | (simp [wrap64]; done), vW HB.out⟩
end Go.Proofs.Ytomgebmimgaojaa.QO
end
end
section
/- Bounds of a form, by what the octagon means: it grows with it. -/
noncomputable section
namespace Go.Proofs.Ytomgebmimgaojaa.Pure
open Go.RowKit Go.Proofs.Ytomgebmimgaojaa.QO Go.Proofs.YtomgebmimgaojaaW.PrintWords Go.Proofs.YtomgebmimgaojaaW.PrintLast Go.Proofs.YtomgebmimgaojaaW.PrintMore
open OctMath (Le Fin')
namespace BndF
theorem node_v (l : List Int) (hl : l.length ≤ 4096) (x : Int) : ∃ v : Int, -1 ≤ v ∧ v < l.length ∧ ∀ (m : List Int) (e : Bool) (s : Int) (k : Nat), l.length < k → oct_node.f k l m e x s = some (if 0 ≤ v ∧ s < 0 then 2 * v + 1 else 2 * v) := by
  obtain ⟨v, h1, h2, _, h4, _⟩ := Places.node l [] false hl x
  exact ⟨v, h1, h2, fun m e s k hk => h4 s k hk⟩
/-- a signed scalar's node -/
def nX (v s : Int) : Nat := (if 0 ≤ v ∧ s < 0 then 2 * v + 1 else 2 * v).toNat
def mostF (N : Mx) (v sx u sy : Int) : Int := if sx = 0 then 0 else if sy = 0 then half (N (nb (nX v sx)) (nX v sx)) else N (nb (nX v sx)) (nX u sy)
theorem nX_lt {v s : Int} {n : Nat} (h0 : 0 ≤ v) (h1 : v < n) : nX v s < 2 * n := by unfold nX; split <;> omega
theorem nX_int {v s : Int} (h0 : 0 ≤ v) : (if 0 ≤ v ∧ s < 0 then 2 * v + 1 else 2 * v) = (nX v s : Int) := by unfold nX; split <;> omega
section
variable {vars : List Int} {N : Mx}
theorem most_f (hv : VarsOk vars) (hN : Snd (2 * vars.length) N) {x y v u : Int} (hx : v < vars.length) (hy : u < vars.length)
    (nx : ∀ (m : List Int) (e : Bool) (s : Int) (k : Nat), vars.length < k → oct_node.f k vars m e x s = some (if 0 ≤ v ∧ s < 0 then 2 * v + 1 else 2 * v))
    (ny : ∀ (m : List Int) (e : Bool) (s : Int) (k : Nat), vars.length < k → oct_node.f k vars m e y s = some (if 0 ≤ u ∧ s < 0 then 2 * u + 1 else 2 * u))
    (sx sy c : Int) (h0 : sx ≠ 0 → 0 ≤ v) (h1 : sy ≠ 0 → 0 ≤ u) (e : Bool) (k : Nat) (hk : vars.length < k) : oct_most.f k vars (lst (2 * vars.length) N) e x sx y sy c = some (mostF N v sx u sy) := by
  have h8 := hv.1
  have hlen : ((lst (2 * vars.length) N).length : Int) = (2 * (vars.length : Int)) * (2 * (vars.length : Int)) := by rw [lst_length]; push_cast; rfl
  unfold oct_most.f mostF
  by_cases z : sx = 0
  · rw [if_pos z, if_pos z]
  · rw [if_neg z, if_neg z, nx _ _ _ _ hk, nX_int (h0 z)]
    simp only [Option.bind_some]
    have hX := nX_lt (s := sx) (h0 z) hx
    rw [if_pos ⟨h8, hlen, by omega, by omega⟩]
    have hn := nb_lt hX
    have low : ∀ j, j < 2 * vars.length → lowAt (2 * (vars.length : Int)) (lst (2 * vars.length) N) (nbar (nX v sx : Int)) (j : Int) = N (nb (nX v sx)) j := fun j hj => by
      rw [nbar_nb]; exact lowM_lst hv hN _ _ hn hj
    by_cases z2 : sy = 0
    · rw [if_pos z2, if_pos z2, low _ hX]
      have := hN.bd _ _ hn hX
      exact half_half (by unfold Fin' at *; omega)
    · rw [if_neg z2, if_neg z2, ny _ _ _ _ hk, nX_int (h1 z2)]
      simp only [Option.bind_some]
      have hY := nX_lt (s := sy) (h1 z2) hy
      rw [if_pos ⟨by omega, by omega⟩, low _ hY]
theorem most_sm (hN : Snd (2 * vars.length) N) {v u sx sy : Int} (hx : v < vars.length) (hy : u < vars.length) (h0 : sx ≠ 0 → 0 ≤ v) (h1 : sy ≠ 0 → 0 ≤ u) : Arith.Sm (mostF N v sx u sy) := by
  unfold mostF
  split
  · exact .inr (by omega)
  · rename_i z
    have hX := nX_lt (s := sx) (h0 z) hx
    have hn := nb_lt hX
    split
    · have := hN.bd _ _ hn hX
      unfold Fin' at this; unfold Arith.Sm half; split <;> omega
    · rename_i z2
      have hY := nX_lt (s := sy) (h1 z2) hy
      have := hN.bd _ _ hn hY
      unfold Fin' at this; unfold Arith.Sm; omega
theorem most_mono {N' : Mx} (hN : Snd (2 * vars.length) N) (hN' : Snd (2 * vars.length) N') (hl : Le (2 * vars.length) N N') {v u sx sy : Int} (hx : v < vars.length) (hy : u < vars.length) (h0 : sx ≠ 0 → 0 ≤ v) (h1 : sy ≠ 0 → 0 ≤ u) : mostF N v sx u sy ≤ mostF N' v sx u sy := by
  unfold mostF
  split
  · exact Int.le_refl _
  · rename_i z
    have hX := nX_lt (s := sx) (h0 z) hx
    have hn := nb_lt hX
    split
    · have b1 := hN.bd _ _ hn hX; have b2 := hN'.bd _ _ hn hX
      have := hl _ _ hn hX
      unfold Fin' at b1 b2; unfold half; split <;> split <;> omega
    · rename_i z2
      exact hl _ _ hn (nX_lt (s := sy) (h1 z2) hy)
def loF (c f : Int) : Int := if f = 4611686018427387904 then -4611686018427387904 else c - f
def hiF (c g : Int) : Int := if g = 4611686018427387904 then 4611686018427387904 else c + g
theorem lo_mono {c f f' : Int} (h : f ≤ f') (hf : Arith.Sm f) (hf' : Arith.Sm f') (hc : -4611686018427 ≤ c ∧ c ≤ 4611686018427) : loF c f' ≤ loF c f := by
  unfold Arith.Sm at *; unfold loF; split <;> split <;> omega
theorem hi_mono {c f f' : Int} (h : f ≤ f') (hf : Arith.Sm f) (hf' : Arith.Sm f') (hc : -4611686018427 ≤ c ∧ c ≤ 4611686018427) : hiF c f ≤ hiF c f' := by
  unfold Arith.Sm at *; unfold hiF; split <;> split <;> omega
theorem bounds_f {m : List Int} {e : Bool} (hfit : OFit vars m e) (hcl : closeF vars m e = (vars, lst (2 * vars.length) N, false)) (hN : Snd (2 * vars.length) N) {x y v u : Int} (hx0 : -1 ≤ v) (hy0 : -1 ≤ u) (hx : v < vars.length) (hy : u < vars.length)
    (nx : ∀ (m : List Int) (e : Bool) (s : Int) (k : Nat), vars.length < k → oct_node.f k vars m e x s = some (if 0 ≤ v ∧ s < 0 then 2 * v + 1 else 2 * v))
    (ny : ∀ (m : List Int) (e : Bool) (s : Int) (k : Nat), vars.length < k → oct_node.f k vars m e y s = some (if 0 ≤ u ∧ s < 0 then 2 * u + 1 else 2 * u))
    (sx sy c : Int) (hc : -4611686018427 ≤ c ∧ c ≤ 4611686018427) (h1 : -1 ≤ sx ∧ sx ≤ 1) (h2 : -1 ≤ sy ∧ sy ≤ 1) :
    Ev (fun k => oct_Bounds.f k vars m e x sx y sy c) (if (sx ≠ 0 ∧ v < 0) ∨ (sy ≠ 0 ∧ u < 0) then (-4611686018427387904, 4611686018427387904) else (loF c (mostF N v (-sx) u (-sy)), hiF c (mostF N v sx u sy))) := by
  have hv := hfit.1
  have w1 : wrap64 (-sx) = -sx := by unfold wrap64; omega
  have w2 : wrap64 (-sy) = -sy := by unfold wrap64; omega
  have hC : oct_Close.f vars m e = some (vars, lst (2 * vars.length) N, false) := by unfold oct_Close.f; rw [if_pos (ofitB_true.2 hfit), hcl]
  have dv : ∀ z : Int, -1 ≤ z → ((if 0 ≤ z ∧ (1 : Int) < 0 then 2 * z + 1 else 2 * z) < 0 ↔ z < 0) := fun z hz => by
    rw [if_neg (fun h => absurd h.2 (by decide))]; omega
  refine ⟨vars.length + 2, fun k hk => ?_⟩
  obtain ⟨k, rfl⟩ : ∃ m, k = m + 1 := ⟨k - 1, by omega⟩
  have D1 : oct_Bounds.j0 (k + 1) true x sx y sy c vars (lst (2 * vars.length) N) false = some ((-4611686018427387904), 4611686018427387904) := rfl
  have D0 : ¬ ((sx ≠ 0 ∧ v < 0) ∨ (sy ≠ 0 ∧ u < 0)) → oct_Bounds.j0 (k + 1) false x sx y sy c vars (lst (2 * vars.length) N) false = some (loF c (mostF N v (-sx) u (-sy)), hiF c (mostF N v sx u sy)) := fun hb => by
    have a0 : sx ≠ 0 → 0 ≤ v := fun h => by
      by_cases q : v < 0
      · exact absurd (.inl ⟨h, q⟩) hb
      · omega
    have a1 : sy ≠ 0 → 0 ≤ u := fun h => by
      by_cases q : u < 0
      · exact absurd (.inr ⟨h, q⟩) hb
      · omega
    have s1 := most_sm (sx := sx) (sy := sy) hN hx hy a0 a1
    have s2 := most_sm (sx := -sx) (sy := -sy) hN hx hy (fun h => a0 (by omega)) (fun h => a1 (by omega))
    unfold oct_Bounds.j0
    dsimp only
    rw [if_neg (show ¬ (false = true) by decide), w1, w2, most_f hv hN hx hy nx ny (-sx) (-sy) c (fun h => a0 (by omega)) (fun h => a1 (by omega)) false k (by omega), bsome, Arith.neg_sm s2, bsome, Arith.down_sm hc s2, bsome,
      most_f hv hN hx hy nx ny sx sy c a0 a1 false k (by omega), bsome, Arith.up_sm hc s1, bsome]
    rfl
  show oct_Bounds.f (k + 1) vars m e x sx y sy c = _
  unfold oct_Bounds.f
  rw [hC, bsome]
  simp only [Bool.false_eq_true, if_false, nx _ _ 1 (k + 1) (by omega), ny _ _ 1 (k + 1) (by omega), bsome, dv v hx0, dv u hy0]
  by_cases s1 : sx = 0
  · by_cases s2 : sy = 0
    · rw [if_pos s1, if_pos s2, D0 (by simp [s1, s2]), if_neg (by simp [s1, s2])]
    · rw [if_pos s1, if_neg s2]
      by_cases s3 : u < 0
      · rw [decide_eq_true s3, D1, if_pos (.inr ⟨s2, s3⟩)]
      · rw [decide_eq_false s3, D0 (by simp [s1, s3]), if_neg (by simp [s1, s3])]
  · rw [if_neg s1]
    by_cases s4 : v < 0
    · rw [if_pos s4, D1, if_pos (.inl ⟨s1, s4⟩)]
    · rw [if_neg s4]
      by_cases s2 : sy = 0
      · rw [if_pos s2, D0 (by simp [s2, s4]), if_neg (by simp [s2, s4])]
      · rw [if_neg s2]
        by_cases s3 : u < 0
        · rw [decide_eq_true s3, D1, if_pos (.inr ⟨s2, s3⟩)]
        · rw [decide_eq_false s3, D0 (by simp [s4, s3]), if_neg (by simp [s4, s3])]
/-- of less that is known comes less -/
theorem bounds_mono {m m' : List Int} {e e' : Bool} (h : OFit vars m e) (h' : OFit vars m' e') (hl : leqF vars m e m' e' = true) (x sx y sy c : Int) (hc : -4611686018427 ≤ c ∧ c ≤ 4611686018427) (h1 : -1 ≤ sx ∧ sx ≤ 1) (h2 : -1 ≤ sy ∧ sy ≤ 1) :
    ∃ r r', Ev (fun k => oct_Bounds.f k vars m e x sx y sy c) r ∧ Ev (fun k => oct_Bounds.f k vars m' e' x sx y sy c) r' ∧ (r.1 ≤ r.2 → r'.1 ≤ r.1 ∧ r.2 ≤ r'.2) := by
  have h8 := h.1.1
  obtain ⟨v, hx0, hx, nx⟩ := node_v vars (by omega) x
  obtain ⟨u, hy0, hy, ny⟩ := node_v vars (by omega) y
  obtain ⟨A, a⟩ := mean_ex h
  obtain ⟨B, b⟩ := mean_ex h'
  have hAB := (leq_mean h a b).1 hl
  have EMP : ∀ {m : List Int} {e : Bool}, OFit vars m e → closeF vars m e = (vars, [], true) → Ev (fun k => oct_Bounds.f k vars m e x sx y sy c) (1, 0) := fun {m e} hf q => ⟨0, fun k _ => by
    have hC : oct_Close.f vars m e = some (vars, [], true) := by unfold oct_Close.f; rw [if_pos (ofitB_true.2 hf), q]
    show oct_Bounds.f k vars m e x sx y sy c = _
    unfold oct_Bounds.f
    rw [hC, bsome, if_pos rfl]⟩
  cases a with
  | none q _ =>
    cases b with
    | none q' _ => exact ⟨_, _, EMP h q, EMP h' q', fun z => absurd z (by decide)⟩
    | some q' _ _ s' => exact ⟨_, _, EMP h q, bounds_f h' q' s' hx0 hy0 hx hy nx ny sx sy c hc h1 h2, fun z => absurd z (by decide)⟩
  | some q _ _ s =>
    cases b with
    | none => exact hAB.elim
    | some q' _ _ s' =>
      refine ⟨_, _, bounds_f h q s hx0 hy0 hx hy nx ny sx sy c hc h1 h2, bounds_f h' q' s' hx0 hy0 hx hy nx ny sx sy c hc h1 h2, fun _ => ?_⟩
      split
      · exact ⟨Int.le_refl _, Int.le_refl _⟩
      · rename_i hb
        have a0 : sx ≠ 0 → 0 ≤ v := fun h => by
          by_cases q : v < 0
          · exact absurd (.inl ⟨h, q⟩) hb
          · omega
        have a1 : sy ≠ 0 → 0 ≤ u := fun h => by
          by_cases q : u < 0
          · exact absurd (.inr ⟨h, q⟩) hb
          · omega
        have b0 : -sx ≠ 0 → 0 ≤ v := fun h => a0 (by omega)
        have b1 : -sy ≠ 0 → 0 ≤ u := fun h => a1 (by omega)
        exact ⟨lo_mono (most_mono s s' hAB hx hy b0 b1) (most_sm s hx hy b0 b1) (most_sm s' hx hy b0 b1) hc, hi_mono (most_mono s s' hAB hx hy a0 a1) (most_sm s hx hy a0 a1) (most_sm s' hx hy a0 a1) hc⟩
/-- Join and Meet grow -/
theorem mono_law {m m' mc : List Int} {e e' ec : Bool} (h : OFit vars m e) (h' : OFit vars m' e') (hc : OFit vars mc ec) (hl : leqF vars m e mc ec = true) :
    leqF vars (joinF vars m e m' e').2.1 (joinF vars m e m' e').2.2 (joinF vars mc ec m' e').2.1 (joinF vars mc ec m' e').2.2 = true ∧ leqF vars (meetF vars m e m' e').2.1 (meetF vars m e m' e').2.2 (meetF vars mc ec m' e').2.1 (meetF vars mc ec m' e').2.2 = true := by
  obtain ⟨A, a⟩ := mean_ex h
  obtain ⟨B, b⟩ := mean_ex h'
  obtain ⟨C, c⟩ := mean_ex hc
  have ac := (leq_mean h a c).1 hl
  obtain ⟨fj, _, J, j, j1, j2, j3⟩ := join_mean h h' a b
  obtain ⟨fk, _, K, k, k1, k2, k3⟩ := join_mean hc h' c b
  obtain ⟨fm, _, M, n, n1, n2, n3⟩ := meet_mean h h' a b
  obtain ⟨fo, _, O, o, o1, o2, o3⟩ := meet_mean hc h' c b
  exact ⟨(leq_mean fj j k).2 (j3 K (ole_trans ac k1) k2), (leq_mean fm n o).2 (o3 fm n (ole_trans n1 ac) n2)⟩
end
end BndF
end Go.Proofs.Ytomgebmimgaojaa.Pure
end
end
section
/- Written by a program of this session out of the translation. -/
noncomputable section
namespace Go.Proofs.Ytomgebmimgaojaa.QO
open Go.RowKit Go.Proofs.YtomgebmimgaojaaW.PrintWords Go.Proofs.YtomgebmimgaojaaW.PrintLast
set_option linter.unusedVariables false
set_option linter.unusedSimpArgs false
/-! ### gimballaw11_form: function 42 -/
def gimballaw11_form.j0 : Nat → Bool → Int → Int → Int → Int → Int → Option (Bool)
 | 0, _, _, _, _, _, _ => none
 | k + 1, x40, x815000, x815001, x815002, x815003, x815004 => if x40 = true then (some false) else (if x815001 = 0 then (if x815003 = 0 then (if x815000 = 0 then (some (x815002 == 0)) else (some false)) else (some false)) else (if x815003 = 0 then (if x815002 = 0 then (some true) else (some false)) else (some (decide (x815000 < x815002)))))
def gimballaw11_form.f (k : Nat) (a0_0 : Int) (a0_1 : Int) (a0_2 : Int) (a0_3 : Int) (a0_4 : Int) : Option (Bool) := if a0_4 < (-1099511627776) then (gimballaw11_form.j0 k true a0_0 a0_1 a0_2 a0_3 a0_4) else (if a0_4 > 1099511627776 then (gimballaw11_form.j0 k true a0_0 a0_1 a0_2 a0_3 a0_4) else (if a0_1 < (-1) then (gimballaw11_form.j0 k true a0_0 a0_1 a0_2 a0_3 a0_4) else (if a0_1 > 1 then (gimballaw11_form.j0 k true a0_0 a0_1 a0_2 a0_3 a0_4) else (if a0_3 < (-1) then (gimballaw11_form.j0 k true a0_0 a0_1 a0_2 a0_3 a0_4) else (if a0_3 > 1 then (gimballaw11_form.j0 k true a0_0 a0_1 a0_2 a0_3 a0_4) else (if a0_0 < 0 then (gimballaw11_form.j0 k true a0_0 a0_1 a0_2 a0_3 a0_4) else (gimballaw11_form.j0 k (decide (a0_2 < 0)) a0_0 a0_1 a0_2 a0_3 a0_4)))))))
theorem gimballaw11_form.mono_l : ∀ k, (∀ y0 y1 y2 y3 y4 y5, LeO (gimballaw11_form.j0 k y0 y1 y2 y3 y4 y5) (gimballaw11_form.j0 (k + 1) y0 y1 y2 y3 y4 y5))
 | 0 => fun _ _ _ _ _ _ r h => by simp [gimballaw11_form.j0] at h
 | k + 1 => by
  have ih0 := gimballaw11_form.mono_l k
  ·
   intro y0 y1 y2 y3 y4 y5
   unfold gimballaw11_form.j0
   repeat' first
   | (with_reducible exact ih0 _ _ _ _ _ _)
   | (with_reducible exact LeO.refl _)
   | (with_reducible exact LeO.none _)
   | (with_reducible refine LeO.ite ?_ ?_)
   | (with_reducible refine LeO.bind ?_ (fun _ => ?_))
   | exact ih0 _ _ _ _ _ _
   | exact LeO.none _
   | refine LeO.ite ?_ ?_
   | refine LeO.bind ?_ (fun _ => ?_)
theorem gimballaw11_form.mono : ∀ a0 a1 a2 a3 a4 k, LeO (gimballaw11_form.f k a0 a1 a2 a3 a4) (gimballaw11_form.f (k + 1) a0 a1 a2 a3 a4) := by
 intro a0 a1 a2 a3 a4 k
 have ih0 := gimballaw11_form.mono_l k
 unfold gimballaw11_form.f
 repeat' first
  | (with_reducible exact ih0 _ _ _ _ _ _)
  | (with_reducible exact LeO.refl _)
  | (with_reducible exact LeO.none _)
  | (with_reducible refine LeO.ite ?_ ?_)
  | (with_reducible refine LeO.bind ?_ (fun _ => ?_))
  | exact ih0 _ _ _ _ _ _
  | exact LeO.none _
  | refine LeO.ite ?_ ?_
  | refine LeO.bind ?_ (fun _ => ?_)
set_option maxHeartbeats 8000000 in
set_option maxRecDepth 100000 in
theorem gimballaw11_form.calls (k : Nat) (a0_0 : Int) (a0_1 : Int) (a0_2 : Int) (a0_3 : Int) (a0_4 : Int) (r : Bool) (w : World) (h : gimballaw11_form.f k a0_0 a0_1 a0_2 a0_3 a0_4 = some r) :
 Calls Try.prog 42 #[.agg #[.int .i64 a0_0, .int .i64 a0_1, .int .i64 a0_2, .int .i64 a0_3, .int .i64 a0_4]] w fun e w' => e = .returned (.bool r) ∧ Below w.heap.size w w' := by
 have hu49 := Try.underlying49
 have HB := Aside0.mk (Below.refl w.heap.size w)
 have H : (if a0_4 < (-1099511627776) then (gimballaw11_form.j0 k true a0_0 a0_1 a0_2 a0_3 a0_4) else (if a0_4 > 1099511627776 then (gimballaw11_form.j0 k true a0_0 a0_1 a0_2 a0_3 a0_4) else (if a0_1 < (-1) then (gimballaw11_form.j0 k true a0_0 a0_1 a0_2 a0_3 a0_4) else (if a0_1 > 1 then (gimballaw11_form.j0 k true a0_0 a0_1 a0_2 a0_3 a0_4) else (if a0_3 < (-1) then (gimballaw11_form.j0 k true a0_0 a0_1 a0_2 a0_3 a0_4) else (if a0_3 > 1 then (gimballaw11_form.j0 k true a0_0 a0_1 a0_2 a0_3 a0_4) else (if a0_0 < 0 then (gimballaw11_form.j0 k true a0_0 a0_1 a0_2 a0_3 a0_4) else (gimballaw11_form.j0 k (decide (a0_2 < 0)) a0_0 a0_1 a0_2 a0_3 a0_4)))))))) = some r := h
 clear h
 have HC2 := Aside0.mk H
 clear H
 go_enter Try.func42, Try.ntmps42
 go_upto_region 1 with ((with_reducible refine gate_dst (N := 1) rfl ?_); refine box_event ?hg (N := 1) ?hd (cs := #[.int .i64 a0_0, .int .i64 a0_1, .int .i64 a0_2, .int .i64 a0_3, .int .i64 a0_4]) (t := 49) ?hr ?_; (case hd => rfl); (case hg => rfl); (case hr => first | (go_simp; done) | (go_simp; rfl)); intro gb814 hg w3 hbox hb; have BK814 := Aside0.mk (hbox); have GW814 := vS hg HB; have GE814 := vS hg HB; replace HB := vWs HB hb; clear hb hbox hg)
 (try simp only [Act.put, List.setIfInBounds_toArray, List.set_cons_zero, List.set_cons_succ])
 go_cut [40] (fun v40 wc => ∃ (kq : Nat) (x40_1 : Bool), v40 = .bool x40_1 ∧ Aside0 (gimballaw11_form.j0 kq x40_1 a0_0 a0_1 a0_2 a0_3 a0_4 = some r) ∧ Aside0 (kq ≤ k) ∧ Aside0 (wc.heap[gb814]? = some (.cells #[.int .i64 a0_0, .int .i64 a0_1, .int .i64 a0_2, .int .i64 a0_3, .int .i64 a0_4] 49 (0, 0))) ∧ Aside0 (Below w.heap.size w wc))
 case first =>
  have H := HC2.out
  clear HC2
  by_cases c4 : a0_4 < (-1099511627776)
  ·
   rw [if_pos c4] at H
   have c4b0 : decide (a0_4 < (-1099511627776)) = true := decide_eq_true c4
   clear c4
   (first | rw [c4b0] | (simp only [i64_w, i32_w]; rw [c4b0]) | skip)
   have H' := Aside0.mk H
   clear H
   obtain ⟨hcz5_0, hcz5_1, hcz5_2, hcz5_3, hcz5_4, hfz5_0, hfz5_1, hfz5_2, hfz5_3, hfz5_4⟩ := vF5 BK814.out
   go_wp2
   go_meet
   case rel => exact ⟨_, (true), (by first | rfl | (simp; done) | (simp [*]; done)), H', ⟨by first | omega | exact Nat.le_refl _⟩, ⟨vB BK814.out⟩, ⟨vW HB.out⟩⟩
  ·
   rw [if_neg c4] at H
   have c4b0 : decide (a0_4 < (-1099511627776)) = false := decide_eq_false c4
   clear c4
   (first | rw [c4b0] | (simp only [i64_w, i32_w]; rw [c4b0]) | skip)
   by_cases c6 : a0_4 > 1099511627776
   ·
    rw [if_pos c6] at H
    have c6b0 : decide (1099511627776 < a0_4) = true := decide_eq_true c6
    clear c6
    have H' := Aside0.mk H
    clear H
    obtain ⟨hcz7_0, hcz7_1, hcz7_2, hcz7_3, hcz7_4, hfz7_0, hfz7_1, hfz7_2, hfz7_3, hfz7_4⟩ := vF5 BK814.out
    go_wp2
    go_meet
    case rel => exact ⟨_, (true), (by first | rfl | (simp; done) | (simp [*]; done)), H', ⟨by first | omega | exact Nat.le_refl _⟩, ⟨vB BK814.out⟩, ⟨vW HB.out⟩⟩
   ·
    rw [if_neg c6] at H
    have c6b0 : decide (1099511627776 < a0_4) = false := decide_eq_false c6
    clear c6
    by_cases c8 : a0_1 < (-1)
    ·
     rw [if_pos c8] at H
     have c8b0 : decide (a0_1 < (-1)) = true := decide_eq_true c8
     clear c8
     have H' := Aside0.mk H
     clear H
     obtain ⟨hcz9_0, hcz9_1, hcz9_2, hcz9_3, hcz9_4, hfz9_0, hfz9_1, hfz9_2, hfz9_3, hfz9_4⟩ := vF5 BK814.out
     go_wp2
     go_meet
     case rel => exact ⟨_, (true), (by first | rfl | (simp; done) | (simp [*]; done)), H', ⟨by first | omega | exact Nat.le_refl _⟩, ⟨vB BK814.out⟩, ⟨vW HB.out⟩⟩
    ·
     rw [if_neg c8] at H
     have c8b0 : decide (a0_1 < (-1)) = false := decide_eq_false c8
     clear c8
     by_cases c10 : a0_1 > 1
     ·
      rw [if_pos c10] at H
      have c10b0 : decide (1 < a0_1) = true := decide_eq_true c10
      clear c10
      have H' := Aside0.mk H
      clear H
      obtain ⟨hcz11_0, hcz11_1, hcz11_2, hcz11_3, hcz11_4, hfz11_0, hfz11_1, hfz11_2, hfz11_3, hfz11_4⟩ := vF5 BK814.out
      go_wp2
      go_meet
      case rel => exact ⟨_, (true), (by first | rfl | (simp; done) | (simp [*]; done)), H', ⟨by first | omega | exact Nat.le_refl _⟩, ⟨vB BK814.out⟩, ⟨vW HB.out⟩⟩
     ·
      rw [if_neg c10] at H
      have c10b0 : decide (1 < a0_1) = false := decide_eq_false c10
      clear c10
      by_cases c12 : a0_3 < (-1)
      ·
       rw [if_pos c12] at H
       have c12b0 : decide (a0_3 < (-1)) = true := decide_eq_true c12
       clear c12
       have H' := Aside0.mk H
       clear H
       obtain ⟨hcz13_0, hcz13_1, hcz13_2, hcz13_3, hcz13_4, hfz13_0, hfz13_1, hfz13_2, hfz13_3, hfz13_4⟩ := vF5 BK814.out
       go_wp2
       go_meet
       case rel => exact ⟨_, (true), (by first | rfl | (simp; done) | (simp [*]; done)), H', ⟨by first | omega | exact Nat.le_refl _⟩, ⟨vB BK814.out⟩, ⟨vW HB.out⟩⟩
      ·
       rw [if_neg c12] at H
       have c12b0 : decide (a0_3 < (-1)) = false := decide_eq_false c12
       clear c12
       by_cases c14 : a0_3 > 1
       ·
        rw [if_pos c14] at H
        have c14b0 : decide (1 < a0_3) = true := decide_eq_true c14
        clear c14
        have H' := Aside0.mk H
        clear H
        obtain ⟨hcz15_0, hcz15_1, hcz15_2, hcz15_3, hcz15_4, hfz15_0, hfz15_1, hfz15_2, hfz15_3, hfz15_4⟩ := vF5 BK814.out
        go_wp2
        go_meet
        case rel => exact ⟨_, (true), (by first | rfl | (simp; done) | (simp [*]; done)), H', ⟨by first | omega | exact Nat.le_refl _⟩, ⟨vB BK814.out⟩, ⟨vW HB.out⟩⟩
       ·
        rw [if_neg c14] at H
        have c14b0 : decide (1 < a0_3) = false := decide_eq_false c14
        clear c14
        by_cases c16 : a0_0 < 0
        ·
         rw [if_pos c16] at H
         have c16b0 : decide (a0_0 < 0) = true := decide_eq_true c16
         clear c16
         have H' := Aside0.mk H
         clear H
         obtain ⟨hcz17_0, hcz17_1, hcz17_2, hcz17_3, hcz17_4, hfz17_0, hfz17_1, hfz17_2, hfz17_3, hfz17_4⟩ := vF5 BK814.out
         go_wp2
         go_meet
         case rel => exact ⟨_, (true), (by first | rfl | (simp; done) | (simp [*]; done)), H', ⟨by first | omega | exact Nat.le_refl _⟩, ⟨vB BK814.out⟩, ⟨vW HB.out⟩⟩
        ·
         rw [if_neg c16] at H
         have c16b0 : decide (a0_0 < 0) = false := decide_eq_false c16
         clear c16
         have H' := Aside0.mk H
         clear H
         obtain ⟨hcz18_0, hcz18_1, hcz18_2, hcz18_3, hcz18_4, hfz18_0, hfz18_1, hfz18_2, hfz18_3, hfz18_4⟩ := vF5 BK814.out
         go_wp2
         go_meet
         case rel => exact ⟨_, (decide (a0_2 < 0)), (by first | rfl | (simp; done) | (simp [*]; done)), H', ⟨by first | omega | exact Nat.le_refl _⟩, ⟨vB BK814.out⟩, ⟨vW HB.out⟩⟩
 case rest =>
  clear HC2
  obtain ⟨kq, x40_1, rfl, HA, HJ1, BK814, HB⟩ := hcut
  cases kq with
  | zero => exact absurd HA.out (by simp [gimballaw11_form.j0])
  | succ kj1 =>
   have H := HA.out
   clear HA
   simp only [gimballaw11_form.j0] at H
   by_cases c19 : x40_1 = true
   ·
    subst c19
    have H1 : (some false) = some r := by rw [if_pos rfl] at H; exact H
    clear H
    have H := H1
    clear H1
    obtain rfl := Option.some.inj H
    go_wp2
    go_ret
    exact ⟨by first | rfl | (simp [errW_none, errW_some] <;> rfl) | (simp [*, errW_none, errW_some] <;> rfl) | (simp [wrap64]; done), vW HB.out⟩
   ·
    replace c19 := Bool.eq_false_iff.mpr c19
    subst c19
    have H1 : (if a0_1 = 0 then (if a0_3 = 0 then (if a0_0 = 0 then (some (a0_2 == 0)) else (some false)) else (some false)) else (if a0_3 = 0 then (if a0_2 = 0 then (some true) else (some false)) else (some (decide (a0_0 < a0_2))))) = some r := by rw [if_neg (show ¬ (false = true) by decide)] at H; exact H
    clear H
    have H := H1
    clear H1
    by_cases c20 : a0_1 = 0
    ·
     rw [if_pos c20] at H
     have c20b0 : (a0_1 == 0) = true := beq_iff_eq.mpr c20
     have c20b1 : (a0_1 != 0) = false := bne_eq_false_iff_eq.mpr c20
     clear c20
     by_cases c21 : a0_3 = 0
     ·
      rw [if_pos c21] at H
      have c21b0 : (a0_3 == 0) = true := beq_iff_eq.mpr c21
      have c21b1 : (a0_3 != 0) = false := bne_eq_false_iff_eq.mpr c21
      clear c21
      by_cases c22 : a0_0 = 0
      ·
       rw [if_pos c22] at H
       have c22b0 : (a0_0 == 0) = true := beq_iff_eq.mpr c22
       have c22b1 : (a0_0 != 0) = false := bne_eq_false_iff_eq.mpr c22
       clear c22
       obtain rfl := Option.some.inj H
       obtain ⟨hcz23_0, hcz23_1, hcz23_2, hcz23_3, hcz23_4, hfz23_0, hfz23_1, hfz23_2, hfz23_3, hfz23_4⟩ := vF5 BK814.out
       go_wp2
       go_ret
       exact ⟨by first | rfl | (simp [errW_none, errW_some] <;> rfl) | (simp [*, errW_none, errW_some] <;> rfl) | (simp [wrap64]; done), vW HB.out⟩
      ·
       rw [if_neg c22] at H
       have c22b0 : (a0_0 == 0) = false := beq_eq_false_iff_ne.mpr c22
       have c22b1 : (a0_0 != 0) = true := bne_iff_ne.mpr c22
       obtain rfl := Option.some.inj H
       obtain ⟨hcz24_0, hcz24_1, hcz24_2, hcz24_3, hcz24_4, hfz24_0, hfz24_1, hfz24_2, hfz24_3, hfz24_4⟩ := vF5 BK814.out
       go_wp2
       go_ret
       exact ⟨by first | rfl | (simp [errW_none, errW_some] <;> rfl) | (simp [*, errW_none, errW_some] <;> rfl) | (simp [wrap64]; done), vW HB.out⟩
     ·
      rw [if_neg c21] at H
      have c21b0 : (a0_3 == 0) = false := beq_eq_false_iff_ne.mpr c21
      have c21b1 : (a0_3 != 0) = true := bne_iff_ne.mpr c21
      obtain rfl := Option.some.inj H
      obtain ⟨hcz25_0, hcz25_1, hcz25_2, hcz25_3, hcz25_4, hfz25_0, hfz25_1, hfz25_2, hfz25_3, hfz25_4⟩ := vF5 BK814.out
      go_wp2
      go_ret
      exact ⟨by first | rfl | (simp [errW_none, errW_some] <;> rfl) | (simp [*, errW_none, errW_some] <;> rfl) | (simp [wrap64]; done), vW HB.out⟩
    ·
     rw [if_neg c20] at H
     have c20b0 : (a0_1 == 0) = false := beq_eq_false_iff_ne.mpr c20
     have c20b1 : (a0_1 != 0) = true := bne_iff_ne.mpr c20
     by_cases c26 : a0_3 = 0
     ·
      rw [if_pos c26] at H
      have c26b0 : (a0_3 == 0) = true := beq_iff_eq.mpr c26
      have c26b1 : (a0_3 != 0) = false := bne_eq_false_iff_eq.mpr c26
      clear c26
      by_cases c27 : a0_2 = 0
      ·
       rw [if_pos c27] at H
       have c27b0 : (a0_2 == 0) = true := beq_iff_eq.mpr c27
       have c27b1 : (a0_2 != 0) = false := bne_eq_false_iff_eq.mpr c27
       clear c27
       obtain rfl := Option.some.inj H
       obtain ⟨hcz28_0, hcz28_1, hcz28_2, hcz28_3, hcz28_4, hfz28_0, hfz28_1, hfz28_2, hfz28_3, hfz28_4⟩ := vF5 BK814.out
       go_wp2
       go_ret
       exact ⟨by first | rfl | (simp [errW_none, errW_some] <;> rfl) | (simp [*, errW_none, errW_some] <;> rfl) | (simp [wrap64]; done), vW HB.out⟩
      ·
       rw [if_neg c27] at H
       have c27b0 : (a0_2 == 0) = false := beq_eq_false_iff_ne.mpr c27
       have c27b1 : (a0_2 != 0) = true := bne_iff_ne.mpr c27
       obtain rfl := Option.some.inj H
       obtain ⟨hcz29_0, hcz29_1, hcz29_2, hcz29_3, hcz29_4, hfz29_0, hfz29_1, hfz29_2, hfz29_3, hfz29_4⟩ := vF5 BK814.out
       go_wp2
       go_ret
       exact ⟨by first | rfl | (simp [errW_none, errW_some] <;> rfl) | (simp [*, errW_none, errW_some] <;> rfl) | (simp [wrap64]; done), vW HB.out⟩
     ·
      rw [if_neg c26] at H
      have c26b0 : (a0_3 == 0) = false := beq_eq_false_iff_ne.mpr c26
      have c26b1 : (a0_3 != 0) = true := bne_iff_ne.mpr c26
      obtain rfl := Option.some.inj H
      obtain ⟨hcz30_0, hcz30_1, hcz30_2, hcz30_3, hcz30_4, hfz30_0, hfz30_1, hfz30_2, hfz30_3, hfz30_4⟩ := vF5 BK814.out
      go_wp2
      go_ret
      exact ⟨by first | rfl | (simp [errW_none, errW_some] <;> rfl) | (simp [*, errW_none, errW_some] <;> rfl) | (simp [wrap64]; done), vW HB.out⟩
end Go.Proofs.Ytomgebmimgaojaa.QO
end
end
section
/- The law's own look at a linear form. -/
namespace Go.Proofs.Ytomgebmimgaojaa.Pure
open Go.RowKit Go.Proofs.Ytomgebmimgaojaa.QO Go.Proofs.YtomgebmimgaojaaW.PrintWords Go.Proofs.YtomgebmimgaojaaW.PrintLast Go.Proofs.YtomgebmimgaojaaW.PrintMore
namespace Form
theorem form_j0 (b : Bool) (x sx y sy c : Int) : ∃ r, ∀ k, gimballaw11_form.j0 (k + 1) b x sx y sy c = some r := by
  by_cases h0 : b = true
  · exact ⟨false, fun k => by rw [gimballaw11_form.j0, if_pos h0]⟩
  · by_cases h1 : sx = 0
    · by_cases h2 : sy = 0
      · by_cases h3 : x = 0
        · exact ⟨y == 0, fun k => by rw [gimballaw11_form.j0, if_neg h0, if_pos h1, if_pos h2, if_pos h3]⟩
        · exact ⟨false, fun k => by rw [gimballaw11_form.j0, if_neg h0, if_pos h1, if_pos h2, if_neg h3]⟩
      · exact ⟨false, fun k => by rw [gimballaw11_form.j0, if_neg h0, if_pos h1, if_neg h2]⟩
    · by_cases h2 : sy = 0
      · by_cases h3 : y = 0
        · exact ⟨true, fun k => by rw [gimballaw11_form.j0, if_neg h0, if_neg h1, if_pos h2, if_pos h3]⟩
        · exact ⟨false, fun k => by rw [gimballaw11_form.j0, if_neg h0, if_neg h1, if_pos h2, if_neg h3]⟩
      · exact ⟨decide (x < y), fun k => by rw [gimballaw11_form.j0, if_neg h0, if_neg h1, if_neg h2]⟩
theorem form_bad (x sx y sy c : Int) (k : Nat) : gimballaw11_form.j0 (k + 1) true x sx y sy c = some false := by rw [gimballaw11_form.j0, if_pos rfl]
theorem form_ev (x sx y sy c : Int) : ∃ r, Ev (fun k => gimballaw11_form.f k x sx y sy c) r ∧ (r = true → (-1099511627776 ≤ c ∧ c ≤ 1099511627776) ∧ (-1 ≤ sx ∧ sx ≤ 1) ∧ (-1 ≤ sy ∧ sy ≤ 1)) := by
  by_cases h : (-1099511627776 ≤ c ∧ c ≤ 1099511627776) ∧ (-1 ≤ sx ∧ sx ≤ 1) ∧ (-1 ≤ sy ∧ sy ≤ 1)
  · by_cases hx : x < 0
    · refine ⟨false, ⟨1, fun k hk => ?_⟩, fun h => (by cases h)⟩
      obtain ⟨k, rfl⟩ : ∃ m, k = m + 1 := ⟨k - 1, by omega⟩
      show gimballaw11_form.f _ _ _ _ _ _ = _
      unfold gimballaw11_form.f
      simp only [form_bad, hx, if_true, ite_self]
      repeat' split
      all_goals first | rfl | omega
    · obtain ⟨r, hr⟩ := form_j0 (decide (y < 0)) x sx y sy c
      refine ⟨r, ⟨1, fun k hk => ?_⟩, fun _ => h⟩
      obtain ⟨k, rfl⟩ : ∃ m, k = m + 1 := ⟨k - 1, by omega⟩
      show gimballaw11_form.f _ _ _ _ _ _ = _
      unfold gimballaw11_form.f
      rw [if_neg (by omega), if_neg (by omega), if_neg (by omega), if_neg (by omega), if_neg (by omega), if_neg (by omega), if_neg hx, hr]
  · refine ⟨false, ⟨1, fun k hk => ?_⟩, fun h => (by cases h)⟩
    obtain ⟨k, rfl⟩ : ∃ m, k = m + 1 := ⟨k - 1, by omega⟩
    show gimballaw11_form.f _ _ _ _ _ _ = _
    unfold gimballaw11_form.f
    simp only [form_bad]
    by_cases a1 : c < -1099511627776
    · rw [if_pos a1]
    rw [if_neg a1]
    by_cases a2 : c > 1099511627776
    · rw [if_pos a2]
    rw [if_neg a2]
    by_cases a3 : sx < -1
    · rw [if_pos a3]
    rw [if_neg a3]
    by_cases a4 : sx > 1
    · rw [if_pos a4]
    rw [if_neg a4]
    by_cases a5 : sy < -1
    · rw [if_pos a5]
    rw [if_neg a5]
    by_cases a6 : sy > 1
    · rw [if_pos a6]
    exfalso; omega
end Form
end Go.Proofs.Ytomgebmimgaojaa.Pure
end
section
/- The law OctMonotone walked: it answers true. Printed by gen_om.py. -/
noncomputable section
namespace Go.Proofs.Ytomgebmimgaojaa.QO
open Go.RowKit Go.Shelf Go.Proofs.YtomgebmimgaojaaW.PrintWords Go.Proofs.YtomgebmimgaojaaW.PrintLast Go.Proofs.YtomgebmimgaojaaW.PrintMore
open Go.Proofs.Ytomgebmimgaojaa.Pure Octs Two BndF
attribute [local go_sem] Oper.semAt_some
attribute [local go_sem ↓] Go.wp_at_zero Go.wp_at_succ
set_option linter.unusedVariables false
set_option linter.unusedSimpArgs false
def octMonotone_T4 : Bool × List (List Nat × List Nat) := (true, [([], []), ([], []), ([0, 1], [0, 1]), ([], []), ([], []), ([3, 4, 2], [3, 4]), ([2, 5, 5], [2, 5]), ([6], [6]), ([7, 6], [7]), ([8], [8]), ([8], [8]), ([9, 10, 8, 8], [8, 9, 10]), ([8], [8]), ([8], [8]), ([12, 13, 11, 8], [8, 12, 13]), ([11, 14, 14, 8], [8, 11, 14]), ([15, 8], [8, 15]), ([8, 16], [8, 16])])
def octMonotone_B4 : List Nat := [0, 0, 3, 0, 0, 31, 63, 127, 255, 511, 511, 2047, 511, 511, 16383, 32767, 65535, 131071]
theorem octMonotone_tab4 : rtab .any (opsOf Try.f12 4) = octMonotone_T4 := by kernel_rfl
theorem octMonotone_bits4 : waitsOk octMonotone_T4.2 octMonotone_B4 = true := by kernel_rfl
def octMonotone_T7 : Bool × List (List Nat × List Nat) := (true, [([], []), ([], []), ([0, 1], [0, 1]), ([], []), ([], []), ([3, 4, 2], [3, 4]), ([], []), ([], []), ([6, 2, 5, 0, 1, 2, 6, 7], [2, 6]), ([7, 5, 8, 0, 1, 2, 3, 4, 5, 6, 7, 8], [5, 7])])
def octMonotone_B7 : List Nat := [0, 0, 3, 0, 0, 31, 0, 0, 255, 511]
theorem octMonotone_tab7 : rtab .any (opsOf Try.f12 7) = octMonotone_T7 := by kernel_rfl
theorem octMonotone_bits7 : waitsOk octMonotone_T7.2 octMonotone_B7 = true := by kernel_rfl
theorem bounds_o {u : OV} {x sx y sy c : Int} {r : Int × Int} {w W : World} (h : Go.Proofs.Ytomgebmimgaojaa.Pure.Ev (fun k => oct_Bounds.f k u.v u.m u.e x sx y sy c) r) (hu : Oc w W u) (hb : Below w.heap.size w W) : Says 43 #[u.val, .agg #[.int .i64 x, .int .i64 sx, .int .i64 y, .int .i64 sy, .int .i64 c]] W (.agg #[.int .i64 r.1, .int .i64 r.2]) := by
  obtain ⟨K, hK⟩ := h
  exact oct_Bounds.calls K u.P u.p u.v u.Q u.q u.m u.e x sx y sy c r.1 r.2 W (hu.r0.reads hb) hu.r0.le (hu.r1.reads hb) hu.r1.le (hK K (Nat.le_refl _))
set_option maxHeartbeats 16000000 in
set_option maxRecDepth 100000 in
theorem octMonotone_walk (X Y Z : OV) (x sx y sy c : Int) (w : World) (hX : Oc w w X) (hY : Oc w w Y) (hZ : Oc w w Z)
    (lx : X.v.length ≤ 17592186044416) (ly : Y.v.length ≤ 17592186044416) (lz : Z.v.length ≤ 17592186044416) : Says 12 #[X.val, Y.val, Z.val, .agg #[.int .i64 x, .int .i64 sx, .int .i64 y, .int .i64 sy, .int .i64 c]] w (.bool true) := by
  have hu25 := Try.underlying25
  have huL := Try.underlying49
  have huI := Try.underlying37
  obtain ⟨b, b1, b2⟩ := two_o hX hY (Below.refl _ _) lx ly
  obtain ⟨e, e1, e2⟩ := two_o hY hZ (Below.refl _ _) ly lz
  have B1 := Aside0.mk b1
  have B2 := Aside0.mk @b2
  have E1 := Aside0.mk e1
  have E2 := Aside0.mk @e2
  have hs3 := LS.three X Y Z hX hY hZ
  have HS := Aside0.mk (hs3.next (below_alloc (Below.refl _ _) (.cells #[.int .i64 x, .int .i64 sx, .int .i64 y, .int .i64 sy, .int .i64 c] 49 (0, 0))))
  have HF : Aside0 (FX w [(w.heap.size + 1 + 1 + 1, (.cells #[.int .i64 x, .int .i64 sx, .int .i64 y, .int .i64 sy, .int .i64 c] 49 (0, 0)))] ((((w.alloc X.cells).alloc Y.cells).alloc Z.cells).alloc (.cells #[.int .i64 x, .int .i64 sx, .int .i64 y, .int .i64 sy, .int .i64 c] 49 (0, 0)))) := ⟨by
    refine ⟨fun f hf => ?_, by simp⟩
    cases hf with
    | head => exact ⟨by have h := blk_new (((w.alloc X.cells).alloc Y.cells).alloc Z.cells) (.cells #[.int .i64 x, .int .i64 sx, .int .i64 y, .int .i64 sy, .int .i64 c] 49 (0, 0)); simpa using h, by dsimp only; omega⟩
    | tail _ hf => cases hf⟩
  clear hX hY hZ b1 b2 e1 e2 lx ly lz hs3
  go_enter Try.func12, Try.ntmps12
  go_upto_region 1 with fail
  generalize hW2 : ((((w.alloc X.cells).alloc Y.cells).alloc Z.cells).alloc (.cells #[.int .i64 x, .int .i64 sx, .int .i64 y, .int .i64 sy, .int .i64 c] 49 (0, 0))) = W2 at HS HF ⊢
  generalize hgl : w.heap.size + 1 + 1 + 1 = gl at HS HF ⊢
  generalize hgc : w.heap.size + 1 + 1 = gc at HS HF ⊢
  generalize hgb : w.heap.size + 1 = gb at HS HF ⊢
  generalize hga : w.heap.size = ga at HS HF ⊢
  clear hW2 hgl hgc hgb hga
  obtain ⟨⟨ka0, ka1, ka2⟩, fa0, fa1, fa2⟩ := LS.cells HS m0_; obtain ⟨⟨kb0, kb1, kb2⟩, fb0, fb1, fb2⟩ := LS.cells HS m1_; obtain ⟨⟨kc0, kc1, kc2⟩, fc0, fc1, fc2⟩ := LS.cells HS m2_
  by_cases hbe : b = true ∧ e = true
  · obtain ⟨rfl, rfl⟩ := hbe
    obtain ⟨ox, oy⟩ := B1.out rfl
    obtain ⟨_, oz⟩ := E1.out rfl
    have OX := Aside0.mk ox
    have OY := Aside0.mk oy
    have OZ := Aside0.mk (And.intro oz.1 (oz.2.trans oy.2))
    clear ox oy oz
    go_upto_region 4 with (first | (go_at_call 32; (with_reducible refine (B2.out (LS.oc HS m0_) (LS.oc HS m1_) (LS.bel HS)).mono ?_); rintro e wk ⟨rfl, hb⟩; have n_ := Aside0.mk ((LS.to HS).next hb); have f_ := Aside0.mk ((FX.to HF).next hb); clear HF; have HF := f_; clear f_; clear HS; have HS := n_; clear n_ hb; clear ka0 ka1 ka2 fa0 fa1 fa2; obtain ⟨⟨ka0, ka1, ka2⟩, fa0, fa1, fa2⟩ := LS.cells HS m0_; clear kb0 kb1 kb2 fb0 fb1 fb2; obtain ⟨⟨kb0, kb1, kb2⟩, fb0, fb1, fb2⟩ := LS.cells HS m1_; clear kc0 kc1 kc2 fc0 fc1 fc2; obtain ⟨⟨kc0, kc1, kc2⟩, fc0, fc1, fc2⟩ := LS.cells HS m2_) | (go_at_call 32; (with_reducible refine (E2.out (LS.oc HS m1_) (LS.oc HS m2_) (LS.bel HS)).mono ?_); rintro e wk ⟨rfl, hb⟩; have n_ := Aside0.mk ((LS.to HS).next hb); have f_ := Aside0.mk ((FX.to HF).next hb); clear HF; have HF := f_; clear f_; clear HS; have HS := n_; clear n_ hb; clear ka0 ka1 ka2 fa0 fa1 fa2; obtain ⟨⟨ka0, ka1, ka2⟩, fa0, fa1, fa2⟩ := LS.cells HS m0_; clear kb0 kb1 kb2 fb0 fb1 fb2; obtain ⟨⟨kb0, kb1, kb2⟩, fb0, fb1, fb2⟩ := LS.cells HS m1_; clear kc0 kc1 kc2 fc0 fc1 fc2; obtain ⟨⟨kc0, kc1, kc2⟩, fc0, fc1, fc2⟩ := LS.cells HS m2_) | (go_at_call 36; (with_reducible refine (join_o (LS.oc HS m0_) (LS.oc HS m2_) (LS.bel HS) OX.out OZ.out).mono ?_); rintro e wk ⟨cv, rfl, hcv, ho, hb⟩; have n_ := Aside0.mk ((LS.to HS).call hb ho); have f_ := Aside0.mk ((FX.to HF).next hb); clear HF; have HF := f_; clear f_; clear HS; have HS := n_; clear n_ hb ho; clear ka0 ka1 ka2 fa0 fa1 fa2; obtain ⟨⟨ka0, ka1, ka2⟩, fa0, fa1, fa2⟩ := LS.cells HS m0_; clear kb0 kb1 kb2 fb0 fb1 fb2; obtain ⟨⟨kb0, kb1, kb2⟩, fb0, fb1, fb2⟩ := LS.cells HS m1_; clear kc0 kc1 kc2 fc0 fc1 fc2; obtain ⟨⟨kc0, kc1, kc2⟩, fc0, fc1, fc2⟩ := LS.cells HS m2_) | ((with_reducible refine gate_dst (N := 9) rfl ?_); refine box_event ?hg (N := 9) ?hd (cs := #[.slice none 0 0, .slice none 0 0, .bool false]) (t := 25) ?hr ?_; (case hd => rfl); (case hg => rfl); (case hr => first | (go_simp; done) | (go_simp; rfl)); intro gd hg wk hbox hb; have q_ := (FX.to HF).lt m0_; rw [← hg] at q_; have NE9 := Aside0.mk (Nat.ne_of_lt q_); clear q_; have n_ := Aside0.mk ((LS.to HS).made hg hbox hb); have f_ := Aside0.mk ((FX.to HF).next hb); clear HF; have HF := f_; clear f_; clear HS; have HS := n_; clear n_ hg hbox hb; obtain ⟨p0, p1, p2, p3, p4, p5⟩ := LS.one_new HS))
    have n_ := Aside0.mk (HS.out.put0 m0_)
    have f_ := Aside0.mk (HF.out.far3 (g := gd) (by
      intro f hf
      cases hf with
      | head => exact NE9.out
      | tail _ hf => cases hf) (.slice cv.P cv.v.length cv.p) (.slice cv.Q cv.m.length cv.q) (.bool cv.e))
    clear HS HF
    have HS := n_
    have HF := f_
    clear n_ f_
    generalize hW : (((World.setCell _ ⟨gd, 0, none⟩ (.slice cv.P cv.v.length cv.p)).setCell ⟨gd, 1, none⟩ (.slice cv.Q cv.m.length cv.q)).setCell ⟨gd, 2, none⟩ (.bool cv.e)) = W9 at HS HF ⊢
    clear hW p0 p1 p2 p3 p4 p5
    have JL := lattice_law OX.out.1 (OkV.fit OZ.out) (OkV.fit OY.out)
    have OC := Aside0.mk (OkV.of hcv JL.1.1 JL.1.2)
    have ec : (joinF X.v X.m X.e Z.m Z.e).2.1 = cv.m ∧ (joinF X.v X.m X.e Z.m Z.e).2.2 = cv.e := by rw [← hcv]; exact ⟨rfl, rfl⟩
    have AC := JL.2.2.1.1
    rw [ec.1, ec.2] at AC
    have L1 := lattice_law OX.out.1 (OkV.fit OY.out) (OkV.fit OY.out)
    have L2 := lattice_law (OkV.fit OC.out) (OkV.fit OY.out) (OkV.fit OY.out)
    have MO := mono_law OX.out.1 (OkV.fit OY.out) (OkV.fit OC.out) AC
    have vc : cv.v = X.v := OC.out.2
    have F1 : Aside0 (∀ z : OV, z.o = joinF X.v X.m X.e Y.m Y.e → OkV X.v z) := ⟨fun z hz => OkV.of hz L1.1.1 L1.1.2⟩
    have F2 : Aside0 (∀ z : OV, z.o = joinF cv.v cv.m cv.e Y.m Y.e → OkV X.v z) := ⟨fun z hz => by rw [vc] at hz; exact OkV.of hz L2.1.1 L2.1.2⟩
    have F3 : Aside0 (∀ z : OV, z.o = meetF X.v X.m X.e Y.m Y.e → OkV X.v z) := ⟨fun z hz => OkV.of hz L1.2.1.1 L1.2.1.2⟩
    have F4 : Aside0 (∀ z : OV, z.o = meetF cv.v cv.m cv.e Y.m Y.e → OkV X.v z) := ⟨fun z hz => by rw [vc] at hz; exact OkV.of hz L2.2.1.1 L2.2.1.2⟩
    have Q1 : Aside0 (∀ z z' : OV, z.o = joinF X.v X.m X.e Y.m Y.e → z'.o = joinF cv.v cv.m cv.e Y.m Y.e → leqF X.v z.m z.e z'.m z'.e = true) := ⟨fun z z' h h' => by
      rw [vc] at h'
      have q := MO.1
      rw [← h, ← h'] at q; exact q⟩
    have Q2 : Aside0 (∀ z z' : OV, z.o = meetF X.v X.m X.e Y.m Y.e → z'.o = meetF cv.v cv.m cv.e Y.m Y.e → leqF X.v z.m z.e z'.m z'.e = true) := ⟨fun z z' h h' => by
      rw [vc] at h'
      have q := MO.2
      rw [← h, ← h'] at q; exact q⟩
    obtain ⟨fm, ⟨FK, hFK⟩, hfm⟩ := Form.form_ev x sx y sy c
    have FORM : Aside0 (∀ {W : World}, Says 42 #[.agg #[.int .i64 x, .int .i64 sx, .int .i64 y, .int .i64 sy, .int .i64 c]] W (.bool fm)) := ⟨fun {W} => gimballaw11_form.calls FK x sx y sy c fm W (hFK FK (Nat.le_refl _))⟩
    have HFM := Aside0.mk hfm
    have HAC := Aside0.mk AC
    clear JL ec AC L1 L2 MO vc hcv hFK hfm ka0 ka1 ka2 fa0 fa1 fa2 kb0 kb1 kb2 fb0 fb1 fb2 kc0 kc1 kc2 fc0 fc1 fc2
    refine start_ (n := 18) (S := fun w' => w'.cell? ⟨ga, 0, none⟩ = some (.slice X.P X.v.length X.p) ∧ w'.cell? ⟨ga, 1, none⟩ = some (.slice X.Q X.m.length X.q) ∧ w'.cell? ⟨ga, 2, none⟩ = some (.bool X.e) ∧ w'.cell? ⟨gb, 0, none⟩ = some (.slice Y.P Y.v.length Y.p) ∧ w'.cell? ⟨gb, 1, none⟩ = some (.slice Y.Q Y.m.length Y.q) ∧ w'.cell? ⟨gb, 2, none⟩ = some (.bool Y.e) ∧ w'.cell? ⟨gd, 0, none⟩ = some (.slice cv.P cv.v.length cv.p) ∧ w'.cell? ⟨gd, 1, none⟩ = some (.slice cv.Q cv.m.length cv.q) ∧ w'.cell? ⟨gd, 2, none⟩ = some (.bool cv.e)) (ds := []) (mB 18 0) (by kernel_rfl) rfl (by kernel_rfl) ⟨(HS.out.drew.cell m1_).1, (HS.out.drew.cell m1_).2.1, (HS.out.drew.cell m1_).2.2, (HS.out.drew.cell m2_).1, (HS.out.drew.cell m2_).2.1, (HS.out.drew.cell m2_).2.2, (HS.out.drew.cell m0_).1, (HS.out.drew.cell m0_).2.1, (HS.out.drew.cell m0_).2.2⟩ (fun hHeld => ?_)
    refine with_tabW octMonotone_tab4 octMonotone_bits4 (fun HT_ HW_ => ?_)
    have n_ := Aside0.mk HS.out.drew; clear HS; have HS := n_; clear n_; have f_ := Aside0.mk (HF.out.next (below_drew (Below.refl _ _))); clear HF; have HF := f_; clear f_
    generalize hWd : World.drew _ = Wd at HS HF hHeld ⊢; clear hWd
    refine tV_ 0 26 (mB 18 1) HT_ HW_ hHeld ?_
    refine tV_ 1 27 (mB 18 3) HT_ HW_ hHeld ?_
    refine tV_ 3 29 (mB 18 11) HT_ HW_ hHeld ?_
    refine tV_ 4 30 (mB 18 27) HT_ HW_ hHeld ?_
    refine one_ (i := 2) (N := some 28) (mB 18 31) rfl rfl (one_of HT_.out (by kernel_rfl)) (by decide) (fun K hK => ?_)
    refine goes_ Try.func36 (by kernel_rfl) rfl #[X.val, Y.val] (by rfl) rfl rfl vL ?_
    with_reducible refine (join_o (LS.oc HS m1_) (LS.oc HS m2_) (LS.bel HS) OX.out OY.out).mono ?_
    rintro e wk ⟨z1, rfl, hz1, ho, hb⟩; refine ⟨_, rfl, ?_⟩
    have n_ := Aside0.mk (HS.out.call hb ho); have f_ := Aside0.mk ((FX.to HF).next hb); clear HF; have HF := f_; clear f_; clear HS; have HS := n_; clear n_ ho hb
    refine hK.out _ _ ⟨(HS.out.cell m1_).1, (HS.out.cell m1_).2.1, (HS.out.cell m1_).2.2, (HS.out.cell m2_).1, (HS.out.cell m2_).2.1, (HS.out.cell m2_).2.2, (HS.out.cell m0_).1, (HS.out.cell m0_).2.1, (HS.out.cell m0_).2.2⟩ (fun hHeld => ?_)
    clear hK K
    refine nO_ 28 ?_
    refine one_ (i := 5) (N := some 31) (mB 18 63) rfl rfl (one_of HT_.out (by kernel_rfl)) (by decide) (fun K hK => ?_)
    refine goes_ Try.func36 (by kernel_rfl) rfl #[cv.val, Y.val] (by rfl) rfl rfl vL ?_
    with_reducible refine (join_o (LS.oc HS m0_) (LS.oc HS m2_) (LS.bel HS) OC.out OY.out).mono ?_
    rintro e wk ⟨z2, rfl, hz2, ho, hb⟩; refine ⟨_, rfl, ?_⟩
    have n_ := Aside0.mk (HS.out.call hb ho); have f_ := Aside0.mk ((FX.to HF).next hb); clear HF; have HF := f_; clear f_; clear HS; have HS := n_; clear n_ ho hb
    refine hK.out _ _ ⟨(HS.out.cell m1_).1, (HS.out.cell m1_).2.1, (HS.out.cell m1_).2.2, (HS.out.cell m2_).1, (HS.out.cell m2_).2.1, (HS.out.cell m2_).2.2, (HS.out.cell m0_).1, (HS.out.cell m0_).2.1, (HS.out.cell m0_).2.2⟩ (fun hHeld => ?_)
    clear hK K
    refine nO_ 31 ?_
    refine one_ (i := 6) (N := some 32) (mB 18 127) rfl rfl (one_of HT_.out (by kernel_rfl)) (by decide) (fun K hK => ?_)
    refine goes_ Try.func38 (by kernel_rfl) rfl #[z1.val, z2.val] (by rfl) rfl rfl vL ?_
    with_reducible refine (leq_at (LS.ov HS m1_) (LS.ov HS m0_) (LS.bel HS) (F1.out _ hz1) (F2.out _ hz2) (Q1.out _ _ hz1 hz2)).mono ?_
    rintro e wk ⟨rfl, hb⟩; refine ⟨_, rfl, ?_⟩
    have n_ := Aside0.mk (HS.out.next hb); have f_ := Aside0.mk ((FX.to HF).next hb); clear HF; have HF := f_; clear f_; clear HS; have HS := n_; clear n_ hb
    refine hK.out _ _ ⟨(HS.out.cell m1_).1, (HS.out.cell m1_).2.1, (HS.out.cell m1_).2.2, (HS.out.cell m2_).1, (HS.out.cell m2_).2.1, (HS.out.cell m2_).2.2, (HS.out.cell m0_).1, (HS.out.cell m0_).2.1, (HS.out.cell m0_).2.2⟩ (fun hHeld => ?_)
    clear hK K
    refine nO_ 32 ?_
    refine pV_ 7 33 (mB 18 255) HT_ ?_
    refine pV_ 8 34 (mB 18 511) HT_ ?_
    refine tV_ 9 35 (mB 18 1023) HT_ HW_ hHeld ?_
    refine tV_ 10 36 (mB 18 2047) HT_ HW_ hHeld ?_
    refine tV_ 12 38 (mB 18 6143) HT_ HW_ hHeld ?_
    refine tV_ 13 39 (mB 18 14335) HT_ HW_ hHeld ?_
    refine one_ (i := 11) (N := some 37) (mB 18 16383) rfl rfl (one_of HT_.out (by kernel_rfl)) (by decide) (fun K hK => ?_)
    refine goes_ Try.func37 (by kernel_rfl) rfl #[X.val, Y.val] (by rfl) rfl rfl vL ?_
    with_reducible refine (meet_o (LS.oc HS m1_) (LS.oc HS m2_) (LS.bel HS) OX.out OY.out).mono ?_
    rintro e wk ⟨z3, rfl, hz3, ho, hb⟩; refine ⟨_, rfl, ?_⟩
    have n_ := Aside0.mk (HS.out.call hb ho); have f_ := Aside0.mk ((FX.to HF).next hb); clear HF; have HF := f_; clear f_; clear HS; have HS := n_; clear n_ ho hb
    refine hK.out _ _ ⟨(HS.out.cell m1_).1, (HS.out.cell m1_).2.1, (HS.out.cell m1_).2.2, (HS.out.cell m2_).1, (HS.out.cell m2_).2.1, (HS.out.cell m2_).2.2, (HS.out.cell m0_).1, (HS.out.cell m0_).2.1, (HS.out.cell m0_).2.2⟩ (fun hHeld => ?_)
    clear hK K
    refine nO_ 37 ?_
    refine one_ (i := 14) (N := some 40) (mB 18 32767) rfl rfl (one_of HT_.out (by kernel_rfl)) (by decide) (fun K hK => ?_)
    refine goes_ Try.func37 (by kernel_rfl) rfl #[cv.val, Y.val] (by rfl) rfl rfl vL ?_
    with_reducible refine (meet_o (LS.oc HS m0_) (LS.oc HS m2_) (LS.bel HS) OC.out OY.out).mono ?_
    rintro e wk ⟨z4, rfl, hz4, ho, hb⟩; refine ⟨_, rfl, ?_⟩
    have n_ := Aside0.mk (HS.out.call hb ho); have f_ := Aside0.mk ((FX.to HF).next hb); clear HF; have HF := f_; clear f_; clear HS; have HS := n_; clear n_ ho hb
    refine hK.out _ _ ⟨(HS.out.cell m1_).1, (HS.out.cell m1_).2.1, (HS.out.cell m1_).2.2, (HS.out.cell m2_).1, (HS.out.cell m2_).2.1, (HS.out.cell m2_).2.2, (HS.out.cell m0_).1, (HS.out.cell m0_).2.1, (HS.out.cell m0_).2.2⟩ (fun hHeld => ?_)
    clear hK K
    refine nO_ 40 ?_
    refine one_ (i := 15) (N := some 41) (mB 18 65535) rfl rfl (one_of HT_.out (by kernel_rfl)) (by decide) (fun K hK => ?_)
    refine goes_ Try.func38 (by kernel_rfl) rfl #[z3.val, z4.val] (by rfl) rfl rfl vL ?_
    with_reducible refine (leq_at (LS.ov HS m1_) (LS.ov HS m0_) (LS.bel HS) (F3.out _ hz3) (F4.out _ hz4) (Q2.out _ _ hz3 hz4)).mono ?_
    rintro e wk ⟨rfl, hb⟩; refine ⟨_, rfl, ?_⟩
    have n_ := Aside0.mk (HS.out.next hb); have f_ := Aside0.mk ((FX.to HF).next hb); clear HF; have HF := f_; clear f_; clear HS; have HS := n_; clear n_ hb
    refine hK.out _ _ ⟨(HS.out.cell m1_).1, (HS.out.cell m1_).2.1, (HS.out.cell m1_).2.2, (HS.out.cell m2_).1, (HS.out.cell m2_).2.1, (HS.out.cell m2_).2.2, (HS.out.cell m0_).1, (HS.out.cell m0_).2.1, (HS.out.cell m0_).2.2⟩ (fun hHeld => ?_)
    clear hK K
    refine nO_ 41 ?_
    refine pV_ 16 42 (mB 18 131071) HT_ ?_
    refine pV_ 17 43 (mB 18 262143) HT_ ?_
    refine done_ (done_of HT_.out (by kernel_rfl)) ?_
    clear HT_ HW_ hHeld
    go_upto_region 6 with fail
    obtain ⟨⟨kd0, kd1, kd2⟩, fd0, fd1, fd2⟩ := LS.cells HS m0_; obtain ⟨⟨ka0, ka1, ka2⟩, fa0, fa1, fa2⟩ := LS.cells HS m1_; obtain ⟨⟨kb0, kb1, kb2⟩, fb0, fb1, fb2⟩ := LS.cells HS m2_; obtain ⟨⟨kc0, kc1, kc2⟩, fc0, fc1, fc2⟩ := LS.cells HS m3_
    obtain ⟨t0, t1, t2, t3, t4⟩ := FX.lin HF m0_
    obtain ⟨t5, t6, t7, t8, t9⟩ := FX.linf HF m0_
    cases fm with
    | false =>
      go_wp2_with (first | (go_at_call 42; (with_reducible refine FORM.out.mono ?_); rintro e wk ⟨rfl, hb⟩; have n_ := Aside0.mk ((LS.to HS).next hb); have f_ := Aside0.mk ((FX.to HF).next hb); clear HF; have HF := f_; clear f_; clear HS; have HS := n_; clear n_ hb) | (go_at_call 20; (with_reducible refine (awake_o).mono ?_); rintro e wk ⟨rfl, hb⟩; have n_ := Aside0.mk ((LS.to HS).next hb); clear HS; have HS := n_; clear n_ hb))
      go_ret
      exact ⟨rfl, LS.bel HS⟩
    | true =>
      obtain ⟨q1, q2, q3⟩ := HFM.out rfl
      have ocf : OFit X.v cv.m cv.e := OkV.fit OC.out
      obtain ⟨r, r', e1, e2, mo⟩ := bounds_mono OX.out.1 ocf HAC.out x sx y sy c (by omega) q2 q3
      rw [← OC.out.2] at e2
      have R1 : Aside0 (∀ {w W : World}, Oc w W X → Below w.heap.size w W → Says 43 #[X.val, .agg #[.int .i64 x, .int .i64 sx, .int .i64 y, .int .i64 sy, .int .i64 c]] W (.agg #[.int .i64 r.1, .int .i64 r.2])) := ⟨fun {w W} a b => bounds_o e1 a b⟩
      have R2 : Aside0 (∀ {w W : World}, Oc w W cv → Below w.heap.size w W → Says 43 #[cv.val, .agg #[.int .i64 x, .int .i64 sx, .int .i64 y, .int .i64 sy, .int .i64 c]] W (.agg #[.int .i64 r'.1, .int .i64 r'.2])) := ⟨fun {w W} a b => bounds_o e2 a b⟩
      have MON := Aside0.mk mo
      clear q1 q2 q3 e1 e2 mo ocf
      go_upto_region 7 with (first | (go_at_call 42; (with_reducible refine FORM.out.mono ?_); rintro e wk ⟨rfl, hb⟩; have n_ := Aside0.mk ((LS.to HS).next hb); have f_ := Aside0.mk ((FX.to HF).next hb); clear HF; have HF := f_; clear f_; clear HS; have HS := n_; clear n_ hb))
      clear t0 t1 t2 t3 t4 t5 t6 t7 t8 t9 kd0 kd1 kd2 fd0 fd1 fd2 ka0 ka1 ka2 fa0 fa1 fa2 kb0 kb1 kb2 fb0 fb1 fb2 kc0 kc1 kc2 fc0 fc1 fc2
      have n_ := Aside0.mk HS.out.drew; clear HS; have HS := n_; clear n_; have f_ := Aside0.mk (HF.out.next (below_drew (Below.refl _ _))); clear HF; have HF := f_; clear f_
      refine startN_ (n := 10) (S := fun w' => w'.cell? ⟨ga, 0, none⟩ = some (.slice X.P X.v.length X.p) ∧ w'.cell? ⟨ga, 1, none⟩ = some (.slice X.Q X.m.length X.q) ∧ w'.cell? ⟨ga, 2, none⟩ = some (.bool X.e) ∧ w'.cell? ⟨gd, 0, none⟩ = some (.slice cv.P cv.v.length cv.p) ∧ w'.cell? ⟨gd, 1, none⟩ = some (.slice cv.Q cv.m.length cv.q) ∧ w'.cell? ⟨gd, 2, none⟩ = some (.bool cv.e) ∧ w'.cell? ⟨gl, 0, none⟩ = some (.int .i64 x) ∧ w'.cell? ⟨gl, 1, none⟩ = some (.int .i64 sx) ∧ w'.cell? ⟨gl, 2, none⟩ = some (.int .i64 y) ∧ w'.cell? ⟨gl, 3, none⟩ = some (.int .i64 sy) ∧ w'.cell? ⟨gl, 4, none⟩ = some (.int .i64 c)) (ds := [8, 9]) (mB 10 0) (by kernel_rfl) rfl (by kernel_rfl) ⟨(HS.out.cell m1_).1, (HS.out.cell m1_).2.1, (HS.out.cell m1_).2.2, (HS.out.cell m0_).1, (HS.out.cell m0_).2.1, (HS.out.cell m0_).2.2, (FX.lin HF m0_).1, (FX.lin HF m0_).2.1, (FX.lin HF m0_).2.2.1, (FX.lin HF m0_).2.2.2.1, (FX.lin HF m0_).2.2.2.2⟩ (fun hHeld => ?_)
      refine with_tabW octMonotone_tab7 octMonotone_bits7 (fun HT_ HW_ => ?_)
      generalize hWd : World.drew _ = Wd at HS HF hHeld ⊢; clear hWd
      refine tV_ 0 46 (mB 10 1) HT_ HW_ hHeld ?_
      refine tV_ 1 47 (mB 10 3) HT_ HW_ hHeld ?_
      refine tV_ 3 49 (mB 10 11) HT_ HW_ hHeld ?_
      refine tV_ 4 50 (mB 10 27) HT_ HW_ hHeld ?_
      refine join_ (σ := Nat × Nat) 2 (mB 10 255) (fun s_ => [(48, .agg #[.int .i64 r.1, .int .i64 r.2]), (51, .agg #[.int .i64 r'.1, .int .i64 r'.2]), (10, .pointer (some ⟨s_.1, 0, none⟩)), (11, .pointer (some ⟨s_.2, 0, none⟩))]) (fun s_ w' => Below w.heap.size w w' ∧ FX w [(s_.1, .cells #[.int .i64 0, .int .i64 0] 37 (0, 0)), (s_.2, .cells #[.int .i64 0, .int .i64 0] 37 (0, 0)), (gl, .cells #[.int .i64 x, .int .i64 sx, .int .i64 y, .int .i64 sy, .int .i64 c] 49 (0, 0))] w') ?_ ?_
      rotate_left
      · intro hJ
        refine three_ (i := 2) (j := 6) (k := 7) (Ni := some 48) (Nj := some 10) (Nk := some 11) (mB 10 31) (mB 10 91) (mB 10 155) rfl rfl rfl rfl rfl rfl (three_of HT_.out (by kernel_rfl)) (by decide) (by decide) (by decide) (fun K hK => ?_) (fun K hK => ?_) (fun K hK => ?_)
        ·
         refine goes_ Try.func43 (by kernel_rfl) rfl #[X.val, .agg #[.int .i64 x, .int .i64 sx, .int .i64 y, .int .i64 sy, .int .i64 c]] (by rfl) rfl rfl vL ?_
         with_reducible refine (R1.out (LS.oc HS m1_) (LS.bel HS)).mono ?_
         rintro e wk ⟨rfl, hb⟩; refine ⟨_, rfl, ?_⟩
         have n_ := Aside0.mk (HS.out.next hb); have f_ := Aside0.mk (HF.out.next hb); clear HS HF; have HS := n_; have HF := f_; clear n_ f_ hb
         refine hK.out _ _ ⟨(HS.out.cell m1_).1, (HS.out.cell m1_).2.1, (HS.out.cell m1_).2.2, (HS.out.cell m0_).1, (HS.out.cell m0_).2.1, (HS.out.cell m0_).2.2, (FX.lin HF m0_).1, (FX.lin HF m0_).2.1, (FX.lin HF m0_).2.2.1, (FX.lin HF m0_).2.2.2.1, (FX.lin HF m0_).2.2.2.2⟩ (fun hHeld => ?_)
         clear hK K
         refine nO_ 48 ?_
         refine three_ (i := 5) (j := 6) (k := 7) (Ni := some 51) (Nj := some 10) (Nk := some 11) (mB 10 63) (mB 10 95) (mB 10 159) rfl rfl rfl rfl rfl rfl (three_of HT_.out (by kernel_rfl)) (by decide) (by decide) (by decide) (fun K hK => ?_) (fun K hK => ?_) (fun K hK => ?_)
         ·
          refine goes_ Try.func43 (by kernel_rfl) rfl #[cv.val, .agg #[.int .i64 x, .int .i64 sx, .int .i64 y, .int .i64 sy, .int .i64 c]] (by rfl) rfl rfl vL ?_
          with_reducible refine (R2.out (LS.oc HS m0_) (LS.bel HS)).mono ?_
          rintro e wk ⟨rfl, hb⟩; refine ⟨_, rfl, ?_⟩
          have n_ := Aside0.mk (HS.out.next hb); have f_ := Aside0.mk (HF.out.next hb); clear HS HF; have HS := n_; have HF := f_; clear n_ f_ hb
          refine hK.out _ _ ⟨(HS.out.cell m1_).1, (HS.out.cell m1_).2.1, (HS.out.cell m1_).2.2, (HS.out.cell m0_).1, (HS.out.cell m0_).2.1, (HS.out.cell m0_).2.2, (FX.lin HF m0_).1, (FX.lin HF m0_).2.1, (FX.lin HF m0_).2.2.1, (FX.lin HF m0_).2.2.2.1, (FX.lin HF m0_).2.2.2.2⟩ (fun hHeld => ?_)
          clear hK K
          refine nO_ 51 ?_
          refine two_ (i := 6) (j := 7) (Ni := some 10) (Nj := some 11) (mB 10 127) (mB 10 191) rfl rfl rfl rfl (two_of HT_.out (by kernel_rfl)) (by decide) (by decide) (fun K hK => ?_) (fun K hK => ?_)
          ·
           refine box_step ?hg (N := 10) ?hd (cs := #[.int .i64 0, .int .i64 0]) (t := 37) ?hr ?_; (case hd => rfl); (case hg => rfl); (case hr => first | (go_simp; done) | (go_simp; rfl))
           intro gx hg wk hbox hb
           have n_ := Aside0.mk (HS.out.next hb); have f_ := Aside0.mk (HF.out.made HS.out.below.size hg hbox hb); clear HS HF; have HS := n_; have HF := f_; clear n_ f_ hg hbox hb
           refine hK.out _ _ ⟨(HS.out.cell m1_).1, (HS.out.cell m1_).2.1, (HS.out.cell m1_).2.2, (HS.out.cell m0_).1, (HS.out.cell m0_).2.1, (HS.out.cell m0_).2.2, (FX.lin HF m1_).1, (FX.lin HF m1_).2.1, (FX.lin HF m1_).2.2.1, (FX.lin HF m1_).2.2.2.1, (FX.lin HF m1_).2.2.2.2⟩ (fun hHeld => ?_)
           clear hK K
           refine nO_ 10 ?_
           refine one_ (i := 7) (N := some 11) (mB 10 255) rfl rfl (one_of HT_.out (by kernel_rfl)) (by decide) (fun K hK => ?_)
           refine box_step ?hg (N := 11) ?hd (cs := #[.int .i64 0, .int .i64 0]) (t := 37) ?hr ?_; (case hd => rfl); (case hg => rfl); (case hr => first | (go_simp; done) | (go_simp; rfl))
           intro gy hg wk hbox hb
           have n_ := Aside0.mk (HS.out.next hb); have f_ := Aside0.mk (HF.out.made HS.out.below.size hg hbox hb); clear HS HF; have HS := n_; have HF := f_; clear n_ f_ hg hbox hb
           refine hK.out _ _ ⟨(HS.out.cell m1_).1, (HS.out.cell m1_).2.1, (HS.out.cell m1_).2.2, (HS.out.cell m0_).1, (HS.out.cell m0_).2.1, (HS.out.cell m0_).2.2, (FX.lin HF m2_).1, (FX.lin HF m2_).2.1, (FX.lin HF m2_).2.2.1, (FX.lin HF m2_).2.2.2.1, (FX.lin HF m2_).2.2.2.2⟩ (fun hHeld => ?_)
           clear hK K
           refine nO_ 11 ?_
           exact nP_ (hJ (gx, gy) _ ⟨HS.out.below, HF.out.swap⟩)
          ·
           refine box_step ?hg (N := 11) ?hd (cs := #[.int .i64 0, .int .i64 0]) (t := 37) ?hr ?_; (case hd => rfl); (case hg => rfl); (case hr => first | (go_simp; done) | (go_simp; rfl))
           intro gy hg wk hbox hb
           have n_ := Aside0.mk (HS.out.next hb); have f_ := Aside0.mk (HF.out.made HS.out.below.size hg hbox hb); clear HS HF; have HS := n_; have HF := f_; clear n_ f_ hg hbox hb
           refine hK.out _ _ ⟨(HS.out.cell m1_).1, (HS.out.cell m1_).2.1, (HS.out.cell m1_).2.2, (HS.out.cell m0_).1, (HS.out.cell m0_).2.1, (HS.out.cell m0_).2.2, (FX.lin HF m1_).1, (FX.lin HF m1_).2.1, (FX.lin HF m1_).2.2.1, (FX.lin HF m1_).2.2.2.1, (FX.lin HF m1_).2.2.2.2⟩ (fun hHeld => ?_)
           clear hK K
           refine nO_ 11 ?_
           refine one_ (i := 6) (N := some 10) (mB 10 255) rfl rfl (one_of HT_.out (by kernel_rfl)) (by decide) (fun K hK => ?_)
           refine box_step ?hg (N := 10) ?hd (cs := #[.int .i64 0, .int .i64 0]) (t := 37) ?hr ?_; (case hd => rfl); (case hg => rfl); (case hr => first | (go_simp; done) | (go_simp; rfl))
           intro gx hg wk hbox hb
           have n_ := Aside0.mk (HS.out.next hb); have f_ := Aside0.mk (HF.out.made HS.out.below.size hg hbox hb); clear HS HF; have HS := n_; have HF := f_; clear n_ f_ hg hbox hb
           refine hK.out _ _ ⟨(HS.out.cell m1_).1, (HS.out.cell m1_).2.1, (HS.out.cell m1_).2.2, (HS.out.cell m0_).1, (HS.out.cell m0_).2.1, (HS.out.cell m0_).2.2, (FX.lin HF m2_).1, (FX.lin HF m2_).2.1, (FX.lin HF m2_).2.2.1, (FX.lin HF m2_).2.2.2.1, (FX.lin HF m2_).2.2.2.2⟩ (fun hHeld => ?_)
           clear hK K
           refine nO_ 10 ?_
           exact nP_ (hJ (gx, gy) _ ⟨HS.out.below, HF.out⟩)
         ·
          refine box_step ?hg (N := 10) ?hd (cs := #[.int .i64 0, .int .i64 0]) (t := 37) ?hr ?_; (case hd => rfl); (case hg => rfl); (case hr => first | (go_simp; done) | (go_simp; rfl))
          intro gx hg wk hbox hb
          have n_ := Aside0.mk (HS.out.next hb); have f_ := Aside0.mk (HF.out.made HS.out.below.size hg hbox hb); clear HS HF; have HS := n_; have HF := f_; clear n_ f_ hg hbox hb
          refine hK.out _ _ ⟨(HS.out.cell m1_).1, (HS.out.cell m1_).2.1, (HS.out.cell m1_).2.2, (HS.out.cell m0_).1, (HS.out.cell m0_).2.1, (HS.out.cell m0_).2.2, (FX.lin HF m1_).1, (FX.lin HF m1_).2.1, (FX.lin HF m1_).2.2.1, (FX.lin HF m1_).2.2.2.1, (FX.lin HF m1_).2.2.2.2⟩ (fun hHeld => ?_)
          clear hK K
          refine nO_ 10 ?_
          refine two_ (i := 5) (j := 7) (Ni := some 51) (Nj := some 11) (mB 10 127) (mB 10 223) rfl rfl rfl rfl (two_of HT_.out (by kernel_rfl)) (by decide) (by decide) (fun K hK => ?_) (fun K hK => ?_)
          ·
           refine goes_ Try.func43 (by kernel_rfl) rfl #[cv.val, .agg #[.int .i64 x, .int .i64 sx, .int .i64 y, .int .i64 sy, .int .i64 c]] (by rfl) rfl rfl vL ?_
           with_reducible refine (R2.out (LS.oc HS m0_) (LS.bel HS)).mono ?_
           rintro e wk ⟨rfl, hb⟩; refine ⟨_, rfl, ?_⟩
           have n_ := Aside0.mk (HS.out.next hb); have f_ := Aside0.mk (HF.out.next hb); clear HS HF; have HS := n_; have HF := f_; clear n_ f_ hb
           refine hK.out _ _ ⟨(HS.out.cell m1_).1, (HS.out.cell m1_).2.1, (HS.out.cell m1_).2.2, (HS.out.cell m0_).1, (HS.out.cell m0_).2.1, (HS.out.cell m0_).2.2, (FX.lin HF m1_).1, (FX.lin HF m1_).2.1, (FX.lin HF m1_).2.2.1, (FX.lin HF m1_).2.2.2.1, (FX.lin HF m1_).2.2.2.2⟩ (fun hHeld => ?_)
           clear hK K
           refine nO_ 51 ?_
           refine one_ (i := 7) (N := some 11) (mB 10 255) rfl rfl (one_of HT_.out (by kernel_rfl)) (by decide) (fun K hK => ?_)
           refine box_step ?hg (N := 11) ?hd (cs := #[.int .i64 0, .int .i64 0]) (t := 37) ?hr ?_; (case hd => rfl); (case hg => rfl); (case hr => first | (go_simp; done) | (go_simp; rfl))
           intro gy hg wk hbox hb
           have n_ := Aside0.mk (HS.out.next hb); have f_ := Aside0.mk (HF.out.made HS.out.below.size hg hbox hb); clear HS HF; have HS := n_; have HF := f_; clear n_ f_ hg hbox hb
           refine hK.out _ _ ⟨(HS.out.cell m1_).1, (HS.out.cell m1_).2.1, (HS.out.cell m1_).2.2, (HS.out.cell m0_).1, (HS.out.cell m0_).2.1, (HS.out.cell m0_).2.2, (FX.lin HF m2_).1, (FX.lin HF m2_).2.1, (FX.lin HF m2_).2.2.1, (FX.lin HF m2_).2.2.2.1, (FX.lin HF m2_).2.2.2.2⟩ (fun hHeld => ?_)
           clear hK K
           refine nO_ 11 ?_
           exact nP_ (hJ (gx, gy) _ ⟨HS.out.below, HF.out.swap⟩)
          ·
           refine box_step ?hg (N := 11) ?hd (cs := #[.int .i64 0, .int .i64 0]) (t := 37) ?hr ?_; (case hd => rfl); (case hg => rfl); (case hr => first | (go_simp; done) | (go_simp; rfl))
           intro gy hg wk hbox hb
           have n_ := Aside0.mk (HS.out.next hb); have f_ := Aside0.mk (HF.out.made HS.out.below.size hg hbox hb); clear HS HF; have HS := n_; have HF := f_; clear n_ f_ hg hbox hb
           refine hK.out _ _ ⟨(HS.out.cell m1_).1, (HS.out.cell m1_).2.1, (HS.out.cell m1_).2.2, (HS.out.cell m0_).1, (HS.out.cell m0_).2.1, (HS.out.cell m0_).2.2, (FX.lin HF m2_).1, (FX.lin HF m2_).2.1, (FX.lin HF m2_).2.2.1, (FX.lin HF m2_).2.2.2.1, (FX.lin HF m2_).2.2.2.2⟩ (fun hHeld => ?_)
           clear hK K
           refine nO_ 11 ?_
           refine one_ (i := 5) (N := some 51) (mB 10 255) rfl rfl (one_of HT_.out (by kernel_rfl)) (by decide) (fun K hK => ?_)
           refine goes_ Try.func43 (by kernel_rfl) rfl #[cv.val, .agg #[.int .i64 x, .int .i64 sx, .int .i64 y, .int .i64 sy, .int .i64 c]] (by rfl) rfl rfl vL ?_
           with_reducible refine (R2.out (LS.oc HS m0_) (LS.bel HS)).mono ?_
           rintro e wk ⟨rfl, hb⟩; refine ⟨_, rfl, ?_⟩
           have n_ := Aside0.mk (HS.out.next hb); have f_ := Aside0.mk (HF.out.next hb); clear HS HF; have HS := n_; have HF := f_; clear n_ f_ hb
           refine hK.out _ _ ⟨(HS.out.cell m1_).1, (HS.out.cell m1_).2.1, (HS.out.cell m1_).2.2, (HS.out.cell m0_).1, (HS.out.cell m0_).2.1, (HS.out.cell m0_).2.2, (FX.lin HF m2_).1, (FX.lin HF m2_).2.1, (FX.lin HF m2_).2.2.1, (FX.lin HF m2_).2.2.2.1, (FX.lin HF m2_).2.2.2.2⟩ (fun hHeld => ?_)
           clear hK K
           refine nO_ 51 ?_
           exact nP_ (hJ (gx, gy) _ ⟨HS.out.below, HF.out.swap⟩)
         ·
          refine box_step ?hg (N := 11) ?hd (cs := #[.int .i64 0, .int .i64 0]) (t := 37) ?hr ?_; (case hd => rfl); (case hg => rfl); (case hr => first | (go_simp; done) | (go_simp; rfl))
          intro gy hg wk hbox hb
          have n_ := Aside0.mk (HS.out.next hb); have f_ := Aside0.mk (HF.out.made HS.out.below.size hg hbox hb); clear HS HF; have HS := n_; have HF := f_; clear n_ f_ hg hbox hb
          refine hK.out _ _ ⟨(HS.out.cell m1_).1, (HS.out.cell m1_).2.1, (HS.out.cell m1_).2.2, (HS.out.cell m0_).1, (HS.out.cell m0_).2.1, (HS.out.cell m0_).2.2, (FX.lin HF m1_).1, (FX.lin HF m1_).2.1, (FX.lin HF m1_).2.2.1, (FX.lin HF m1_).2.2.2.1, (FX.lin HF m1_).2.2.2.2⟩ (fun hHeld => ?_)
          clear hK K
          refine nO_ 11 ?_
          refine two_ (i := 5) (j := 6) (Ni := some 51) (Nj := some 10) (mB 10 191) (mB 10 223) rfl rfl rfl rfl (two_of HT_.out (by kernel_rfl)) (by decide) (by decide) (fun K hK => ?_) (fun K hK => ?_)
          ·
           refine goes_ Try.func43 (by kernel_rfl) rfl #[cv.val, .agg #[.int .i64 x, .int .i64 sx, .int .i64 y, .int .i64 sy, .int .i64 c]] (by rfl) rfl rfl vL ?_
           with_reducible refine (R2.out (LS.oc HS m0_) (LS.bel HS)).mono ?_
           rintro e wk ⟨rfl, hb⟩; refine ⟨_, rfl, ?_⟩
           have n_ := Aside0.mk (HS.out.next hb); have f_ := Aside0.mk (HF.out.next hb); clear HS HF; have HS := n_; have HF := f_; clear n_ f_ hb
           refine hK.out _ _ ⟨(HS.out.cell m1_).1, (HS.out.cell m1_).2.1, (HS.out.cell m1_).2.2, (HS.out.cell m0_).1, (HS.out.cell m0_).2.1, (HS.out.cell m0_).2.2, (FX.lin HF m1_).1, (FX.lin HF m1_).2.1, (FX.lin HF m1_).2.2.1, (FX.lin HF m1_).2.2.2.1, (FX.lin HF m1_).2.2.2.2⟩ (fun hHeld => ?_)
           clear hK K
           refine nO_ 51 ?_
           refine one_ (i := 6) (N := some 10) (mB 10 255) rfl rfl (one_of HT_.out (by kernel_rfl)) (by decide) (fun K hK => ?_)
           refine box_step ?hg (N := 10) ?hd (cs := #[.int .i64 0, .int .i64 0]) (t := 37) ?hr ?_; (case hd => rfl); (case hg => rfl); (case hr => first | (go_simp; done) | (go_simp; rfl))
           intro gx hg wk hbox hb
           have n_ := Aside0.mk (HS.out.next hb); have f_ := Aside0.mk (HF.out.made HS.out.below.size hg hbox hb); clear HS HF; have HS := n_; have HF := f_; clear n_ f_ hg hbox hb
           refine hK.out _ _ ⟨(HS.out.cell m1_).1, (HS.out.cell m1_).2.1, (HS.out.cell m1_).2.2, (HS.out.cell m0_).1, (HS.out.cell m0_).2.1, (HS.out.cell m0_).2.2, (FX.lin HF m2_).1, (FX.lin HF m2_).2.1, (FX.lin HF m2_).2.2.1, (FX.lin HF m2_).2.2.2.1, (FX.lin HF m2_).2.2.2.2⟩ (fun hHeld => ?_)
           clear hK K
           refine nO_ 10 ?_
           exact nP_ (hJ (gx, gy) _ ⟨HS.out.below, HF.out⟩)
          ·
           refine box_step ?hg (N := 10) ?hd (cs := #[.int .i64 0, .int .i64 0]) (t := 37) ?hr ?_; (case hd => rfl); (case hg => rfl); (case hr => first | (go_simp; done) | (go_simp; rfl))
           intro gx hg wk hbox hb
           have n_ := Aside0.mk (HS.out.next hb); have f_ := Aside0.mk (HF.out.made HS.out.below.size hg hbox hb); clear HS HF; have HS := n_; have HF := f_; clear n_ f_ hg hbox hb
           refine hK.out _ _ ⟨(HS.out.cell m1_).1, (HS.out.cell m1_).2.1, (HS.out.cell m1_).2.2, (HS.out.cell m0_).1, (HS.out.cell m0_).2.1, (HS.out.cell m0_).2.2, (FX.lin HF m2_).1, (FX.lin HF m2_).2.1, (FX.lin HF m2_).2.2.1, (FX.lin HF m2_).2.2.2.1, (FX.lin HF m2_).2.2.2.2⟩ (fun hHeld => ?_)
           clear hK K
           refine nO_ 10 ?_
           refine one_ (i := 5) (N := some 51) (mB 10 255) rfl rfl (one_of HT_.out (by kernel_rfl)) (by decide) (fun K hK => ?_)
           refine goes_ Try.func43 (by kernel_rfl) rfl #[cv.val, .agg #[.int .i64 x, .int .i64 sx, .int .i64 y, .int .i64 sy, .int .i64 c]] (by rfl) rfl rfl vL ?_
           with_reducible refine (R2.out (LS.oc HS m0_) (LS.bel HS)).mono ?_
           rintro e wk ⟨rfl, hb⟩; refine ⟨_, rfl, ?_⟩
           have n_ := Aside0.mk (HS.out.next hb); have f_ := Aside0.mk (HF.out.next hb); clear HS HF; have HS := n_; have HF := f_; clear n_ f_ hb
           refine hK.out _ _ ⟨(HS.out.cell m1_).1, (HS.out.cell m1_).2.1, (HS.out.cell m1_).2.2, (HS.out.cell m0_).1, (HS.out.cell m0_).2.1, (HS.out.cell m0_).2.2, (FX.lin HF m2_).1, (FX.lin HF m2_).2.1, (FX.lin HF m2_).2.2.1, (FX.lin HF m2_).2.2.2.1, (FX.lin HF m2_).2.2.2.2⟩ (fun hHeld => ?_)
           clear hK K
           refine nO_ 51 ?_
           exact nP_ (hJ (gx, gy) _ ⟨HS.out.below, HF.out⟩)
        ·
         refine box_step ?hg (N := 10) ?hd (cs := #[.int .i64 0, .int .i64 0]) (t := 37) ?hr ?_; (case hd => rfl); (case hg => rfl); (case hr => first | (go_simp; done) | (go_simp; rfl))
         intro gx hg wk hbox hb
         have n_ := Aside0.mk (HS.out.next hb); have f_ := Aside0.mk (HF.out.made HS.out.below.size hg hbox hb); clear HS HF; have HS := n_; have HF := f_; clear n_ f_ hg hbox hb
         refine hK.out _ _ ⟨(HS.out.cell m1_).1, (HS.out.cell m1_).2.1, (HS.out.cell m1_).2.2, (HS.out.cell m0_).1, (HS.out.cell m0_).2.1, (HS.out.cell m0_).2.2, (FX.lin HF m1_).1, (FX.lin HF m1_).2.1, (FX.lin HF m1_).2.2.1, (FX.lin HF m1_).2.2.2.1, (FX.lin HF m1_).2.2.2.2⟩ (fun hHeld => ?_)
         clear hK K
         refine nO_ 10 ?_
         refine two_ (i := 2) (j := 7) (Ni := some 48) (Nj := some 11) (mB 10 95) (mB 10 219) rfl rfl rfl rfl (two_of HT_.out (by kernel_rfl)) (by decide) (by decide) (fun K hK => ?_) (fun K hK => ?_)
         ·
          refine goes_ Try.func43 (by kernel_rfl) rfl #[X.val, .agg #[.int .i64 x, .int .i64 sx, .int .i64 y, .int .i64 sy, .int .i64 c]] (by rfl) rfl rfl vL ?_
          with_reducible refine (R1.out (LS.oc HS m1_) (LS.bel HS)).mono ?_
          rintro e wk ⟨rfl, hb⟩; refine ⟨_, rfl, ?_⟩
          have n_ := Aside0.mk (HS.out.next hb); have f_ := Aside0.mk (HF.out.next hb); clear HS HF; have HS := n_; have HF := f_; clear n_ f_ hb
          refine hK.out _ _ ⟨(HS.out.cell m1_).1, (HS.out.cell m1_).2.1, (HS.out.cell m1_).2.2, (HS.out.cell m0_).1, (HS.out.cell m0_).2.1, (HS.out.cell m0_).2.2, (FX.lin HF m1_).1, (FX.lin HF m1_).2.1, (FX.lin HF m1_).2.2.1, (FX.lin HF m1_).2.2.2.1, (FX.lin HF m1_).2.2.2.2⟩ (fun hHeld => ?_)
          clear hK K
          refine nO_ 48 ?_
          refine two_ (i := 5) (j := 7) (Ni := some 51) (Nj := some 11) (mB 10 127) (mB 10 223) rfl rfl rfl rfl (two_of HT_.out (by kernel_rfl)) (by decide) (by decide) (fun K hK => ?_) (fun K hK => ?_)
          ·
           refine goes_ Try.func43 (by kernel_rfl) rfl #[cv.val, .agg #[.int .i64 x, .int .i64 sx, .int .i64 y, .int .i64 sy, .int .i64 c]] (by rfl) rfl rfl vL ?_
           with_reducible refine (R2.out (LS.oc HS m0_) (LS.bel HS)).mono ?_
           rintro e wk ⟨rfl, hb⟩; refine ⟨_, rfl, ?_⟩
           have n_ := Aside0.mk (HS.out.next hb); have f_ := Aside0.mk (HF.out.next hb); clear HS HF; have HS := n_; have HF := f_; clear n_ f_ hb
           refine hK.out _ _ ⟨(HS.out.cell m1_).1, (HS.out.cell m1_).2.1, (HS.out.cell m1_).2.2, (HS.out.cell m0_).1, (HS.out.cell m0_).2.1, (HS.out.cell m0_).2.2, (FX.lin HF m1_).1, (FX.lin HF m1_).2.1, (FX.lin HF m1_).2.2.1, (FX.lin HF m1_).2.2.2.1, (FX.lin HF m1_).2.2.2.2⟩ (fun hHeld => ?_)
           clear hK K
           refine nO_ 51 ?_
           refine one_ (i := 7) (N := some 11) (mB 10 255) rfl rfl (one_of HT_.out (by kernel_rfl)) (by decide) (fun K hK => ?_)
           refine box_step ?hg (N := 11) ?hd (cs := #[.int .i64 0, .int .i64 0]) (t := 37) ?hr ?_; (case hd => rfl); (case hg => rfl); (case hr => first | (go_simp; done) | (go_simp; rfl))
           intro gy hg wk hbox hb
           have n_ := Aside0.mk (HS.out.next hb); have f_ := Aside0.mk (HF.out.made HS.out.below.size hg hbox hb); clear HS HF; have HS := n_; have HF := f_; clear n_ f_ hg hbox hb
           refine hK.out _ _ ⟨(HS.out.cell m1_).1, (HS.out.cell m1_).2.1, (HS.out.cell m1_).2.2, (HS.out.cell m0_).1, (HS.out.cell m0_).2.1, (HS.out.cell m0_).2.2, (FX.lin HF m2_).1, (FX.lin HF m2_).2.1, (FX.lin HF m2_).2.2.1, (FX.lin HF m2_).2.2.2.1, (FX.lin HF m2_).2.2.2.2⟩ (fun hHeld => ?_)
           clear hK K
           refine nO_ 11 ?_
           exact nP_ (hJ (gx, gy) _ ⟨HS.out.below, HF.out.swap⟩)
          ·
           refine box_step ?hg (N := 11) ?hd (cs := #[.int .i64 0, .int .i64 0]) (t := 37) ?hr ?_; (case hd => rfl); (case hg => rfl); (case hr => first | (go_simp; done) | (go_simp; rfl))
           intro gy hg wk hbox hb
           have n_ := Aside0.mk (HS.out.next hb); have f_ := Aside0.mk (HF.out.made HS.out.below.size hg hbox hb); clear HS HF; have HS := n_; have HF := f_; clear n_ f_ hg hbox hb
           refine hK.out _ _ ⟨(HS.out.cell m1_).1, (HS.out.cell m1_).2.1, (HS.out.cell m1_).2.2, (HS.out.cell m0_).1, (HS.out.cell m0_).2.1, (HS.out.cell m0_).2.2, (FX.lin HF m2_).1, (FX.lin HF m2_).2.1, (FX.lin HF m2_).2.2.1, (FX.lin HF m2_).2.2.2.1, (FX.lin HF m2_).2.2.2.2⟩ (fun hHeld => ?_)
           clear hK K
           refine nO_ 11 ?_
           refine one_ (i := 5) (N := some 51) (mB 10 255) rfl rfl (one_of HT_.out (by kernel_rfl)) (by decide) (fun K hK => ?_)
           refine goes_ Try.func43 (by kernel_rfl) rfl #[cv.val, .agg #[.int .i64 x, .int .i64 sx, .int .i64 y, .int .i64 sy, .int .i64 c]] (by rfl) rfl rfl vL ?_
           with_reducible refine (R2.out (LS.oc HS m0_) (LS.bel HS)).mono ?_
           rintro e wk ⟨rfl, hb⟩; refine ⟨_, rfl, ?_⟩
           have n_ := Aside0.mk (HS.out.next hb); have f_ := Aside0.mk (HF.out.next hb); clear HS HF; have HS := n_; have HF := f_; clear n_ f_ hb
           refine hK.out _ _ ⟨(HS.out.cell m1_).1, (HS.out.cell m1_).2.1, (HS.out.cell m1_).2.2, (HS.out.cell m0_).1, (HS.out.cell m0_).2.1, (HS.out.cell m0_).2.2, (FX.lin HF m2_).1, (FX.lin HF m2_).2.1, (FX.lin HF m2_).2.2.1, (FX.lin HF m2_).2.2.2.1, (FX.lin HF m2_).2.2.2.2⟩ (fun hHeld => ?_)
           clear hK K
           refine nO_ 51 ?_
           exact nP_ (hJ (gx, gy) _ ⟨HS.out.below, HF.out.swap⟩)
         ·
          refine box_step ?hg (N := 11) ?hd (cs := #[.int .i64 0, .int .i64 0]) (t := 37) ?hr ?_; (case hd => rfl); (case hg => rfl); (case hr => first | (go_simp; done) | (go_simp; rfl))
          intro gy hg wk hbox hb
          have n_ := Aside0.mk (HS.out.next hb); have f_ := Aside0.mk (HF.out.made HS.out.below.size hg hbox hb); clear HS HF; have HS := n_; have HF := f_; clear n_ f_ hg hbox hb
          refine hK.out _ _ ⟨(HS.out.cell m1_).1, (HS.out.cell m1_).2.1, (HS.out.cell m1_).2.2, (HS.out.cell m0_).1, (HS.out.cell m0_).2.1, (HS.out.cell m0_).2.2, (FX.lin HF m2_).1, (FX.lin HF m2_).2.1, (FX.lin HF m2_).2.2.1, (FX.lin HF m2_).2.2.2.1, (FX.lin HF m2_).2.2.2.2⟩ (fun hHeld => ?_)
          clear hK K
          refine nO_ 11 ?_
          refine one_ (i := 2) (N := some 48) (mB 10 223) rfl rfl (one_of HT_.out (by kernel_rfl)) (by decide) (fun K hK => ?_)
          refine goes_ Try.func43 (by kernel_rfl) rfl #[X.val, .agg #[.int .i64 x, .int .i64 sx, .int .i64 y, .int .i64 sy, .int .i64 c]] (by rfl) rfl rfl vL ?_
          with_reducible refine (R1.out (LS.oc HS m1_) (LS.bel HS)).mono ?_
          rintro e wk ⟨rfl, hb⟩; refine ⟨_, rfl, ?_⟩
          have n_ := Aside0.mk (HS.out.next hb); have f_ := Aside0.mk (HF.out.next hb); clear HS HF; have HS := n_; have HF := f_; clear n_ f_ hb
          refine hK.out _ _ ⟨(HS.out.cell m1_).1, (HS.out.cell m1_).2.1, (HS.out.cell m1_).2.2, (HS.out.cell m0_).1, (HS.out.cell m0_).2.1, (HS.out.cell m0_).2.2, (FX.lin HF m2_).1, (FX.lin HF m2_).2.1, (FX.lin HF m2_).2.2.1, (FX.lin HF m2_).2.2.2.1, (FX.lin HF m2_).2.2.2.2⟩ (fun hHeld => ?_)
          clear hK K
          refine nO_ 48 ?_
          refine one_ (i := 5) (N := some 51) (mB 10 255) rfl rfl (one_of HT_.out (by kernel_rfl)) (by decide) (fun K hK => ?_)
          refine goes_ Try.func43 (by kernel_rfl) rfl #[cv.val, .agg #[.int .i64 x, .int .i64 sx, .int .i64 y, .int .i64 sy, .int .i64 c]] (by rfl) rfl rfl vL ?_
          with_reducible refine (R2.out (LS.oc HS m0_) (LS.bel HS)).mono ?_
          rintro e wk ⟨rfl, hb⟩; refine ⟨_, rfl, ?_⟩
          have n_ := Aside0.mk (HS.out.next hb); have f_ := Aside0.mk (HF.out.next hb); clear HS HF; have HS := n_; have HF := f_; clear n_ f_ hb
          refine hK.out _ _ ⟨(HS.out.cell m1_).1, (HS.out.cell m1_).2.1, (HS.out.cell m1_).2.2, (HS.out.cell m0_).1, (HS.out.cell m0_).2.1, (HS.out.cell m0_).2.2, (FX.lin HF m2_).1, (FX.lin HF m2_).2.1, (FX.lin HF m2_).2.2.1, (FX.lin HF m2_).2.2.2.1, (FX.lin HF m2_).2.2.2.2⟩ (fun hHeld => ?_)
          clear hK K
          refine nO_ 51 ?_
          exact nP_ (hJ (gx, gy) _ ⟨HS.out.below, HF.out.swap⟩)
        ·
         refine box_step ?hg (N := 11) ?hd (cs := #[.int .i64 0, .int .i64 0]) (t := 37) ?hr ?_; (case hd => rfl); (case hg => rfl); (case hr => first | (go_simp; done) | (go_simp; rfl))
         intro gy hg wk hbox hb
         have n_ := Aside0.mk (HS.out.next hb); have f_ := Aside0.mk (HF.out.made HS.out.below.size hg hbox hb); clear HS HF; have HS := n_; have HF := f_; clear n_ f_ hg hbox hb
         refine hK.out _ _ ⟨(HS.out.cell m1_).1, (HS.out.cell m1_).2.1, (HS.out.cell m1_).2.2, (HS.out.cell m0_).1, (HS.out.cell m0_).2.1, (HS.out.cell m0_).2.2, (FX.lin HF m1_).1, (FX.lin HF m1_).2.1, (FX.lin HF m1_).2.2.1, (FX.lin HF m1_).2.2.2.1, (FX.lin HF m1_).2.2.2.2⟩ (fun hHeld => ?_)
         clear hK K
         refine nO_ 11 ?_
         refine two_ (i := 2) (j := 6) (Ni := some 48) (Nj := some 10) (mB 10 159) (mB 10 219) rfl rfl rfl rfl (two_of HT_.out (by kernel_rfl)) (by decide) (by decide) (fun K hK => ?_) (fun K hK => ?_)
         ·
          refine goes_ Try.func43 (by kernel_rfl) rfl #[X.val, .agg #[.int .i64 x, .int .i64 sx, .int .i64 y, .int .i64 sy, .int .i64 c]] (by rfl) rfl rfl vL ?_
          with_reducible refine (R1.out (LS.oc HS m1_) (LS.bel HS)).mono ?_
          rintro e wk ⟨rfl, hb⟩; refine ⟨_, rfl, ?_⟩
          have n_ := Aside0.mk (HS.out.next hb); have f_ := Aside0.mk (HF.out.next hb); clear HS HF; have HS := n_; have HF := f_; clear n_ f_ hb
          refine hK.out _ _ ⟨(HS.out.cell m1_).1, (HS.out.cell m1_).2.1, (HS.out.cell m1_).2.2, (HS.out.cell m0_).1, (HS.out.cell m0_).2.1, (HS.out.cell m0_).2.2, (FX.lin HF m1_).1, (FX.lin HF m1_).2.1, (FX.lin HF m1_).2.2.1, (FX.lin HF m1_).2.2.2.1, (FX.lin HF m1_).2.2.2.2⟩ (fun hHeld => ?_)
          clear hK K
          refine nO_ 48 ?_
          refine two_ (i := 5) (j := 6) (Ni := some 51) (Nj := some 10) (mB 10 191) (mB 10 223) rfl rfl rfl rfl (two_of HT_.out (by kernel_rfl)) (by decide) (by decide) (fun K hK => ?_) (fun K hK => ?_)
          ·
           refine goes_ Try.func43 (by kernel_rfl) rfl #[cv.val, .agg #[.int .i64 x, .int .i64 sx, .int .i64 y, .int .i64 sy, .int .i64 c]] (by rfl) rfl rfl vL ?_
           with_reducible refine (R2.out (LS.oc HS m0_) (LS.bel HS)).mono ?_
           rintro e wk ⟨rfl, hb⟩; refine ⟨_, rfl, ?_⟩
           have n_ := Aside0.mk (HS.out.next hb); have f_ := Aside0.mk (HF.out.next hb); clear HS HF; have HS := n_; have HF := f_; clear n_ f_ hb
           refine hK.out _ _ ⟨(HS.out.cell m1_).1, (HS.out.cell m1_).2.1, (HS.out.cell m1_).2.2, (HS.out.cell m0_).1, (HS.out.cell m0_).2.1, (HS.out.cell m0_).2.2, (FX.lin HF m1_).1, (FX.lin HF m1_).2.1, (FX.lin HF m1_).2.2.1, (FX.lin HF m1_).2.2.2.1, (FX.lin HF m1_).2.2.2.2⟩ (fun hHeld => ?_)
           clear hK K
           refine nO_ 51 ?_
           refine one_ (i := 6) (N := some 10) (mB 10 255) rfl rfl (one_of HT_.out (by kernel_rfl)) (by decide) (fun K hK => ?_)
           refine box_step ?hg (N := 10) ?hd (cs := #[.int .i64 0, .int .i64 0]) (t := 37) ?hr ?_; (case hd => rfl); (case hg => rfl); (case hr => first | (go_simp; done) | (go_simp; rfl))
           intro gx hg wk hbox hb
           have n_ := Aside0.mk (HS.out.next hb); have f_ := Aside0.mk (HF.out.made HS.out.below.size hg hbox hb); clear HS HF; have HS := n_; have HF := f_; clear n_ f_ hg hbox hb
           refine hK.out _ _ ⟨(HS.out.cell m1_).1, (HS.out.cell m1_).2.1, (HS.out.cell m1_).2.2, (HS.out.cell m0_).1, (HS.out.cell m0_).2.1, (HS.out.cell m0_).2.2, (FX.lin HF m2_).1, (FX.lin HF m2_).2.1, (FX.lin HF m2_).2.2.1, (FX.lin HF m2_).2.2.2.1, (FX.lin HF m2_).2.2.2.2⟩ (fun hHeld => ?_)
           clear hK K
           refine nO_ 10 ?_
           exact nP_ (hJ (gx, gy) _ ⟨HS.out.below, HF.out⟩)
          ·
           refine box_step ?hg (N := 10) ?hd (cs := #[.int .i64 0, .int .i64 0]) (t := 37) ?hr ?_; (case hd => rfl); (case hg => rfl); (case hr => first | (go_simp; done) | (go_simp; rfl))
           intro gx hg wk hbox hb
           have n_ := Aside0.mk (HS.out.next hb); have f_ := Aside0.mk (HF.out.made HS.out.below.size hg hbox hb); clear HS HF; have HS := n_; have HF := f_; clear n_ f_ hg hbox hb
           refine hK.out _ _ ⟨(HS.out.cell m1_).1, (HS.out.cell m1_).2.1, (HS.out.cell m1_).2.2, (HS.out.cell m0_).1, (HS.out.cell m0_).2.1, (HS.out.cell m0_).2.2, (FX.lin HF m2_).1, (FX.lin HF m2_).2.1, (FX.lin HF m2_).2.2.1, (FX.lin HF m2_).2.2.2.1, (FX.lin HF m2_).2.2.2.2⟩ (fun hHeld => ?_)
           clear hK K
           refine nO_ 10 ?_
           refine one_ (i := 5) (N := some 51) (mB 10 255) rfl rfl (one_of HT_.out (by kernel_rfl)) (by decide) (fun K hK => ?_)
           refine goes_ Try.func43 (by kernel_rfl) rfl #[cv.val, .agg #[.int .i64 x, .int .i64 sx, .int .i64 y, .int .i64 sy, .int .i64 c]] (by rfl) rfl rfl vL ?_
           with_reducible refine (R2.out (LS.oc HS m0_) (LS.bel HS)).mono ?_
           rintro e wk ⟨rfl, hb⟩; refine ⟨_, rfl, ?_⟩
           have n_ := Aside0.mk (HS.out.next hb); have f_ := Aside0.mk (HF.out.next hb); clear HS HF; have HS := n_; have HF := f_; clear n_ f_ hb
           refine hK.out _ _ ⟨(HS.out.cell m1_).1, (HS.out.cell m1_).2.1, (HS.out.cell m1_).2.2, (HS.out.cell m0_).1, (HS.out.cell m0_).2.1, (HS.out.cell m0_).2.2, (FX.lin HF m2_).1, (FX.lin HF m2_).2.1, (FX.lin HF m2_).2.2.1, (FX.lin HF m2_).2.2.2.1, (FX.lin HF m2_).2.2.2.2⟩ (fun hHeld => ?_)
           clear hK K
           refine nO_ 51 ?_
           exact nP_ (hJ (gx, gy) _ ⟨HS.out.below, HF.out⟩)
         ·
          refine box_step ?hg (N := 10) ?hd (cs := #[.int .i64 0, .int .i64 0]) (t := 37) ?hr ?_; (case hd => rfl); (case hg => rfl); (case hr => first | (go_simp; done) | (go_simp; rfl))
          intro gx hg wk hbox hb
          have n_ := Aside0.mk (HS.out.next hb); have f_ := Aside0.mk (HF.out.made HS.out.below.size hg hbox hb); clear HS HF; have HS := n_; have HF := f_; clear n_ f_ hg hbox hb
          refine hK.out _ _ ⟨(HS.out.cell m1_).1, (HS.out.cell m1_).2.1, (HS.out.cell m1_).2.2, (HS.out.cell m0_).1, (HS.out.cell m0_).2.1, (HS.out.cell m0_).2.2, (FX.lin HF m2_).1, (FX.lin HF m2_).2.1, (FX.lin HF m2_).2.2.1, (FX.lin HF m2_).2.2.2.1, (FX.lin HF m2_).2.2.2.2⟩ (fun hHeld => ?_)
          clear hK K
          refine nO_ 10 ?_
          refine one_ (i := 2) (N := some 48) (mB 10 223) rfl rfl (one_of HT_.out (by kernel_rfl)) (by decide) (fun K hK => ?_)
          refine goes_ Try.func43 (by kernel_rfl) rfl #[X.val, .agg #[.int .i64 x, .int .i64 sx, .int .i64 y, .int .i64 sy, .int .i64 c]] (by rfl) rfl rfl vL ?_
          with_reducible refine (R1.out (LS.oc HS m1_) (LS.bel HS)).mono ?_
          rintro e wk ⟨rfl, hb⟩; refine ⟨_, rfl, ?_⟩
          have n_ := Aside0.mk (HS.out.next hb); have f_ := Aside0.mk (HF.out.next hb); clear HS HF; have HS := n_; have HF := f_; clear n_ f_ hb
          refine hK.out _ _ ⟨(HS.out.cell m1_).1, (HS.out.cell m1_).2.1, (HS.out.cell m1_).2.2, (HS.out.cell m0_).1, (HS.out.cell m0_).2.1, (HS.out.cell m0_).2.2, (FX.lin HF m2_).1, (FX.lin HF m2_).2.1, (FX.lin HF m2_).2.2.1, (FX.lin HF m2_).2.2.2.1, (FX.lin HF m2_).2.2.2.2⟩ (fun hHeld => ?_)
          clear hK K
          refine nO_ 48 ?_
          refine one_ (i := 5) (N := some 51) (mB 10 255) rfl rfl (one_of HT_.out (by kernel_rfl)) (by decide) (fun K hK => ?_)
          refine goes_ Try.func43 (by kernel_rfl) rfl #[cv.val, .agg #[.int .i64 x, .int .i64 sx, .int .i64 y, .int .i64 sy, .int .i64 c]] (by rfl) rfl rfl vL ?_
          with_reducible refine (R2.out (LS.oc HS m0_) (LS.bel HS)).mono ?_
          rintro e wk ⟨rfl, hb⟩; refine ⟨_, rfl, ?_⟩
          have n_ := Aside0.mk (HS.out.next hb); have f_ := Aside0.mk (HF.out.next hb); clear HS HF; have HS := n_; have HF := f_; clear n_ f_ hb
          refine hK.out _ _ ⟨(HS.out.cell m1_).1, (HS.out.cell m1_).2.1, (HS.out.cell m1_).2.2, (HS.out.cell m0_).1, (HS.out.cell m0_).2.1, (HS.out.cell m0_).2.2, (FX.lin HF m2_).1, (FX.lin HF m2_).2.1, (FX.lin HF m2_).2.2.1, (FX.lin HF m2_).2.2.2.1, (FX.lin HF m2_).2.2.2.2⟩ (fun hHeld => ?_)
          clear hK K
          refine nO_ 51 ?_
          exact nP_ (hJ (gx, gy) _ ⟨HS.out.below, HF.out⟩)
      rintro ⟨gx, gy⟩ W4 ⟨HB4, HF4⟩
      clear HS HF hHeld
      dsimp only at HF4
      have HB := Aside0.mk HB4
      have HF := Aside0.mk HF4
      have kne := HF4.nes
      have kne' := fun e => kne (Eq.symm e)
      clear HB4 HF4
      dsimp only at kne kne'
      obtain ⟨p0, p1, p2, p3⟩ := FX.two HF m0_
      obtain ⟨q0, q1, q2, q3⟩ := FX.two HF m1_
      have GX := Aside0.mk (HF.out.all _ m0_).2
      have GY := Aside0.mk (HF.out.all _ m1_).2
      dsimp only at GX GY
      refine nS_ ?_
      refine last_ (i := 8) (N := none) (mB 10 511) rfl rfl (one_of HT_.out (by kernel_rfl)) (by decide) (fun K hK => ?_)
      refine skip_ (w1 := ?_) (by rfl) rfl ?_ ?_
      rotate_left
      · go_simp
        rfl
      refine hK.out _ _ ?_
      clear hK K
      refine last_ (i := 9) (N := none) (mB 10 1023) rfl rfl (one_of HT_.out (by kernel_rfl)) (by decide) (fun K hK => ?_)
      refine skip_ (w1 := ?_) (by rfl) rfl ?_ ?_
      rotate_left
      · go_simp
        rfl
      refine hK.out _ _ ?_
      clear hK K
      refine done_ (done_of HT_.out (by kernel_rfl)) ?_
      clear p0 p1 p2 p3 q0 q1 q2 q3 kne kne' HT_ HW_
      unfold OnlyN
      have f_ := Aside0.mk ((HF.out.put2 (a' := .int .i64 r.1) (b' := .int .i64 r.2)).swap.put2 (a' := .int .i64 r'.1) (b' := .int .i64 r'.2))
      have n_ := Aside0.mk (below_set (j := 1) (v := .int .i64 r'.2) (below_set (j := 0) (v := .int .i64 r'.1) (below_set (j := 1) (v := .int .i64 r.2) (below_set (j := 0) (v := .int .i64 r.1) HB.out GX.out) GX.out) GY.out) GY.out)
      clear HF HB
      have HF := f_
      have HB := n_
      clear f_ n_
      generalize hW5 : ((((W4.setCell ⟨gx, 0, none⟩ (.int .i64 r.1)).setCell ⟨gx, 1, none⟩ (.int .i64 r.2)).setCell ⟨gy, 0, none⟩ (.int .i64 r'.1)).setCell ⟨gy, 1, none⟩ (.int .i64 r'.2)) = W5 at HF HB ⊢
      clear hW5
      obtain ⟨q0, q1, q2, q3⟩ := FX.two HF m0_
      obtain ⟨p0, p1, p2, p3⟩ := FX.two HF m1_
      by_cases hr : r.1 ≤ r.2
      · have h1 := MON.out hr
        have d0 : decide (r.1 ≤ r.2) = true := decide_eq_true hr
        have d1 : decide (r.1 < r'.1) = false := decide_eq_false (by omega)
        have d2 : decide (r'.2 < r.2) = false := decide_eq_false (by omega)
        clear hr h1
        go_wp2_with (first | (go_at_call 20; (with_reducible refine (awake_o).mono ?_); rintro e wk ⟨rfl, hb⟩; have n_ := Aside0.mk (HB.out.trans (hb.mono HB.out.size)); clear HB; have HB := n_; clear n_ hb))
        go_ret
        exact ⟨rfl, HB.out⟩
      · have d0 : decide (r.1 ≤ r.2) = false := decide_eq_false hr
        clear hr
        go_wp2_with (first | (go_at_call 20; (with_reducible refine (awake_o).mono ?_); rintro e wk ⟨rfl, hb⟩; have n_ := Aside0.mk (HB.out.trans (hb.mono HB.out.size)); clear HB; have HB := n_; clear n_ hb))
        go_ret
        exact ⟨rfl, HB.out⟩
  · cases b with
    | false =>
      clear hbe
      go_wp2_with (first | (go_at_call 32; (with_reducible refine (B2.out (LS.oc HS m0_) (LS.oc HS m1_) (LS.bel HS)).mono ?_); rintro e wk ⟨rfl, hb⟩; have n_ := Aside0.mk ((LS.to HS).next hb); have f_ := Aside0.mk ((FX.to HF).next hb); clear HF; have HF := f_; clear f_; clear HS; have HS := n_; clear n_ hb; clear ka0 ka1 ka2 fa0 fa1 fa2; obtain ⟨⟨ka0, ka1, ka2⟩, fa0, fa1, fa2⟩ := LS.cells HS m0_; clear kb0 kb1 kb2 fb0 fb1 fb2; obtain ⟨⟨kb0, kb1, kb2⟩, fb0, fb1, fb2⟩ := LS.cells HS m1_; clear kc0 kc1 kc2 fc0 fc1 fc2; obtain ⟨⟨kc0, kc1, kc2⟩, fc0, fc1, fc2⟩ := LS.cells HS m2_) | (go_at_call 20; (with_reducible refine (awake_o).mono ?_); rintro e wk ⟨rfl, hb⟩; have n_ := Aside0.mk ((LS.to HS).next hb); have f_ := Aside0.mk ((FX.to HF).next hb); clear HF; have HF := f_; clear f_; clear HS; have HS := n_; clear n_ hb; clear ka0 ka1 ka2 fa0 fa1 fa2; obtain ⟨⟨ka0, ka1, ka2⟩, fa0, fa1, fa2⟩ := LS.cells HS m0_; clear kb0 kb1 kb2 fb0 fb1 fb2; obtain ⟨⟨kb0, kb1, kb2⟩, fb0, fb1, fb2⟩ := LS.cells HS m1_; clear kc0 kc1 kc2 fc0 fc1 fc2; obtain ⟨⟨kc0, kc1, kc2⟩, fc0, fc1, fc2⟩ := LS.cells HS m2_))
      go_ret
      exact ⟨rfl, LS.bel HS⟩
    | true =>
      have he : e = false := by cases e <;> simp_all
      subst he
      clear hbe
      go_wp2_with (first | (go_at_call 32; (with_reducible refine (B2.out (LS.oc HS m0_) (LS.oc HS m1_) (LS.bel HS)).mono ?_); rintro e wk ⟨rfl, hb⟩; have n_ := Aside0.mk ((LS.to HS).next hb); have f_ := Aside0.mk ((FX.to HF).next hb); clear HF; have HF := f_; clear f_; clear HS; have HS := n_; clear n_ hb; clear ka0 ka1 ka2 fa0 fa1 fa2; obtain ⟨⟨ka0, ka1, ka2⟩, fa0, fa1, fa2⟩ := LS.cells HS m0_; clear kb0 kb1 kb2 fb0 fb1 fb2; obtain ⟨⟨kb0, kb1, kb2⟩, fb0, fb1, fb2⟩ := LS.cells HS m1_; clear kc0 kc1 kc2 fc0 fc1 fc2; obtain ⟨⟨kc0, kc1, kc2⟩, fc0, fc1, fc2⟩ := LS.cells HS m2_) | (go_at_call 32; (with_reducible refine (E2.out (LS.oc HS m1_) (LS.oc HS m2_) (LS.bel HS)).mono ?_); rintro e wk ⟨rfl, hb⟩; have n_ := Aside0.mk ((LS.to HS).next hb); have f_ := Aside0.mk ((FX.to HF).next hb); clear HF; have HF := f_; clear f_; clear HS; have HS := n_; clear n_ hb; clear ka0 ka1 ka2 fa0 fa1 fa2; obtain ⟨⟨ka0, ka1, ka2⟩, fa0, fa1, fa2⟩ := LS.cells HS m0_; clear kb0 kb1 kb2 fb0 fb1 fb2; obtain ⟨⟨kb0, kb1, kb2⟩, fb0, fb1, fb2⟩ := LS.cells HS m1_; clear kc0 kc1 kc2 fc0 fc1 fc2; obtain ⟨⟨kc0, kc1, kc2⟩, fc0, fc1, fc2⟩ := LS.cells HS m2_) | (go_at_call 20; (with_reducible refine (awake_o).mono ?_); rintro e wk ⟨rfl, hb⟩; have n_ := Aside0.mk ((LS.to HS).next hb); have f_ := Aside0.mk ((FX.to HF).next hb); clear HF; have HF := f_; clear f_; clear HS; have HS := n_; clear n_ hb; clear ka0 ka1 ka2 fa0 fa1 fa2; obtain ⟨⟨ka0, ka1, ka2⟩, fa0, fa1, fa2⟩ := LS.cells HS m0_; clear kb0 kb1 kb2 fb0 fb1 fb2; obtain ⟨⟨kb0, kb1, kb2⟩, fb0, fb1, fb2⟩ := LS.cells HS m1_; clear kc0 kc1 kc2 fc0 fc1 fc2; obtain ⟨⟨kc0, kc1, kc2⟩, fc0, fc1, fc2⟩ := LS.cells HS m2_))
      go_ret
      exact ⟨rfl, LS.bel HS⟩
end Go.Proofs.Ytomgebmimgaojaa.QO
end
end
section
/- What a reading of an argument tells of its cells, kind by kind: for the rows of laws over structs and nested slices. -/
namespace Go.Proofs.Ytomgebmimgaojaa.Open
open Go.RowKit Go.ChangeShapes Go.WideShapes Go.Proofs.YtomgebmimgaojaaW.PrintWords Go.Proofs.YtomgebmimgaojaaW.PrintMore
/-- every reading of type t tells of an a of which R and Q hold -/
def Opens {α : Type} (P : Program) (t : TypeId) (R : World → α → List Value → Prop) (Q : α → Prop) : Prop :=
  ∀ (H : Type) (enc : TypeId × Value → H) (w : World) (base : Nat) (spare : Nat → Bool) (held : Bool) (fuel : Nat) (cs : List Value) (x : DataW H × List MemPlace),
    DataW.trod enc P w base spare held fuel t cs = some x → (∀ n ∈ DataW.weights P t x.1, n ≤ 140737488351232) → ∃ a : α, R w a cs ∧ Q a
variable {P : Program} {t e : TypeId}
theorem opens_int {k : IntKind} (ht : P.underlying t = some (.int k)) : Opens P t (Kd.int k).K (fun n => (Lit.int k n).wf = true) := by
  intro H enc w base spare held fuel cs x h _
  obtain ⟨n, rfl, _, hw⟩ := DataW.trod_int ht h
  exact ⟨n, rfl, hw⟩
theorem opens_bool (ht : P.underlying t = some .bool) : Opens P t Kd.bool.K (fun _ => True) := by
  intro H enc w base spare held fuel cs x h _
  obtain ⟨n, rfl, _⟩ := DataW.trod_bool ht h
  exact ⟨n, rfl, trivial⟩
theorem opens_string (ht : P.underlying t = some .string) : Opens P t Kd.string.K (fun s => s.size ≤ 140737488351232) := by
  intro H enc w base spare held fuel cs x h hw
  obtain ⟨s, rfl, rfl, _⟩ := DataW.trod_string ht h
  refine ⟨s, rfl, ?_⟩
  have := hw s.data.toList.length (by simp [DataW.weights])
  simpa using this
theorem weightsAll_mem {H : Type} {l : List (DataW H)} {d : DataW H} (hd : d ∈ l) {n : Nat} (hn : n ∈ DataW.weights P e d) : n ∈ DataW.weightsAll P e l := by
  induction l with
  | nil => cases hd
  | cons y r ih =>
    unfold DataW.weightsAll
    rcases List.mem_cons.1 hd with rfl | h
    · exact List.mem_append_left _ hn
    · exact List.mem_append_right _ (ih h)
theorem weightsEach_mem {H : Type} : ∀ {ts : List TypeId} {l : List (DataW H)} {i : Nat} {t : TypeId} {d : DataW H}, ts[i]? = some t → l[i]? = some d → ∀ {n : Nat}, n ∈ DataW.weights P t d → n ∈ DataW.weightsEach P ts l
  | [], _, i, _, _, h, _, _, _ => by simp at h
  | _ :: _, [], i, _, _, _, h, _, _ => by simp at h
  | t' :: ts, d' :: l, 0, t, d, h1, h2, n, hn => by
    simp at h1 h2; subst h1; subst h2
    unfold DataW.weightsEach; exact List.mem_append_left _ hn
  | t' :: ts, d' :: l, i + 1, t, d, h1, h2, n, hn => by
    simp at h1 h2
    unfold DataW.weightsEach; exact List.mem_append_right _ (weightsEach_mem h1 h2 hn)
theorem all_some {α β : Type} {Q : Nat → α → β → Prop} : ∀ (xs : List β) (_ : ∀ i y, xs[i]? = some y → ∃ a, Q i a y), ∃ l : List α, l.length = xs.length ∧ ∀ i a, l[i]? = some a → ∃ y, xs[i]? = some y ∧ Q i a y
  | [], _ => ⟨[], rfl, fun i a h => by simp at h⟩
  | y :: r, h => by
    obtain ⟨a0, h0⟩ := h 0 y rfl
    obtain ⟨l, hl, hr⟩ := all_some (Q := fun i a y => Q (i + 1) a y) r (fun i y hy => h (i + 1) y (by simpa using hy))
    refine ⟨a0 :: l, by simp [hl], fun i a hi => ?_⟩
    cases i with
    | zero => simp at hi; subst hi; exact ⟨y, rfl, h0⟩
    | succ i => obtain ⟨z, hz, hq⟩ := hr i a (by simpa using hi); exact ⟨z, by simpa using hz, hq⟩
theorem opens_slice {α : Type} {d : Kd α} {Q : α → Prop} {B : Nat} (ht : P.underlying t = some (.slice e)) (hs : P.cellsOf e = d.sz) (hB : P.bytesOf e = B) (ho : Opens P e d.K Q) :
    Opens P t (Kd.slice e d).K (fun l => l.length * B ≤ 140737488351232 ∧ l.length ≤ maxLen ∧ ∀ x ∈ l, Q x) := by
  intro H enc w base spare held fuel cs x h hw
  rcases DataW.trod_slice ht h with ⟨rfl, _⟩ | ⟨a, len, cap, elems, rest, n, _, rfl, rfl, hb, hl, hc, hlen, hel, _, _⟩
  · exact ⟨[], ⟨none, 0, rfl, Nat.le_refl _, ⟨rfl, by simp, fun h => absurd h (by simp)⟩⟩, by simp, by simp, fun x hx => by cases hx⟩
  · have hwt : ∀ m ∈ DataW.weights P t (.slice (elems.map (·.1)) (rest.map (·.1))), m ≤ 140737488351232 := hw
    have each : ∀ i y, elems[i]? = some y → ∃ a' : α, (∃ c : List Value, c.length = d.sz ∧ d.K w a' c ∧ ∀ j u, c[j]? = some u → w.cell? (a.add (i * d.sz + j)) = some u) ∧ Q a' := by
      intro i y hy
      have hi : i < len := by rw [← hlen]; exact (List.getElem?_eq_some_iff.1 hy).1
      have h1 := hel i hi
      rw [hy] at h1
      obtain ⟨c, hc1, hc2⟩ := Option.bind_eq_some_iff.1 h1
      obtain ⟨a', hk, hq⟩ := ho H enc w base spare held n c y hc2 (fun m hm => hwt m (by
        simp only [DataW.weights, ht]
        exact List.mem_cons_of_mem _ (List.mem_append_left _ (weightsAll_mem (List.mem_map_of_mem (List.mem_of_getElem? hy)) hm))))
      refine ⟨a', ⟨c, d.K_len hk, hk, fun j u hj => ?_⟩, hq⟩
      unfold World.cells? at hc1
      split at hc1
      · have hlc := mapM_some_length hc1
        have hj' : j < P.cellsOf e := by have := (List.getElem?_eq_some_iff.1 hj).1; rw [List.length_range] at hlc; omega
        have := mapM_some_get hc1 j j (by simp [hj'])
        rw [hj] at this
        rw [← hs, ← Addr.add_add]
        exact this
      · cases hc1
    obtain ⟨l, hll, hlr⟩ := all_some elems each
    refine ⟨l, ⟨some a, cap, ?_, by omega, ⟨rfl, ?_, fun _ => ⟨a, rfl, fun j p hj => ?_⟩⟩⟩, ?_, by omega, fun x hx => ?_⟩
    · rw [hll, hlen]
    · unfold maxLen at hc; omega
    · obtain ⟨_, _, ⟨c, h1, h2, h3⟩, _⟩ := hlr j p hj
      exact ⟨c, h1, h2, h3⟩
    · have := hwt (((elems.map (·.1)).length + (rest.map (·.1)).length) * P.bytesOf e) (by simp only [DataW.weights, ht]; exact List.mem_cons_self ..)
      rw [hB] at this
      simp only [List.length_map] at this
      rw [hll]
      exact Nat.le_trans (Nat.mul_le_mul_right _ (by omega)) this
    · obtain ⟨i, hi⟩ := List.getElem?_of_mem hx
      obtain ⟨_, _, _, hq⟩ := hlr i x hi
      exact hq
/-- one field of a struct -/
theorem open_field {H : Type} {enc : TypeId × Value → H} {w : World} {base : Nat} {spare : Nat → Bool} {held : Bool} {fs : Array Field} {xs : List (DataW H × List MemPlace)} {n : Nat} {cs : List Value}
    (ht : P.underlying t = some (.struct fs)) (hw : ∀ m ∈ DataW.weights P t (.agg (xs.map (·.1))), m ≤ 140737488351232) (hx : xs.length = fs.size)
    (hf : ∀ (i : Nat) (f : Field), fs[i]? = some f → DataW.trod enc P w base spare held n f.type ((cs.drop f.offset).take (P.cellsOf f.type)) = xs[i]?)
    (i : Nat) (f : Field) (hi : fs[i]? = some f) (o s : Nat) (eo : f.offset = o) (es : P.cellsOf f.type = s) {α : Type} {R : World → α → List Value → Prop} {Q : α → Prop} (ho : Opens P f.type R Q) : ∃ a : α, R w a ((cs.drop o).take s) ∧ Q a := by
  have h1 := hf i f hi
  rw [eo, es] at h1
  have hlt : i < xs.length := by rw [hx]; exact (Array.getElem?_eq_some_iff.1 hi).1
  rw [List.getElem?_eq_getElem hlt] at h1
  refine ho H enc w base spare held n _ _ h1 (fun m hm => hw m ?_)
  simp only [DataW.weights, ht]
  refine weightsEach_mem (i := i) (t := f.type) (d := xs[i].1) ?_ ?_ hm
  · simp only [List.getElem?_map, Array.getElem?_toList, hi, Option.map_some]
  · simp only [List.getElem?_map, List.getElem?_eq_getElem hlt, Option.map_some]
/-- an argument's slice -/
theorem arg_slice {H : Type} {enc : TypeId × Value → H} {w : World} {base : Nat} {spare : Nat → Bool} {held : Bool} {v : Value} {dd : DataW H} {ps : List MemPlace} {α : Type} {d : Kd α} {Q : List α → Prop}
    (ho : Opens P t (Kd.slice e d).K Q) (h : DataW.Trod enc P w base spare held t v dd ps) (hw : ∀ m ∈ DataW.weights P t dd, m ≤ 140737488351232) (hv : ∃ a n c, v = .slice a n c) :
    ∃ A c l, v = .slice A l.length c ∧ l.length ≤ c ∧ Kd.C d w A l.length l ∧ Q l := by
  obtain ⟨fuel, hf⟩ := h
  obtain ⟨l, ⟨A, c, hc, hl, hr⟩, hq⟩ := ho H enc w base spare held fuel _ _ hf hw
  obtain ⟨a, n, c', rfl⟩ := hv
  simp [Value.cells] at hc
  obtain ⟨rfl, rfl, rfl⟩ := hc
  exact ⟨_, _, l, rfl, hl, hr, hq⟩
/-- a row's data bear their weights one by one -/
theorem weights_at {H : Type} {ts : List TypeId} {ds : List (DataW H)} (hsz : (DataW.weightsEach P ts ds).all (· ≤ reachBytes) = true) {j : Nat} {d : DataW H} (h1 : ts[j]? = some t) (h2 : ds[j]? = some d) : ∀ m ∈ DataW.weights P t d, m ≤ 140737488351232 := by
  intro m hm
  exact of_decide_eq_true (List.all_eq_true.1 hsz m (weightsEach_mem h1 h2 hm))
end Go.Proofs.Ytomgebmimgaojaa.Open
end
