/- Own texts of this claim, joined: QOx1044, QOx1080, QOx1081, QOx1045, QOx1011, Places, Arith, RefTight, Most, Bnds -/
import Derived.Test.YtomgebmimgaojaaBOBn0
import Derived.Test.YtomgebmimgaojaaBOBn1
import Derived.Test.YtomgebmimgaojaaBOBn2
import Derived.Test.YtomgebmimgaojaaBOBn3
section
/- Written by a program of this session out of the translation. -/
noncomputable section
namespace Go.Proofs.Ytomgebmimgaojaa.QO
open Go.RowKit Go.Proofs.YtomgebmimgaojaaW.PrintWords Go.Proofs.YtomgebmimgaojaaW.PrintLast
set_option linter.unusedVariables false
set_option linter.unusedSimpArgs false
/-! ### gimbalref11_Bounds: function 44 -/
def gimbalref11_Bounds.j0 : Nat → Bool → Int → Int → Int → Int → Int → List Int → List Int → Bool → Option (Int × Int)
 | 0, _, _, _, _, _, _, _, _, _ => none
 | k + 1, x36, x307000, x307001, x307002, x307003, x307004, x316000, x316001, x316002 => if x36 = true then (some ((-4611686018427387904), 4611686018427387904)) else ((gimbalref11_greatest.f k x316000 x316001 x316002 x307000 x307001 x307002 x307003 x307004).bind fun t320 => (if t320 = 4611686018427387904 then ((gimbalref11_greatest.f k x316000 x316001 x316002 x307000 (wrap64 (-x307001)) x307002 (wrap64 (-x307003)) x307004).bind fun t322 => (if t322 = 4611686018427387904 then (some ((-4611686018427387904), 4611686018427387904)) else (some (wrap64 (x307004 - t322), 4611686018427387904)))) else ((gimbalref11_greatest.f k x316000 x316001 x316002 x307000 (wrap64 (-x307001)) x307002 (wrap64 (-x307003)) x307004).bind fun t324 => (if t324 = 4611686018427387904 then (some ((-4611686018427387904), wrap64 (t320 + x307004))) else (some (wrap64 (x307004 - t324), wrap64 (t320 + x307004)))))))
def gimbalref11_Bounds.f (k : Nat) (l0_0 : List Int) (l0_1 : List Int) (a0_2 : Bool) (a1_0 : Int) (a1_1 : Int) (a1_2 : Int) (a1_3 : Int) (a1_4 : Int) : Option (Int × Int) := (gimbalref11_Close.f k l0_0 l0_1 a0_2).bind fun bt308 => (if bt308.2.2 = true then (some (1, 0)) else (if a1_1 = 0 then (if a1_3 = 0 then (gimbalref11_Bounds.j0 k false a1_0 a1_1 a1_2 a1_3 a1_4 bt308.1 bt308.2.1 bt308.2.2) else ((gimbalref11_Place.f k bt308.1 bt308.2.1 bt308.2.2 a1_2).bind fun t316 => (gimbalref11_Bounds.j0 k (decide (t316 < 0)) a1_0 a1_1 a1_2 a1_3 a1_4 bt308.1 bt308.2.1 bt308.2.2))) else ((gimbalref11_Place.f k bt308.1 bt308.2.1 bt308.2.2 a1_0).bind fun t317 => (if t317 < 0 then (gimbalref11_Bounds.j0 k true a1_0 a1_1 a1_2 a1_3 a1_4 bt308.1 bt308.2.1 bt308.2.2) else (if a1_3 = 0 then (gimbalref11_Bounds.j0 k false a1_0 a1_1 a1_2 a1_3 a1_4 bt308.1 bt308.2.1 bt308.2.2) else ((gimbalref11_Place.f k bt308.1 bt308.2.1 bt308.2.2 a1_2).bind fun t318 => (gimbalref11_Bounds.j0 k (decide (t318 < 0)) a1_0 a1_1 a1_2 a1_3 a1_4 bt308.1 bt308.2.1 bt308.2.2)))))))
theorem gimbalref11_Bounds.mono_l : ∀ k, (∀ y0 y1 y2 y3 y4 y5 y6 y7 y8, LeO (gimbalref11_Bounds.j0 k y0 y1 y2 y3 y4 y5 y6 y7 y8) (gimbalref11_Bounds.j0 (k + 1) y0 y1 y2 y3 y4 y5 y6 y7 y8))
 | 0 => fun _ _ _ _ _ _ _ _ _ r h => by simp [gimbalref11_Bounds.j0] at h
 | k + 1 => by
  have ih0 := gimbalref11_Bounds.mono_l k
  ·
   intro y0 y1 y2 y3 y4 y5 y6 y7 y8
   unfold gimbalref11_Bounds.j0
   repeat' first
   | (with_reducible exact ih0 _ _ _ _ _ _ _ _ _)
   | (with_reducible exact gimbalref11_Close.mono _ _ _ _)
   | (with_reducible exact gimbalref11_Place.mono _ _ _ _ _)
   | (with_reducible exact gimbalref11_greatest.mono _ _ _ _ _ _ _ _ _)
   | (with_reducible exact LeO.refl _)
   | (with_reducible exact LeO.none _)
   | (with_reducible refine LeO.ite ?_ ?_)
   | (with_reducible refine LeO.bind ?_ (fun _ => ?_))
   | exact ih0 _ _ _ _ _ _ _ _ _
   | exact gimbalref11_Close.mono _ _ _ _
   | exact gimbalref11_Place.mono _ _ _ _ _
   | exact gimbalref11_greatest.mono _ _ _ _ _ _ _ _ _
   | exact LeO.none _
   | refine LeO.ite ?_ ?_
   | refine LeO.bind ?_ (fun _ => ?_)
theorem gimbalref11_Bounds.mono : ∀ a0 a1 a2 a3 a4 a5 a6 a7 k, LeO (gimbalref11_Bounds.f k a0 a1 a2 a3 a4 a5 a6 a7) (gimbalref11_Bounds.f (k + 1) a0 a1 a2 a3 a4 a5 a6 a7) := by
 intro a0 a1 a2 a3 a4 a5 a6 a7 k
 have ih0 := gimbalref11_Bounds.mono_l k
 unfold gimbalref11_Bounds.f
 repeat' first
  | (with_reducible exact ih0 _ _ _ _ _ _ _ _ _)
  | (with_reducible exact gimbalref11_Close.mono _ _ _ _)
  | (with_reducible exact gimbalref11_Place.mono _ _ _ _ _)
  | (with_reducible exact gimbalref11_greatest.mono _ _ _ _ _ _ _ _ _)
  | (with_reducible exact LeO.refl _)
  | (with_reducible exact LeO.none _)
  | (with_reducible refine LeO.ite ?_ ?_)
  | (with_reducible refine LeO.bind ?_ (fun _ => ?_))
  | exact ih0 _ _ _ _ _ _ _ _ _
  | exact gimbalref11_Close.mono _ _ _ _
  | exact gimbalref11_Place.mono _ _ _ _ _
  | exact gimbalref11_greatest.mono _ _ _ _ _ _ _ _ _
  | exact LeO.none _
  | refine LeO.ite ?_ ?_
  | refine LeO.bind ?_ (fun _ => ?_)
def gimbalref11_Bounds.T11 : Bool × List (List Nat × List Nat) := (true, [([], []), ([0], [0]), ([1], [1]), ([], []), ([3], [3]), ([4], [4]), ([0, 1, 2], []), ([6, 2, 0, 1, 2], [2, 6]), ([0, 1, 2, 3, 4, 5, 6, 7], []), ([8, 5, 7, 0, 1, 2, 3, 4, 5, 6, 7], [5, 8])])
def gimbalref11_Bounds.B11 : List Nat := [0, 1, 3, 0, 8, 24, 7, 71, 255, 511]
theorem gimbalref11_Bounds.tab11 : rtab .any (opsOf Try.f44 11) = gimbalref11_Bounds.T11 := by kernel_rfl
theorem gimbalref11_Bounds.bits11 : waitsOk gimbalref11_Bounds.T11.2 gimbalref11_Bounds.B11 = true := by kernel_rfl
set_option maxHeartbeats 8000000 in
set_option maxRecDepth 100000 in
theorem gimbalref11_Bounds.calls (k : Nat) (A0_0 : Option Addr) (c0_0 : Nat) (l0_0 : List Int) (A0_1 : Option Addr) (c0_1 : Nat) (l0_1 : List Int) (a0_2 : Bool) (a1_0 : Int) (a1_1 : Int) (a1_2 : Int) (a1_3 : Int) (a1_4 : Int) (r1 : Int) (r2 : Int) (w : World) (hr0_0 : Kd.C (Kd.int .i64) w A0_0 l0_0.length l0_0) (hc0_0 : l0_0.length ≤ c0_0) (hr0_1 : Kd.C (Kd.int .i64) w A0_1 l0_1.length l0_1) (hc0_1 : l0_1.length ≤ c0_1) (h : gimbalref11_Bounds.f k l0_0 l0_1 a0_2 a1_0 a1_1 a1_2 a1_3 a1_4 = some (r1, r2)) :
 Calls Try.prog 44 #[.agg #[.slice A0_0 l0_0.length c0_0, .slice A0_1 l0_1.length c0_1, .bool a0_2], .agg #[.int .i64 a1_0, .int .i64 a1_1, .int .i64 a1_2, .int .i64 a1_3, .int .i64 a1_4]] w fun e w' => e = .returned (.agg #[.int .i64 r1, .int .i64 r2]) ∧ Below w.heap.size w w' := by
 have hu25 := Try.underlying25
 have hu49 := Try.underlying49
 have hu37 := Try.underlying37
 have HR0_0 := Aside0.mk hr0_0
 have HC0_0 := Aside0.mk hc0_0
 clear hr0_0 hc0_0
 have HR0_1 := Aside0.mk hr0_1
 have HC0_1 := Aside0.mk hc0_1
 clear hr0_1 hc0_1
 have HB := Aside0.mk (Below.refl w.heap.size w)
 have H : ((gimbalref11_Close.f k l0_0 l0_1 a0_2).bind fun bt308 => (if bt308.2.2 = true then (some (1, 0)) else (if a1_1 = 0 then (if a1_3 = 0 then (gimbalref11_Bounds.j0 k false a1_0 a1_1 a1_2 a1_3 a1_4 bt308.1 bt308.2.1 bt308.2.2) else ((gimbalref11_Place.f k bt308.1 bt308.2.1 bt308.2.2 a1_2).bind fun t316 => (gimbalref11_Bounds.j0 k (decide (t316 < 0)) a1_0 a1_1 a1_2 a1_3 a1_4 bt308.1 bt308.2.1 bt308.2.2))) else ((gimbalref11_Place.f k bt308.1 bt308.2.1 bt308.2.2 a1_0).bind fun t317 => (if t317 < 0 then (gimbalref11_Bounds.j0 k true a1_0 a1_1 a1_2 a1_3 a1_4 bt308.1 bt308.2.1 bt308.2.2) else (if a1_3 = 0 then (gimbalref11_Bounds.j0 k false a1_0 a1_1 a1_2 a1_3 a1_4 bt308.1 bt308.2.1 bt308.2.2) else ((gimbalref11_Place.f k bt308.1 bt308.2.1 bt308.2.2 a1_2).bind fun t318 => (gimbalref11_Bounds.j0 k (decide (t318 < 0)) a1_0 a1_1 a1_2 a1_3 a1_4 bt308.1 bt308.2.1 bt308.2.2)))))))) = some (r1, r2) := h
 clear h
 replace H := Option.bind_eq_some_iff.mp H
 obtain ⟨⟨t308, t311, t314⟩, A30, H⟩ := H
 replace H : (if t314 = true then (some (1, 0)) else (if a1_1 = 0 then (if a1_3 = 0 then (gimbalref11_Bounds.j0 k false a1_0 a1_1 a1_2 a1_3 a1_4 t308 t311 t314) else ((gimbalref11_Place.f k t308 t311 t314 a1_2).bind fun t316 => (gimbalref11_Bounds.j0 k (decide (t316 < 0)) a1_0 a1_1 a1_2 a1_3 a1_4 t308 t311 t314))) else ((gimbalref11_Place.f k t308 t311 t314 a1_0).bind fun t317 => (if t317 < 0 then (gimbalref11_Bounds.j0 k true a1_0 a1_1 a1_2 a1_3 a1_4 t308 t311 t314) else (if a1_3 = 0 then (gimbalref11_Bounds.j0 k false a1_0 a1_1 a1_2 a1_3 a1_4 t308 t311 t314) else ((gimbalref11_Place.f k t308 t311 t314 a1_2).bind fun t318 => (gimbalref11_Bounds.j0 k (decide (t318 < 0)) a1_0 a1_1 a1_2 a1_3 a1_4 t308 t311 t314))))))) = some (r1, r2) := H
 have A3 := Aside0.mk A30
 clear A30
 by_cases c4 : t314 = true
 ·
  subst c4
  have H1 : (some (1, 0)) = some (r1, r2) := by rw [if_pos rfl] at H; exact H
  clear H
  have H := H1
  clear H1
  simp only [Option.some.injEq, Prod.mk.injEq] at H
  obtain ⟨rfl, rfl⟩ := H
  go_enter Try.func44, Try.ntmps44
  go_wp2_with (first | ((with_reducible refine gate_dst (N := 2) rfl ?_); refine box_event ?hg (N := 2) ?hd (cs := #[.slice A0_0 l0_0.length c0_0, .slice A0_1 l0_1.length c0_1, .bool a0_2]) (t := 25) ?hr ?_; (case hd => rfl); (case hg => rfl); (case hr => first | (go_simp; done) | (go_simp; rfl)); intro gb305 hg w5 hbox hb; have BK305 := Aside0.mk (hbox); have GW305 := vS hg HB; have GE305 := vS hg HB; replace HB := vWs HB hb; clear hb hbox hg) | ((with_reducible refine gate_dst (N := 3) rfl ?_); refine box_event ?hg (N := 3) ?hd (cs := #[.int .i64 a1_0, .int .i64 a1_1, .int .i64 a1_2, .int .i64 a1_3, .int .i64 a1_4]) (t := 49) ?hr ?_; (case hd => rfl); (case hg => rfl); (case hr => first | (go_simp; done) | (go_simp; rfl)); intro gb306 hg w6 hbox hb; have BK306 := Aside0.mk (hbox); have GW306 := vS hg HB; have GE306 := vS hg HB; replace HB := vWs HB hb; have NB305_306 := vNl hg BK305; have NB306_305 := vNg hg BK305; replace BK305 := vBb BK305 hb; clear hb hbox hg) | ((with_reducible refine gate_dst (N := 4) rfl ?_); refine box_event ?hg (N := 4) ?hd (cs := #[.int .i64 0, .int .i64 0]) (t := 37) ?hr ?_; (case hd => rfl); (case hg => rfl); (case hr => first | (go_simp; done) | (go_simp; rfl)); intro gb307 hg w7 hbox hb; have BK307 := Aside0.mk (hbox); have GW307 := vS hg HB; have GE307 := vS hg HB; replace HB := vWs HB hb; have NB305_307 := vNl hg BK305; have NB307_305 := vNg hg BK305; replace BK305 := vBb BK305 hb; have NB306_307 := vNl hg BK306; have NB307_306 := vNg hg BK306; replace BK306 := vBb BK306 hb; clear hb hbox hg; have hnb8 := NB305_306.out; have hnc8 := NB306_305.out; have hnb9 := NB305_307.out; have hnc9 := NB307_305.out; obtain ⟨hcz10_0, hcz10_1, hcz10_2, hfz10_0, hfz10_1, hfz10_2⟩ := vF3 BK305.out) | ((with_reducible refine gate_callee (f := 23) rfl ?_); refine goesL_ (some 11) rfl rfl Try.func23 (by kernel_rfl) rfl #[.agg #[.slice A0_0 l0_0.length c0_0, .slice A0_1 l0_1.length c0_1, .bool a0_2]] rfl vL ?_; (with_reducible refine (gimbalref11_Close.calls k _ _ l0_0 _ _ l0_1 a0_2 t308 t311 true _ ?side1 ?side2 ?side3 ?side4 A3.out).mono ?_); (case side1 => exact vC (Kd.C_below HR0_0.out HB.out)); (case side2 => exact HC0_0.out); (case side3 => exact vC (Kd.C_below HR0_1.out HB.out)); (case side4 => exact HC0_1.out); rintro e w11 ⟨v309, v312, rfl, ho0, ho1, hb⟩; refine ⟨_, rfl, ?_⟩; have HO310 := Aside0.mk (Kd.R_lower ho0 (below_size (vW HB.out))); have HO313 := Aside0.mk (Kd.R_lower ho1 (below_size (vW HB.out))); replace BK305 := vBb BK305 hb; replace BK306 := vBb BK306 hb; replace BK307 := vBb BK307 hb; replace HB := vWs HB hb; (try clear hb); (try clear hb2); (try clear hk); (try clear hi); (try clear ho0); (try clear ho1)) | ((with_reducible refine gate_dst (N := 5) rfl ?_); refine box_event ?hg (N := 5) ?hd (cs := #[.slice none 0 0, .slice none 0 0, .bool false]) (t := 25) ?hr ?_; (case hd => rfl); (case hg => rfl); (case hr => first | (go_simp; done) | (go_simp; rfl)); intro gb315 hg w12 hbox hb; replace HO310 := vRb HO310 hb; replace HO313 := vRb HO313 hb; have BK315 := Aside0.mk (hbox); have GW315 := vS hg HB; have GE315 := vS hg HB; replace HB := vWs HB hb; have NB305_315 := vNl hg BK305; have NB315_305 := vNg hg BK305; replace BK305 := vBb BK305 hb; have NB306_315 := vNl hg BK306; have NB315_306 := vNg hg BK306; replace BK306 := vBb BK306 hb; have NB307_315 := vNl hg BK307; have NB315_307 := vNg hg BK307; replace BK307 := vBb BK307 hb; clear hb hbox hg; obtain ⟨Ao13, co13, eo13⟩ := Kd.R_slice HO310.out; subst eo13; have hnb14 := NB315_305.out; have hnc14 := NB305_315.out; have hnb15 := NB315_306.out; have hnc15 := NB306_315.out; have hnb16 := NB315_307.out; have hnc16 := NB307_315.out; obtain ⟨hcz17_0, hcz17_1, hcz17_2, hfz17_0, hfz17_1, hfz17_2⟩ := vF3 BK315.out; obtain ⟨Ao18, co18, eo18⟩ := Kd.R_slice HO313.out; subst eo18; have hnb19 := NB307_306.out; have hnc19 := NB306_307.out; obtain ⟨hcz20_0, hcz20_1, hfz20_0, hfz20_1⟩ := vF2 BK307.out))
  refine bodyPost_ret (results_cell_row rfl _ _ gb307 37 #[.int .i64 1, .int .i64 0] (0, 0) _ rfl (by (with_reducible repeat (first | refine blk_drewN ?_ _ | refine blk_drew ?_ | refine blk_alloc ?_ _)); refine blk_put (cs := #[.int .i64 1, .int .i64 0]) ?_ 1 _ rfl; (with_reducible repeat (first | refine blk_drewN ?_ _ | refine blk_drew ?_ | refine blk_alloc ?_ _)); refine blk_put (cs := #[.int .i64 0, .int .i64 0]) ?_ 0 _ rfl; (with_reducible repeat (first | refine blk_drewN ?_ _ | refine blk_drew ?_ | refine blk_alloc ?_ _)); refine blk_far ?_ NB307_315.out _; (with_reducible repeat (first | refine blk_drewN ?_ _ | refine blk_drew ?_ | refine blk_alloc ?_ _)); refine blk_far ?_ NB307_315.out _; (with_reducible repeat (first | refine blk_drewN ?_ _ | refine blk_drew ?_ | refine blk_alloc ?_ _)); refine blk_far ?_ NB307_315.out _; (with_reducible repeat (first | refine blk_drewN ?_ _ | refine blk_drew ?_ | refine blk_alloc ?_ _)); exact BK307.out) Try.underlying37 rfl (by kernel_rfl)) rfl ?_
  exact ⟨by first | rfl | (simp [errW_none, errW_some] <;> rfl) | (simp [*, errW_none, errW_some] <;> rfl) | (simp [wrap64]; done), vW HB.out⟩
 ·
  replace c4 := Bool.eq_false_iff.mpr c4
  subst c4
  have H1 : (if a1_1 = 0 then (if a1_3 = 0 then (gimbalref11_Bounds.j0 k false a1_0 a1_1 a1_2 a1_3 a1_4 t308 t311 false) else ((gimbalref11_Place.f k t308 t311 false a1_2).bind fun t316 => (gimbalref11_Bounds.j0 k (decide (t316 < 0)) a1_0 a1_1 a1_2 a1_3 a1_4 t308 t311 false))) else ((gimbalref11_Place.f k t308 t311 false a1_0).bind fun t317 => (if t317 < 0 then (gimbalref11_Bounds.j0 k true a1_0 a1_1 a1_2 a1_3 a1_4 t308 t311 false) else (if a1_3 = 0 then (gimbalref11_Bounds.j0 k false a1_0 a1_1 a1_2 a1_3 a1_4 t308 t311 false) else ((gimbalref11_Place.f k t308 t311 false a1_2).bind fun t318 => (gimbalref11_Bounds.j0 k (decide (t318 < 0)) a1_0 a1_1 a1_2 a1_3 a1_4 t308 t311 false)))))) = some (r1, r2) := by rw [if_neg (show ¬ (false = true) by decide)] at H; exact H
  clear H
  have H := H1
  clear H1
  have HC21 := Aside0.mk H
  clear H
  go_enter Try.func44, Try.ntmps44
  go_upto_region 4 with (first | ((with_reducible refine gate_dst (N := 2) rfl ?_); refine box_event ?hg (N := 2) ?hd (cs := #[.slice A0_0 l0_0.length c0_0, .slice A0_1 l0_1.length c0_1, .bool a0_2]) (t := 25) ?hr ?_; (case hd => rfl); (case hg => rfl); (case hr => first | (go_simp; done) | (go_simp; rfl)); intro gb305 hg w22 hbox hb; have BK305 := Aside0.mk (hbox); have GW305 := vS hg HB; have GE305 := vS hg HB; replace HB := vWs HB hb; clear hb hbox hg) | ((with_reducible refine gate_dst (N := 3) rfl ?_); refine box_event ?hg (N := 3) ?hd (cs := #[.int .i64 a1_0, .int .i64 a1_1, .int .i64 a1_2, .int .i64 a1_3, .int .i64 a1_4]) (t := 49) ?hr ?_; (case hd => rfl); (case hg => rfl); (case hr => first | (go_simp; done) | (go_simp; rfl)); intro gb306 hg w23 hbox hb; have BK306 := Aside0.mk (hbox); have GW306 := vS hg HB; have GE306 := vS hg HB; replace HB := vWs HB hb; have NB305_306 := vNl hg BK305; have NB306_305 := vNg hg BK305; replace BK305 := vBb BK305 hb; clear hb hbox hg) | ((with_reducible refine gate_dst (N := 4) rfl ?_); refine box_event ?hg (N := 4) ?hd (cs := #[.int .i64 0, .int .i64 0]) (t := 37) ?hr ?_; (case hd => rfl); (case hg => rfl); (case hr => first | (go_simp; done) | (go_simp; rfl)); intro gb307 hg w24 hbox hb; have BK307 := Aside0.mk (hbox); have GW307 := vS hg HB; have GE307 := vS hg HB; replace HB := vWs HB hb; have NB305_307 := vNl hg BK305; have NB307_305 := vNg hg BK305; replace BK305 := vBb BK305 hb; have NB306_307 := vNl hg BK306; have NB307_306 := vNg hg BK306; replace BK306 := vBb BK306 hb; clear hb hbox hg; have hnb25 := NB305_306.out; have hnc25 := NB306_305.out; have hnb26 := NB305_307.out; have hnc26 := NB307_305.out; obtain ⟨hcz27_0, hcz27_1, hcz27_2, hfz27_0, hfz27_1, hfz27_2⟩ := vF3 BK305.out) | ((with_reducible refine gate_callee (f := 23) rfl ?_); refine goesL_ (some 11) rfl rfl Try.func23 (by kernel_rfl) rfl #[.agg #[.slice A0_0 l0_0.length c0_0, .slice A0_1 l0_1.length c0_1, .bool a0_2]] rfl vL ?_; (with_reducible refine (gimbalref11_Close.calls k _ _ l0_0 _ _ l0_1 a0_2 t308 t311 false _ ?side1 ?side2 ?side3 ?side4 A3.out).mono ?_); (case side1 => exact vC (Kd.C_below HR0_0.out HB.out)); (case side2 => exact HC0_0.out); (case side3 => exact vC (Kd.C_below HR0_1.out HB.out)); (case side4 => exact HC0_1.out); rintro e w28 ⟨v309, v312, rfl, ho0, ho1, hb⟩; refine ⟨_, rfl, ?_⟩; have HO310 := Aside0.mk (Kd.R_lower ho0 (below_size (vW HB.out))); have HO313 := Aside0.mk (Kd.R_lower ho1 (below_size (vW HB.out))); replace BK305 := vBb BK305 hb; replace BK306 := vBb BK306 hb; replace BK307 := vBb BK307 hb; replace HB := vWs HB hb; (try clear hb); (try clear hb2); (try clear hk); (try clear hi); (try clear ho0); (try clear ho1)) | ((with_reducible refine gate_dst (N := 5) rfl ?_); refine box_event ?hg (N := 5) ?hd (cs := #[.slice none 0 0, .slice none 0 0, .bool false]) (t := 25) ?hr ?_; (case hd => rfl); (case hg => rfl); (case hr => first | (go_simp; done) | (go_simp; rfl)); intro gb315 hg w29 hbox hb; replace HO310 := vRb HO310 hb; replace HO313 := vRb HO313 hb; have BK315 := Aside0.mk (hbox); have GW315 := vS hg HB; have GE315 := vS hg HB; replace HB := vWs HB hb; have NB305_315 := vNl hg BK305; have NB315_305 := vNg hg BK305; replace BK305 := vBb BK305 hb; have NB306_315 := vNl hg BK306; have NB315_306 := vNg hg BK306; replace BK306 := vBb BK306 hb; have NB307_315 := vNl hg BK307; have NB315_307 := vNg hg BK307; replace BK307 := vBb BK307 hb; clear hb hbox hg; obtain ⟨Ao30, co30, eo30⟩ := Kd.R_slice HO310.out; subst eo30; have hnb31 := NB315_305.out; have hnc31 := NB305_315.out; have hnb32 := NB315_306.out; have hnc32 := NB306_315.out; have hnb33 := NB315_307.out; have hnc33 := NB307_315.out; obtain ⟨hcz34_0, hcz34_1, hcz34_2, hfz34_0, hfz34_1, hfz34_2⟩ := vF3 BK315.out; obtain ⟨Ao35, co35, eo35⟩ := Kd.R_slice HO313.out; subst eo35))
  (try simp only [Act.put, List.setIfInBounds_toArray, List.set_cons_zero, List.set_cons_succ])
  go_cut [36] (fun v36 wc => ∃ (kq : Nat) (x36_20 : Bool), v36 = .bool x36_20 ∧ Aside0 (gimbalref11_Bounds.j0 kq x36_20 a1_0 a1_1 a1_2 a1_3 a1_4 t308 t311 false = some (r1, r2)) ∧ Aside0 (kq ≤ k) ∧ Aside0 (Kd.R (Kd.int .i64) 3 wc w.heap.size (fun _ => True) (.slice Ao30 t308.length co30) t308) ∧ Aside0 (Kd.R (Kd.int .i64) 2 wc w.heap.size (fun _ => True) (.slice Ao35 t311.length co35) t311) ∧ Aside0 (wc.heap[gb305]? = some (.cells #[(.slice A0_0 l0_0.length c0_0), (.slice A0_1 l0_1.length c0_1), .bool a0_2] 25 (0, 0))) ∧ Aside0 (wc.heap[gb306]? = some (.cells #[.int .i64 a1_0, .int .i64 a1_1, .int .i64 a1_2, .int .i64 a1_3, .int .i64 a1_4] 49 (0, 0))) ∧ Aside0 (wc.heap[gb307]? = some (.cells #[.int .i64 0, .int .i64 0] 37 (0, 0))) ∧ Aside0 (wc.heap[gb315]? = some (.cells #[(.slice Ao30 t308.length co30), (.slice Ao35 t311.length co35), .bool false] 25 (0, 0))) ∧ Aside0 (Below w.heap.size w wc))
  case first =>
   have H := HC21.out
   clear HC21
   by_cases c36 : a1_1 = 0
   ·
    rw [if_pos c36] at H
    have c36b0 : (a1_1 == 0) = true := beq_iff_eq.mpr c36
    have c36b1 : (a1_1 != 0) = false := bne_eq_false_iff_eq.mpr c36
    clear c36
    (first | rw [c36b0] | (simp only [i64_w, i32_w]; rw [c36b0]) | skip)
    by_cases c37 : a1_3 = 0
    ·
     rw [if_pos c37] at H
     have c37b0 : (a1_3 == 0) = true := beq_iff_eq.mpr c37
     have c37b1 : (a1_3 != 0) = false := bne_eq_false_iff_eq.mpr c37
     clear c37
     have H' := Aside0.mk H
     clear H
     have hnb38 := NB306_305.out
     have hnc38 := NB305_306.out
     have hnb39 := NB306_307.out
     have hnc39 := NB307_306.out
     have hnb40 := NB306_315.out
     have hnc40 := NB315_306.out
     obtain ⟨hcz41_0, hcz41_1, hcz41_2, hcz41_3, hcz41_4, hfz41_0, hfz41_1, hfz41_2, hfz41_3, hfz41_4⟩ := vF5 BK306.out
     go_wp2
     go_meet
     case rel => exact ⟨_, (false), (by first | rfl | (simp; done) | (simp [*]; done)), H', ⟨by first | omega | exact Nat.le_refl _⟩, ⟨by (with_reducible repeat (first | apply Kd.R_alloc | apply Kd.R_drewN | apply Kd.R_drew)); exact Kd.R_mono (Kd.R_far (p := ⟨gb315, 2, none⟩) (Kd.R_far (p := ⟨gb315, 1, none⟩) (Kd.R_far (p := ⟨gb315, 0, none⟩) (Kd.R_types HO310.out BK315.out (by decide)) (fun _ hk => hk.2) (.slice Ao30 t308.length co30)) (fun _ hk => hk.2) (.slice Ao35 t311.length co35)) (fun _ hk => hk.2) (.bool false)) (fun _ hk => trivial)⟩, ⟨by (with_reducible repeat (first | apply Kd.R_alloc | apply Kd.R_drewN | apply Kd.R_drew)); exact Kd.R_mono (Kd.R_far (p := ⟨gb315, 2, none⟩) (Kd.R_far (p := ⟨gb315, 1, none⟩) (Kd.R_far (p := ⟨gb315, 0, none⟩) (Kd.R_types HO313.out BK315.out (by decide)) (fun _ hk => hk.2) (.slice Ao30 t308.length co30)) (fun _ hk => hk.2) (.slice Ao35 t311.length co35)) (fun _ hk => hk.2) (.bool false)) (fun _ hk => trivial)⟩, ⟨vB BK305.out⟩, ⟨vB BK306.out⟩, ⟨vB BK307.out⟩, ⟨by (with_reducible repeat (first | refine blk_drewN ?_ _ | refine blk_drew ?_ | refine blk_alloc ?_ _)); refine blk_put (cs := #[.slice Ao30 t308.length co30, .slice Ao35 t311.length co35, .bool false]) ?_ 2 _ rfl; (with_reducible repeat (first | refine blk_drewN ?_ _ | refine blk_drew ?_ | refine blk_alloc ?_ _)); refine blk_put (cs := #[.slice Ao30 t308.length co30, .slice none 0 0, .bool false]) ?_ 1 _ rfl; (with_reducible repeat (first | refine blk_drewN ?_ _ | refine blk_drew ?_ | refine blk_alloc ?_ _)); refine blk_put (cs := #[.slice none 0 0, .slice none 0 0, .bool false]) ?_ 0 _ rfl; (with_reducible repeat (first | refine blk_drewN ?_ _ | refine blk_drew ?_ | refine blk_alloc ?_ _)); exact BK315.out⟩, ⟨vW HB.out⟩⟩
    ·
     rw [if_neg c37] at H
     have c37b0 : (a1_3 == 0) = false := beq_eq_false_iff_ne.mpr c37
     have c37b1 : (a1_3 != 0) = true := bne_iff_ne.mpr c37
     replace H := Option.bind_eq_some_iff.mp H
     obtain ⟨t316, A420, H⟩ := H
     replace H : (gimbalref11_Bounds.j0 k (decide (t316 < 0)) a1_0 a1_1 a1_2 a1_3 a1_4 t308 t311 false) = some (r1, r2) := H
     have A42 := Aside0.mk A420
     clear A420
     have H' := Aside0.mk H
     clear H
     have hnb43 := NB306_305.out
     have hnc43 := NB305_306.out
     have hnb44 := NB306_307.out
     have hnc44 := NB307_306.out
     have hnb45 := NB306_315.out
     have hnc45 := NB315_306.out
     obtain ⟨hcz46_0, hcz46_1, hcz46_2, hcz46_3, hcz46_4, hfz46_0, hfz46_1, hfz46_2, hfz46_3, hfz46_4⟩ := vF5 BK306.out
     have hnb47 := NB315_305.out
     have hnc47 := NB305_315.out
     have hnb48 := NB315_307.out
     have hnc48 := NB307_315.out
     obtain ⟨hcz49_0, hcz49_1, hcz49_2, hfz49_0, hfz49_1, hfz49_2⟩ := vF3 BK315.out
     go_wp2_with (first | (go_at_call 78; (with_reducible refine (gimbalref11_Place.calls k _ _ t308 _ _ t311 false a1_2 t316 _ ?side1 ?side2 ?side3 ?side4 A42.out).mono ?_); (case side1 => exact vTr HO310.out BK315.out); (case side2 => exact (Kd.R_reads' HO310.out).2.1); (case side3 => exact vTr HO313.out BK315.out); (case side4 => exact (Kd.R_reads' HO313.out).2.1); rintro e w50 ⟨rfl, hb⟩; replace HO310 := vTb HO310 BK315 hb; replace HO313 := vTb HO313 BK315 hb; replace BK305 := vBb BK305 hb; replace BK306 := vBb BK306 hb; replace BK307 := vBb BK307 hb; replace BK315 := Aside0.mk (blk_below (g := gb315) (o := .cells #[.slice Ao30 t308.length co30, .slice Ao35 t311.length co35, .bool false] 25 (0, 0)) (by (with_reducible repeat (first | refine blk_drewN ?_ _ | refine blk_drew ?_ | refine blk_alloc ?_ _)); refine blk_put (cs := #[.slice Ao30 t308.length co30, .slice Ao35 t311.length co35, .bool false]) ?_ 2 _ rfl; (with_reducible repeat (first | refine blk_drewN ?_ _ | refine blk_drew ?_ | refine blk_alloc ?_ _)); refine blk_put (cs := #[.slice Ao30 t308.length co30, .slice none 0 0, .bool false]) ?_ 1 _ rfl; (with_reducible repeat (first | refine blk_drewN ?_ _ | refine blk_drew ?_ | refine blk_alloc ?_ _)); refine blk_put (cs := #[.slice none 0 0, .slice none 0 0, .bool false]) ?_ 0 _ rfl; (with_reducible repeat (first | refine blk_drewN ?_ _ | refine blk_drew ?_ | refine blk_alloc ?_ _)); exact BK315.out) hb); replace HB := vWs HB hb; (try clear hb); (try clear hb2); (try clear hk); (try clear hi)))
     go_meet
     case rel => exact ⟨_, (decide (t316 < 0)), (by first | rfl | (simp; done) | (simp [*]; done)), H', ⟨by first | omega | exact Nat.le_refl _⟩, ⟨vR HO310.out⟩, ⟨vR HO313.out⟩, ⟨vB BK305.out⟩, ⟨vB BK306.out⟩, ⟨vB BK307.out⟩, ⟨vB BK315.out⟩, ⟨vW HB.out⟩⟩
   ·
    rw [if_neg c36] at H
    have c36b0 : (a1_1 == 0) = false := beq_eq_false_iff_ne.mpr c36
    have c36b1 : (a1_1 != 0) = true := bne_iff_ne.mpr c36
    (first | rw [c36b0] | (simp only [i64_w, i32_w]; rw [c36b0]) | skip)
    replace H := Option.bind_eq_some_iff.mp H
    obtain ⟨t317, A510, H⟩ := H
    replace H : (if t317 < 0 then (gimbalref11_Bounds.j0 k true a1_0 a1_1 a1_2 a1_3 a1_4 t308 t311 false) else (if a1_3 = 0 then (gimbalref11_Bounds.j0 k false a1_0 a1_1 a1_2 a1_3 a1_4 t308 t311 false) else ((gimbalref11_Place.f k t308 t311 false a1_2).bind fun t318 => (gimbalref11_Bounds.j0 k (decide (t318 < 0)) a1_0 a1_1 a1_2 a1_3 a1_4 t308 t311 false)))) = some (r1, r2) := H
    have A51 := Aside0.mk A510
    clear A510
    by_cases c52 : t317 < 0
    ·
     rw [if_pos c52] at H
     have c52b0 : decide (t317 < 0) = true := decide_eq_true c52
     clear c52
     have H' := Aside0.mk H
     clear H
     have hnb53 := NB306_305.out
     have hnc53 := NB305_306.out
     have hnb54 := NB306_307.out
     have hnc54 := NB307_306.out
     have hnb55 := NB306_315.out
     have hnc55 := NB315_306.out
     obtain ⟨hcz56_0, hcz56_1, hcz56_2, hcz56_3, hcz56_4, hfz56_0, hfz56_1, hfz56_2, hfz56_3, hfz56_4⟩ := vF5 BK306.out
     have hnb57 := NB315_305.out
     have hnc57 := NB305_315.out
     have hnb58 := NB315_307.out
     have hnc58 := NB307_315.out
     obtain ⟨hcz59_0, hcz59_1, hcz59_2, hfz59_0, hfz59_1, hfz59_2⟩ := vF3 BK315.out
     go_wp2_with (first | (go_at_call 78; (with_reducible refine (gimbalref11_Place.calls k _ _ t308 _ _ t311 false a1_0 t317 _ ?side1 ?side2 ?side3 ?side4 A51.out).mono ?_); (case side1 => exact vTr HO310.out BK315.out); (case side2 => exact (Kd.R_reads' HO310.out).2.1); (case side3 => exact vTr HO313.out BK315.out); (case side4 => exact (Kd.R_reads' HO313.out).2.1); rintro e w60 ⟨rfl, hb⟩; replace HO310 := vTb HO310 BK315 hb; replace HO313 := vTb HO313 BK315 hb; replace BK305 := vBb BK305 hb; replace BK306 := vBb BK306 hb; replace BK307 := vBb BK307 hb; replace BK315 := Aside0.mk (blk_below (g := gb315) (o := .cells #[.slice Ao30 t308.length co30, .slice Ao35 t311.length co35, .bool false] 25 (0, 0)) (by (with_reducible repeat (first | refine blk_drewN ?_ _ | refine blk_drew ?_ | refine blk_alloc ?_ _)); refine blk_put (cs := #[.slice Ao30 t308.length co30, .slice Ao35 t311.length co35, .bool false]) ?_ 2 _ rfl; (with_reducible repeat (first | refine blk_drewN ?_ _ | refine blk_drew ?_ | refine blk_alloc ?_ _)); refine blk_put (cs := #[.slice Ao30 t308.length co30, .slice none 0 0, .bool false]) ?_ 1 _ rfl; (with_reducible repeat (first | refine blk_drewN ?_ _ | refine blk_drew ?_ | refine blk_alloc ?_ _)); refine blk_put (cs := #[.slice none 0 0, .slice none 0 0, .bool false]) ?_ 0 _ rfl; (with_reducible repeat (first | refine blk_drewN ?_ _ | refine blk_drew ?_ | refine blk_alloc ?_ _)); exact BK315.out) hb); replace HB := vWs HB hb; (try clear hb); (try clear hb2); (try clear hk); (try clear hi)))
     go_meet
     case rel => exact ⟨_, (true), (by first | rfl | (simp; done) | (simp [*]; done)), H', ⟨by first | omega | exact Nat.le_refl _⟩, ⟨vR HO310.out⟩, ⟨vR HO313.out⟩, ⟨vB BK305.out⟩, ⟨vB BK306.out⟩, ⟨vB BK307.out⟩, ⟨vB BK315.out⟩, ⟨vW HB.out⟩⟩
    ·
     rw [if_neg c52] at H
     have c52b0 : decide (t317 < 0) = false := decide_eq_false c52
     clear c52
     by_cases c61 : a1_3 = 0
     ·
      rw [if_pos c61] at H
      have c61b0 : (a1_3 == 0) = true := beq_iff_eq.mpr c61
      have c61b1 : (a1_3 != 0) = false := bne_eq_false_iff_eq.mpr c61
      clear c61
      have H' := Aside0.mk H
      clear H
      have hnb62 := NB306_305.out
      have hnc62 := NB305_306.out
      have hnb63 := NB306_307.out
      have hnc63 := NB307_306.out
      have hnb64 := NB306_315.out
      have hnc64 := NB315_306.out
      obtain ⟨hcz65_0, hcz65_1, hcz65_2, hcz65_3, hcz65_4, hfz65_0, hfz65_1, hfz65_2, hfz65_3, hfz65_4⟩ := vF5 BK306.out
      have hnb66 := NB315_305.out
      have hnc66 := NB305_315.out
      have hnb67 := NB315_307.out
      have hnc67 := NB307_315.out
      obtain ⟨hcz68_0, hcz68_1, hcz68_2, hfz68_0, hfz68_1, hfz68_2⟩ := vF3 BK315.out
      go_wp2_with (first | (go_at_call 78; (with_reducible refine (gimbalref11_Place.calls k _ _ t308 _ _ t311 false a1_0 t317 _ ?side1 ?side2 ?side3 ?side4 A51.out).mono ?_); (case side1 => exact vTr HO310.out BK315.out); (case side2 => exact (Kd.R_reads' HO310.out).2.1); (case side3 => exact vTr HO313.out BK315.out); (case side4 => exact (Kd.R_reads' HO313.out).2.1); rintro e w69 ⟨rfl, hb⟩; replace HO310 := vTb HO310 BK315 hb; replace HO313 := vTb HO313 BK315 hb; replace BK305 := vBb BK305 hb; replace BK306 := vBb BK306 hb; replace BK307 := vBb BK307 hb; replace BK315 := Aside0.mk (blk_below (g := gb315) (o := .cells #[.slice Ao30 t308.length co30, .slice Ao35 t311.length co35, .bool false] 25 (0, 0)) (by (with_reducible repeat (first | refine blk_drewN ?_ _ | refine blk_drew ?_ | refine blk_alloc ?_ _)); refine blk_put (cs := #[.slice Ao30 t308.length co30, .slice Ao35 t311.length co35, .bool false]) ?_ 2 _ rfl; (with_reducible repeat (first | refine blk_drewN ?_ _ | refine blk_drew ?_ | refine blk_alloc ?_ _)); refine blk_put (cs := #[.slice Ao30 t308.length co30, .slice none 0 0, .bool false]) ?_ 1 _ rfl; (with_reducible repeat (first | refine blk_drewN ?_ _ | refine blk_drew ?_ | refine blk_alloc ?_ _)); refine blk_put (cs := #[.slice none 0 0, .slice none 0 0, .bool false]) ?_ 0 _ rfl; (with_reducible repeat (first | refine blk_drewN ?_ _ | refine blk_drew ?_ | refine blk_alloc ?_ _)); exact BK315.out) hb); replace HB := vWs HB hb; (try clear hb); (try clear hb2); (try clear hk); (try clear hi); obtain ⟨hcz70_0, hcz70_1, hcz70_2, hcz70_3, hcz70_4, hfz70_0, hfz70_1, hfz70_2, hfz70_3, hfz70_4⟩ := vF5 BK306.out))
      go_meet
      case rel => exact ⟨_, (false), (by first | rfl | (simp; done) | (simp [*]; done)), H', ⟨by first | omega | exact Nat.le_refl _⟩, ⟨vR HO310.out⟩, ⟨vR HO313.out⟩, ⟨vB BK305.out⟩, ⟨vB BK306.out⟩, ⟨vB BK307.out⟩, ⟨vB BK315.out⟩, ⟨vW HB.out⟩⟩
     ·
      rw [if_neg c61] at H
      have c61b0 : (a1_3 == 0) = false := beq_eq_false_iff_ne.mpr c61
      have c61b1 : (a1_3 != 0) = true := bne_iff_ne.mpr c61
      replace H := Option.bind_eq_some_iff.mp H
      obtain ⟨t318, A710, H⟩ := H
      replace H : (gimbalref11_Bounds.j0 k (decide (t318 < 0)) a1_0 a1_1 a1_2 a1_3 a1_4 t308 t311 false) = some (r1, r2) := H
      have A71 := Aside0.mk A710
      clear A710
      have H' := Aside0.mk H
      clear H
      have hnb72 := NB306_305.out
      have hnc72 := NB305_306.out
      have hnb73 := NB306_307.out
      have hnc73 := NB307_306.out
      have hnb74 := NB306_315.out
      have hnc74 := NB315_306.out
      obtain ⟨hcz75_0, hcz75_1, hcz75_2, hcz75_3, hcz75_4, hfz75_0, hfz75_1, hfz75_2, hfz75_3, hfz75_4⟩ := vF5 BK306.out
      have hnb76 := NB315_305.out
      have hnc76 := NB305_315.out
      have hnb77 := NB315_307.out
      have hnc77 := NB307_315.out
      obtain ⟨hcz78_0, hcz78_1, hcz78_2, hfz78_0, hfz78_1, hfz78_2⟩ := vF3 BK315.out
      go_wp2_with (first | (go_at_call 78; (with_reducible refine (gimbalref11_Place.calls k _ _ t308 _ _ t311 false a1_0 t317 _ ?side1 ?side2 ?side3 ?side4 A51.out).mono ?_); (case side1 => exact vTr HO310.out BK315.out); (case side2 => exact (Kd.R_reads' HO310.out).2.1); (case side3 => exact vTr HO313.out BK315.out); (case side4 => exact (Kd.R_reads' HO313.out).2.1); rintro e w79 ⟨rfl, hb⟩; replace HO310 := vTb HO310 BK315 hb; replace HO313 := vTb HO313 BK315 hb; replace BK305 := vBb BK305 hb; replace BK306 := vBb BK306 hb; replace BK307 := vBb BK307 hb; replace BK315 := Aside0.mk (blk_below (g := gb315) (o := .cells #[.slice Ao30 t308.length co30, .slice Ao35 t311.length co35, .bool false] 25 (0, 0)) (by (with_reducible repeat (first | refine blk_drewN ?_ _ | refine blk_drew ?_ | refine blk_alloc ?_ _)); refine blk_put (cs := #[.slice Ao30 t308.length co30, .slice Ao35 t311.length co35, .bool false]) ?_ 2 _ rfl; (with_reducible repeat (first | refine blk_drewN ?_ _ | refine blk_drew ?_ | refine blk_alloc ?_ _)); refine blk_put (cs := #[.slice Ao30 t308.length co30, .slice none 0 0, .bool false]) ?_ 1 _ rfl; (with_reducible repeat (first | refine blk_drewN ?_ _ | refine blk_drew ?_ | refine blk_alloc ?_ _)); refine blk_put (cs := #[.slice none 0 0, .slice none 0 0, .bool false]) ?_ 0 _ rfl; (with_reducible repeat (first | refine blk_drewN ?_ _ | refine blk_drew ?_ | refine blk_alloc ?_ _)); exact BK315.out) hb); replace HB := vWs HB hb; (try clear hb); (try clear hb2); (try clear hk); (try clear hi); obtain ⟨hcz80_0, hcz80_1, hcz80_2, hcz80_3, hcz80_4, hfz80_0, hfz80_1, hfz80_2, hfz80_3, hfz80_4⟩ := vF5 BK306.out; obtain ⟨hcz81_0, hcz81_1, hcz81_2, hfz81_0, hfz81_1, hfz81_2⟩ := vF3 BK315.out) | (go_at_call 78; (with_reducible refine (gimbalref11_Place.calls k _ _ t308 _ _ t311 false a1_2 t318 _ ?side1 ?side2 ?side3 ?side4 A71.out).mono ?_); (case side1 => repeat (first | exact (Kd.R_reads' HO310.out).2.2 | (with_reducible refine Kd.C_alloc ?_ _) | (with_reducible refine Kd.C_drewN ?_ _) | (with_reducible refine Kd.C_drew ?_))); (case side2 => exact (Kd.R_reads' HO310.out).2.1); (case side3 => repeat (first | exact (Kd.R_reads' HO313.out).2.2 | (with_reducible refine Kd.C_alloc ?_ _) | (with_reducible refine Kd.C_drewN ?_ _) | (with_reducible refine Kd.C_drew ?_))); (case side4 => exact (Kd.R_reads' HO313.out).2.1); rintro e w82 ⟨rfl, hb⟩; replace HO310 := vRb HO310 hb; replace HO313 := vRb HO313 hb; replace BK305 := vBb BK305 hb; replace BK306 := vBb BK306 hb; replace BK307 := vBb BK307 hb; replace BK315 := vBb BK315 hb; replace HB := vWs HB hb; (try clear hb); (try clear hb2); (try clear hk); (try clear hi)))
      go_meet
      case rel => exact ⟨_, (decide (t318 < 0)), (by first | rfl | (simp; done) | (simp [*]; done)), H', ⟨by first | omega | exact Nat.le_refl _⟩, ⟨vR HO310.out⟩, ⟨vR HO313.out⟩, ⟨vB BK305.out⟩, ⟨vB BK306.out⟩, ⟨vB BK307.out⟩, ⟨vB BK315.out⟩, ⟨vW HB.out⟩⟩
  case rest =>
   clear HC21
   try clear c1
   try clear c2
   try clear p2
   try clear c3
   try clear c4
   try clear c5
   try clear c6
   try clear p6
   try clear c7
   try clear c8
   try clear c9
   try clear c14
   try clear c15
   try clear c16
   try clear c19
   try clear c23
   try clear c25
   try clear c26
   try clear c31
   try clear c32
   try clear c33
   try clear c36
   try clear c36b0
   try clear c36b1
   try clear c37
   try clear c37b0
   try clear c37b1
   try clear c38
   try clear c39
   try clear c40
   try clear c43
   try clear c44
   try clear c45
   try clear c47
   try clear c48
   try clear c52
   try clear c52b0
   try clear c53
   try clear c54
   try clear c55
   try clear c57
   try clear c58
   try clear c61
   try clear c61b0
   try clear c61b1
   try clear c62
   try clear c63
   try clear c64
   try clear p64
   try clear c66
   try clear c67
   try clear c72
   try clear c73
   try clear c74
   try clear c76
   try clear c77
   try clear hcz10_0
   try clear hcz10_1
   try clear hcz10_2
   try clear hcz17_0
   try clear hcz17_1
   try clear hcz17_2
   try clear hcz20_0
   try clear hcz20_1
   try clear hcz27_0
   try clear hcz27_1
   try clear hcz27_2
   try clear hcz34_0
   try clear hcz34_1
   try clear hcz34_2
   try clear hcz41_0
   try clear hcz41_1
   try clear hcz41_2
   try clear hcz41_3
   try clear hcz41_4
   try clear hcz46_0
   try clear hcz46_1
   try clear hcz46_2
   try clear hcz46_3
   try clear hcz46_4
   try clear hcz49_0
   try clear hcz49_1
   try clear hcz49_2
   try clear hcz56_0
   try clear hcz56_1
   try clear hcz56_2
   try clear hcz56_3
   try clear hcz56_4
   try clear hcz59_0
   try clear hcz59_1
   try clear hcz59_2
   try clear hcz65_0
   try clear hcz65_1
   try clear hcz65_2
   try clear hcz65_3
   try clear hcz65_4
   try clear hcz68_0
   try clear hcz68_1
   try clear hcz68_2
   try clear hcz70_0
   try clear hcz70_1
   try clear hcz70_2
   try clear hcz70_3
   try clear hcz70_4
   try clear hcz75_0
   try clear hcz75_1
   try clear hcz75_2
   try clear hcz75_3
   try clear hcz75_4
   try clear hcz78_0
   try clear hcz78_1
   try clear hcz78_2
   try clear hcz80_0
   try clear hcz80_1
   try clear hcz80_2
   try clear hcz80_3
   try clear hcz80_4
   try clear hcz81_0
   try clear hcz81_1
   try clear hcz81_2
   try clear hfz10_0
   try clear hfz10_1
   try clear hfz10_2
   try clear hfz17_0
   try clear hfz17_1
   try clear hfz17_2
   try clear hfz20_0
   try clear hfz20_1
   try clear hfz27_0
   try clear hfz27_1
   try clear hfz27_2
   try clear hfz34_0
   try clear hfz34_1
   try clear hfz34_2
   try clear hfz41_0
   try clear hfz41_1
   try clear hfz41_2
   try clear hfz41_3
   try clear hfz41_4
   try clear hfz46_0
   try clear hfz46_1
   try clear hfz46_2
   try clear hfz46_3
   try clear hfz46_4
   try clear hfz49_0
   try clear hfz49_1
   try clear hfz49_2
   try clear hfz56_0
   try clear hfz56_1
   try clear hfz56_2
   try clear hfz56_3
   try clear hfz56_4
   try clear hfz59_0
   try clear hfz59_1
   try clear hfz59_2
   try clear hfz65_0
   try clear hfz65_1
   try clear hfz65_2
   try clear hfz65_3
   try clear hfz65_4
   try clear hfz68_0
   try clear hfz68_1
   try clear hfz68_2
   try clear hfz70_0
   try clear hfz70_1
   try clear hfz70_2
   try clear hfz70_3
   try clear hfz70_4
   try clear hfz75_0
   try clear hfz75_1
   try clear hfz75_2
   try clear hfz75_3
   try clear hfz75_4
   try clear hfz78_0
   try clear hfz78_1
   try clear hfz78_2
   try clear hfz80_0
   try clear hfz80_1
   try clear hfz80_2
   try clear hfz80_3
   try clear hfz80_4
   try clear hfz81_0
   try clear hfz81_1
   try clear hfz81_2
   obtain ⟨kq, x36_20, rfl, HA, HJ20, HO_316000, HO_316001, BK305, BK306, BK307, BK315, HB⟩ := hcut
   cases kq with
   | zero => exact absurd HA.out (by simp [gimbalref11_Bounds.j0])
   | succ kj20 =>
    have H := HA.out
    clear HA
    simp only [gimbalref11_Bounds.j0] at H
    by_cases c83 : x36_20 = true
    ·
     subst c83
     have H1 : (some ((-4611686018427387904), 4611686018427387904)) = some (r1, r2) := by rw [if_pos rfl] at H; exact H
     clear H
     have H := H1
     clear H1
     simp only [Option.some.injEq, Prod.mk.injEq] at H
     obtain ⟨rfl, rfl⟩ := H
     have hnb84 := NB307_305.out
     have hnc84 := NB305_307.out
     have hnb85 := NB307_306.out
     have hnc85 := NB306_307.out
     have hnb86 := NB307_315.out
     have hnc86 := NB315_307.out
     obtain ⟨hcz87_0, hcz87_1, hfz87_0, hfz87_1⟩ := vF2 BK307.out
     go_wp2
     refine bodyPost_ret (results_cell_row rfl _ _ gb307 37 #[.int .i64 (-4611686018427387904), .int .i64 4611686018427387904] (0, 0) _ rfl (by (with_reducible repeat (first | refine blk_drewN ?_ _ | refine blk_drew ?_ | refine blk_alloc ?_ _)); refine blk_put (cs := #[.int .i64 (-4611686018427387904), .int .i64 0]) ?_ 1 _ rfl; (with_reducible repeat (first | refine blk_drewN ?_ _ | refine blk_drew ?_ | refine blk_alloc ?_ _)); refine blk_put (cs := #[.int .i64 0, .int .i64 0]) ?_ 0 _ rfl; (with_reducible repeat (first | refine blk_drewN ?_ _ | refine blk_drew ?_ | refine blk_alloc ?_ _)); exact BK307.out) Try.underlying37 rfl (by kernel_rfl)) rfl ?_
     exact ⟨by first | rfl | (simp [errW_none, errW_some] <;> rfl) | (simp [*, errW_none, errW_some] <;> rfl) | (simp [wrap64]; done), vW HB.out⟩
    ·
     replace c83 := Bool.eq_false_iff.mpr c83
     subst c83
     have H1 : ((gimbalref11_greatest.f kj20 t308 t311 false a1_0 a1_1 a1_2 a1_3 a1_4).bind fun t320 => (if t320 = 4611686018427387904 then ((gimbalref11_greatest.f kj20 t308 t311 false a1_0 (wrap64 (-a1_1)) a1_2 (wrap64 (-a1_3)) a1_4).bind fun t322 => (if t322 = 4611686018427387904 then (some ((-4611686018427387904), 4611686018427387904)) else (some (wrap64 (a1_4 - t322), 4611686018427387904)))) else ((gimbalref11_greatest.f kj20 t308 t311 false a1_0 (wrap64 (-a1_1)) a1_2 (wrap64 (-a1_3)) a1_4).bind fun t324 => (if t324 = 4611686018427387904 then (some ((-4611686018427387904), wrap64 (t320 + a1_4))) else (some (wrap64 (a1_4 - t324), wrap64 (t320 + a1_4))))))) = some (r1, r2) := by rw [if_neg (show ¬ (false = true) by decide)] at H; exact H
     clear H
     have H := H1
     clear H1
     replace H := Option.bind_eq_some_iff.mp H
     obtain ⟨t320, A880, H⟩ := H
     replace H : (if t320 = 4611686018427387904 then ((gimbalref11_greatest.f kj20 t308 t311 false a1_0 (wrap64 (-a1_1)) a1_2 (wrap64 (-a1_3)) a1_4).bind fun t322 => (if t322 = 4611686018427387904 then (some ((-4611686018427387904), 4611686018427387904)) else (some (wrap64 (a1_4 - t322), 4611686018427387904)))) else ((gimbalref11_greatest.f kj20 t308 t311 false a1_0 (wrap64 (-a1_1)) a1_2 (wrap64 (-a1_3)) a1_4).bind fun t324 => (if t324 = 4611686018427387904 then (some ((-4611686018427387904), wrap64 (t320 + a1_4))) else (some (wrap64 (a1_4 - t324), wrap64 (t320 + a1_4)))))) = some (r1, r2) := H
     have A88 := Aside0.mk A880
     clear A880
     by_cases c89 : t320 = 4611686018427387904
     ·
      rw [if_pos c89] at H
      have c89b0 : (t320 == 4611686018427387904) = true := beq_iff_eq.mpr c89
      have c89b1 : (t320 != 4611686018427387904) = false := bne_eq_false_iff_eq.mpr c89
      clear c89
      replace H := Option.bind_eq_some_iff.mp H
      obtain ⟨t322, A900, H⟩ := H
      replace H : (if t322 = 4611686018427387904 then (some ((-4611686018427387904), 4611686018427387904)) else (some (wrap64 (a1_4 - t322), 4611686018427387904))) = some (r1, r2) := H
      have A90 := Aside0.mk A900
      clear A900
      by_cases c91 : t322 = 4611686018427387904
      ·
       rw [if_pos c91] at H
       have c91b0 : (t322 == 4611686018427387904) = true := beq_iff_eq.mpr c91
       have c91b1 : (t322 != 4611686018427387904) = false := bne_eq_false_iff_eq.mpr c91
       clear c91
       simp only [Option.some.injEq, Prod.mk.injEq] at H
       obtain ⟨rfl, rfl⟩ := H
       try go_wp2_with (first | ((with_reducible refine gate_dst (N := 6) rfl ?_); refine box_event ?hg (N := 6) ?hd (cs := #[.int .i64 0, .int .i64 0]) (t := 37) ?hr ?_; (case hd => rfl); (case hg => rfl); (case hr => first | (go_simp; done) | (go_simp; rfl)); intro gb319 hg w92 hbox hb; replace HO_316000 := vRb HO_316000 hb; replace HO_316001 := vRb HO_316001 hb; have BK319 := Aside0.mk (hbox); have GW319 := vS hg HB; have GE319 := vS hg HB; replace HB := vWs HB hb; have NB305_319 := vNl hg BK305; have NB319_305 := vNg hg BK305; replace BK305 := vBb BK305 hb; have NB306_319 := vNl hg BK306; have NB319_306 := vNg hg BK306; replace BK306 := vBb BK306 hb; have NB307_319 := vNl hg BK307; have NB319_307 := vNg hg BK307; replace BK307 := vBb BK307 hb; have NB315_319 := vNl hg BK315; have NB319_315 := vNg hg BK315; replace BK315 := vBb BK315 hb; clear hb hbox hg; have hnb93 := NB319_305.out; have hnc93 := NB305_319.out; have hnb94 := NB319_306.out; have hnc94 := NB306_319.out; have hnb95 := NB319_307.out; have hnc95 := NB307_319.out; have hnb96 := NB319_315.out; have hnc96 := NB315_319.out; obtain ⟨hcz97_0, hcz97_1, hfz97_0, hfz97_1⟩ := vF2 BK319.out; have hnb98 := NB315_305.out; have hnc98 := NB305_315.out; have hnb99 := NB315_306.out; have hnc99 := NB306_315.out; have hnb100 := NB315_307.out; have hnc100 := NB307_315.out; obtain ⟨hcz101_0, hcz101_1, hcz101_2, hfz101_0, hfz101_1, hfz101_2⟩ := vF3 BK315.out; have hnb102 := NB306_305.out; have hnc102 := NB305_306.out; have hnb103 := NB306_307.out; have hnc103 := NB307_306.out; obtain ⟨hcz104_0, hcz104_1, hcz104_2, hcz104_3, hcz104_4, hfz104_0, hfz104_1, hfz104_2, hfz104_3, hfz104_4⟩ := vF5 BK306.out) | ((with_reducible refine gate_callee (f := 79) rfl ?_); refine goesL_ (some 41) rfl rfl Try.func79 (by kernel_rfl) rfl #[.agg #[.slice Ao30 t308.length co30, .slice Ao35 t311.length co35, .bool false], .agg #[.int .i64 a1_0, .int .i64 a1_1, .int .i64 a1_2, .int .i64 a1_3, .int .i64 a1_4]] rfl vL ?_; (with_reducible refine (gimbalref11_greatest.calls kj20 _ _ t308 _ _ t311 false a1_0 a1_1 a1_2 a1_3 a1_4 t320 _ ?side1 ?side2 ?side3 ?side4 A88.out).mono ?_); (case side1 => exact vTr HO_316000.out BK319.out); (case side2 => exact (Kd.R_reads' HO_316000.out).2.1); (case side3 => exact vTr HO_316001.out BK319.out); (case side4 => exact (Kd.R_reads' HO_316001.out).2.1); rintro e w105 ⟨rfl, hb⟩; refine ⟨_, rfl, ?_⟩; replace HO_316000 := vTb HO_316000 BK319 hb; replace HO_316001 := vTb HO_316001 BK319 hb; replace BK305 := vBb BK305 hb; replace BK306 := vBb BK306 hb; replace BK307 := vBb BK307 hb; replace BK315 := vBb BK315 hb; replace BK319 := Aside0.mk (blk_below (g := gb319) (o := .cells #[.int .i64 (-4611686018427387904), .int .i64 4611686018427387904] 37 (0, 0)) (by (with_reducible repeat (first | refine blk_drewN ?_ _ | refine blk_drew ?_ | refine blk_alloc ?_ _)); refine blk_put (cs := #[.int .i64 (-4611686018427387904), .int .i64 0]) ?_ 1 _ rfl; (with_reducible repeat (first | refine blk_drewN ?_ _ | refine blk_drew ?_ | refine blk_alloc ?_ _)); refine blk_put (cs := #[.int .i64 0, .int .i64 0]) ?_ 0 _ rfl; (with_reducible repeat (first | refine blk_drewN ?_ _ | refine blk_drew ?_ | refine blk_alloc ?_ _)); exact BK319.out) hb); replace HB := vWs HB hb; (try clear hb); (try clear hb2); (try clear hk); (try clear hi); obtain ⟨hcz106_0, hcz106_1, hcz106_2, hcz106_3, hcz106_4, hfz106_0, hfz106_1, hfz106_2, hfz106_3, hfz106_4⟩ := vF5 BK306.out) | ((with_reducible refine gate_dst (N := 8) rfl ?_); refine box_event ?hg (N := 8) ?hd (cs := #[.int .i64 0, .int .i64 0, .int .i64 0, .int .i64 0, .int .i64 0]) (t := 49) ?hr ?_; (case hd => rfl); (case hg => rfl); (case hr => first | (go_simp; done) | (go_simp; rfl)); intro gb321 hg w107 hbox hb; replace HO_316000 := vRb HO_316000 hb; replace HO_316001 := vRb HO_316001 hb; have BK321 := Aside0.mk (hbox); have GW321 := vS hg HB; have GE321 := vS hg HB; replace HB := vWs HB hb; have NB305_321 := vNl hg BK305; have NB321_305 := vNg hg BK305; replace BK305 := vBb BK305 hb; have NB306_321 := vNl hg BK306; have NB321_306 := vNg hg BK306; replace BK306 := vBb BK306 hb; have NB307_321 := vNl hg BK307; have NB321_307 := vNg hg BK307; replace BK307 := vBb BK307 hb; have NB315_321 := vNl hg BK315; have NB321_315 := vNg hg BK315; replace BK315 := vBb BK315 hb; have NB319_321 := vNl hg BK319; have NB321_319 := vNg hg BK319; replace BK319 := vBb BK319 hb; clear hb hbox hg; have hnb108 := NB321_305.out; have hnc108 := NB305_321.out; have hnb109 := NB321_306.out; have hnc109 := NB306_321.out; have hnb110 := NB321_307.out; have hnc110 := NB307_321.out; have hnb111 := NB321_315.out; have hnc111 := NB315_321.out; have hnb112 := NB321_319.out; have hnc112 := NB319_321.out; obtain ⟨hcz113_0, hcz113_1, hcz113_2, hcz113_3, hcz113_4, hfz113_0, hfz113_1, hfz113_2, hfz113_3, hfz113_4⟩ := vF5 BK321.out))
       have n0_ : Aside0 (Kd.R (Kd.int .i64) 3 (((((w107.setCell ⟨gb321, 0, none⟩ (.int .i64 a1_0)).setCell ⟨gb321, 1, none⟩ (.int .i64 a1_1)).setCell ⟨gb321, 2, none⟩ (.int .i64 a1_2)).setCell ⟨gb321, 3, none⟩ (.int .i64 a1_3)).setCell ⟨gb321, 4, none⟩ (.int .i64 a1_4)) w.heap.size (fun _ => True) (.slice Ao30 t308.length co30) t308) := ⟨by (with_reducible repeat (first | apply Kd.R_alloc | apply Kd.R_drewN | apply Kd.R_drew)); exact Kd.R_mono (Kd.R_far (p := ⟨gb321, 4, none⟩) (Kd.R_far (p := ⟨gb321, 3, none⟩) (Kd.R_far (p := ⟨gb321, 2, none⟩) (Kd.R_far (p := ⟨gb321, 1, none⟩) (Kd.R_far (p := ⟨gb321, 0, none⟩) (Kd.R_types HO_316000.out BK321.out (by decide)) (fun _ hk => hk.2) (.int .i64 a1_0)) (fun _ hk => hk.2) (.int .i64 a1_1)) (fun _ hk => hk.2) (.int .i64 a1_2)) (fun _ hk => hk.2) (.int .i64 a1_3)) (fun _ hk => hk.2) (.int .i64 a1_4)) (fun _ hk => trivial)⟩
       have n1_ : Aside0 (Kd.R (Kd.int .i64) 2 (((((w107.setCell ⟨gb321, 0, none⟩ (.int .i64 a1_0)).setCell ⟨gb321, 1, none⟩ (.int .i64 a1_1)).setCell ⟨gb321, 2, none⟩ (.int .i64 a1_2)).setCell ⟨gb321, 3, none⟩ (.int .i64 a1_3)).setCell ⟨gb321, 4, none⟩ (.int .i64 a1_4)) w.heap.size (fun _ => True) (.slice Ao35 t311.length co35) t311) := ⟨by (with_reducible repeat (first | apply Kd.R_alloc | apply Kd.R_drewN | apply Kd.R_drew)); exact Kd.R_mono (Kd.R_far (p := ⟨gb321, 4, none⟩) (Kd.R_far (p := ⟨gb321, 3, none⟩) (Kd.R_far (p := ⟨gb321, 2, none⟩) (Kd.R_far (p := ⟨gb321, 1, none⟩) (Kd.R_far (p := ⟨gb321, 0, none⟩) (Kd.R_types HO_316001.out BK321.out (by decide)) (fun _ hk => hk.2) (.int .i64 a1_0)) (fun _ hk => hk.2) (.int .i64 a1_1)) (fun _ hk => hk.2) (.int .i64 a1_2)) (fun _ hk => hk.2) (.int .i64 a1_3)) (fun _ hk => hk.2) (.int .i64 a1_4)) (fun _ hk => trivial)⟩
       have n2_ : Aside0 ((((((w107.setCell ⟨gb321, 0, none⟩ (.int .i64 a1_0)).setCell ⟨gb321, 1, none⟩ (.int .i64 a1_1)).setCell ⟨gb321, 2, none⟩ (.int .i64 a1_2)).setCell ⟨gb321, 3, none⟩ (.int .i64 a1_3)).setCell ⟨gb321, 4, none⟩ (.int .i64 a1_4)).heap[gb305]? = some (.cells #[.slice A0_0 l0_0.length c0_0, .slice A0_1 l0_1.length c0_1, .bool a0_2] 25 (0, 0))) := ⟨vB BK305.out⟩
       have n3_ : Aside0 ((((((w107.setCell ⟨gb321, 0, none⟩ (.int .i64 a1_0)).setCell ⟨gb321, 1, none⟩ (.int .i64 a1_1)).setCell ⟨gb321, 2, none⟩ (.int .i64 a1_2)).setCell ⟨gb321, 3, none⟩ (.int .i64 a1_3)).setCell ⟨gb321, 4, none⟩ (.int .i64 a1_4)).heap[gb306]? = some (.cells #[.int .i64 a1_0, .int .i64 a1_1, .int .i64 a1_2, .int .i64 a1_3, .int .i64 a1_4] 49 (0, 0))) := ⟨vB BK306.out⟩
       have n4_ : Aside0 ((((((w107.setCell ⟨gb321, 0, none⟩ (.int .i64 a1_0)).setCell ⟨gb321, 1, none⟩ (.int .i64 a1_1)).setCell ⟨gb321, 2, none⟩ (.int .i64 a1_2)).setCell ⟨gb321, 3, none⟩ (.int .i64 a1_3)).setCell ⟨gb321, 4, none⟩ (.int .i64 a1_4)).heap[gb307]? = some (.cells #[.int .i64 0, .int .i64 0] 37 (0, 0))) := ⟨vB BK307.out⟩
       have n5_ : Aside0 ((((((w107.setCell ⟨gb321, 0, none⟩ (.int .i64 a1_0)).setCell ⟨gb321, 1, none⟩ (.int .i64 a1_1)).setCell ⟨gb321, 2, none⟩ (.int .i64 a1_2)).setCell ⟨gb321, 3, none⟩ (.int .i64 a1_3)).setCell ⟨gb321, 4, none⟩ (.int .i64 a1_4)).heap[gb315]? = some (.cells #[.slice Ao30 t308.length co30, .slice Ao35 t311.length co35, .bool false] 25 (0, 0))) := ⟨vB BK315.out⟩
       have n6_ : Aside0 ((((((w107.setCell ⟨gb321, 0, none⟩ (.int .i64 a1_0)).setCell ⟨gb321, 1, none⟩ (.int .i64 a1_1)).setCell ⟨gb321, 2, none⟩ (.int .i64 a1_2)).setCell ⟨gb321, 3, none⟩ (.int .i64 a1_3)).setCell ⟨gb321, 4, none⟩ (.int .i64 a1_4)).heap[gb319]? = some (.cells #[.int .i64 (-4611686018427387904), .int .i64 4611686018427387904] 37 (0, 0))) := ⟨vB BK319.out⟩
       have n7_ : Aside0 ((((((w107.setCell ⟨gb321, 0, none⟩ (.int .i64 a1_0)).setCell ⟨gb321, 1, none⟩ (.int .i64 a1_1)).setCell ⟨gb321, 2, none⟩ (.int .i64 a1_2)).setCell ⟨gb321, 3, none⟩ (.int .i64 a1_3)).setCell ⟨gb321, 4, none⟩ (.int .i64 a1_4)).heap[gb321]? = some (.cells #[.int .i64 a1_0, .int .i64 a1_1, .int .i64 a1_2, .int .i64 a1_3, .int .i64 a1_4] 49 (0, 0))) := ⟨by (with_reducible repeat (first | refine blk_drewN ?_ _ | refine blk_drew ?_ | refine blk_alloc ?_ _)); refine blk_put (cs := #[.int .i64 a1_0, .int .i64 a1_1, .int .i64 a1_2, .int .i64 a1_3, .int .i64 0]) ?_ 4 _ rfl; (with_reducible repeat (first | refine blk_drewN ?_ _ | refine blk_drew ?_ | refine blk_alloc ?_ _)); refine blk_put (cs := #[.int .i64 a1_0, .int .i64 a1_1, .int .i64 a1_2, .int .i64 0, .int .i64 0]) ?_ 3 _ rfl; (with_reducible repeat (first | refine blk_drewN ?_ _ | refine blk_drew ?_ | refine blk_alloc ?_ _)); refine blk_put (cs := #[.int .i64 a1_0, .int .i64 a1_1, .int .i64 0, .int .i64 0, .int .i64 0]) ?_ 2 _ rfl; (with_reducible repeat (first | refine blk_drewN ?_ _ | refine blk_drew ?_ | refine blk_alloc ?_ _)); refine blk_put (cs := #[.int .i64 a1_0, .int .i64 0, .int .i64 0, .int .i64 0, .int .i64 0]) ?_ 1 _ rfl; (with_reducible repeat (first | refine blk_drewN ?_ _ | refine blk_drew ?_ | refine blk_alloc ?_ _)); refine blk_put (cs := #[.int .i64 0, .int .i64 0, .int .i64 0, .int .i64 0, .int .i64 0]) ?_ 0 _ rfl; (with_reducible repeat (first | refine blk_drewN ?_ _ | refine blk_drew ?_ | refine blk_alloc ?_ _)); exact BK321.out⟩
       have n8_ : Aside0 (Below w.heap.size w (((((w107.setCell ⟨gb321, 0, none⟩ (.int .i64 a1_0)).setCell ⟨gb321, 1, none⟩ (.int .i64 a1_1)).setCell ⟨gb321, 2, none⟩ (.int .i64 a1_2)).setCell ⟨gb321, 3, none⟩ (.int .i64 a1_3)).setCell ⟨gb321, 4, none⟩ (.int .i64 a1_4))) := ⟨vW HB.out⟩
       (try clear HO_316000)
       (try clear HO_316001)
       (try clear BK305)
       (try clear BK306)
       (try clear BK307)
       (try clear BK315)
       (try clear BK319)
       (try clear BK321)
       (try clear HB)
       generalize (((((w107.setCell ⟨gb321, 0, none⟩ (.int .i64 a1_0)).setCell ⟨gb321, 1, none⟩ (.int .i64 a1_1)).setCell ⟨gb321, 2, none⟩ (.int .i64 a1_2)).setCell ⟨gb321, 3, none⟩ (.int .i64 a1_3)).setCell ⟨gb321, 4, none⟩ (.int .i64 a1_4)) = w114 at n0_ n1_ n2_ n3_ n4_ n5_ n6_ n7_ n8_ ⊢
       have HO_316000 := n0_
       have HO_316001 := n1_
       have BK305 := n2_
       have BK306 := n3_
       have BK307 := n4_
       have BK315 := n5_
       have BK319 := n6_
       have BK321 := n7_
       have HB := n8_
       clear n0_ n1_ n2_ n3_ n4_ n5_ n6_ n7_ n8_
       replace HO_316000 := Aside0.mk (Kd.R_drew HO_316000.out)
       replace HO_316001 := Aside0.mk (Kd.R_drew HO_316001.out)
       replace BK305 := Aside0.mk (blk_drew BK305.out)
       replace BK306 := Aside0.mk (blk_drew BK306.out)
       replace BK307 := Aside0.mk (blk_drew BK307.out)
       replace BK315 := Aside0.mk (blk_drew BK315.out)
       replace BK319 := Aside0.mk (blk_drew BK319.out)
       replace BK321 := Aside0.mk (blk_drew BK321.out)
       replace HB := Aside0.mk (below_drew1 HB.out)
       refine start_ (n := 10) (S := fun w' => w'.cell? ⟨gb306, 0, none⟩ = some (.int .i64 a1_0) ∧ w'.cell? ⟨gb306, 1, none⟩ = some (.int .i64 a1_1) ∧ w'.cell? ⟨gb306, 2, none⟩ = some (.int .i64 a1_2) ∧ w'.cell? ⟨gb306, 3, none⟩ = some (.int .i64 a1_3) ∧ w'.cell? ⟨gb306, 4, none⟩ = some (.int .i64 a1_4)) (ds := []) (mB 10 0) (by kernel_rfl) rfl rfl ⟨(blk_cell BK306.out 0).trans rfl, (blk_cell BK306.out 1).trans rfl, (blk_cell BK306.out 2).trans rfl, (blk_cell BK306.out 3).trans rfl, (blk_cell BK306.out 4).trans rfl⟩ (fun hHeld => ?_); refine with_tabW gimbalref11_Bounds.tab11 gimbalref11_Bounds.bits11 (fun HT_ HW_ => ?_)
       generalize w114.drew = w115 at HO_316000 HO_316001 BK305 BK306 BK307 BK315 BK319 BK321 HB hHeld ⊢
       refine pV_ 0 50 (mB 10 1) HT_ ?_
       refine pV_ 3 53 (mB 10 9) HT_ ?_
       refine tV_ 1 51 (mB 10 11) HT_ HW_ hHeld ?_
       refine pV_ 2 52 (mB 10 15) HT_ ?_
       refine pV_ 6 56 (mB 10 79) HT_ ?_
       refine tV_ 4 54 (mB 10 95) HT_ HW_ hHeld ?_
       refine pV_ 5 55 (mB 10 127) HT_ ?_
       refine one_ (i := 7) (N := none) (mB 10 255) rfl rfl (one_of HT_.out (by kernel_rfl)) (by decide) (fun K hK => ?_)
       have hs116 : w115.cell? ⟨gb321, 1, none⟩ = some (.int .i64 a1_1) := (blk_cell BK321.out 1).trans rfl
       have hfs116 := blk_frozen BK321.out 1
       have hns116_0 := NB305_321.out
       have hns116_1 := NB306_321.out
       have hns116_2 := NB307_321.out
       have hns116_3 := NB315_321.out
       have hns116_4 := NB319_321.out
       have hms116_0 := NB321_305.out
       have hms116_1 := NB321_306.out
       have hms116_2 := NB321_307.out
       have hms116_3 := NB321_315.out
       have hms116_4 := NB321_319.out
       refine skip_ (w1 := ?_) (by rfl) rfl ?_ ?_
       rotate_left
       ·
        go_simp
        rfl
       refine hK.out _ _ ⟨((cell_far (p := ⟨gb321, _, none⟩) NB306_321.out _).trans (hHeld.1)), ((cell_far (p := ⟨gb321, _, none⟩) NB306_321.out _).trans (hHeld.2.1)), ((cell_far (p := ⟨gb321, _, none⟩) NB306_321.out _).trans (hHeld.2.2.1)), ((cell_far (p := ⟨gb321, _, none⟩) NB306_321.out _).trans (hHeld.2.2.2.1)), ((cell_far (p := ⟨gb321, _, none⟩) NB306_321.out _).trans (hHeld.2.2.2.2))⟩ (fun hHeld => ?_)
       clear hK K
       refine pV_ 8 57 (mB 10 511) HT_ ?_
       refine one_ (i := 9) (N := none) (mB 10 1023) rfl rfl (one_of HT_.out (by kernel_rfl)) (by decide) (fun K hK => ?_)
       have hs117 : w115.cell? ⟨gb321, 3, none⟩ = some (.int .i64 a1_3) := (blk_cell BK321.out 3).trans rfl
       have hfs117 := blk_frozen BK321.out 3
       have hns117_0 := NB305_321.out
       have hns117_1 := NB306_321.out
       have hns117_2 := NB307_321.out
       have hns117_3 := NB315_321.out
       have hns117_4 := NB319_321.out
       have hms117_0 := NB321_305.out
       have hms117_1 := NB321_306.out
       have hms117_2 := NB321_307.out
       have hms117_3 := NB321_315.out
       have hms117_4 := NB321_319.out
       refine skip_ (w1 := ?_) (by rfl) rfl ?_ ?_
       rotate_left
       ·
        go_simp
        rfl
       refine hK.out _ _ ⟨((cell_far (p := ⟨gb321, _, none⟩) NB306_321.out _).trans (hHeld.1)), ((cell_far (p := ⟨gb321, _, none⟩) NB306_321.out _).trans (hHeld.2.1)), ((cell_far (p := ⟨gb321, _, none⟩) NB306_321.out _).trans (hHeld.2.2.1)), ((cell_far (p := ⟨gb321, _, none⟩) NB306_321.out _).trans (hHeld.2.2.2.1)), ((cell_far (p := ⟨gb321, _, none⟩) NB306_321.out _).trans (hHeld.2.2.2.2))⟩ (fun hHeld => ?_)
       clear hK K
       refine done_ (done_of HT_.out (by kernel_rfl)) ?_
       obtain ⟨hcz118_0, hcz118_1, hcz118_2, hfz118_0, hfz118_1, hfz118_2⟩ := vF3 BK315.out
       obtain ⟨hcz119_0, hcz119_1, hcz119_2, hcz119_3, hcz119_4, hfz119_0, hfz119_1, hfz119_2, hfz119_3, hfz119_4⟩ := vF5 BK321.out
       try go_wp2_with (first | ((with_reducible refine gate_callee (f := 79) rfl ?_); refine goesL_ (some 60) rfl rfl Try.func79 (by kernel_rfl) rfl #[.agg #[.slice Ao30 t308.length co30, .slice Ao35 t311.length co35, .bool false], .agg #[.int .i64 a1_0, .int .i64 (wrap64 (-a1_1)), .int .i64 a1_2, .int .i64 (wrap64 (-a1_3)), .int .i64 a1_4]] rfl vL ?_; (with_reducible refine (gimbalref11_greatest.calls kj20 _ _ t308 _ _ t311 false a1_0 (wrap64 (-a1_1)) a1_2 (wrap64 (-a1_3)) a1_4 t322 _ ?side1 ?side2 ?side3 ?side4 A90.out).mono ?_); (case side1 => exact vTr HO_316000.out BK321.out); (case side2 => exact (Kd.R_reads' HO_316000.out).2.1); (case side3 => exact vTr HO_316001.out BK321.out); (case side4 => exact (Kd.R_reads' HO_316001.out).2.1); rintro e w120 ⟨rfl, hb⟩; refine ⟨_, rfl, ?_⟩; replace HO_316000 := vTb HO_316000 BK321 hb; replace HO_316001 := vTb HO_316001 BK321 hb; replace BK305 := vBb BK305 hb; replace BK306 := vBb BK306 hb; replace BK307 := vBb BK307 hb; replace BK315 := vBb BK315 hb; replace BK319 := vBb BK319 hb; replace BK321 := Aside0.mk (blk_below (g := gb321) (o := .cells #[.int .i64 a1_0, .int .i64 (wrap64 (-a1_1)), .int .i64 a1_2, .int .i64 (wrap64 (-a1_3)), .int .i64 a1_4] 49 (0, 0)) (by (with_reducible repeat (first | refine blk_drewN ?_ _ | refine blk_drew ?_ | refine blk_alloc ?_ _)); refine blk_put (cs := #[.int .i64 a1_0, .int .i64 (wrap64 (-a1_1)), .int .i64 a1_2, .int .i64 a1_3, .int .i64 a1_4]) ?_ 3 _ rfl; (with_reducible repeat (first | refine blk_drewN ?_ _ | refine blk_drew ?_ | refine blk_alloc ?_ _)); refine blk_put (cs := #[.int .i64 a1_0, .int .i64 a1_1, .int .i64 a1_2, .int .i64 a1_3, .int .i64 a1_4]) ?_ 1 _ rfl; (with_reducible repeat (first | refine blk_drewN ?_ _ | refine blk_drew ?_ | refine blk_alloc ?_ _)); exact BK321.out) hb); replace HB := vWs HB hb; (try clear hb); (try clear hb2); (try clear hk); (try clear hi); obtain ⟨hcz121_0, hcz121_1, hfz121_0, hfz121_1⟩ := vF2 BK319.out; have hnb122 := NB307_305.out; have hnc122 := NB305_307.out; obtain ⟨hcz123_0, hcz123_1, hfz123_0, hfz123_1⟩ := vF2 BK307.out))
       refine bodyPost_ret (results_cell_row rfl _ _ gb307 37 #[.int .i64 (-4611686018427387904), .int .i64 4611686018427387904] (0, 0) _ rfl (by (with_reducible repeat (first | refine blk_drewN ?_ _ | refine blk_drew ?_ | refine blk_alloc ?_ _)); refine blk_put (cs := #[.int .i64 (-4611686018427387904), .int .i64 0]) ?_ 1 _ rfl; (with_reducible repeat (first | refine blk_drewN ?_ _ | refine blk_drew ?_ | refine blk_alloc ?_ _)); refine blk_put (cs := #[.int .i64 0, .int .i64 0]) ?_ 0 _ rfl; (with_reducible repeat (first | refine blk_drewN ?_ _ | refine blk_drew ?_ | refine blk_alloc ?_ _)); exact BK307.out) Try.underlying37 rfl (by kernel_rfl)) rfl ?_
       exact ⟨by first | rfl | (simp [errW_none, errW_some] <;> rfl) | (simp [*, errW_none, errW_some] <;> rfl) | (simp [wrap64]; done), vW HB.out⟩
      ·
       rw [if_neg c91] at H
       have c91b0 : (t322 == 4611686018427387904) = false := beq_eq_false_iff_ne.mpr c91
       have c91b1 : (t322 != 4611686018427387904) = true := bne_iff_ne.mpr c91
       simp only [Option.some.injEq, Prod.mk.injEq] at H
       obtain ⟨rfl, rfl⟩ := H
       try go_wp2_with (first | ((with_reducible refine gate_dst (N := 6) rfl ?_); refine box_event ?hg (N := 6) ?hd (cs := #[.int .i64 0, .int .i64 0]) (t := 37) ?hr ?_; (case hd => rfl); (case hg => rfl); (case hr => first | (go_simp; done) | (go_simp; rfl)); intro gb319 hg w124 hbox hb; replace HO_316000 := vRb HO_316000 hb; replace HO_316001 := vRb HO_316001 hb; have BK319 := Aside0.mk (hbox); have GW319 := vS hg HB; have GE319 := vS hg HB; replace HB := vWs HB hb; have NB305_319 := vNl hg BK305; have NB319_305 := vNg hg BK305; replace BK305 := vBb BK305 hb; have NB306_319 := vNl hg BK306; have NB319_306 := vNg hg BK306; replace BK306 := vBb BK306 hb; have NB307_319 := vNl hg BK307; have NB319_307 := vNg hg BK307; replace BK307 := vBb BK307 hb; have NB315_319 := vNl hg BK315; have NB319_315 := vNg hg BK315; replace BK315 := vBb BK315 hb; clear hb hbox hg; have hnb125 := NB319_305.out; have hnc125 := NB305_319.out; have hnb126 := NB319_306.out; have hnc126 := NB306_319.out; have hnb127 := NB319_307.out; have hnc127 := NB307_319.out; have hnb128 := NB319_315.out; have hnc128 := NB315_319.out; obtain ⟨hcz129_0, hcz129_1, hfz129_0, hfz129_1⟩ := vF2 BK319.out; have hnb130 := NB315_305.out; have hnc130 := NB305_315.out; have hnb131 := NB315_306.out; have hnc131 := NB306_315.out; have hnb132 := NB315_307.out; have hnc132 := NB307_315.out; obtain ⟨hcz133_0, hcz133_1, hcz133_2, hfz133_0, hfz133_1, hfz133_2⟩ := vF3 BK315.out; have hnb134 := NB306_305.out; have hnc134 := NB305_306.out; have hnb135 := NB306_307.out; have hnc135 := NB307_306.out; obtain ⟨hcz136_0, hcz136_1, hcz136_2, hcz136_3, hcz136_4, hfz136_0, hfz136_1, hfz136_2, hfz136_3, hfz136_4⟩ := vF5 BK306.out) | ((with_reducible refine gate_callee (f := 79) rfl ?_); refine goesL_ (some 41) rfl rfl Try.func79 (by kernel_rfl) rfl #[.agg #[.slice Ao30 t308.length co30, .slice Ao35 t311.length co35, .bool false], .agg #[.int .i64 a1_0, .int .i64 a1_1, .int .i64 a1_2, .int .i64 a1_3, .int .i64 a1_4]] rfl vL ?_; (with_reducible refine (gimbalref11_greatest.calls kj20 _ _ t308 _ _ t311 false a1_0 a1_1 a1_2 a1_3 a1_4 t320 _ ?side1 ?side2 ?side3 ?side4 A88.out).mono ?_); (case side1 => exact vTr HO_316000.out BK319.out); (case side2 => exact (Kd.R_reads' HO_316000.out).2.1); (case side3 => exact vTr HO_316001.out BK319.out); (case side4 => exact (Kd.R_reads' HO_316001.out).2.1); rintro e w137 ⟨rfl, hb⟩; refine ⟨_, rfl, ?_⟩; replace HO_316000 := vTb HO_316000 BK319 hb; replace HO_316001 := vTb HO_316001 BK319 hb; replace BK305 := vBb BK305 hb; replace BK306 := vBb BK306 hb; replace BK307 := vBb BK307 hb; replace BK315 := vBb BK315 hb; replace BK319 := Aside0.mk (blk_below (g := gb319) (o := .cells #[.int .i64 (-4611686018427387904), .int .i64 4611686018427387904] 37 (0, 0)) (by (with_reducible repeat (first | refine blk_drewN ?_ _ | refine blk_drew ?_ | refine blk_alloc ?_ _)); refine blk_put (cs := #[.int .i64 (-4611686018427387904), .int .i64 0]) ?_ 1 _ rfl; (with_reducible repeat (first | refine blk_drewN ?_ _ | refine blk_drew ?_ | refine blk_alloc ?_ _)); refine blk_put (cs := #[.int .i64 0, .int .i64 0]) ?_ 0 _ rfl; (with_reducible repeat (first | refine blk_drewN ?_ _ | refine blk_drew ?_ | refine blk_alloc ?_ _)); exact BK319.out) hb); replace HB := vWs HB hb; (try clear hb); (try clear hb2); (try clear hk); (try clear hi); obtain ⟨hcz138_0, hcz138_1, hcz138_2, hcz138_3, hcz138_4, hfz138_0, hfz138_1, hfz138_2, hfz138_3, hfz138_4⟩ := vF5 BK306.out) | ((with_reducible refine gate_dst (N := 8) rfl ?_); refine box_event ?hg (N := 8) ?hd (cs := #[.int .i64 0, .int .i64 0, .int .i64 0, .int .i64 0, .int .i64 0]) (t := 49) ?hr ?_; (case hd => rfl); (case hg => rfl); (case hr => first | (go_simp; done) | (go_simp; rfl)); intro gb321 hg w139 hbox hb; replace HO_316000 := vRb HO_316000 hb; replace HO_316001 := vRb HO_316001 hb; have BK321 := Aside0.mk (hbox); have GW321 := vS hg HB; have GE321 := vS hg HB; replace HB := vWs HB hb; have NB305_321 := vNl hg BK305; have NB321_305 := vNg hg BK305; replace BK305 := vBb BK305 hb; have NB306_321 := vNl hg BK306; have NB321_306 := vNg hg BK306; replace BK306 := vBb BK306 hb; have NB307_321 := vNl hg BK307; have NB321_307 := vNg hg BK307; replace BK307 := vBb BK307 hb; have NB315_321 := vNl hg BK315; have NB321_315 := vNg hg BK315; replace BK315 := vBb BK315 hb; have NB319_321 := vNl hg BK319; have NB321_319 := vNg hg BK319; replace BK319 := vBb BK319 hb; clear hb hbox hg; have hnb140 := NB321_305.out; have hnc140 := NB305_321.out; have hnb141 := NB321_306.out; have hnc141 := NB306_321.out; have hnb142 := NB321_307.out; have hnc142 := NB307_321.out; have hnb143 := NB321_315.out; have hnc143 := NB315_321.out; have hnb144 := NB321_319.out; have hnc144 := NB319_321.out; obtain ⟨hcz145_0, hcz145_1, hcz145_2, hcz145_3, hcz145_4, hfz145_0, hfz145_1, hfz145_2, hfz145_3, hfz145_4⟩ := vF5 BK321.out))
       have n0_ : Aside0 (Kd.R (Kd.int .i64) 3 (((((w139.setCell ⟨gb321, 0, none⟩ (.int .i64 a1_0)).setCell ⟨gb321, 1, none⟩ (.int .i64 a1_1)).setCell ⟨gb321, 2, none⟩ (.int .i64 a1_2)).setCell ⟨gb321, 3, none⟩ (.int .i64 a1_3)).setCell ⟨gb321, 4, none⟩ (.int .i64 a1_4)) w.heap.size (fun _ => True) (.slice Ao30 t308.length co30) t308) := ⟨by (with_reducible repeat (first | apply Kd.R_alloc | apply Kd.R_drewN | apply Kd.R_drew)); exact Kd.R_mono (Kd.R_far (p := ⟨gb321, 4, none⟩) (Kd.R_far (p := ⟨gb321, 3, none⟩) (Kd.R_far (p := ⟨gb321, 2, none⟩) (Kd.R_far (p := ⟨gb321, 1, none⟩) (Kd.R_far (p := ⟨gb321, 0, none⟩) (Kd.R_types HO_316000.out BK321.out (by decide)) (fun _ hk => hk.2) (.int .i64 a1_0)) (fun _ hk => hk.2) (.int .i64 a1_1)) (fun _ hk => hk.2) (.int .i64 a1_2)) (fun _ hk => hk.2) (.int .i64 a1_3)) (fun _ hk => hk.2) (.int .i64 a1_4)) (fun _ hk => trivial)⟩
       have n1_ : Aside0 (Kd.R (Kd.int .i64) 2 (((((w139.setCell ⟨gb321, 0, none⟩ (.int .i64 a1_0)).setCell ⟨gb321, 1, none⟩ (.int .i64 a1_1)).setCell ⟨gb321, 2, none⟩ (.int .i64 a1_2)).setCell ⟨gb321, 3, none⟩ (.int .i64 a1_3)).setCell ⟨gb321, 4, none⟩ (.int .i64 a1_4)) w.heap.size (fun _ => True) (.slice Ao35 t311.length co35) t311) := ⟨by (with_reducible repeat (first | apply Kd.R_alloc | apply Kd.R_drewN | apply Kd.R_drew)); exact Kd.R_mono (Kd.R_far (p := ⟨gb321, 4, none⟩) (Kd.R_far (p := ⟨gb321, 3, none⟩) (Kd.R_far (p := ⟨gb321, 2, none⟩) (Kd.R_far (p := ⟨gb321, 1, none⟩) (Kd.R_far (p := ⟨gb321, 0, none⟩) (Kd.R_types HO_316001.out BK321.out (by decide)) (fun _ hk => hk.2) (.int .i64 a1_0)) (fun _ hk => hk.2) (.int .i64 a1_1)) (fun _ hk => hk.2) (.int .i64 a1_2)) (fun _ hk => hk.2) (.int .i64 a1_3)) (fun _ hk => hk.2) (.int .i64 a1_4)) (fun _ hk => trivial)⟩
       have n2_ : Aside0 ((((((w139.setCell ⟨gb321, 0, none⟩ (.int .i64 a1_0)).setCell ⟨gb321, 1, none⟩ (.int .i64 a1_1)).setCell ⟨gb321, 2, none⟩ (.int .i64 a1_2)).setCell ⟨gb321, 3, none⟩ (.int .i64 a1_3)).setCell ⟨gb321, 4, none⟩ (.int .i64 a1_4)).heap[gb305]? = some (.cells #[.slice A0_0 l0_0.length c0_0, .slice A0_1 l0_1.length c0_1, .bool a0_2] 25 (0, 0))) := ⟨vB BK305.out⟩
       have n3_ : Aside0 ((((((w139.setCell ⟨gb321, 0, none⟩ (.int .i64 a1_0)).setCell ⟨gb321, 1, none⟩ (.int .i64 a1_1)).setCell ⟨gb321, 2, none⟩ (.int .i64 a1_2)).setCell ⟨gb321, 3, none⟩ (.int .i64 a1_3)).setCell ⟨gb321, 4, none⟩ (.int .i64 a1_4)).heap[gb306]? = some (.cells #[.int .i64 a1_0, .int .i64 a1_1, .int .i64 a1_2, .int .i64 a1_3, .int .i64 a1_4] 49 (0, 0))) := ⟨vB BK306.out⟩
       have n4_ : Aside0 ((((((w139.setCell ⟨gb321, 0, none⟩ (.int .i64 a1_0)).setCell ⟨gb321, 1, none⟩ (.int .i64 a1_1)).setCell ⟨gb321, 2, none⟩ (.int .i64 a1_2)).setCell ⟨gb321, 3, none⟩ (.int .i64 a1_3)).setCell ⟨gb321, 4, none⟩ (.int .i64 a1_4)).heap[gb307]? = some (.cells #[.int .i64 0, .int .i64 0] 37 (0, 0))) := ⟨vB BK307.out⟩
       have n5_ : Aside0 ((((((w139.setCell ⟨gb321, 0, none⟩ (.int .i64 a1_0)).setCell ⟨gb321, 1, none⟩ (.int .i64 a1_1)).setCell ⟨gb321, 2, none⟩ (.int .i64 a1_2)).setCell ⟨gb321, 3, none⟩ (.int .i64 a1_3)).setCell ⟨gb321, 4, none⟩ (.int .i64 a1_4)).heap[gb315]? = some (.cells #[.slice Ao30 t308.length co30, .slice Ao35 t311.length co35, .bool false] 25 (0, 0))) := ⟨vB BK315.out⟩
       have n6_ : Aside0 ((((((w139.setCell ⟨gb321, 0, none⟩ (.int .i64 a1_0)).setCell ⟨gb321, 1, none⟩ (.int .i64 a1_1)).setCell ⟨gb321, 2, none⟩ (.int .i64 a1_2)).setCell ⟨gb321, 3, none⟩ (.int .i64 a1_3)).setCell ⟨gb321, 4, none⟩ (.int .i64 a1_4)).heap[gb319]? = some (.cells #[.int .i64 (-4611686018427387904), .int .i64 4611686018427387904] 37 (0, 0))) := ⟨vB BK319.out⟩
       have n7_ : Aside0 ((((((w139.setCell ⟨gb321, 0, none⟩ (.int .i64 a1_0)).setCell ⟨gb321, 1, none⟩ (.int .i64 a1_1)).setCell ⟨gb321, 2, none⟩ (.int .i64 a1_2)).setCell ⟨gb321, 3, none⟩ (.int .i64 a1_3)).setCell ⟨gb321, 4, none⟩ (.int .i64 a1_4)).heap[gb321]? = some (.cells #[.int .i64 a1_0, .int .i64 a1_1, .int .i64 a1_2, .int .i64 a1_3, .int .i64 a1_4] 49 (0, 0))) := ⟨by (with_reducible repeat (first | refine blk_drewN ?_ _ | refine blk_drew ?_ | refine blk_alloc ?_ _)); refine blk_put (cs := #[.int .i64 a1_0, .int .i64 a1_1, .int .i64 a1_2, .int .i64 a1_3, .int .i64 0]) ?_ 4 _ rfl; (with_reducible repeat (first | refine blk_drewN ?_ _ | refine blk_drew ?_ | refine blk_alloc ?_ _)); refine blk_put (cs := #[.int .i64 a1_0, .int .i64 a1_1, .int .i64 a1_2, .int .i64 0, .int .i64 0]) ?_ 3 _ rfl; (with_reducible repeat (first | refine blk_drewN ?_ _ | refine blk_drew ?_ | refine blk_alloc ?_ _)); refine blk_put (cs := #[.int .i64 a1_0, .int .i64 a1_1, .int .i64 0, .int .i64 0, .int .i64 0]) ?_ 2 _ rfl; (with_reducible repeat (first | refine blk_drewN ?_ _ | refine blk_drew ?_ | refine blk_alloc ?_ _)); refine blk_put (cs := #[.int .i64 a1_0, .int .i64 0, .int .i64 0, .int .i64 0, .int .i64 0]) ?_ 1 _ rfl; (with_reducible repeat (first | refine blk_drewN ?_ _ | refine blk_drew ?_ | refine blk_alloc ?_ _)); refine blk_put (cs := #[.int .i64 0, .int .i64 0, .int .i64 0, .int .i64 0, .int .i64 0]) ?_ 0 _ rfl; (with_reducible repeat (first | refine blk_drewN ?_ _ | refine blk_drew ?_ | refine blk_alloc ?_ _)); exact BK321.out⟩
       have n8_ : Aside0 (Below w.heap.size w (((((w139.setCell ⟨gb321, 0, none⟩ (.int .i64 a1_0)).setCell ⟨gb321, 1, none⟩ (.int .i64 a1_1)).setCell ⟨gb321, 2, none⟩ (.int .i64 a1_2)).setCell ⟨gb321, 3, none⟩ (.int .i64 a1_3)).setCell ⟨gb321, 4, none⟩ (.int .i64 a1_4))) := ⟨vW HB.out⟩
       (try clear HO_316000)
       (try clear HO_316001)
       (try clear BK305)
       (try clear BK306)
       (try clear BK307)
       (try clear BK315)
       (try clear BK319)
       (try clear BK321)
       (try clear HB)
       generalize (((((w139.setCell ⟨gb321, 0, none⟩ (.int .i64 a1_0)).setCell ⟨gb321, 1, none⟩ (.int .i64 a1_1)).setCell ⟨gb321, 2, none⟩ (.int .i64 a1_2)).setCell ⟨gb321, 3, none⟩ (.int .i64 a1_3)).setCell ⟨gb321, 4, none⟩ (.int .i64 a1_4)) = w146 at n0_ n1_ n2_ n3_ n4_ n5_ n6_ n7_ n8_ ⊢
       have HO_316000 := n0_
       have HO_316001 := n1_
       have BK305 := n2_
       have BK306 := n3_
       have BK307 := n4_
       have BK315 := n5_
       have BK319 := n6_
       have BK321 := n7_
       have HB := n8_
       clear n0_ n1_ n2_ n3_ n4_ n5_ n6_ n7_ n8_
       replace HO_316000 := Aside0.mk (Kd.R_drew HO_316000.out)
       replace HO_316001 := Aside0.mk (Kd.R_drew HO_316001.out)
       replace BK305 := Aside0.mk (blk_drew BK305.out)
       replace BK306 := Aside0.mk (blk_drew BK306.out)
       replace BK307 := Aside0.mk (blk_drew BK307.out)
       replace BK315 := Aside0.mk (blk_drew BK315.out)
       replace BK319 := Aside0.mk (blk_drew BK319.out)
       replace BK321 := Aside0.mk (blk_drew BK321.out)
       replace HB := Aside0.mk (below_drew1 HB.out)
       refine start_ (n := 10) (S := fun w' => w'.cell? ⟨gb306, 0, none⟩ = some (.int .i64 a1_0) ∧ w'.cell? ⟨gb306, 1, none⟩ = some (.int .i64 a1_1) ∧ w'.cell? ⟨gb306, 2, none⟩ = some (.int .i64 a1_2) ∧ w'.cell? ⟨gb306, 3, none⟩ = some (.int .i64 a1_3) ∧ w'.cell? ⟨gb306, 4, none⟩ = some (.int .i64 a1_4)) (ds := []) (mB 10 0) (by kernel_rfl) rfl rfl ⟨(blk_cell BK306.out 0).trans rfl, (blk_cell BK306.out 1).trans rfl, (blk_cell BK306.out 2).trans rfl, (blk_cell BK306.out 3).trans rfl, (blk_cell BK306.out 4).trans rfl⟩ (fun hHeld => ?_); refine with_tabW gimbalref11_Bounds.tab11 gimbalref11_Bounds.bits11 (fun HT_ HW_ => ?_)
       generalize w146.drew = w147 at HO_316000 HO_316001 BK305 BK306 BK307 BK315 BK319 BK321 HB hHeld ⊢
       refine pV_ 0 50 (mB 10 1) HT_ ?_
       refine pV_ 3 53 (mB 10 9) HT_ ?_
       refine tV_ 1 51 (mB 10 11) HT_ HW_ hHeld ?_
       refine pV_ 2 52 (mB 10 15) HT_ ?_
       refine pV_ 6 56 (mB 10 79) HT_ ?_
       refine tV_ 4 54 (mB 10 95) HT_ HW_ hHeld ?_
       refine pV_ 5 55 (mB 10 127) HT_ ?_
       refine one_ (i := 7) (N := none) (mB 10 255) rfl rfl (one_of HT_.out (by kernel_rfl)) (by decide) (fun K hK => ?_)
       have hs148 : w147.cell? ⟨gb321, 1, none⟩ = some (.int .i64 a1_1) := (blk_cell BK321.out 1).trans rfl
       have hfs148 := blk_frozen BK321.out 1
       have hns148_0 := NB305_321.out
       have hns148_1 := NB306_321.out
       have hns148_2 := NB307_321.out
       have hns148_3 := NB315_321.out
       have hns148_4 := NB319_321.out
       have hms148_0 := NB321_305.out
       have hms148_1 := NB321_306.out
       have hms148_2 := NB321_307.out
       have hms148_3 := NB321_315.out
       have hms148_4 := NB321_319.out
       refine skip_ (w1 := ?_) (by rfl) rfl ?_ ?_
       rotate_left
       ·
        go_simp
        rfl
       refine hK.out _ _ ⟨((cell_far (p := ⟨gb321, _, none⟩) NB306_321.out _).trans (hHeld.1)), ((cell_far (p := ⟨gb321, _, none⟩) NB306_321.out _).trans (hHeld.2.1)), ((cell_far (p := ⟨gb321, _, none⟩) NB306_321.out _).trans (hHeld.2.2.1)), ((cell_far (p := ⟨gb321, _, none⟩) NB306_321.out _).trans (hHeld.2.2.2.1)), ((cell_far (p := ⟨gb321, _, none⟩) NB306_321.out _).trans (hHeld.2.2.2.2))⟩ (fun hHeld => ?_)
       clear hK K
       refine pV_ 8 57 (mB 10 511) HT_ ?_
       refine one_ (i := 9) (N := none) (mB 10 1023) rfl rfl (one_of HT_.out (by kernel_rfl)) (by decide) (fun K hK => ?_)
       have hs149 : w147.cell? ⟨gb321, 3, none⟩ = some (.int .i64 a1_3) := (blk_cell BK321.out 3).trans rfl
       have hfs149 := blk_frozen BK321.out 3
       have hns149_0 := NB305_321.out
       have hns149_1 := NB306_321.out
       have hns149_2 := NB307_321.out
       have hns149_3 := NB315_321.out
       have hns149_4 := NB319_321.out
       have hms149_0 := NB321_305.out
       have hms149_1 := NB321_306.out
       have hms149_2 := NB321_307.out
       have hms149_3 := NB321_315.out
       have hms149_4 := NB321_319.out
       refine skip_ (w1 := ?_) (by rfl) rfl ?_ ?_
       rotate_left
       ·
        go_simp
        rfl
       refine hK.out _ _ ⟨((cell_far (p := ⟨gb321, _, none⟩) NB306_321.out _).trans (hHeld.1)), ((cell_far (p := ⟨gb321, _, none⟩) NB306_321.out _).trans (hHeld.2.1)), ((cell_far (p := ⟨gb321, _, none⟩) NB306_321.out _).trans (hHeld.2.2.1)), ((cell_far (p := ⟨gb321, _, none⟩) NB306_321.out _).trans (hHeld.2.2.2.1)), ((cell_far (p := ⟨gb321, _, none⟩) NB306_321.out _).trans (hHeld.2.2.2.2))⟩ (fun hHeld => ?_)
       clear hK K
       refine done_ (done_of HT_.out (by kernel_rfl)) ?_
       obtain ⟨hcz150_0, hcz150_1, hcz150_2, hfz150_0, hfz150_1, hfz150_2⟩ := vF3 BK315.out
       obtain ⟨hcz151_0, hcz151_1, hcz151_2, hcz151_3, hcz151_4, hfz151_0, hfz151_1, hfz151_2, hfz151_3, hfz151_4⟩ := vF5 BK321.out
       try go_wp2_with (first | ((with_reducible refine gate_callee (f := 79) rfl ?_); refine goesL_ (some 60) rfl rfl Try.func79 (by kernel_rfl) rfl #[.agg #[.slice Ao30 t308.length co30, .slice Ao35 t311.length co35, .bool false], .agg #[.int .i64 a1_0, .int .i64 (wrap64 (-a1_1)), .int .i64 a1_2, .int .i64 (wrap64 (-a1_3)), .int .i64 a1_4]] rfl vL ?_; (with_reducible refine (gimbalref11_greatest.calls kj20 _ _ t308 _ _ t311 false a1_0 (wrap64 (-a1_1)) a1_2 (wrap64 (-a1_3)) a1_4 t322 _ ?side1 ?side2 ?side3 ?side4 A90.out).mono ?_); (case side1 => exact vTr HO_316000.out BK321.out); (case side2 => exact (Kd.R_reads' HO_316000.out).2.1); (case side3 => exact vTr HO_316001.out BK321.out); (case side4 => exact (Kd.R_reads' HO_316001.out).2.1); rintro e w152 ⟨rfl, hb⟩; refine ⟨_, rfl, ?_⟩; replace HO_316000 := vTb HO_316000 BK321 hb; replace HO_316001 := vTb HO_316001 BK321 hb; replace BK305 := vBb BK305 hb; replace BK306 := vBb BK306 hb; replace BK307 := vBb BK307 hb; replace BK315 := vBb BK315 hb; replace BK319 := vBb BK319 hb; replace BK321 := Aside0.mk (blk_below (g := gb321) (o := .cells #[.int .i64 a1_0, .int .i64 (wrap64 (-a1_1)), .int .i64 a1_2, .int .i64 (wrap64 (-a1_3)), .int .i64 a1_4] 49 (0, 0)) (by (with_reducible repeat (first | refine blk_drewN ?_ _ | refine blk_drew ?_ | refine blk_alloc ?_ _)); refine blk_put (cs := #[.int .i64 a1_0, .int .i64 (wrap64 (-a1_1)), .int .i64 a1_2, .int .i64 a1_3, .int .i64 a1_4]) ?_ 3 _ rfl; (with_reducible repeat (first | refine blk_drewN ?_ _ | refine blk_drew ?_ | refine blk_alloc ?_ _)); refine blk_put (cs := #[.int .i64 a1_0, .int .i64 a1_1, .int .i64 a1_2, .int .i64 a1_3, .int .i64 a1_4]) ?_ 1 _ rfl; (with_reducible repeat (first | refine blk_drewN ?_ _ | refine blk_drew ?_ | refine blk_alloc ?_ _)); exact BK321.out) hb); replace HB := vWs HB hb; (try clear hb); (try clear hb2); (try clear hk); (try clear hi); obtain ⟨hcz153_0, hcz153_1, hcz153_2, hcz153_3, hcz153_4, hfz153_0, hfz153_1, hfz153_2, hfz153_3, hfz153_4⟩ := vF5 BK306.out; obtain ⟨hcz154_0, hcz154_1, hfz154_0, hfz154_1⟩ := vF2 BK319.out; have hnb155 := NB307_305.out; have hnc155 := NB305_307.out; obtain ⟨hcz156_0, hcz156_1, hfz156_0, hfz156_1⟩ := vF2 BK307.out))
       refine bodyPost_ret (results_cell_row rfl _ _ gb307 37 #[.int .i64 (wrap64 (a1_4 - t322)), .int .i64 4611686018427387904] (0, 0) _ rfl (by (with_reducible repeat (first | refine blk_drewN ?_ _ | refine blk_drew ?_ | refine blk_alloc ?_ _)); refine blk_put (cs := #[.int .i64 (wrap64 (a1_4 - t322)), .int .i64 0]) ?_ 1 _ rfl; (with_reducible repeat (first | refine blk_drewN ?_ _ | refine blk_drew ?_ | refine blk_alloc ?_ _)); refine blk_put (cs := #[.int .i64 0, .int .i64 0]) ?_ 0 _ rfl; (with_reducible repeat (first | refine blk_drewN ?_ _ | refine blk_drew ?_ | refine blk_alloc ?_ _)); refine blk_far ?_ NB307_319.out _; (with_reducible repeat (first | refine blk_drewN ?_ _ | refine blk_drew ?_ | refine blk_alloc ?_ _)); exact BK307.out) Try.underlying37 rfl (by kernel_rfl)) rfl ?_
       exact ⟨by first | rfl | (simp [errW_none, errW_some] <;> rfl) | (simp [*, errW_none, errW_some] <;> rfl) | (simp [wrap64]; done), vW HB.out⟩
     ·
      rw [if_neg c89] at H
      have c89b0 : (t320 == 4611686018427387904) = false := beq_eq_false_iff_ne.mpr c89
      have c89b1 : (t320 != 4611686018427387904) = true := bne_iff_ne.mpr c89
      replace H := Option.bind_eq_some_iff.mp H
      obtain ⟨t324, A1570, H⟩ := H
      replace H : (if t324 = 4611686018427387904 then (some ((-4611686018427387904), wrap64 (t320 + a1_4))) else (some (wrap64 (a1_4 - t324), wrap64 (t320 + a1_4)))) = some (r1, r2) := H
      have A157 := Aside0.mk A1570
      clear A1570
      by_cases c158 : t324 = 4611686018427387904
      ·
       rw [if_pos c158] at H
       have c158b0 : (t324 == 4611686018427387904) = true := beq_iff_eq.mpr c158
       have c158b1 : (t324 != 4611686018427387904) = false := bne_eq_false_iff_eq.mpr c158
       clear c158
       simp only [Option.some.injEq, Prod.mk.injEq] at H
       obtain ⟨rfl, rfl⟩ := H
       try go_wp2_with (first | ((with_reducible refine gate_dst (N := 6) rfl ?_); refine box_event ?hg (N := 6) ?hd (cs := #[.int .i64 0, .int .i64 0]) (t := 37) ?hr ?_; (case hd => rfl); (case hg => rfl); (case hr => first | (go_simp; done) | (go_simp; rfl)); intro gb319 hg w159 hbox hb; replace HO_316000 := vRb HO_316000 hb; replace HO_316001 := vRb HO_316001 hb; have BK319 := Aside0.mk (hbox); have GW319 := vS hg HB; have GE319 := vS hg HB; replace HB := vWs HB hb; have NB305_319 := vNl hg BK305; have NB319_305 := vNg hg BK305; replace BK305 := vBb BK305 hb; have NB306_319 := vNl hg BK306; have NB319_306 := vNg hg BK306; replace BK306 := vBb BK306 hb; have NB307_319 := vNl hg BK307; have NB319_307 := vNg hg BK307; replace BK307 := vBb BK307 hb; have NB315_319 := vNl hg BK315; have NB319_315 := vNg hg BK315; replace BK315 := vBb BK315 hb; clear hb hbox hg; have hnb160 := NB319_305.out; have hnc160 := NB305_319.out; have hnb161 := NB319_306.out; have hnc161 := NB306_319.out; have hnb162 := NB319_307.out; have hnc162 := NB307_319.out; have hnb163 := NB319_315.out; have hnc163 := NB315_319.out; obtain ⟨hcz164_0, hcz164_1, hfz164_0, hfz164_1⟩ := vF2 BK319.out; have hnb165 := NB315_305.out; have hnc165 := NB305_315.out; have hnb166 := NB315_306.out; have hnc166 := NB306_315.out; have hnb167 := NB315_307.out; have hnc167 := NB307_315.out; obtain ⟨hcz168_0, hcz168_1, hcz168_2, hfz168_0, hfz168_1, hfz168_2⟩ := vF3 BK315.out; have hnb169 := NB306_305.out; have hnc169 := NB305_306.out; have hnb170 := NB306_307.out; have hnc170 := NB307_306.out; obtain ⟨hcz171_0, hcz171_1, hcz171_2, hcz171_3, hcz171_4, hfz171_0, hfz171_1, hfz171_2, hfz171_3, hfz171_4⟩ := vF5 BK306.out) | ((with_reducible refine gate_callee (f := 79) rfl ?_); refine goesL_ (some 41) rfl rfl Try.func79 (by kernel_rfl) rfl #[.agg #[.slice Ao30 t308.length co30, .slice Ao35 t311.length co35, .bool false], .agg #[.int .i64 a1_0, .int .i64 a1_1, .int .i64 a1_2, .int .i64 a1_3, .int .i64 a1_4]] rfl vL ?_; (with_reducible refine (gimbalref11_greatest.calls kj20 _ _ t308 _ _ t311 false a1_0 a1_1 a1_2 a1_3 a1_4 t320 _ ?side1 ?side2 ?side3 ?side4 A88.out).mono ?_); (case side1 => exact vTr HO_316000.out BK319.out); (case side2 => exact (Kd.R_reads' HO_316000.out).2.1); (case side3 => exact vTr HO_316001.out BK319.out); (case side4 => exact (Kd.R_reads' HO_316001.out).2.1); rintro e w172 ⟨rfl, hb⟩; refine ⟨_, rfl, ?_⟩; replace HO_316000 := vTb HO_316000 BK319 hb; replace HO_316001 := vTb HO_316001 BK319 hb; replace BK305 := vBb BK305 hb; replace BK306 := vBb BK306 hb; replace BK307 := vBb BK307 hb; replace BK315 := vBb BK315 hb; replace BK319 := Aside0.mk (blk_below (g := gb319) (o := .cells #[.int .i64 (-4611686018427387904), .int .i64 4611686018427387904] 37 (0, 0)) (by (with_reducible repeat (first | refine blk_drewN ?_ _ | refine blk_drew ?_ | refine blk_alloc ?_ _)); refine blk_put (cs := #[.int .i64 (-4611686018427387904), .int .i64 0]) ?_ 1 _ rfl; (with_reducible repeat (first | refine blk_drewN ?_ _ | refine blk_drew ?_ | refine blk_alloc ?_ _)); refine blk_put (cs := #[.int .i64 0, .int .i64 0]) ?_ 0 _ rfl; (with_reducible repeat (first | refine blk_drewN ?_ _ | refine blk_drew ?_ | refine blk_alloc ?_ _)); exact BK319.out) hb); replace HB := vWs HB hb; (try clear hb); (try clear hb2); (try clear hk); (try clear hi); obtain ⟨hcz173_0, hcz173_1, hcz173_2, hcz173_3, hcz173_4, hfz173_0, hfz173_1, hfz173_2, hfz173_3, hfz173_4⟩ := vF5 BK306.out; obtain ⟨hcz174_0, hcz174_1, hfz174_0, hfz174_1⟩ := vF2 BK319.out) | ((with_reducible refine gate_dst (N := 8) rfl ?_); refine box_event ?hg (N := 8) ?hd (cs := #[.int .i64 0, .int .i64 0, .int .i64 0, .int .i64 0, .int .i64 0]) (t := 49) ?hr ?_; (case hd => rfl); (case hg => rfl); (case hr => first | (go_simp; done) | (go_simp; rfl)); intro gb323 hg w175 hbox hb; replace HO_316000 := vTb HO_316000 BK319 hb; replace HO_316001 := vTb HO_316001 BK319 hb; have BK323 := Aside0.mk (hbox); have GW323 := vS hg HB; have GE323 := vS hg HB; replace HB := vWs HB hb; have NB305_323 := vNl hg BK305; have NB323_305 := vNg hg BK305; replace BK305 := vBb BK305 hb; have NB306_323 := vNl hg BK306; have NB323_306 := vNg hg BK306; replace BK306 := vBb BK306 hb; have NB307_323 := vNl hg BK307; have NB323_307 := vNg hg BK307; replace BK307 := vBb BK307 hb; have NB315_323 := vNl hg BK315; have NB323_315 := vNg hg BK315; replace BK315 := vBb BK315 hb; have NB319_323 := Aside0.mk ((by rw [hg]; exact Nat.ne_of_lt (blk_lt (g := gb319) (o := .cells #[.int .i64 (-4611686018427387904), .int .i64 (wrap64 (t320 + a1_4))] 37 (0, 0)) (by (with_reducible repeat (first | refine blk_drewN ?_ _ | refine blk_drew ?_ | refine blk_alloc ?_ _)); refine blk_put (cs := #[.int .i64 (-4611686018427387904), .int .i64 4611686018427387904]) ?_ 1 _ rfl; (with_reducible repeat (first | refine blk_drewN ?_ _ | refine blk_drew ?_ | refine blk_alloc ?_ _)); exact BK319.out)) : gb319 ≠ gb323)); have NB323_319 := Aside0.mk ((by rw [hg]; exact Nat.ne_of_gt (blk_lt (g := gb319) (o := .cells #[.int .i64 (-4611686018427387904), .int .i64 (wrap64 (t320 + a1_4))] 37 (0, 0)) (by (with_reducible repeat (first | refine blk_drewN ?_ _ | refine blk_drew ?_ | refine blk_alloc ?_ _)); refine blk_put (cs := #[.int .i64 (-4611686018427387904), .int .i64 4611686018427387904]) ?_ 1 _ rfl; (with_reducible repeat (first | refine blk_drewN ?_ _ | refine blk_drew ?_ | refine blk_alloc ?_ _)); exact BK319.out)) : gb323 ≠ gb319)); replace BK319 := Aside0.mk (blk_below (g := gb319) (o := .cells #[.int .i64 (-4611686018427387904), .int .i64 (wrap64 (t320 + a1_4))] 37 (0, 0)) (by (with_reducible repeat (first | refine blk_drewN ?_ _ | refine blk_drew ?_ | refine blk_alloc ?_ _)); refine blk_put (cs := #[.int .i64 (-4611686018427387904), .int .i64 4611686018427387904]) ?_ 1 _ rfl; (with_reducible repeat (first | refine blk_drewN ?_ _ | refine blk_drew ?_ | refine blk_alloc ?_ _)); exact BK319.out) hb); clear hb hbox hg; have hnb176 := NB323_305.out; have hnc176 := NB305_323.out; have hnb177 := NB323_306.out; have hnc177 := NB306_323.out; have hnb178 := NB323_307.out; have hnc178 := NB307_323.out; have hnb179 := NB323_315.out; have hnc179 := NB315_323.out; have hnb180 := NB323_319.out; have hnc180 := NB319_323.out; obtain ⟨hcz181_0, hcz181_1, hcz181_2, hcz181_3, hcz181_4, hfz181_0, hfz181_1, hfz181_2, hfz181_3, hfz181_4⟩ := vF5 BK323.out))
       have n0_ : Aside0 (Kd.R (Kd.int .i64) 3 (((((w175.setCell ⟨gb323, 0, none⟩ (.int .i64 a1_0)).setCell ⟨gb323, 1, none⟩ (.int .i64 a1_1)).setCell ⟨gb323, 2, none⟩ (.int .i64 a1_2)).setCell ⟨gb323, 3, none⟩ (.int .i64 a1_3)).setCell ⟨gb323, 4, none⟩ (.int .i64 a1_4)) w.heap.size (fun _ => True) (.slice Ao30 t308.length co30) t308) := ⟨by (with_reducible repeat (first | apply Kd.R_alloc | apply Kd.R_drewN | apply Kd.R_drew)); exact Kd.R_mono (Kd.R_far (p := ⟨gb323, 4, none⟩) (Kd.R_far (p := ⟨gb323, 3, none⟩) (Kd.R_far (p := ⟨gb323, 2, none⟩) (Kd.R_far (p := ⟨gb323, 1, none⟩) (Kd.R_far (p := ⟨gb323, 0, none⟩) (Kd.R_types HO_316000.out BK323.out (by decide)) (fun _ hk => hk.2) (.int .i64 a1_0)) (fun _ hk => hk.2) (.int .i64 a1_1)) (fun _ hk => hk.2) (.int .i64 a1_2)) (fun _ hk => hk.2) (.int .i64 a1_3)) (fun _ hk => hk.2) (.int .i64 a1_4)) (fun _ hk => trivial)⟩
       have n1_ : Aside0 (Kd.R (Kd.int .i64) 2 (((((w175.setCell ⟨gb323, 0, none⟩ (.int .i64 a1_0)).setCell ⟨gb323, 1, none⟩ (.int .i64 a1_1)).setCell ⟨gb323, 2, none⟩ (.int .i64 a1_2)).setCell ⟨gb323, 3, none⟩ (.int .i64 a1_3)).setCell ⟨gb323, 4, none⟩ (.int .i64 a1_4)) w.heap.size (fun _ => True) (.slice Ao35 t311.length co35) t311) := ⟨by (with_reducible repeat (first | apply Kd.R_alloc | apply Kd.R_drewN | apply Kd.R_drew)); exact Kd.R_mono (Kd.R_far (p := ⟨gb323, 4, none⟩) (Kd.R_far (p := ⟨gb323, 3, none⟩) (Kd.R_far (p := ⟨gb323, 2, none⟩) (Kd.R_far (p := ⟨gb323, 1, none⟩) (Kd.R_far (p := ⟨gb323, 0, none⟩) (Kd.R_types HO_316001.out BK323.out (by decide)) (fun _ hk => hk.2) (.int .i64 a1_0)) (fun _ hk => hk.2) (.int .i64 a1_1)) (fun _ hk => hk.2) (.int .i64 a1_2)) (fun _ hk => hk.2) (.int .i64 a1_3)) (fun _ hk => hk.2) (.int .i64 a1_4)) (fun _ hk => trivial)⟩
       have n2_ : Aside0 ((((((w175.setCell ⟨gb323, 0, none⟩ (.int .i64 a1_0)).setCell ⟨gb323, 1, none⟩ (.int .i64 a1_1)).setCell ⟨gb323, 2, none⟩ (.int .i64 a1_2)).setCell ⟨gb323, 3, none⟩ (.int .i64 a1_3)).setCell ⟨gb323, 4, none⟩ (.int .i64 a1_4)).heap[gb305]? = some (.cells #[.slice A0_0 l0_0.length c0_0, .slice A0_1 l0_1.length c0_1, .bool a0_2] 25 (0, 0))) := ⟨vB BK305.out⟩
       have n3_ : Aside0 ((((((w175.setCell ⟨gb323, 0, none⟩ (.int .i64 a1_0)).setCell ⟨gb323, 1, none⟩ (.int .i64 a1_1)).setCell ⟨gb323, 2, none⟩ (.int .i64 a1_2)).setCell ⟨gb323, 3, none⟩ (.int .i64 a1_3)).setCell ⟨gb323, 4, none⟩ (.int .i64 a1_4)).heap[gb306]? = some (.cells #[.int .i64 a1_0, .int .i64 a1_1, .int .i64 a1_2, .int .i64 a1_3, .int .i64 a1_4] 49 (0, 0))) := ⟨vB BK306.out⟩
       have n4_ : Aside0 ((((((w175.setCell ⟨gb323, 0, none⟩ (.int .i64 a1_0)).setCell ⟨gb323, 1, none⟩ (.int .i64 a1_1)).setCell ⟨gb323, 2, none⟩ (.int .i64 a1_2)).setCell ⟨gb323, 3, none⟩ (.int .i64 a1_3)).setCell ⟨gb323, 4, none⟩ (.int .i64 a1_4)).heap[gb307]? = some (.cells #[.int .i64 0, .int .i64 0] 37 (0, 0))) := ⟨vB BK307.out⟩
       have n5_ : Aside0 ((((((w175.setCell ⟨gb323, 0, none⟩ (.int .i64 a1_0)).setCell ⟨gb323, 1, none⟩ (.int .i64 a1_1)).setCell ⟨gb323, 2, none⟩ (.int .i64 a1_2)).setCell ⟨gb323, 3, none⟩ (.int .i64 a1_3)).setCell ⟨gb323, 4, none⟩ (.int .i64 a1_4)).heap[gb315]? = some (.cells #[.slice Ao30 t308.length co30, .slice Ao35 t311.length co35, .bool false] 25 (0, 0))) := ⟨vB BK315.out⟩
       have n6_ : Aside0 ((((((w175.setCell ⟨gb323, 0, none⟩ (.int .i64 a1_0)).setCell ⟨gb323, 1, none⟩ (.int .i64 a1_1)).setCell ⟨gb323, 2, none⟩ (.int .i64 a1_2)).setCell ⟨gb323, 3, none⟩ (.int .i64 a1_3)).setCell ⟨gb323, 4, none⟩ (.int .i64 a1_4)).heap[gb319]? = some (.cells #[.int .i64 (-4611686018427387904), .int .i64 (wrap64 (t320 + a1_4))] 37 (0, 0))) := ⟨vB BK319.out⟩
       have n7_ : Aside0 ((((((w175.setCell ⟨gb323, 0, none⟩ (.int .i64 a1_0)).setCell ⟨gb323, 1, none⟩ (.int .i64 a1_1)).setCell ⟨gb323, 2, none⟩ (.int .i64 a1_2)).setCell ⟨gb323, 3, none⟩ (.int .i64 a1_3)).setCell ⟨gb323, 4, none⟩ (.int .i64 a1_4)).heap[gb323]? = some (.cells #[.int .i64 a1_0, .int .i64 a1_1, .int .i64 a1_2, .int .i64 a1_3, .int .i64 a1_4] 49 (0, 0))) := ⟨by (with_reducible repeat (first | refine blk_drewN ?_ _ | refine blk_drew ?_ | refine blk_alloc ?_ _)); refine blk_put (cs := #[.int .i64 a1_0, .int .i64 a1_1, .int .i64 a1_2, .int .i64 a1_3, .int .i64 0]) ?_ 4 _ rfl; (with_reducible repeat (first | refine blk_drewN ?_ _ | refine blk_drew ?_ | refine blk_alloc ?_ _)); refine blk_put (cs := #[.int .i64 a1_0, .int .i64 a1_1, .int .i64 a1_2, .int .i64 0, .int .i64 0]) ?_ 3 _ rfl; (with_reducible repeat (first | refine blk_drewN ?_ _ | refine blk_drew ?_ | refine blk_alloc ?_ _)); refine blk_put (cs := #[.int .i64 a1_0, .int .i64 a1_1, .int .i64 0, .int .i64 0, .int .i64 0]) ?_ 2 _ rfl; (with_reducible repeat (first | refine blk_drewN ?_ _ | refine blk_drew ?_ | refine blk_alloc ?_ _)); refine blk_put (cs := #[.int .i64 a1_0, .int .i64 0, .int .i64 0, .int .i64 0, .int .i64 0]) ?_ 1 _ rfl; (with_reducible repeat (first | refine blk_drewN ?_ _ | refine blk_drew ?_ | refine blk_alloc ?_ _)); refine blk_put (cs := #[.int .i64 0, .int .i64 0, .int .i64 0, .int .i64 0, .int .i64 0]) ?_ 0 _ rfl; (with_reducible repeat (first | refine blk_drewN ?_ _ | refine blk_drew ?_ | refine blk_alloc ?_ _)); exact BK323.out⟩
       have n8_ : Aside0 (Below w.heap.size w (((((w175.setCell ⟨gb323, 0, none⟩ (.int .i64 a1_0)).setCell ⟨gb323, 1, none⟩ (.int .i64 a1_1)).setCell ⟨gb323, 2, none⟩ (.int .i64 a1_2)).setCell ⟨gb323, 3, none⟩ (.int .i64 a1_3)).setCell ⟨gb323, 4, none⟩ (.int .i64 a1_4))) := ⟨vW HB.out⟩
       (try clear HO_316000)
       (try clear HO_316001)
       (try clear BK305)
       (try clear BK306)
       (try clear BK307)
       (try clear BK315)
       (try clear BK319)
       (try clear BK323)
       (try clear HB)
       generalize (((((w175.setCell ⟨gb323, 0, none⟩ (.int .i64 a1_0)).setCell ⟨gb323, 1, none⟩ (.int .i64 a1_1)).setCell ⟨gb323, 2, none⟩ (.int .i64 a1_2)).setCell ⟨gb323, 3, none⟩ (.int .i64 a1_3)).setCell ⟨gb323, 4, none⟩ (.int .i64 a1_4)) = w182 at n0_ n1_ n2_ n3_ n4_ n5_ n6_ n7_ n8_ ⊢
       have HO_316000 := n0_
       have HO_316001 := n1_
       have BK305 := n2_
       have BK306 := n3_
       have BK307 := n4_
       have BK315 := n5_
       have BK319 := n6_
       have BK323 := n7_
       have HB := n8_
       clear n0_ n1_ n2_ n3_ n4_ n5_ n6_ n7_ n8_
       replace HO_316000 := Aside0.mk (Kd.R_drew HO_316000.out)
       replace HO_316001 := Aside0.mk (Kd.R_drew HO_316001.out)
       replace BK305 := Aside0.mk (blk_drew BK305.out)
       replace BK306 := Aside0.mk (blk_drew BK306.out)
       replace BK307 := Aside0.mk (blk_drew BK307.out)
       replace BK315 := Aside0.mk (blk_drew BK315.out)
       replace BK319 := Aside0.mk (blk_drew BK319.out)
       replace BK323 := Aside0.mk (blk_drew BK323.out)
       replace HB := Aside0.mk (below_drew1 HB.out)
       refine start_ (n := 10) (S := fun w' => w'.cell? ⟨gb306, 0, none⟩ = some (.int .i64 a1_0) ∧ w'.cell? ⟨gb306, 1, none⟩ = some (.int .i64 a1_1) ∧ w'.cell? ⟨gb306, 2, none⟩ = some (.int .i64 a1_2) ∧ w'.cell? ⟨gb306, 3, none⟩ = some (.int .i64 a1_3) ∧ w'.cell? ⟨gb306, 4, none⟩ = some (.int .i64 a1_4)) (ds := []) (mB 10 0) (by kernel_rfl) rfl rfl ⟨(blk_cell BK306.out 0).trans rfl, (blk_cell BK306.out 1).trans rfl, (blk_cell BK306.out 2).trans rfl, (blk_cell BK306.out 3).trans rfl, (blk_cell BK306.out 4).trans rfl⟩ (fun hHeld => ?_); refine with_tabW gimbalref11_Bounds.tab11 gimbalref11_Bounds.bits11 (fun HT_ HW_ => ?_)
       generalize w182.drew = w183 at HO_316000 HO_316001 BK305 BK306 BK307 BK315 BK319 BK323 HB hHeld ⊢
       refine pV_ 0 50 (mB 10 1) HT_ ?_
       refine pV_ 3 53 (mB 10 9) HT_ ?_
       refine tV_ 1 51 (mB 10 11) HT_ HW_ hHeld ?_
       refine pV_ 2 52 (mB 10 15) HT_ ?_
       refine pV_ 6 56 (mB 10 79) HT_ ?_
       refine tV_ 4 54 (mB 10 95) HT_ HW_ hHeld ?_
       refine pV_ 5 55 (mB 10 127) HT_ ?_
       refine one_ (i := 7) (N := none) (mB 10 255) rfl rfl (one_of HT_.out (by kernel_rfl)) (by decide) (fun K hK => ?_)
       have hs184 : w183.cell? ⟨gb323, 1, none⟩ = some (.int .i64 a1_1) := (blk_cell BK323.out 1).trans rfl
       have hfs184 := blk_frozen BK323.out 1
       have hns184_0 := NB305_323.out
       have hns184_1 := NB306_323.out
       have hns184_2 := NB307_323.out
       have hns184_3 := NB315_323.out
       have hns184_4 := NB319_323.out
       have hms184_0 := NB323_305.out
       have hms184_1 := NB323_306.out
       have hms184_2 := NB323_307.out
       have hms184_3 := NB323_315.out
       have hms184_4 := NB323_319.out
       refine skip_ (w1 := ?_) (by rfl) rfl ?_ ?_
       rotate_left
       ·
        go_simp
        rfl
       refine hK.out _ _ ⟨((cell_far (p := ⟨gb323, _, none⟩) NB306_323.out _).trans (hHeld.1)), ((cell_far (p := ⟨gb323, _, none⟩) NB306_323.out _).trans (hHeld.2.1)), ((cell_far (p := ⟨gb323, _, none⟩) NB306_323.out _).trans (hHeld.2.2.1)), ((cell_far (p := ⟨gb323, _, none⟩) NB306_323.out _).trans (hHeld.2.2.2.1)), ((cell_far (p := ⟨gb323, _, none⟩) NB306_323.out _).trans (hHeld.2.2.2.2))⟩ (fun hHeld => ?_)
       clear hK K
       refine pV_ 8 57 (mB 10 511) HT_ ?_
       refine one_ (i := 9) (N := none) (mB 10 1023) rfl rfl (one_of HT_.out (by kernel_rfl)) (by decide) (fun K hK => ?_)
       have hs185 : w183.cell? ⟨gb323, 3, none⟩ = some (.int .i64 a1_3) := (blk_cell BK323.out 3).trans rfl
       have hfs185 := blk_frozen BK323.out 3
       have hns185_0 := NB305_323.out
       have hns185_1 := NB306_323.out
       have hns185_2 := NB307_323.out
       have hns185_3 := NB315_323.out
       have hns185_4 := NB319_323.out
       have hms185_0 := NB323_305.out
       have hms185_1 := NB323_306.out
       have hms185_2 := NB323_307.out
       have hms185_3 := NB323_315.out
       have hms185_4 := NB323_319.out
       refine skip_ (w1 := ?_) (by rfl) rfl ?_ ?_
       rotate_left
       ·
        go_simp
        rfl
       refine hK.out _ _ ⟨((cell_far (p := ⟨gb323, _, none⟩) NB306_323.out _).trans (hHeld.1)), ((cell_far (p := ⟨gb323, _, none⟩) NB306_323.out _).trans (hHeld.2.1)), ((cell_far (p := ⟨gb323, _, none⟩) NB306_323.out _).trans (hHeld.2.2.1)), ((cell_far (p := ⟨gb323, _, none⟩) NB306_323.out _).trans (hHeld.2.2.2.1)), ((cell_far (p := ⟨gb323, _, none⟩) NB306_323.out _).trans (hHeld.2.2.2.2))⟩ (fun hHeld => ?_)
       clear hK K
       refine done_ (done_of HT_.out (by kernel_rfl)) ?_
       obtain ⟨hcz186_0, hcz186_1, hcz186_2, hfz186_0, hfz186_1, hfz186_2⟩ := vF3 BK315.out
       obtain ⟨hcz187_0, hcz187_1, hcz187_2, hcz187_3, hcz187_4, hfz187_0, hfz187_1, hfz187_2, hfz187_3, hfz187_4⟩ := vF5 BK323.out
       try go_wp2_with (first | ((with_reducible refine gate_callee (f := 79) rfl ?_); refine goesL_ (some 60) rfl rfl Try.func79 (by kernel_rfl) rfl #[.agg #[.slice Ao30 t308.length co30, .slice Ao35 t311.length co35, .bool false], .agg #[.int .i64 a1_0, .int .i64 (wrap64 (-a1_1)), .int .i64 a1_2, .int .i64 (wrap64 (-a1_3)), .int .i64 a1_4]] rfl vL ?_; (with_reducible refine (gimbalref11_greatest.calls kj20 _ _ t308 _ _ t311 false a1_0 (wrap64 (-a1_1)) a1_2 (wrap64 (-a1_3)) a1_4 t324 _ ?side1 ?side2 ?side3 ?side4 A157.out).mono ?_); (case side1 => exact vTr HO_316000.out BK323.out); (case side2 => exact (Kd.R_reads' HO_316000.out).2.1); (case side3 => exact vTr HO_316001.out BK323.out); (case side4 => exact (Kd.R_reads' HO_316001.out).2.1); rintro e w188 ⟨rfl, hb⟩; refine ⟨_, rfl, ?_⟩; replace HO_316000 := vTb HO_316000 BK323 hb; replace HO_316001 := vTb HO_316001 BK323 hb; replace BK305 := vBb BK305 hb; replace BK306 := vBb BK306 hb; replace BK307 := vBb BK307 hb; replace BK315 := vBb BK315 hb; replace BK319 := vBb BK319 hb; replace BK323 := Aside0.mk (blk_below (g := gb323) (o := .cells #[.int .i64 a1_0, .int .i64 (wrap64 (-a1_1)), .int .i64 a1_2, .int .i64 (wrap64 (-a1_3)), .int .i64 a1_4] 49 (0, 0)) (by (with_reducible repeat (first | refine blk_drewN ?_ _ | refine blk_drew ?_ | refine blk_alloc ?_ _)); refine blk_put (cs := #[.int .i64 a1_0, .int .i64 (wrap64 (-a1_1)), .int .i64 a1_2, .int .i64 a1_3, .int .i64 a1_4]) ?_ 3 _ rfl; (with_reducible repeat (first | refine blk_drewN ?_ _ | refine blk_drew ?_ | refine blk_alloc ?_ _)); refine blk_put (cs := #[.int .i64 a1_0, .int .i64 a1_1, .int .i64 a1_2, .int .i64 a1_3, .int .i64 a1_4]) ?_ 1 _ rfl; (with_reducible repeat (first | refine blk_drewN ?_ _ | refine blk_drew ?_ | refine blk_alloc ?_ _)); exact BK323.out) hb); replace HB := vWs HB hb; (try clear hb); (try clear hb2); (try clear hk); (try clear hi); obtain ⟨hcz189_0, hcz189_1, hfz189_0, hfz189_1⟩ := vF2 BK319.out; have hnb190 := NB307_305.out; have hnc190 := NB305_307.out; obtain ⟨hcz191_0, hcz191_1, hfz191_0, hfz191_1⟩ := vF2 BK307.out))
       refine bodyPost_ret (results_cell_row rfl _ _ gb307 37 #[.int .i64 (-4611686018427387904), .int .i64 (wrap64 (t320 + a1_4))] (0, 0) _ rfl (by (with_reducible repeat (first | refine blk_drewN ?_ _ | refine blk_drew ?_ | refine blk_alloc ?_ _)); refine blk_put (cs := #[.int .i64 (-4611686018427387904), .int .i64 0]) ?_ 1 _ rfl; (with_reducible repeat (first | refine blk_drewN ?_ _ | refine blk_drew ?_ | refine blk_alloc ?_ _)); refine blk_put (cs := #[.int .i64 0, .int .i64 0]) ?_ 0 _ rfl; (with_reducible repeat (first | refine blk_drewN ?_ _ | refine blk_drew ?_ | refine blk_alloc ?_ _)); exact BK307.out) Try.underlying37 rfl (by kernel_rfl)) rfl ?_
       exact ⟨by first | rfl | (simp [errW_none, errW_some] <;> rfl) | (simp [*, errW_none, errW_some] <;> rfl) | (simp [wrap64]; done), vW HB.out⟩
      ·
       rw [if_neg c158] at H
       have c158b0 : (t324 == 4611686018427387904) = false := beq_eq_false_iff_ne.mpr c158
       have c158b1 : (t324 != 4611686018427387904) = true := bne_iff_ne.mpr c158
       simp only [Option.some.injEq, Prod.mk.injEq] at H
       obtain ⟨rfl, rfl⟩ := H
       try go_wp2_with (first | ((with_reducible refine gate_dst (N := 6) rfl ?_); refine box_event ?hg (N := 6) ?hd (cs := #[.int .i64 0, .int .i64 0]) (t := 37) ?hr ?_; (case hd => rfl); (case hg => rfl); (case hr => first | (go_simp; done) | (go_simp; rfl)); intro gb319 hg w192 hbox hb; replace HO_316000 := vRb HO_316000 hb; replace HO_316001 := vRb HO_316001 hb; have BK319 := Aside0.mk (hbox); have GW319 := vS hg HB; have GE319 := vS hg HB; replace HB := vWs HB hb; have NB305_319 := vNl hg BK305; have NB319_305 := vNg hg BK305; replace BK305 := vBb BK305 hb; have NB306_319 := vNl hg BK306; have NB319_306 := vNg hg BK306; replace BK306 := vBb BK306 hb; have NB307_319 := vNl hg BK307; have NB319_307 := vNg hg BK307; replace BK307 := vBb BK307 hb; have NB315_319 := vNl hg BK315; have NB319_315 := vNg hg BK315; replace BK315 := vBb BK315 hb; clear hb hbox hg; have hnb193 := NB319_305.out; have hnc193 := NB305_319.out; have hnb194 := NB319_306.out; have hnc194 := NB306_319.out; have hnb195 := NB319_307.out; have hnc195 := NB307_319.out; have hnb196 := NB319_315.out; have hnc196 := NB315_319.out; obtain ⟨hcz197_0, hcz197_1, hfz197_0, hfz197_1⟩ := vF2 BK319.out; have hnb198 := NB315_305.out; have hnc198 := NB305_315.out; have hnb199 := NB315_306.out; have hnc199 := NB306_315.out; have hnb200 := NB315_307.out; have hnc200 := NB307_315.out; obtain ⟨hcz201_0, hcz201_1, hcz201_2, hfz201_0, hfz201_1, hfz201_2⟩ := vF3 BK315.out; have hnb202 := NB306_305.out; have hnc202 := NB305_306.out; have hnb203 := NB306_307.out; have hnc203 := NB307_306.out; obtain ⟨hcz204_0, hcz204_1, hcz204_2, hcz204_3, hcz204_4, hfz204_0, hfz204_1, hfz204_2, hfz204_3, hfz204_4⟩ := vF5 BK306.out) | ((with_reducible refine gate_callee (f := 79) rfl ?_); refine goesL_ (some 41) rfl rfl Try.func79 (by kernel_rfl) rfl #[.agg #[.slice Ao30 t308.length co30, .slice Ao35 t311.length co35, .bool false], .agg #[.int .i64 a1_0, .int .i64 a1_1, .int .i64 a1_2, .int .i64 a1_3, .int .i64 a1_4]] rfl vL ?_; (with_reducible refine (gimbalref11_greatest.calls kj20 _ _ t308 _ _ t311 false a1_0 a1_1 a1_2 a1_3 a1_4 t320 _ ?side1 ?side2 ?side3 ?side4 A88.out).mono ?_); (case side1 => exact vTr HO_316000.out BK319.out); (case side2 => exact (Kd.R_reads' HO_316000.out).2.1); (case side3 => exact vTr HO_316001.out BK319.out); (case side4 => exact (Kd.R_reads' HO_316001.out).2.1); rintro e w205 ⟨rfl, hb⟩; refine ⟨_, rfl, ?_⟩; replace HO_316000 := vTb HO_316000 BK319 hb; replace HO_316001 := vTb HO_316001 BK319 hb; replace BK305 := vBb BK305 hb; replace BK306 := vBb BK306 hb; replace BK307 := vBb BK307 hb; replace BK315 := vBb BK315 hb; replace BK319 := Aside0.mk (blk_below (g := gb319) (o := .cells #[.int .i64 (-4611686018427387904), .int .i64 4611686018427387904] 37 (0, 0)) (by (with_reducible repeat (first | refine blk_drewN ?_ _ | refine blk_drew ?_ | refine blk_alloc ?_ _)); refine blk_put (cs := #[.int .i64 (-4611686018427387904), .int .i64 0]) ?_ 1 _ rfl; (with_reducible repeat (first | refine blk_drewN ?_ _ | refine blk_drew ?_ | refine blk_alloc ?_ _)); refine blk_put (cs := #[.int .i64 0, .int .i64 0]) ?_ 0 _ rfl; (with_reducible repeat (first | refine blk_drewN ?_ _ | refine blk_drew ?_ | refine blk_alloc ?_ _)); exact BK319.out) hb); replace HB := vWs HB hb; (try clear hb); (try clear hb2); (try clear hk); (try clear hi); obtain ⟨hcz206_0, hcz206_1, hcz206_2, hcz206_3, hcz206_4, hfz206_0, hfz206_1, hfz206_2, hfz206_3, hfz206_4⟩ := vF5 BK306.out; obtain ⟨hcz207_0, hcz207_1, hfz207_0, hfz207_1⟩ := vF2 BK319.out) | ((with_reducible refine gate_dst (N := 8) rfl ?_); refine box_event ?hg (N := 8) ?hd (cs := #[.int .i64 0, .int .i64 0, .int .i64 0, .int .i64 0, .int .i64 0]) (t := 49) ?hr ?_; (case hd => rfl); (case hg => rfl); (case hr => first | (go_simp; done) | (go_simp; rfl)); intro gb323 hg w208 hbox hb; replace HO_316000 := vTb HO_316000 BK319 hb; replace HO_316001 := vTb HO_316001 BK319 hb; have BK323 := Aside0.mk (hbox); have GW323 := vS hg HB; have GE323 := vS hg HB; replace HB := vWs HB hb; have NB305_323 := vNl hg BK305; have NB323_305 := vNg hg BK305; replace BK305 := vBb BK305 hb; have NB306_323 := vNl hg BK306; have NB323_306 := vNg hg BK306; replace BK306 := vBb BK306 hb; have NB307_323 := vNl hg BK307; have NB323_307 := vNg hg BK307; replace BK307 := vBb BK307 hb; have NB315_323 := vNl hg BK315; have NB323_315 := vNg hg BK315; replace BK315 := vBb BK315 hb; have NB319_323 := Aside0.mk ((by rw [hg]; exact Nat.ne_of_lt (blk_lt (g := gb319) (o := .cells #[.int .i64 (-4611686018427387904), .int .i64 (wrap64 (t320 + a1_4))] 37 (0, 0)) (by (with_reducible repeat (first | refine blk_drewN ?_ _ | refine blk_drew ?_ | refine blk_alloc ?_ _)); refine blk_put (cs := #[.int .i64 (-4611686018427387904), .int .i64 4611686018427387904]) ?_ 1 _ rfl; (with_reducible repeat (first | refine blk_drewN ?_ _ | refine blk_drew ?_ | refine blk_alloc ?_ _)); exact BK319.out)) : gb319 ≠ gb323)); have NB323_319 := Aside0.mk ((by rw [hg]; exact Nat.ne_of_gt (blk_lt (g := gb319) (o := .cells #[.int .i64 (-4611686018427387904), .int .i64 (wrap64 (t320 + a1_4))] 37 (0, 0)) (by (with_reducible repeat (first | refine blk_drewN ?_ _ | refine blk_drew ?_ | refine blk_alloc ?_ _)); refine blk_put (cs := #[.int .i64 (-4611686018427387904), .int .i64 4611686018427387904]) ?_ 1 _ rfl; (with_reducible repeat (first | refine blk_drewN ?_ _ | refine blk_drew ?_ | refine blk_alloc ?_ _)); exact BK319.out)) : gb323 ≠ gb319)); replace BK319 := Aside0.mk (blk_below (g := gb319) (o := .cells #[.int .i64 (-4611686018427387904), .int .i64 (wrap64 (t320 + a1_4))] 37 (0, 0)) (by (with_reducible repeat (first | refine blk_drewN ?_ _ | refine blk_drew ?_ | refine blk_alloc ?_ _)); refine blk_put (cs := #[.int .i64 (-4611686018427387904), .int .i64 4611686018427387904]) ?_ 1 _ rfl; (with_reducible repeat (first | refine blk_drewN ?_ _ | refine blk_drew ?_ | refine blk_alloc ?_ _)); exact BK319.out) hb); clear hb hbox hg; have hnb209 := NB323_305.out; have hnc209 := NB305_323.out; have hnb210 := NB323_306.out; have hnc210 := NB306_323.out; have hnb211 := NB323_307.out; have hnc211 := NB307_323.out; have hnb212 := NB323_315.out; have hnc212 := NB315_323.out; have hnb213 := NB323_319.out; have hnc213 := NB319_323.out; obtain ⟨hcz214_0, hcz214_1, hcz214_2, hcz214_3, hcz214_4, hfz214_0, hfz214_1, hfz214_2, hfz214_3, hfz214_4⟩ := vF5 BK323.out))
       have n0_ : Aside0 (Kd.R (Kd.int .i64) 3 (((((w208.setCell ⟨gb323, 0, none⟩ (.int .i64 a1_0)).setCell ⟨gb323, 1, none⟩ (.int .i64 a1_1)).setCell ⟨gb323, 2, none⟩ (.int .i64 a1_2)).setCell ⟨gb323, 3, none⟩ (.int .i64 a1_3)).setCell ⟨gb323, 4, none⟩ (.int .i64 a1_4)) w.heap.size (fun _ => True) (.slice Ao30 t308.length co30) t308) := ⟨by (with_reducible repeat (first | apply Kd.R_alloc | apply Kd.R_drewN | apply Kd.R_drew)); exact Kd.R_mono (Kd.R_far (p := ⟨gb323, 4, none⟩) (Kd.R_far (p := ⟨gb323, 3, none⟩) (Kd.R_far (p := ⟨gb323, 2, none⟩) (Kd.R_far (p := ⟨gb323, 1, none⟩) (Kd.R_far (p := ⟨gb323, 0, none⟩) (Kd.R_types HO_316000.out BK323.out (by decide)) (fun _ hk => hk.2) (.int .i64 a1_0)) (fun _ hk => hk.2) (.int .i64 a1_1)) (fun _ hk => hk.2) (.int .i64 a1_2)) (fun _ hk => hk.2) (.int .i64 a1_3)) (fun _ hk => hk.2) (.int .i64 a1_4)) (fun _ hk => trivial)⟩
       have n1_ : Aside0 (Kd.R (Kd.int .i64) 2 (((((w208.setCell ⟨gb323, 0, none⟩ (.int .i64 a1_0)).setCell ⟨gb323, 1, none⟩ (.int .i64 a1_1)).setCell ⟨gb323, 2, none⟩ (.int .i64 a1_2)).setCell ⟨gb323, 3, none⟩ (.int .i64 a1_3)).setCell ⟨gb323, 4, none⟩ (.int .i64 a1_4)) w.heap.size (fun _ => True) (.slice Ao35 t311.length co35) t311) := ⟨by (with_reducible repeat (first | apply Kd.R_alloc | apply Kd.R_drewN | apply Kd.R_drew)); exact Kd.R_mono (Kd.R_far (p := ⟨gb323, 4, none⟩) (Kd.R_far (p := ⟨gb323, 3, none⟩) (Kd.R_far (p := ⟨gb323, 2, none⟩) (Kd.R_far (p := ⟨gb323, 1, none⟩) (Kd.R_far (p := ⟨gb323, 0, none⟩) (Kd.R_types HO_316001.out BK323.out (by decide)) (fun _ hk => hk.2) (.int .i64 a1_0)) (fun _ hk => hk.2) (.int .i64 a1_1)) (fun _ hk => hk.2) (.int .i64 a1_2)) (fun _ hk => hk.2) (.int .i64 a1_3)) (fun _ hk => hk.2) (.int .i64 a1_4)) (fun _ hk => trivial)⟩
       have n2_ : Aside0 ((((((w208.setCell ⟨gb323, 0, none⟩ (.int .i64 a1_0)).setCell ⟨gb323, 1, none⟩ (.int .i64 a1_1)).setCell ⟨gb323, 2, none⟩ (.int .i64 a1_2)).setCell ⟨gb323, 3, none⟩ (.int .i64 a1_3)).setCell ⟨gb323, 4, none⟩ (.int .i64 a1_4)).heap[gb305]? = some (.cells #[.slice A0_0 l0_0.length c0_0, .slice A0_1 l0_1.length c0_1, .bool a0_2] 25 (0, 0))) := ⟨vB BK305.out⟩
       have n3_ : Aside0 ((((((w208.setCell ⟨gb323, 0, none⟩ (.int .i64 a1_0)).setCell ⟨gb323, 1, none⟩ (.int .i64 a1_1)).setCell ⟨gb323, 2, none⟩ (.int .i64 a1_2)).setCell ⟨gb323, 3, none⟩ (.int .i64 a1_3)).setCell ⟨gb323, 4, none⟩ (.int .i64 a1_4)).heap[gb306]? = some (.cells #[.int .i64 a1_0, .int .i64 a1_1, .int .i64 a1_2, .int .i64 a1_3, .int .i64 a1_4] 49 (0, 0))) := ⟨vB BK306.out⟩
       have n4_ : Aside0 ((((((w208.setCell ⟨gb323, 0, none⟩ (.int .i64 a1_0)).setCell ⟨gb323, 1, none⟩ (.int .i64 a1_1)).setCell ⟨gb323, 2, none⟩ (.int .i64 a1_2)).setCell ⟨gb323, 3, none⟩ (.int .i64 a1_3)).setCell ⟨gb323, 4, none⟩ (.int .i64 a1_4)).heap[gb307]? = some (.cells #[.int .i64 0, .int .i64 0] 37 (0, 0))) := ⟨vB BK307.out⟩
       have n5_ : Aside0 ((((((w208.setCell ⟨gb323, 0, none⟩ (.int .i64 a1_0)).setCell ⟨gb323, 1, none⟩ (.int .i64 a1_1)).setCell ⟨gb323, 2, none⟩ (.int .i64 a1_2)).setCell ⟨gb323, 3, none⟩ (.int .i64 a1_3)).setCell ⟨gb323, 4, none⟩ (.int .i64 a1_4)).heap[gb315]? = some (.cells #[.slice Ao30 t308.length co30, .slice Ao35 t311.length co35, .bool false] 25 (0, 0))) := ⟨vB BK315.out⟩
       have n6_ : Aside0 ((((((w208.setCell ⟨gb323, 0, none⟩ (.int .i64 a1_0)).setCell ⟨gb323, 1, none⟩ (.int .i64 a1_1)).setCell ⟨gb323, 2, none⟩ (.int .i64 a1_2)).setCell ⟨gb323, 3, none⟩ (.int .i64 a1_3)).setCell ⟨gb323, 4, none⟩ (.int .i64 a1_4)).heap[gb319]? = some (.cells #[.int .i64 (-4611686018427387904), .int .i64 (wrap64 (t320 + a1_4))] 37 (0, 0))) := ⟨vB BK319.out⟩
       have n7_ : Aside0 ((((((w208.setCell ⟨gb323, 0, none⟩ (.int .i64 a1_0)).setCell ⟨gb323, 1, none⟩ (.int .i64 a1_1)).setCell ⟨gb323, 2, none⟩ (.int .i64 a1_2)).setCell ⟨gb323, 3, none⟩ (.int .i64 a1_3)).setCell ⟨gb323, 4, none⟩ (.int .i64 a1_4)).heap[gb323]? = some (.cells #[.int .i64 a1_0, .int .i64 a1_1, .int .i64 a1_2, .int .i64 a1_3, .int .i64 a1_4] 49 (0, 0))) := ⟨by (with_reducible repeat (first | refine blk_drewN ?_ _ | refine blk_drew ?_ | refine blk_alloc ?_ _)); refine blk_put (cs := #[.int .i64 a1_0, .int .i64 a1_1, .int .i64 a1_2, .int .i64 a1_3, .int .i64 0]) ?_ 4 _ rfl; (with_reducible repeat (first | refine blk_drewN ?_ _ | refine blk_drew ?_ | refine blk_alloc ?_ _)); refine blk_put (cs := #[.int .i64 a1_0, .int .i64 a1_1, .int .i64 a1_2, .int .i64 0, .int .i64 0]) ?_ 3 _ rfl; (with_reducible repeat (first | refine blk_drewN ?_ _ | refine blk_drew ?_ | refine blk_alloc ?_ _)); refine blk_put (cs := #[.int .i64 a1_0, .int .i64 a1_1, .int .i64 0, .int .i64 0, .int .i64 0]) ?_ 2 _ rfl; (with_reducible repeat (first | refine blk_drewN ?_ _ | refine blk_drew ?_ | refine blk_alloc ?_ _)); refine blk_put (cs := #[.int .i64 a1_0, .int .i64 0, .int .i64 0, .int .i64 0, .int .i64 0]) ?_ 1 _ rfl; (with_reducible repeat (first | refine blk_drewN ?_ _ | refine blk_drew ?_ | refine blk_alloc ?_ _)); refine blk_put (cs := #[.int .i64 0, .int .i64 0, .int .i64 0, .int .i64 0, .int .i64 0]) ?_ 0 _ rfl; (with_reducible repeat (first | refine blk_drewN ?_ _ | refine blk_drew ?_ | refine blk_alloc ?_ _)); exact BK323.out⟩
       have n8_ : Aside0 (Below w.heap.size w (((((w208.setCell ⟨gb323, 0, none⟩ (.int .i64 a1_0)).setCell ⟨gb323, 1, none⟩ (.int .i64 a1_1)).setCell ⟨gb323, 2, none⟩ (.int .i64 a1_2)).setCell ⟨gb323, 3, none⟩ (.int .i64 a1_3)).setCell ⟨gb323, 4, none⟩ (.int .i64 a1_4))) := ⟨vW HB.out⟩
       (try clear HO_316000)
       (try clear HO_316001)
       (try clear BK305)
       (try clear BK306)
       (try clear BK307)
       (try clear BK315)
       (try clear BK319)
       (try clear BK323)
       (try clear HB)
       generalize (((((w208.setCell ⟨gb323, 0, none⟩ (.int .i64 a1_0)).setCell ⟨gb323, 1, none⟩ (.int .i64 a1_1)).setCell ⟨gb323, 2, none⟩ (.int .i64 a1_2)).setCell ⟨gb323, 3, none⟩ (.int .i64 a1_3)).setCell ⟨gb323, 4, none⟩ (.int .i64 a1_4)) = w215 at n0_ n1_ n2_ n3_ n4_ n5_ n6_ n7_ n8_ ⊢
       have HO_316000 := n0_
       have HO_316001 := n1_
       have BK305 := n2_
       have BK306 := n3_
       have BK307 := n4_
       have BK315 := n5_
       have BK319 := n6_
       have BK323 := n7_
       have HB := n8_
       clear n0_ n1_ n2_ n3_ n4_ n5_ n6_ n7_ n8_
       replace HO_316000 := Aside0.mk (Kd.R_drew HO_316000.out)
       replace HO_316001 := Aside0.mk (Kd.R_drew HO_316001.out)
       replace BK305 := Aside0.mk (blk_drew BK305.out)
       replace BK306 := Aside0.mk (blk_drew BK306.out)
       replace BK307 := Aside0.mk (blk_drew BK307.out)
       replace BK315 := Aside0.mk (blk_drew BK315.out)
       replace BK319 := Aside0.mk (blk_drew BK319.out)
       replace BK323 := Aside0.mk (blk_drew BK323.out)
       replace HB := Aside0.mk (below_drew1 HB.out)
       refine start_ (n := 10) (S := fun w' => w'.cell? ⟨gb306, 0, none⟩ = some (.int .i64 a1_0) ∧ w'.cell? ⟨gb306, 1, none⟩ = some (.int .i64 a1_1) ∧ w'.cell? ⟨gb306, 2, none⟩ = some (.int .i64 a1_2) ∧ w'.cell? ⟨gb306, 3, none⟩ = some (.int .i64 a1_3) ∧ w'.cell? ⟨gb306, 4, none⟩ = some (.int .i64 a1_4)) (ds := []) (mB 10 0) (by kernel_rfl) rfl rfl ⟨(blk_cell BK306.out 0).trans rfl, (blk_cell BK306.out 1).trans rfl, (blk_cell BK306.out 2).trans rfl, (blk_cell BK306.out 3).trans rfl, (blk_cell BK306.out 4).trans rfl⟩ (fun hHeld => ?_); refine with_tabW gimbalref11_Bounds.tab11 gimbalref11_Bounds.bits11 (fun HT_ HW_ => ?_)
       generalize w215.drew = w216 at HO_316000 HO_316001 BK305 BK306 BK307 BK315 BK319 BK323 HB hHeld ⊢
       refine pV_ 0 50 (mB 10 1) HT_ ?_
       refine pV_ 3 53 (mB 10 9) HT_ ?_
       refine tV_ 1 51 (mB 10 11) HT_ HW_ hHeld ?_
       refine pV_ 2 52 (mB 10 15) HT_ ?_
       refine pV_ 6 56 (mB 10 79) HT_ ?_
       refine tV_ 4 54 (mB 10 95) HT_ HW_ hHeld ?_
       refine pV_ 5 55 (mB 10 127) HT_ ?_
       refine one_ (i := 7) (N := none) (mB 10 255) rfl rfl (one_of HT_.out (by kernel_rfl)) (by decide) (fun K hK => ?_)
       have hs217 : w216.cell? ⟨gb323, 1, none⟩ = some (.int .i64 a1_1) := (blk_cell BK323.out 1).trans rfl
       have hfs217 := blk_frozen BK323.out 1
       have hns217_0 := NB305_323.out
       have hns217_1 := NB306_323.out
       have hns217_2 := NB307_323.out
       have hns217_3 := NB315_323.out
       have hns217_4 := NB319_323.out
       have hms217_0 := NB323_305.out
       have hms217_1 := NB323_306.out
       have hms217_2 := NB323_307.out
       have hms217_3 := NB323_315.out
       have hms217_4 := NB323_319.out
       refine skip_ (w1 := ?_) (by rfl) rfl ?_ ?_
       rotate_left
       ·
        go_simp
        rfl
       refine hK.out _ _ ⟨((cell_far (p := ⟨gb323, _, none⟩) NB306_323.out _).trans (hHeld.1)), ((cell_far (p := ⟨gb323, _, none⟩) NB306_323.out _).trans (hHeld.2.1)), ((cell_far (p := ⟨gb323, _, none⟩) NB306_323.out _).trans (hHeld.2.2.1)), ((cell_far (p := ⟨gb323, _, none⟩) NB306_323.out _).trans (hHeld.2.2.2.1)), ((cell_far (p := ⟨gb323, _, none⟩) NB306_323.out _).trans (hHeld.2.2.2.2))⟩ (fun hHeld => ?_)
       clear hK K
       refine pV_ 8 57 (mB 10 511) HT_ ?_
       refine one_ (i := 9) (N := none) (mB 10 1023) rfl rfl (one_of HT_.out (by kernel_rfl)) (by decide) (fun K hK => ?_)
       have hs218 : w216.cell? ⟨gb323, 3, none⟩ = some (.int .i64 a1_3) := (blk_cell BK323.out 3).trans rfl
       have hfs218 := blk_frozen BK323.out 3
       have hns218_0 := NB305_323.out
       have hns218_1 := NB306_323.out
       have hns218_2 := NB307_323.out
       have hns218_3 := NB315_323.out
       have hns218_4 := NB319_323.out
       have hms218_0 := NB323_305.out
       have hms218_1 := NB323_306.out
       have hms218_2 := NB323_307.out
       have hms218_3 := NB323_315.out
       have hms218_4 := NB323_319.out
       refine skip_ (w1 := ?_) (by rfl) rfl ?_ ?_
       rotate_left
       ·
        go_simp
        rfl
       refine hK.out _ _ ⟨((cell_far (p := ⟨gb323, _, none⟩) NB306_323.out _).trans (hHeld.1)), ((cell_far (p := ⟨gb323, _, none⟩) NB306_323.out _).trans (hHeld.2.1)), ((cell_far (p := ⟨gb323, _, none⟩) NB306_323.out _).trans (hHeld.2.2.1)), ((cell_far (p := ⟨gb323, _, none⟩) NB306_323.out _).trans (hHeld.2.2.2.1)), ((cell_far (p := ⟨gb323, _, none⟩) NB306_323.out _).trans (hHeld.2.2.2.2))⟩ (fun hHeld => ?_)
       clear hK K
       refine done_ (done_of HT_.out (by kernel_rfl)) ?_
       obtain ⟨hcz219_0, hcz219_1, hcz219_2, hfz219_0, hfz219_1, hfz219_2⟩ := vF3 BK315.out
       obtain ⟨hcz220_0, hcz220_1, hcz220_2, hcz220_3, hcz220_4, hfz220_0, hfz220_1, hfz220_2, hfz220_3, hfz220_4⟩ := vF5 BK323.out
       try go_wp2_with (first | ((with_reducible refine gate_callee (f := 79) rfl ?_); refine goesL_ (some 60) rfl rfl Try.func79 (by kernel_rfl) rfl #[.agg #[.slice Ao30 t308.length co30, .slice Ao35 t311.length co35, .bool false], .agg #[.int .i64 a1_0, .int .i64 (wrap64 (-a1_1)), .int .i64 a1_2, .int .i64 (wrap64 (-a1_3)), .int .i64 a1_4]] rfl vL ?_; (with_reducible refine (gimbalref11_greatest.calls kj20 _ _ t308 _ _ t311 false a1_0 (wrap64 (-a1_1)) a1_2 (wrap64 (-a1_3)) a1_4 t324 _ ?side1 ?side2 ?side3 ?side4 A157.out).mono ?_); (case side1 => exact vTr HO_316000.out BK323.out); (case side2 => exact (Kd.R_reads' HO_316000.out).2.1); (case side3 => exact vTr HO_316001.out BK323.out); (case side4 => exact (Kd.R_reads' HO_316001.out).2.1); rintro e w221 ⟨rfl, hb⟩; refine ⟨_, rfl, ?_⟩; replace HO_316000 := vTb HO_316000 BK323 hb; replace HO_316001 := vTb HO_316001 BK323 hb; replace BK305 := vBb BK305 hb; replace BK306 := vBb BK306 hb; replace BK307 := vBb BK307 hb; replace BK315 := vBb BK315 hb; replace BK319 := vBb BK319 hb; replace BK323 := Aside0.mk (blk_below (g := gb323) (o := .cells #[.int .i64 a1_0, .int .i64 (wrap64 (-a1_1)), .int .i64 a1_2, .int .i64 (wrap64 (-a1_3)), .int .i64 a1_4] 49 (0, 0)) (by (with_reducible repeat (first | refine blk_drewN ?_ _ | refine blk_drew ?_ | refine blk_alloc ?_ _)); refine blk_put (cs := #[.int .i64 a1_0, .int .i64 (wrap64 (-a1_1)), .int .i64 a1_2, .int .i64 a1_3, .int .i64 a1_4]) ?_ 3 _ rfl; (with_reducible repeat (first | refine blk_drewN ?_ _ | refine blk_drew ?_ | refine blk_alloc ?_ _)); refine blk_put (cs := #[.int .i64 a1_0, .int .i64 a1_1, .int .i64 a1_2, .int .i64 a1_3, .int .i64 a1_4]) ?_ 1 _ rfl; (with_reducible repeat (first | refine blk_drewN ?_ _ | refine blk_drew ?_ | refine blk_alloc ?_ _)); exact BK323.out) hb); replace HB := vWs HB hb; (try clear hb); (try clear hb2); (try clear hk); (try clear hi); obtain ⟨hcz222_0, hcz222_1, hcz222_2, hcz222_3, hcz222_4, hfz222_0, hfz222_1, hfz222_2, hfz222_3, hfz222_4⟩ := vF5 BK306.out; obtain ⟨hcz223_0, hcz223_1, hfz223_0, hfz223_1⟩ := vF2 BK319.out; have hnb224 := NB307_305.out; have hnc224 := NB305_307.out; obtain ⟨hcz225_0, hcz225_1, hfz225_0, hfz225_1⟩ := vF2 BK307.out))
       refine bodyPost_ret (results_cell_row rfl _ _ gb307 37 #[.int .i64 (wrap64 (a1_4 - t324)), .int .i64 (wrap64 (t320 + a1_4))] (0, 0) _ rfl (by (with_reducible repeat (first | refine blk_drewN ?_ _ | refine blk_drew ?_ | refine blk_alloc ?_ _)); refine blk_put (cs := #[.int .i64 (wrap64 (a1_4 - t324)), .int .i64 0]) ?_ 1 _ rfl; (with_reducible repeat (first | refine blk_drewN ?_ _ | refine blk_drew ?_ | refine blk_alloc ?_ _)); refine blk_put (cs := #[.int .i64 0, .int .i64 0]) ?_ 0 _ rfl; (with_reducible repeat (first | refine blk_drewN ?_ _ | refine blk_drew ?_ | refine blk_alloc ?_ _)); refine blk_far ?_ NB307_319.out _; (with_reducible repeat (first | refine blk_drewN ?_ _ | refine blk_drew ?_ | refine blk_alloc ?_ _)); exact BK307.out) Try.underlying37 rfl (by kernel_rfl)) rfl ?_
       exact ⟨by first | rfl | (simp [errW_none, errW_some] <;> rfl) | (simp [*, errW_none, errW_some] <;> rfl) | (simp [wrap64]; done), vW HB.out⟩
end Go.Proofs.Ytomgebmimgaojaa.QO
end
end
section
/- Written by a program of this session out of the translation. -/
noncomputable section
namespace Go.Proofs.Ytomgebmimgaojaa.QO
open Go.RowKit Go.Proofs.YtomgebmimgaojaaW.PrintWords Go.Proofs.YtomgebmimgaojaaW.PrintLast
set_option linter.unusedVariables false
set_option linter.unusedSimpArgs false
/-! ### gimbalref11_beyond: function 80 -/
/-- is b - a above c? -/
def gimbalref11_beyond.f (a0 : Int) (a1 : Int) (a2 : Int) : Option Bool :=
 if (-9223372036854775808 ≤ a0 ∧ a0 ≤ 9223372036854775807) ∧ (-9223372036854775808 ≤ a1 ∧ a1 ≤ 9223372036854775807) ∧ (-9223372036854775808 ≤ a2 ∧ a2 ≤ 9223372036854775807) then some (decide (a1 - a0 > a2)) else none
set_option maxHeartbeats 8000000 in
set_option maxRecDepth 100000 in
theorem gimbalref11_beyond.calls (a0 : Int) (a1 : Int) (a2 : Int) (r : Bool) (w : World) (h : gimbalref11_beyond.f a0 a1 a2 = some r) :
 Calls Try.prog 80 #[.int .i64 a0, .int .i64 a1, .int .i64 a2] w fun e w' => e = .returned (.bool r) ∧ Below w.heap.size w w' := by
 unfold gimbalref11_beyond.f at h
 by_cases hc : (-9223372036854775808 ≤ a0 ∧ a0 ≤ 9223372036854775807) ∧ (-9223372036854775808 ≤ a1 ∧ a1 ≤ 9223372036854775807) ∧ (-9223372036854775808 ≤ a2 ∧ a2 ≤ 9223372036854775807)
 ·
  rw [if_pos hc] at h
  obtain rfl := Option.some.inj h
  clear h
  obtain ⟨h0, h1, h2⟩ := hc
  by_cases ha : a0 < 0 <;> by_cases hb : a1 < 0
  ·
   have f1 : decide (a0 < 0) = true := decide_eq_true ha
   have f2 : decide (a1 < 0) = true := decide_eq_true hb
   have f3 : wrap64 (a1 - a0) = a1 - a0 := by unfold wrap64; omega
   clear ha hb h0 h1 h2
   go_enter Try.func80, Try.ntmps80
   go_wp2
   go_ret
   exact ⟨rfl, Below.refl _ _⟩
  ·
   have f1 : decide (a0 < 0) = true := decide_eq_true ha
   have f2 : decide (a1 < 0) = false := decide_eq_false hb
   have f4 : wrap64 (-a0) = -a0 ∨ a0 = -9223372036854775808 := by unfold wrap64; omega
   by_cases hc : a2 < 0
   ·
    have f3 : decide (a2 < 0) = true := decide_eq_true hc
    have E : decide (a1 - a0 > a2) = true := decide_eq_true (by omega)
    rw [E]
    clear ha hb h0 h1 h2 hc f4
    go_enter Try.func80, Try.ntmps80
    go_wp2
    go_ret
    exact ⟨rfl, Below.refl _ _⟩
   ·
    have f3 : decide (a2 < 0) = false := decide_eq_false hc
    have g1 : IntKind.u64.wrap a1 = a1 := by rw [IntKind.wrap_u64]; omega
    have g2 : IntKind.u64.wrap (wrap64 (-a0)) = -a0 := by rw [IntKind.wrap_u64]; unfold wrap64; omega
    have g3 : IntKind.u64.wrap a2 = a2 := by rw [IntKind.wrap_u64]; omega
    have g4 : IntKind.u64.wrap (a1 + -a0) = a1 + -a0 := by rw [IntKind.wrap_u64]; omega
    have E : decide (a1 - a0 > a2) = decide (a2 < a1 + -a0) := by rw [decide_eq_decide]; omega
    rw [E]
    clear ha hb h0 h1 h2 hc f4
    go_enter Try.func80, Try.ntmps80
    go_wp2
    go_ret
    exact ⟨rfl, Below.refl _ _⟩
  ·
   have f1 : decide (a0 < 0) = false := decide_eq_false ha
   have f2 : decide (a1 < 0) = true := decide_eq_true hb
   have g1 : IntKind.u64.wrap a0 = a0 := by rw [IntKind.wrap_u64]; omega
   have g2 : IntKind.u64.wrap (wrap64 (-a1)) = -a1 := by rw [IntKind.wrap_u64]; unfold wrap64; omega
   have g4 : IntKind.u64.wrap (-a1 + a0) = -a1 + a0 := by rw [IntKind.wrap_u64]; omega
   by_cases hc : a2 < 0
   ·
    have f3 : decide (a2 < 0) = true := decide_eq_true hc
    have g3 : IntKind.u64.wrap (wrap64 (-a2)) = -a2 := by rw [IntKind.wrap_u64]; unfold wrap64; omega
    by_cases hd : a1 - a0 > a2
    ·
     have E : decide (a1 - a0 > a2) = true := decide_eq_true hd
     have f5 : decide (-a1 + a0 < -a2) = true := decide_eq_true (by omega)
     rw [E]
     clear ha hb h0 h1 h2 hc hd
     go_enter Try.func80, Try.ntmps80
     go_wp2
     go_ret
     exact ⟨rfl, Below.refl _ _⟩
    ·
     have E : decide (a1 - a0 > a2) = false := decide_eq_false hd
     have f5 : decide (-a1 + a0 < -a2) = false := decide_eq_false (by omega)
     rw [E]
     clear ha hb h0 h1 h2 hc hd
     go_enter Try.func80, Try.ntmps80
     go_wp2
     go_ret
     exact ⟨rfl, Below.refl _ _⟩
   ·
    have f3 : decide (a2 < 0) = false := decide_eq_false hc
    have E : decide (a1 - a0 > a2) = false := decide_eq_false (by omega)
    obtain ⟨z, hz⟩ : ∃ z, IntKind.u64.wrap (wrap64 (-a2)) = z := ⟨_, rfl⟩
    have f5 : decide (-a1 + a0 < z) = true ∨ decide (-a1 + a0 < z) = false := by cases decide (-a1 + a0 < z) <;> simp
    rw [E]
    clear ha hb h0 h1 h2 hc
    rcases f5 with f5 | f5
    ·
     go_enter Try.func80, Try.ntmps80
     go_wp2
     go_ret
     exact ⟨rfl, Below.refl _ _⟩
    ·
     go_enter Try.func80, Try.ntmps80
     go_wp2
     go_ret
     exact ⟨rfl, Below.refl _ _⟩
  ·
   have f1 : decide (a0 < 0) = false := decide_eq_false ha
   have f2 : decide (a1 < 0) = false := decide_eq_false hb
   have f3 : wrap64 (a1 - a0) = a1 - a0 := by unfold wrap64; omega
   clear ha hb h0 h1 h2
   go_enter Try.func80, Try.ntmps80
   go_wp2
   go_ret
   exact ⟨rfl, Below.refl _ _⟩
 ·
  rw [if_neg hc] at h
  exact absurd h (by simp)
end Go.Proofs.Ytomgebmimgaojaa.QO
end
end
section
/- Written by a program of this session out of the translation. -/
noncomputable section
namespace Go.Proofs.Ytomgebmimgaojaa.QO
open Go.RowKit Go.Proofs.YtomgebmimgaojaaW.PrintWords Go.Proofs.YtomgebmimgaojaaW.PrintLast
set_option linter.unusedVariables false
set_option linter.unusedSimpArgs false
/-! ### gimbalref11_value: function 81 -/
def gimbalref11_value.f (l0 : List Int) (a1 : Int) : Option (Int) := if (Int.tmod a1 2) = 0 then (if 0 ≤ (wrap64 (Int.tdiv a1 2)) then (if (wrap64 (Int.tdiv a1 2)) < (l0.length : Int) then (some (rd l0 (wrap64 (Int.tdiv a1 2)))) else (none)) else (none)) else (if 0 ≤ (wrap64 (Int.tdiv a1 2)) then (if (wrap64 (Int.tdiv a1 2)) < (l0.length : Int) then (some (wrap64 (-(rd l0 (wrap64 (Int.tdiv a1 2)))))) else (none)) else (none))
set_option maxHeartbeats 8000000 in
set_option maxRecDepth 100000 in
theorem gimbalref11_value.calls (A0 : Option Addr) (c0 : Nat) (l0 : List Int) (a1 : Int) (r : Int) (w : World) (hr0 : Kd.C (Kd.int .i64) w A0 l0.length l0) (hc0 : l0.length ≤ c0) (h : gimbalref11_value.f l0 a1 = some r) :
 Calls Try.prog 81 #[.slice A0 l0.length c0, .int .i64 a1] w fun e w' => e = .returned (.int .i64 r) ∧ Drawn0 w w' := by
 have HR0 := Aside0.mk hr0
 have HC0 := Aside0.mk hc0
 clear hr0 hc0
 have H : (if (Int.tmod a1 2) = 0 then (if 0 ≤ (wrap64 (Int.tdiv a1 2)) then (if (wrap64 (Int.tdiv a1 2)) < (l0.length : Int) then (some (rd l0 (wrap64 (Int.tdiv a1 2)))) else (none)) else (none)) else (if 0 ≤ (wrap64 (Int.tdiv a1 2)) then (if (wrap64 (Int.tdiv a1 2)) < (l0.length : Int) then (some (wrap64 (-(rd l0 (wrap64 (Int.tdiv a1 2)))))) else (none)) else (none))) = some r := h
 clear h
 by_cases c3 : (Int.tmod a1 2) = 0
 ·
  rw [if_pos c3] at H
  have c3b0 : ((Int.tmod a1 2) == 0) = true := beq_iff_eq.mpr c3
  have c3b1 : ((Int.tmod a1 2) != 0) = false := bne_eq_false_iff_eq.mpr c3
  clear c3
  obtain ⟨ji4, hji4⟩ : ∃ j_ : Int, (wrap64 (Int.tdiv a1 2)) = j_ := ⟨_, rfl⟩
  replace H : (if 0 ≤ (ji4) then (if (ji4) < (l0.length : Int) then (some (rd l0 (ji4))) else (none)) else (none)) = some r := by first | (rw [hji4] at H; exact H) | (simp only [hji4] at H ⊢; exact H)
  have hji4w : (IntKind.i64.wrap (Int.tdiv a1 2)) = ji4 := (i64_w _).trans hji4
  by_cases c5 : 0 ≤ (ji4)
  ·
   rw [if_pos c5] at H
   have c5b0 : decide (0 ≤ (ji4)) = true := decide_eq_true c5
   clear c5
   by_cases c6 : (ji4) < (l0.length : Int)
   ·
    rw [if_pos c6] at H
    have c6b0 : decide ((ji4) < (l0.length : Int)) = true := decide_eq_true c6
    clear c6
    obtain rfl := Option.some.inj H
    have p325 : 0 ≤ ((ji4) : Int) := of_decide_eq_true (by first | (with_reducible assumption) | assumption)
    have q325 : (ji4) < (l0.length : Int) := of_decide_eq_true (by first | (with_reducible assumption) | assumption)
    obtain ⟨ad325, e325, hx325_0⟩ := Kd.at_int HR0.out (ji4) p325 q325
    cases e325
    replace p325 := eq_true p325
    replace q325 := eq_true q325
    go_enter Try.func81, Try.ntmps81
    go_wp2
    go_ret
    exact ⟨by first | rfl | (simp; done) | (simp only [← hji4] <;> (first | rfl | simp)) | (simp [*]; done), by repeat (first | exact Drawn0.refl _ | apply Drawn0.step)⟩
   ·
    rw [if_neg c6] at H
    exact absurd H (by simp)
  ·
   rw [if_neg c5] at H
   exact absurd H (by simp)
 ·
  rw [if_neg c3] at H
  have c3b0 : ((Int.tmod a1 2) == 0) = false := beq_eq_false_iff_ne.mpr c3
  have c3b1 : ((Int.tmod a1 2) != 0) = true := bne_iff_ne.mpr c3
  obtain ⟨ji7, hji7⟩ : ∃ j_ : Int, (wrap64 (Int.tdiv a1 2)) = j_ := ⟨_, rfl⟩
  replace H : (if 0 ≤ (ji7) then (if (ji7) < (l0.length : Int) then (some (wrap64 (-(rd l0 (ji7))))) else (none)) else (none)) = some r := by first | (rw [hji7] at H; exact H) | (simp only [hji7] at H ⊢; exact H)
  have hji7w : (IntKind.i64.wrap (Int.tdiv a1 2)) = ji7 := (i64_w _).trans hji7
  by_cases c8 : 0 ≤ (ji7)
  ·
   rw [if_pos c8] at H
   have c8b0 : decide (0 ≤ (ji7)) = true := decide_eq_true c8
   clear c8
   by_cases c9 : (ji7) < (l0.length : Int)
   ·
    rw [if_pos c9] at H
    have c9b0 : decide ((ji7) < (l0.length : Int)) = true := decide_eq_true c9
    clear c9
    obtain rfl := Option.some.inj H
    have p326 : 0 ≤ ((ji7) : Int) := of_decide_eq_true (by first | (with_reducible assumption) | assumption)
    have q326 : (ji7) < (l0.length : Int) := of_decide_eq_true (by first | (with_reducible assumption) | assumption)
    obtain ⟨ad326, e326, hx326_0⟩ := Kd.at_int HR0.out (ji7) p326 q326
    cases e326
    replace p326 := eq_true p326
    replace q326 := eq_true q326
    go_enter Try.func81, Try.ntmps81
    go_wp2
    go_ret
    exact ⟨by first | rfl | (simp; done) | (simp only [← hji7] <;> (first | rfl | simp)) | (simp [*]; done), by repeat (first | exact Drawn0.refl _ | apply Drawn0.step)⟩
   ·
    rw [if_neg c9] at H
    exact absurd H (by simp)
  ·
   rw [if_neg c8] at H
   exact absurd H (by simp)
end Go.Proofs.Ytomgebmimgaojaa.QO
end
end
section
/- Written by a program of this session out of the translation. -/
noncomputable section
namespace Go.Proofs.Ytomgebmimgaojaa.QO
open Go.RowKit Go.Proofs.YtomgebmimgaojaaW.PrintWords Go.Proofs.YtomgebmimgaojaaW.PrintLast
set_option linter.unusedVariables false
set_option linter.unusedSimpArgs false
/-! ### gimbalref11_Has: function 45 -/
mutual
def gimbalref11_Has.j0 : Nat → List Int → Bool → List Int → List Int → Bool → Option (Bool)
 | 0, _, _, _, _, _ => none
 | k + 1, x1, x19, x328000, x328001, x328002 => if x19 = true then (some false) else (gimbalref11_Has.l0 k x1 (wrap64 (2 * (x328000.length : Int))) x1 (x1.length : Int) 0 x328000 x328001 x328002)
def gimbalref11_Has.l0 : Nat → List Int → Int → List Int → Int → Int → List Int → List Int → Bool → Option (Bool)
 | 0, _, _, _, _, _, _, _, _ => none
 | k + 1, x1, x5, x24, x25, x26, x328000, x328001, x328002 => if x26 < x25 then (if 0 ≤ x26 then (if x26 < (x24.length : Int) then (if (rd x24 x26) ≤ (-4611686018427387904) then (some false) else (if (rd x24 x26) ≥ 4611686018427387904 then (some false) else (gimbalref11_Has.l0 k x1 x5 x24 x25 (wrap64 (x26 + 1)) x328000 x328001 x328002))) else (none)) else (none)) else (gimbalref11_Has.l1 k x1 x5 0 x328000 x328001 x328002)
def gimbalref11_Has.l1 : Nat → List Int → Int → Int → List Int → List Int → Bool → Option (Bool)
 | 0, _, _, _, _, _, _ => none
 | k + 1, x1, x5, x8, x328000, x328001, x328002 => if x8 < x5 then (gimbalref11_Has.l2 k x1 x5 x8 0 x328000 x328001 x328002) else (some true)
def gimbalref11_Has.l2 : Nat → List Int → Int → Int → Int → List Int → List Int → Bool → Option (Bool)
 | 0, _, _, _, _, _, _, _ => none
 | k + 1, x1, x5, x8, x9, x328000, x328001, x328002 => if x9 < x5 then (if 0 ≤ (wrap64 ((wrap64 (x8 * x5)) + x9)) then (if (wrap64 ((wrap64 (x8 * x5)) + x9)) < (x328001.length : Int) then (if (rd x328001 (wrap64 ((wrap64 (x8 * x5)) + x9))) = 4611686018427387904 then (gimbalref11_Has.l2 k x1 x5 x8 (wrap64 (x9 + 1)) x328000 x328001 x328002) else ((gimbalref11_value.f x1 x8).bind fun t330 => ((gimbalref11_value.f x1 x9).bind fun t331 => ((gimbalref11_beyond.f t330 t331 (rd x328001 (wrap64 ((wrap64 (x8 * x5)) + x9)))).bind fun t333 => (if t333 = true then (some false) else (gimbalref11_Has.l2 k x1 x5 x8 (wrap64 (x9 + 1)) x328000 x328001 x328002)))))) else (none)) else (none)) else (gimbalref11_Has.l1 k x1 x5 (wrap64 (x8 + 1)) x328000 x328001 x328002)
end
def gimbalref11_Has.f (k : Nat) (l0_0 : List Int) (l0_1 : List Int) (a0_2 : Bool) (l1 : List Int) : Option (Bool) := if a0_2 = true then (gimbalref11_Has.j0 k l1 true l0_0 l0_1 a0_2) else (gimbalref11_Has.j0 k l1 ((l1.length : Int) != (l0_0.length : Int)) l0_0 l0_1 a0_2)
theorem gimbalref11_Has.mono_l : ∀ k, (∀ y0 y1 y2 y3 y4, LeO (gimbalref11_Has.j0 k y0 y1 y2 y3 y4) (gimbalref11_Has.j0 (k + 1) y0 y1 y2 y3 y4)) ∧ (∀ y0 y1 y2 y3 y4 y5 y6 y7, LeO (gimbalref11_Has.l0 k y0 y1 y2 y3 y4 y5 y6 y7) (gimbalref11_Has.l0 (k + 1) y0 y1 y2 y3 y4 y5 y6 y7)) ∧ (∀ y0 y1 y2 y3 y4 y5, LeO (gimbalref11_Has.l1 k y0 y1 y2 y3 y4 y5) (gimbalref11_Has.l1 (k + 1) y0 y1 y2 y3 y4 y5)) ∧ (∀ y0 y1 y2 y3 y4 y5 y6, LeO (gimbalref11_Has.l2 k y0 y1 y2 y3 y4 y5 y6) (gimbalref11_Has.l2 (k + 1) y0 y1 y2 y3 y4 y5 y6))
 | 0 => ⟨fun _ _ _ _ _ r h => by simp [gimbalref11_Has.j0] at h, fun _ _ _ _ _ _ _ _ r h => by simp [gimbalref11_Has.l0] at h, fun _ _ _ _ _ _ r h => by simp [gimbalref11_Has.l1] at h, fun _ _ _ _ _ _ _ r h => by simp [gimbalref11_Has.l2] at h⟩
 | k + 1 => by
  obtain ⟨ih0, ih1, ih2, ih3⟩ := gimbalref11_Has.mono_l k
  refine ⟨?_, ?_, ?_, ?_⟩
  ·
   intro y0 y1 y2 y3 y4
   unfold gimbalref11_Has.j0
   repeat' first
   | (with_reducible exact ih0 _ _ _ _ _)
   | (with_reducible exact ih1 _ _ _ _ _ _ _ _)
   | (with_reducible exact ih2 _ _ _ _ _ _)
   | (with_reducible exact ih3 _ _ _ _ _ _ _)
   | (with_reducible exact LeO.refl _)
   | (with_reducible exact LeO.none _)
   | (with_reducible refine LeO.ite ?_ ?_)
   | (with_reducible refine LeO.bind ?_ (fun _ => ?_))
   | exact ih0 _ _ _ _ _
   | exact ih1 _ _ _ _ _ _ _ _
   | exact ih2 _ _ _ _ _ _
   | exact ih3 _ _ _ _ _ _ _
   | exact LeO.none _
   | refine LeO.ite ?_ ?_
   | refine LeO.bind ?_ (fun _ => ?_)
  ·
   intro y0 y1 y2 y3 y4 y5 y6 y7
   unfold gimbalref11_Has.l0
   repeat' first
   | (with_reducible exact ih0 _ _ _ _ _)
   | (with_reducible exact ih1 _ _ _ _ _ _ _ _)
   | (with_reducible exact ih2 _ _ _ _ _ _)
   | (with_reducible exact ih3 _ _ _ _ _ _ _)
   | (with_reducible exact LeO.refl _)
   | (with_reducible exact LeO.none _)
   | (with_reducible refine LeO.ite ?_ ?_)
   | (with_reducible refine LeO.bind ?_ (fun _ => ?_))
   | exact ih0 _ _ _ _ _
   | exact ih1 _ _ _ _ _ _ _ _
   | exact ih2 _ _ _ _ _ _
   | exact ih3 _ _ _ _ _ _ _
   | exact LeO.none _
   | refine LeO.ite ?_ ?_
   | refine LeO.bind ?_ (fun _ => ?_)
  ·
   intro y0 y1 y2 y3 y4 y5
   unfold gimbalref11_Has.l1
   repeat' first
   | (with_reducible exact ih0 _ _ _ _ _)
   | (with_reducible exact ih1 _ _ _ _ _ _ _ _)
   | (with_reducible exact ih2 _ _ _ _ _ _)
   | (with_reducible exact ih3 _ _ _ _ _ _ _)
   | (with_reducible exact LeO.refl _)
   | (with_reducible exact LeO.none _)
   | (with_reducible refine LeO.ite ?_ ?_)
   | (with_reducible refine LeO.bind ?_ (fun _ => ?_))
   | exact ih0 _ _ _ _ _
   | exact ih1 _ _ _ _ _ _ _ _
   | exact ih2 _ _ _ _ _ _
   | exact ih3 _ _ _ _ _ _ _
   | exact LeO.none _
   | refine LeO.ite ?_ ?_
   | refine LeO.bind ?_ (fun _ => ?_)
  ·
   intro y0 y1 y2 y3 y4 y5 y6
   unfold gimbalref11_Has.l2
   repeat' first
   | (with_reducible exact ih0 _ _ _ _ _)
   | (with_reducible exact ih1 _ _ _ _ _ _ _ _)
   | (with_reducible exact ih2 _ _ _ _ _ _)
   | (with_reducible exact ih3 _ _ _ _ _ _ _)
   | (with_reducible exact LeO.refl _)
   | (with_reducible exact LeO.none _)
   | (with_reducible refine LeO.ite ?_ ?_)
   | (with_reducible refine LeO.bind ?_ (fun _ => ?_))
   | exact ih0 _ _ _ _ _
   | exact ih1 _ _ _ _ _ _ _ _
   | exact ih2 _ _ _ _ _ _
   | exact ih3 _ _ _ _ _ _ _
   | exact LeO.none _
   | refine LeO.ite ?_ ?_
   | refine LeO.bind ?_ (fun _ => ?_)
theorem gimbalref11_Has.mono : ∀ a0 a1 a2 a3 k, LeO (gimbalref11_Has.f k a0 a1 a2 a3) (gimbalref11_Has.f (k + 1) a0 a1 a2 a3) := by
 intro a0 a1 a2 a3 k
 obtain ⟨ih0, ih1, ih2, ih3⟩ := gimbalref11_Has.mono_l k
 unfold gimbalref11_Has.f
 repeat' first
  | (with_reducible exact ih0 _ _ _ _ _)
  | (with_reducible exact ih1 _ _ _ _ _ _ _ _)
  | (with_reducible exact ih2 _ _ _ _ _ _)
  | (with_reducible exact ih3 _ _ _ _ _ _ _)
  | (with_reducible exact LeO.refl _)
  | (with_reducible exact LeO.none _)
  | (with_reducible refine LeO.ite ?_ ?_)
  | (with_reducible refine LeO.bind ?_ (fun _ => ?_))
  | exact ih0 _ _ _ _ _
  | exact ih1 _ _ _ _ _ _ _ _
  | exact ih2 _ _ _ _ _ _
  | exact ih3 _ _ _ _ _ _ _
  | exact LeO.none _
  | refine LeO.ite ?_ ?_
  | refine LeO.bind ?_ (fun _ => ?_)
def gimbalref11_Has.T16 : Bool × List (List Nat × List Nat) := (true, [([], []), ([0], [0]), ([], []), ([], []), ([2, 3], [2, 3]), ([], []), ([4, 5], [4, 5]), ([1, 6], [1, 6]), ([7], [7]), ([8], [8]), ([9], [9]), ([10], [10]), ([10], [10]), ([11, 12, 10, 10], [10, 11, 12]), ([10], [10]), ([10], [10]), ([14, 15, 13, 10], [10, 14, 15]), ([10], [10]), ([17, 10], [10, 17]), ([10], [10]), ([10], [10]), ([19, 20, 10], [10, 19, 20]), ([10], [10]), ([21, 22, 10], [10, 21, 22]), ([18, 23, 10], [10, 18, 23]), ([24, 10], [10, 24]), ([13, 16, 25, 16, 10], [10, 13, 16, 25]), ([10, 26], [10, 26])])
def gimbalref11_Has.B16 : List Nat := [0, 1, 0, 0, 12, 0, 60, 127, 255, 511, 1023, 2047, 2047, 8191, 2047, 2047, 65535, 2047, 133119, 2047, 2047, 1574911, 2047, 7866367, 16648191, 33425407, 67108863, 134217727]
theorem gimbalref11_Has.tab16 : rtab .any (opsOf Try.f45 16) = gimbalref11_Has.T16 := by kernel_rfl
theorem gimbalref11_Has.bits16 : waitsOk gimbalref11_Has.T16.2 gimbalref11_Has.B16 = true := by kernel_rfl
set_option maxHeartbeats 8000000 in
set_option maxRecDepth 100000 in
theorem gimbalref11_Has.calls (k : Nat) (A0_0 : Option Addr) (c0_0 : Nat) (l0_0 : List Int) (A0_1 : Option Addr) (c0_1 : Nat) (l0_1 : List Int) (a0_2 : Bool) (A1 : Option Addr) (c1 : Nat) (l1 : List Int) (r : Bool) (w : World) (hr0_0 : Kd.C (Kd.int .i64) w A0_0 l0_0.length l0_0) (hc0_0 : l0_0.length ≤ c0_0) (hr0_1 : Kd.C (Kd.int .i64) w A0_1 l0_1.length l0_1) (hc0_1 : l0_1.length ≤ c0_1) (hr1 : Kd.C (Kd.int .i64) w A1 l1.length l1) (hc1 : l1.length ≤ c1) (h : gimbalref11_Has.f k l0_0 l0_1 a0_2 l1 = some r) :
 Calls Try.prog 45 #[.agg #[.slice A0_0 l0_0.length c0_0, .slice A0_1 l0_1.length c0_1, .bool a0_2], .slice A1 l1.length c1] w fun e w' => e = .returned (.bool r) ∧ Below w.heap.size w w' := by
 have hu25 := Try.underlying25
 have HR0_0 := Aside0.mk hr0_0
 have HC0_0 := Aside0.mk hc0_0
 clear hr0_0 hc0_0
 have HR0_1 := Aside0.mk hr0_1
 have HC0_1 := Aside0.mk hc0_1
 clear hr0_1 hc0_1
 have HR1 := Aside0.mk hr1
 have HC1 := Aside0.mk hc1
 clear hr1 hc1
 have HB := Aside0.mk (Below.refl w.heap.size w)
 have H : (if a0_2 = true then (gimbalref11_Has.j0 k l1 true l0_0 l0_1 a0_2) else (gimbalref11_Has.j0 k l1 ((l1.length : Int) != (l0_0.length : Int)) l0_0 l0_1 a0_2)) = some r := h
 clear h
 have HC3 := Aside0.mk H
 clear H
 go_enter Try.func45, Try.ntmps45
 go_upto_region 1 with ((with_reducible refine gate_dst (N := 2) rfl ?_); (try (refine gate_guard (by rfl) ?_; dsimp only)); refine box_event ?hg (N := 2) ?hd (cs := #[.slice A0_0 l0_0.length c0_0, .slice A0_1 l0_1.length c0_1, .bool a0_2]) (t := 25) ?hr ?_; (case hd => rfl); (case hg => rfl); (case hr => first | (go_simp; done) | (go_simp; rfl)); intro gb327 hg w4 hbox hb; have BK327 := Aside0.mk (hbox); have GW327 := vS hg HB; have GE327 := vS hg HB; replace HB := vWs HB hb; clear hb hbox hg)
 (try simp only [Act.put, List.setIfInBounds_toArray, List.set_cons_zero, List.set_cons_succ])
 go_cut [19] (fun v19 wc => ∃ (kq : Nat) (x19_2 : Bool), v19 = .bool x19_2 ∧ Aside0 (gimbalref11_Has.j0 kq l1 x19_2 l0_0 l0_1 a0_2 = some r) ∧ Aside0 (kq ≤ k) ∧ Aside0 (wc.heap[gb327]? = some (.cells #[(.slice A0_0 l0_0.length c0_0), (.slice A0_1 l0_1.length c0_1), .bool a0_2] 25 (0, 0))) ∧ Aside0 (Below w.heap.size w wc))
 case first =>
  have H := HC3.out
  clear HC3
  by_cases c5 : a0_2 = true
  ·
   subst c5
   have H1 : (gimbalref11_Has.j0 k l1 true l0_0 l0_1 true) = some r := by rw [if_pos rfl] at H; exact H
   clear H
   have H := H1
   clear H1
   have H' := Aside0.mk H
   clear H
   obtain ⟨hcz6_0, hcz6_1, hcz6_2, hfz6_0, hfz6_1, hfz6_2⟩ := vF3 BK327.out
   go_wp2
   go_meet
   case rel => exact ⟨_, (true), (by first | rfl | (simp; done) | (simp [*]; done)), H', ⟨by first | omega | exact Nat.le_refl _⟩, ⟨vB BK327.out⟩, ⟨vW HB.out⟩⟩
  ·
   replace c5 := Bool.eq_false_iff.mpr c5
   subst c5
   have H1 : (gimbalref11_Has.j0 k l1 ((l1.length : Int) != (l0_0.length : Int)) l0_0 l0_1 false) = some r := by rw [if_neg (show ¬ (false = true) by decide)] at H; exact H
   clear H
   have H := H1
   clear H1
   have H' := Aside0.mk H
   clear H
   obtain ⟨hcz7_0, hcz7_1, hcz7_2, hfz7_0, hfz7_1, hfz7_2⟩ := vF3 BK327.out
   go_wp2
   go_meet
   case rel => exact ⟨_, (((l1.length : Int) != (l0_0.length : Int))), (by first | rfl | (simp; done) | (simp [*]; done)), H', ⟨by first | omega | exact Nat.le_refl _⟩, ⟨vB BK327.out⟩, ⟨vW HB.out⟩⟩
 case rest =>
  clear HC3
  obtain ⟨kq, x19_2, rfl, HA, HJ2, BK327, HB⟩ := hcut
  cases kq with
  | zero => exact absurd HA.out (by simp [gimbalref11_Has.j0])
  | succ kj2 =>
   have H := HA.out
   clear HA
   simp only [gimbalref11_Has.j0] at H
   by_cases c8 : x19_2 = true
   ·
    subst c8
    have H1 : (some false) = some r := by rw [if_pos rfl] at H; exact H
    clear H
    have H := H1
    clear H1
    obtain rfl := Option.some.inj H
    go_wp2
    go_ret
    exact ⟨by first | rfl | (simp [errW_none, errW_some] <;> rfl) | (simp [*, errW_none, errW_some] <;> rfl) | (simp [wrap64]; done), vW HB.out⟩
   ·
    replace c8 := Bool.eq_false_iff.mpr c8
    subst c8
    have H1 : (gimbalref11_Has.l0 kj2 l1 (wrap64 (2 * (l0_0.length : Int))) l1 (l1.length : Int) 0 l0_0 l0_1 a0_2) = some r := by rw [if_neg (show ¬ (false = true) by decide)] at H; exact H
    clear H
    have H := H1
    clear H1
    have H' := Aside0.mk H
    clear H
    obtain ⟨hcz9_0, hcz9_1, hcz9_2, hfz9_0, hfz9_1, hfz9_2⟩ := vF3 BK327.out
    go_wp2
    go_loopg [26] kj2 (fun kq v26 w' => ∃ (x26_2 : Int), v26 = .int .i64 x26_2 ∧ Aside0 (gimbalref11_Has.l0 kq l1 (wrap64 (2 * (l0_0.length : Int))) l1 (l1.length : Int) x26_2 l0_0 l0_1 a0_2 = some r) ∧ Aside0 (kq ≤ kj2) ∧ Aside0 (w'.heap[gb327]? = some (.cells #[(.slice A0_0 l0_0.length c0_0), (.slice A0_1 l0_1.length c0_1), .bool a0_2] 25 (0, 0))) ∧ Aside0 (Below w.heap.size w w'))
    case atStart => exact ⟨(0), (by first | rfl | (simp; done) | (simp [*]; done)), H', ⟨Nat.le_refl _⟩, ⟨vB BK327.out⟩, ⟨vW HB.out⟩⟩
    case round =>
     clear H'
     try clear hcz9_0
     try clear hcz9_1
     try clear hcz9_2
     try clear hfz9_0
     try clear hfz9_1
     try clear hfz9_2
     obtain ⟨x26_2, rfl, HA, HK2, BK327, HB⟩ := hrel
     cases gk with
     | zero => exact absurd HA.out (by simp [gimbalref11_Has.l0])
     | succ k2 =>
      have H := HA.out
      clear HA
      simp only [gimbalref11_Has.l0] at H
      by_cases c10 : x26_2 < (l1.length : Int)
      ·
       rw [if_pos c10] at H
       have c10b0 : decide (x26_2 < (l1.length : Int)) = true := decide_eq_true c10
       clear c10
       by_cases c11 : 0 ≤ x26_2
       ·
        rw [if_pos c11] at H
        have c11b0 : decide (0 ≤ x26_2) = true := decide_eq_true c11
        clear c11
        by_cases c12 : x26_2 < (l1.length : Int)
        ·
         rw [if_pos c12] at H
         have c12b0 : decide (x26_2 < (l1.length : Int)) = true := decide_eq_true c12
         clear c12
         by_cases c13 : (rd l1 x26_2) ≤ (-4611686018427387904)
         ·
          rw [if_pos c13] at H
          have c13b0 : decide ((rd l1 x26_2) ≤ (-4611686018427387904)) = true := decide_eq_true c13
          clear c13
          obtain rfl := Option.some.inj H
          have p328 : 0 ≤ (x26_2 : Int) := of_decide_eq_true (by first | (with_reducible assumption) | assumption)
          have q328 : x26_2 < (l1.length : Int) := of_decide_eq_true (by first | (with_reducible assumption) | assumption)
          obtain ⟨ad328, e328, hx328_0⟩ := Kd.at_int HR1.out x26_2 p328 q328
          cases e328
          replace hx328_0 := (HB.out.cell (World.block_lt_of_cell? w _ hx328_0)).trans hx328_0
          replace p328 := eq_true p328
          replace q328 := eq_true q328
          go_wp2
          go_ret
          exact ⟨by first | rfl | (simp [errW_none, errW_some] <;> rfl) | (simp [*, errW_none, errW_some] <;> rfl) | (simp [wrap64]; done), vW HB.out⟩
         ·
          rw [if_neg c13] at H
          have c13b0 : decide ((rd l1 x26_2) ≤ (-4611686018427387904)) = false := decide_eq_false c13
          clear c13
          by_cases c14 : (rd l1 x26_2) ≥ 4611686018427387904
          ·
           rw [if_pos c14] at H
           have c14b0 : decide (4611686018427387904 ≤ (rd l1 x26_2)) = true := decide_eq_true c14
           clear c14
           obtain rfl := Option.some.inj H
           have p328 : 0 ≤ (x26_2 : Int) := of_decide_eq_true (by first | (with_reducible assumption) | assumption)
           have q328 : x26_2 < (l1.length : Int) := of_decide_eq_true (by first | (with_reducible assumption) | assumption)
           obtain ⟨ad328, e328, hx328_0⟩ := Kd.at_int HR1.out x26_2 p328 q328
           cases e328
           replace hx328_0 := (HB.out.cell (World.block_lt_of_cell? w _ hx328_0)).trans hx328_0
           replace p328 := eq_true p328
           replace q328 := eq_true q328
           go_wp2
           go_ret
           exact ⟨by first | rfl | (simp [errW_none, errW_some] <;> rfl) | (simp [*, errW_none, errW_some] <;> rfl) | (simp [wrap64]; done), vW HB.out⟩
          ·
           rw [if_neg c14] at H
           have c14b0 : decide (4611686018427387904 ≤ (rd l1 x26_2)) = false := decide_eq_false c14
           clear c14
           have H' := Aside0.mk H
           clear H
           have p328 : 0 ≤ (x26_2 : Int) := of_decide_eq_true (by first | (with_reducible assumption) | assumption)
           have q328 : x26_2 < (l1.length : Int) := of_decide_eq_true (by first | (with_reducible assumption) | assumption)
           obtain ⟨ad328, e328, hx328_0⟩ := Kd.at_int HR1.out x26_2 p328 q328
           cases e328
           replace hx328_0 := (HB.out.cell (World.block_lt_of_cell? w _ hx328_0)).trans hx328_0
           replace p328 := eq_true p328
           replace q328 := eq_true q328
           go_wp2
           go_roundg k2
           case measure => have := HJ2.out; have := HK2.out; omega
           case rel => exact ⟨(wrap64 (x26_2 + 1)), (by first | rfl | (simp; done) | (simp [*]; done)), H', ⟨by have := HJ2.out; have := HK2.out; omega⟩, ⟨vB BK327.out⟩, ⟨vW HB.out⟩⟩
        ·
         rw [if_neg c12] at H
         exact absurd H (by simp)
       ·
        rw [if_neg c11] at H
        exact absurd H (by simp)
      ·
       rw [if_neg c10] at H
       have c10b0 : decide (x26_2 < (l1.length : Int)) = false := decide_eq_false c10
       clear c10
       have H' := Aside0.mk H
       clear H
       go_wp2
       go_loopg [8] k2 (fun kq v8 w' => ∃ (x8_3 : Int), v8 = .int .i64 x8_3 ∧ Aside0 (gimbalref11_Has.l1 kq l1 (wrap64 (2 * (l0_0.length : Int))) x8_3 l0_0 l0_1 a0_2 = some r) ∧ Aside0 (kq ≤ k2) ∧ Aside0 (w'.heap[gb327]? = some (.cells #[(.slice A0_0 l0_0.length c0_0), (.slice A0_1 l0_1.length c0_1), .bool a0_2] 25 (0, 0))) ∧ Aside0 (Below w.heap.size w w'))
       case atStart => exact ⟨(0), (by first | rfl | (simp; done) | (simp [*]; done)), H', ⟨Nat.le_refl _⟩, ⟨vB BK327.out⟩, ⟨vW HB.out⟩⟩
       case round =>
        clear H'
        try clear c10b0
        obtain ⟨x8_3, rfl, HA, HK3, BK327, HB⟩ := hrel
        cases gk with
        | zero => exact absurd HA.out (by simp [gimbalref11_Has.l1])
        | succ k3 =>
         have H := HA.out
         clear HA
         simp only [gimbalref11_Has.l1] at H
         by_cases c15 : x8_3 < (wrap64 (2 * (l0_0.length : Int)))
         ·
          rw [if_pos c15] at H
          have c15b0 : decide (x8_3 < (wrap64 (2 * (l0_0.length : Int)))) = true := decide_eq_true c15
          clear c15
          have H' := Aside0.mk H
          clear H
          go_wp2
          go_loopg [9] k3 (fun kq v9 w' => ∃ (x9_4 : Int), v9 = .int .i64 x9_4 ∧ Aside0 (gimbalref11_Has.l2 kq l1 (wrap64 (2 * (l0_0.length : Int))) x8_3 x9_4 l0_0 l0_1 a0_2 = some r) ∧ Aside0 (kq ≤ k3) ∧ Aside0 (w'.heap[gb327]? = some (.cells #[(.slice A0_0 l0_0.length c0_0), (.slice A0_1 l0_1.length c0_1), .bool a0_2] 25 (0, 0))) ∧ Aside0 (Below w.heap.size w w'))
          case atStart => exact ⟨(0), (by first | rfl | (simp; done) | (simp [*]; done)), H', ⟨Nat.le_refl _⟩, ⟨vB BK327.out⟩, ⟨vW HB.out⟩⟩
          case round =>
           clear H'
           try clear c15b0
           obtain ⟨x9_4, rfl, HA, HK4, BK327, HB⟩ := hrel
           cases gk with
           | zero => exact absurd HA.out (by simp [gimbalref11_Has.l2])
           | succ k4 =>
            have H := HA.out
            clear HA
            simp only [gimbalref11_Has.l2] at H
            by_cases c16 : x9_4 < (wrap64 (2 * (l0_0.length : Int)))
            ·
             rw [if_pos c16] at H
             have c16b0 : decide (x9_4 < (wrap64 (2 * (l0_0.length : Int)))) = true := decide_eq_true c16
             clear c16
             obtain ⟨ji17, hji17⟩ : ∃ j_ : Int, (wrap64 ((wrap64 (x8_3 * (wrap64 (2 * (l0_0.length : Int))))) + x9_4)) = j_ := ⟨_, rfl⟩
             replace H : (if 0 ≤ (ji17) then (if (ji17) < (l0_1.length : Int) then (if (rd l0_1 (ji17)) = 4611686018427387904 then (gimbalref11_Has.l2 k4 l1 (wrap64 (2 * (l0_0.length : Int))) x8_3 (wrap64 (x9_4 + 1)) l0_0 l0_1 a0_2) else ((gimbalref11_value.f l1 x8_3).bind fun t330 => ((gimbalref11_value.f l1 x9_4).bind fun t331 => ((gimbalref11_beyond.f t330 t331 (rd l0_1 (ji17))).bind fun t333 => (if t333 = true then (some false) else (gimbalref11_Has.l2 k4 l1 (wrap64 (2 * (l0_0.length : Int))) x8_3 (wrap64 (x9_4 + 1)) l0_0 l0_1 a0_2)))))) else (none)) else (none)) = some r := by first | (rw [hji17] at H; exact H) | (simp only [hji17] at H ⊢; exact H)
             have hji17w : (IntKind.i64.wrap ((wrap64 (x8_3 * (wrap64 (2 * (l0_0.length : Int))))) + x9_4)) = ji17 := (i64_w _).trans hji17
             by_cases c18 : 0 ≤ (ji17)
             ·
              rw [if_pos c18] at H
              have c18b0 : decide (0 ≤ (ji17)) = true := decide_eq_true c18
              clear c18
              by_cases c19 : (ji17) < (l0_1.length : Int)
              ·
               rw [if_pos c19] at H
               have c19b0 : decide ((ji17) < (l0_1.length : Int)) = true := decide_eq_true c19
               clear c19
               by_cases c20 : (rd l0_1 (ji17)) = 4611686018427387904
               ·
                rw [if_pos c20] at H
                have c20b0 : ((rd l0_1 (ji17)) == 4611686018427387904) = true := beq_iff_eq.mpr c20
                have c20b1 : ((rd l0_1 (ji17)) != 4611686018427387904) = false := bne_eq_false_iff_eq.mpr c20
                clear c20
                have H' := Aside0.mk H
                clear H
                try go_wp2
                replace BK327 := Aside0.mk (blk_drew BK327.out)
                replace HB := Aside0.mk (below_drew1 HB.out)
                have p329 : 0 ≤ ((ji17) : Int) := of_decide_eq_true (by first | (with_reducible assumption) | assumption)
                have q329 : (ji17) < (l0_1.length : Int) := of_decide_eq_true (by first | (with_reducible assumption) | assumption)
                obtain ⟨ad329, e329, hx329_0⟩ := Kd.at_int HR0_1.out (ji17) p329 q329
                have hw329_0 := hx329_0
                cases e329
                replace hx329_0 := (HB.out.cell (World.block_lt_of_cell? w _ hx329_0)).trans hx329_0
                replace p329 := eq_true p329
                replace q329 := eq_true q329
                refine start_ (n := 28) (S := fun w' => w'.cell? ⟨gb327, 0, none⟩ = some (.slice A0_0 l0_0.length c0_0) ∧ w'.cell? ⟨gb327, 1, none⟩ = some (.slice (some ad329) l0_1.length c0_1) ∧ w'.cell? ⟨gb327, 2, none⟩ = some (.bool a0_2) ∧ w'.cell? (ad329.add ((ji17)).toNat) = some (.int .i64 (rd l0_1 (ji17)))) (ds := []) (mB 28 0) (by kernel_rfl) rfl rfl ⟨(blk_cell BK327.out 0).trans rfl, (blk_cell BK327.out 1).trans rfl, (blk_cell BK327.out 2).trans rfl, ((HB.out.cell (World.block_lt_of_cell? w _ hw329_0)).trans hw329_0)⟩ (fun hHeld => ?_); refine with_tabW gimbalref11_Has.tab16 gimbalref11_Has.bits16 (fun HT_ HW_ => ?_)
                generalize wr.drew = w21 at BK327 HB hx329_0 hHeld ⊢
                refine pV_ 0 47 (mB 28 1) HT_ ?_
                refine pV_ 2 49 (mB 28 5) HT_ ?_
                refine pV_ 3 50 (mB 28 13) HT_ ?_
                refine pV_ 4 51 (mB 28 29) HT_ ?_
                refine pV_ 5 52 (mB 28 61) HT_ ?_
                refine pV_ 6 53 (mB 28 125) HT_ ?_
                refine tV_ 1 48 (mB 28 127) HT_ HW_ hHeld ?_
                refine pV_ 7 54 (mB 28 255) HT_ ?_
                refine tV_ 8 55 (mB 28 511) HT_ HW_ hHeld ?_
                refine pV_ 9 56 (mB 28 1023) HT_ ?_
                refine pV_ 10 57 (mB 28 2047) HT_ ?_
                refine pU_ 11 58 (mB 28 4095) HT_ ?_
                refine pU_ 12 59 (mB 28 8191) HT_ ?_
                refine pU_ 13 60 (mB 28 16383) HT_ ?_
                refine pU_ 14 61 (mB 28 32767) HT_ ?_
                refine pU_ 15 62 (mB 28 65535) HT_ ?_
                refine pU_ 16 63 (mB 28 131071) HT_ ?_
                refine pU_ 17 64 (mB 28 262143) HT_ ?_
                refine pU_ 18 65 (mB 28 524287) HT_ ?_
                refine pU_ 19 66 (mB 28 1048575) HT_ ?_
                refine pU_ 20 67 (mB 28 2097151) HT_ ?_
                refine pU_ 21 68 (mB 28 4194303) HT_ ?_
                refine pU_ 22 69 (mB 28 8388607) HT_ ?_
                refine pU_ 23 70 (mB 28 16777215) HT_ ?_
                refine pU_ 24 71 (mB 28 33554431) HT_ ?_
                refine pU_ 25 72 (mB 28 67108863) HT_ ?_
                refine pU_ 26 73 (mB 28 134217727) HT_ ?_
                refine pV_ 27 74 (mB 28 268435455) HT_ ?_
                refine done_ (done_of HT_.out (by kernel_rfl)) ?_
                try go_wp2
                go_roundg k4
                case measure => have := HJ2.out; have := HK2.out; have := HK3.out; have := HK4.out; omega
                case rel => exact ⟨(wrap64 (x9_4 + 1)), (by first | rfl | (simp; done) | (simp [*]; done)), H', ⟨by have := HJ2.out; have := HK2.out; have := HK3.out; have := HK4.out; omega⟩, ⟨vB BK327.out⟩, ⟨vW HB.out⟩⟩
               ·
                rw [if_neg c20] at H
                have c20b0 : ((rd l0_1 (ji17)) == 4611686018427387904) = false := beq_eq_false_iff_ne.mpr c20
                have c20b1 : ((rd l0_1 (ji17)) != 4611686018427387904) = true := bne_iff_ne.mpr c20
                replace H := Option.bind_eq_some_iff.mp H
                obtain ⟨t330, A220, H⟩ := H
                replace H : ((gimbalref11_value.f l1 x9_4).bind fun t331 => ((gimbalref11_beyond.f t330 t331 (rd l0_1 (ji17))).bind fun t333 => (if t333 = true then (some false) else (gimbalref11_Has.l2 k4 l1 (wrap64 (2 * (l0_0.length : Int))) x8_3 (wrap64 (x9_4 + 1)) l0_0 l0_1 a0_2)))) = some r := H
                have A22 := Aside0.mk A220
                clear A220
                replace H := Option.bind_eq_some_iff.mp H
                obtain ⟨t331, A230, H⟩ := H
                replace H : ((gimbalref11_beyond.f t330 t331 (rd l0_1 (ji17))).bind fun t333 => (if t333 = true then (some false) else (gimbalref11_Has.l2 k4 l1 (wrap64 (2 * (l0_0.length : Int))) x8_3 (wrap64 (x9_4 + 1)) l0_0 l0_1 a0_2))) = some r := H
                have A23 := Aside0.mk A230
                clear A230
                replace H := Option.bind_eq_some_iff.mp H
                obtain ⟨t333, A240, H⟩ := H
                replace H : (if t333 = true then (some false) else (gimbalref11_Has.l2 k4 l1 (wrap64 (2 * (l0_0.length : Int))) x8_3 (wrap64 (x9_4 + 1)) l0_0 l0_1 a0_2)) = some r := H
                have A24 := Aside0.mk A240
                clear A240
                by_cases c25 : t333 = true
                ·
                 subst c25
                 have H1 : (some false) = some r := by rw [if_pos rfl] at H; exact H
                 clear H
                 have H := H1
                 clear H1
                 obtain rfl := Option.some.inj H
                 try go_wp2
                 replace BK327 := Aside0.mk (blk_drew BK327.out)
                 replace HB := Aside0.mk (below_drew1 HB.out)
                 have p329 : 0 ≤ ((ji17) : Int) := of_decide_eq_true (by first | (with_reducible assumption) | assumption)
                 have q329 : (ji17) < (l0_1.length : Int) := of_decide_eq_true (by first | (with_reducible assumption) | assumption)
                 obtain ⟨ad329, e329, hx329_0⟩ := Kd.at_int HR0_1.out (ji17) p329 q329
                 have hw329_0 := hx329_0
                 cases e329
                 replace hx329_0 := (HB.out.cell (World.block_lt_of_cell? w _ hx329_0)).trans hx329_0
                 replace p329 := eq_true p329
                 replace q329 := eq_true q329
                 have p332 : 0 ≤ ((ji17) : Int) := of_decide_eq_true (by first | (with_reducible assumption) | assumption)
                 have q332 : (ji17) < (l0_1.length : Int) := of_decide_eq_true (by first | (with_reducible assumption) | assumption)
                 obtain ⟨ad332, e332, hx332_0⟩ := Kd.at_int HR0_1.out (ji17) p332 q332
                 have hw332_0 := hx332_0
                 obtain rfl : ad329 = ad332 := (by injection e332)
                 replace hx332_0 := (HB.out.cell (World.block_lt_of_cell? w _ hx332_0)).trans hx332_0
                 replace p332 := eq_true p332
                 replace q332 := eq_true q332
                 refine start_ (n := 28) (S := fun w' => w'.cell? ⟨gb327, 0, none⟩ = some (.slice A0_0 l0_0.length c0_0) ∧ w'.cell? ⟨gb327, 1, none⟩ = some (.slice (some ad329) l0_1.length c0_1) ∧ w'.cell? ⟨gb327, 2, none⟩ = some (.bool a0_2) ∧ w'.cell? (ad329.add ((ji17)).toNat) = some (.int .i64 (rd l0_1 (ji17))) ∧ w'.cell? (ad329.add ((ji17)).toNat) = some (.int .i64 (rd l0_1 (ji17)))) (ds := []) (mB 28 0) (by kernel_rfl) rfl rfl ⟨(blk_cell BK327.out 0).trans rfl, (blk_cell BK327.out 1).trans rfl, (blk_cell BK327.out 2).trans rfl, ((HB.out.cell (World.block_lt_of_cell? w _ hw329_0)).trans hw329_0), ((HB.out.cell (World.block_lt_of_cell? w _ hw332_0)).trans hw332_0)⟩ (fun hHeld => ?_); refine with_tabW gimbalref11_Has.tab16 gimbalref11_Has.bits16 (fun HT_ HW_ => ?_)
                 generalize wr.drew = w26 at BK327 HB hx329_0 hx332_0 hHeld ⊢
                 refine pV_ 0 47 (mB 28 1) HT_ ?_
                 refine pV_ 2 49 (mB 28 5) HT_ ?_
                 refine pV_ 3 50 (mB 28 13) HT_ ?_
                 refine pV_ 4 51 (mB 28 29) HT_ ?_
                 refine pV_ 5 52 (mB 28 61) HT_ ?_
                 refine pV_ 6 53 (mB 28 125) HT_ ?_
                 refine tV_ 1 48 (mB 28 127) HT_ HW_ hHeld ?_
                 refine pV_ 7 54 (mB 28 255) HT_ ?_
                 refine tV_ 8 55 (mB 28 511) HT_ HW_ hHeld ?_
                 refine pV_ 9 56 (mB 28 1023) HT_ ?_
                 refine pV_ 10 57 (mB 28 2047) HT_ ?_
                 refine pV_ 11 58 (mB 28 4095) HT_ ?_
                 refine pV_ 12 59 (mB 28 8191) HT_ ?_
                 refine pV_ 14 61 (mB 28 24575) HT_ ?_
                 refine pV_ 15 62 (mB 28 57343) HT_ ?_
                 refine pV_ 17 64 (mB 28 188415) HT_ ?_
                 refine pV_ 19 66 (mB 28 712703) HT_ ?_
                 refine pV_ 20 67 (mB 28 1761279) HT_ ?_
                 refine pV_ 21 68 (mB 28 3858431) HT_ ?_
                 refine pV_ 22 69 (mB 28 8052735) HT_ ?_
                 refine pV_ 23 70 (mB 28 16441343) HT_ ?_
                 refine tV_ 18 65 (mB 28 16703487) HT_ HW_ hHeld ?_
                 refine pV_ 24 71 (mB 28 33480703) HT_ ?_
                 refine tV_ 25 72 (mB 28 67035135) HT_ HW_ hHeld ?_
                 refine one_ (i := 13) (N := some 60) (mB 28 67043327) rfl rfl (one_of HT_.out (by kernel_rfl)) (by decide) (fun K hK => ?_)
                 refine goes_ Try.func81 (by kernel_rfl) rfl #[.slice A1 l1.length c1, .int .i64 x8_3] (by rfl) rfl rfl vL ?_
                 with_reducible refine (gimbalref11_value.calls _ _ l1 x8_3 t330 _ ?side1 ?side2 A22.out).mono ?_
                 (case side1 => exact vC (Kd.C_below HR1.out HB.out))
                 (case side2 => exact HC1.out)
                 rintro e w' ⟨rfl, ⟨nd, rfl⟩⟩
                 refine ⟨_, rfl, ?_⟩
                 refine hK.out _ _ ⟨(blk_cell BK327.out 0).trans rfl, (blk_cell BK327.out 1).trans rfl, (blk_cell BK327.out 2).trans rfl, ((HB.out.cell (World.block_lt_of_cell? w _ hw329_0)).trans hw329_0), ((HB.out.cell (World.block_lt_of_cell? w _ hw332_0)).trans hw332_0)⟩ (fun hHeld => ?_)
                 clear hK K
                 refine norm_ (a' := ?_) ?_ ?_
                 rotate_left
                 ·
                  show Act.put _ (some 60) _ = _
                  simp only [Act.put, List.setIfInBounds_toArray, List.set_cons_zero, List.set_cons_succ, i64_w, i32_w]
                  rfl
                 refine one_ (i := 16) (N := some 63) (mB 28 67108863) rfl rfl (one_of HT_.out (by kernel_rfl)) (by decide) (fun K hK => ?_)
                 refine goes_ Try.func81 (by kernel_rfl) rfl #[.slice A1 l1.length c1, .int .i64 x9_4] (by rfl) rfl rfl vL ?_
                 with_reducible refine (gimbalref11_value.calls _ _ l1 x9_4 t331 _ ?side1 ?side2 A23.out).mono ?_
                 (case side1 => repeat (first | exact (Kd.C_below HR1.out (vW HB.out)) | (with_reducible refine Kd.C_alloc ?_ _) | (with_reducible refine Kd.C_drewN ?_ _) | (with_reducible refine Kd.C_drew ?_)))
                 (case side2 => exact HC1.out)
                 rintro e w' ⟨rfl, ⟨nd, rfl⟩⟩
                 refine ⟨_, rfl, ?_⟩
                 refine hK.out _ _ ⟨(blk_cell BK327.out 0).trans rfl, (blk_cell BK327.out 1).trans rfl, (blk_cell BK327.out 2).trans rfl, ((HB.out.cell (World.block_lt_of_cell? w _ hw329_0)).trans hw329_0), ((HB.out.cell (World.block_lt_of_cell? w _ hw332_0)).trans hw332_0)⟩ (fun hHeld => ?_)
                 clear hK K
                 refine norm_ (a' := ?_) ?_ ?_
                 rotate_left
                 ·
                  show Act.put _ (some 63) _ = _
                  simp only [Act.put, List.setIfInBounds_toArray, List.set_cons_zero, List.set_cons_succ, i64_w, i32_w]
                  rfl
                 refine one_ (i := 26) (N := some 73) (mB 28 134217727) rfl rfl (one_of HT_.out (by kernel_rfl)) (by decide) (fun K hK => ?_)
                 refine goes_ Try.func80 (by kernel_rfl) rfl #[.int .i64 t330, .int .i64 t331, .int .i64 (rd l0_1 (ji17))] (by rfl) rfl rfl (by (try simp only [List.map_toArray, List.map_cons, List.map_nil]); first | done | (simp only [hji17]; rfl) | rfl | (simp only [List.length_drop, List.length_take]; rfl)) ?_
                 with_reducible refine (gimbalref11_beyond.calls t330 t331 (rd l0_1 (ji17)) true _ A24.out).mono ?_
                 rintro e w27 ⟨rfl, hb⟩
                 refine ⟨_, rfl, ?_⟩
                 replace BK327 := vBb BK327 hb
                 replace HB := vWs HB hb
                 (try clear hb)
                 (try clear hb2)
                 (try clear hk)
                 (try clear hi)
                 refine hK.out _ _ ⟨(blk_cell BK327.out 0).trans rfl, (blk_cell BK327.out 1).trans rfl, (blk_cell BK327.out 2).trans rfl, ((HB.out.cell (World.block_lt_of_cell? w _ hw329_0)).trans hw329_0), ((HB.out.cell (World.block_lt_of_cell? w _ hw332_0)).trans hw332_0)⟩ (fun hHeld => ?_)
                 clear hK K
                 refine norm_ (a' := ?_) ?_ ?_
                 rotate_left
                 ·
                  show Act.put _ (some 73) _ = _
                  simp only [Act.put, List.setIfInBounds_toArray, List.set_cons_zero, List.set_cons_succ, i64_w, i32_w]
                  rfl
                 refine pV_ 27 74 (mB 28 268435455) HT_ ?_
                 refine done_ (done_of HT_.out (by kernel_rfl)) ?_
                 try go_wp2
                 go_ret
                 exact ⟨by first | rfl | (simp [errW_none, errW_some] <;> rfl) | (simp only [← hji17]; first | rfl | (simp [errW_none, errW_some] <;> rfl)) | (simp [*, errW_none, errW_some] <;> rfl) | (simp [wrap64]; done), vW HB.out⟩
                ·
                 replace c25 := Bool.eq_false_iff.mpr c25
                 subst c25
                 have H1 : (gimbalref11_Has.l2 k4 l1 (wrap64 (2 * (l0_0.length : Int))) x8_3 (wrap64 (x9_4 + 1)) l0_0 l0_1 a0_2) = some r := by rw [if_neg (show ¬ (false = true) by decide)] at H; exact H
                 clear H
                 have H := H1
                 clear H1
                 have H' := Aside0.mk H
                 clear H
                 try go_wp2
                 replace BK327 := Aside0.mk (blk_drew BK327.out)
                 replace HB := Aside0.mk (below_drew1 HB.out)
                 have p329 : 0 ≤ ((ji17) : Int) := of_decide_eq_true (by first | (with_reducible assumption) | assumption)
                 have q329 : (ji17) < (l0_1.length : Int) := of_decide_eq_true (by first | (with_reducible assumption) | assumption)
                 obtain ⟨ad329, e329, hx329_0⟩ := Kd.at_int HR0_1.out (ji17) p329 q329
                 have hw329_0 := hx329_0
                 cases e329
                 replace hx329_0 := (HB.out.cell (World.block_lt_of_cell? w _ hx329_0)).trans hx329_0
                 replace p329 := eq_true p329
                 replace q329 := eq_true q329
                 have p332 : 0 ≤ ((ji17) : Int) := of_decide_eq_true (by first | (with_reducible assumption) | assumption)
                 have q332 : (ji17) < (l0_1.length : Int) := of_decide_eq_true (by first | (with_reducible assumption) | assumption)
                 obtain ⟨ad332, e332, hx332_0⟩ := Kd.at_int HR0_1.out (ji17) p332 q332
                 have hw332_0 := hx332_0
                 obtain rfl : ad329 = ad332 := (by injection e332)
                 replace hx332_0 := (HB.out.cell (World.block_lt_of_cell? w _ hx332_0)).trans hx332_0
                 replace p332 := eq_true p332
                 replace q332 := eq_true q332
                 refine start_ (n := 28) (S := fun w' => w'.cell? ⟨gb327, 0, none⟩ = some (.slice A0_0 l0_0.length c0_0) ∧ w'.cell? ⟨gb327, 1, none⟩ = some (.slice (some ad329) l0_1.length c0_1) ∧ w'.cell? ⟨gb327, 2, none⟩ = some (.bool a0_2) ∧ w'.cell? (ad329.add ((ji17)).toNat) = some (.int .i64 (rd l0_1 (ji17))) ∧ w'.cell? (ad329.add ((ji17)).toNat) = some (.int .i64 (rd l0_1 (ji17)))) (ds := []) (mB 28 0) (by kernel_rfl) rfl rfl ⟨(blk_cell BK327.out 0).trans rfl, (blk_cell BK327.out 1).trans rfl, (blk_cell BK327.out 2).trans rfl, ((HB.out.cell (World.block_lt_of_cell? w _ hw329_0)).trans hw329_0), ((HB.out.cell (World.block_lt_of_cell? w _ hw332_0)).trans hw332_0)⟩ (fun hHeld => ?_); refine with_tabW gimbalref11_Has.tab16 gimbalref11_Has.bits16 (fun HT_ HW_ => ?_)
                 generalize wr.drew = w28 at BK327 HB hx329_0 hx332_0 hHeld ⊢
                 refine pV_ 0 47 (mB 28 1) HT_ ?_
                 refine pV_ 2 49 (mB 28 5) HT_ ?_
                 refine pV_ 3 50 (mB 28 13) HT_ ?_
                 refine pV_ 4 51 (mB 28 29) HT_ ?_
                 refine pV_ 5 52 (mB 28 61) HT_ ?_
                 refine pV_ 6 53 (mB 28 125) HT_ ?_
                 refine tV_ 1 48 (mB 28 127) HT_ HW_ hHeld ?_
                 refine pV_ 7 54 (mB 28 255) HT_ ?_
                 refine tV_ 8 55 (mB 28 511) HT_ HW_ hHeld ?_
                 refine pV_ 9 56 (mB 28 1023) HT_ ?_
                 refine pV_ 10 57 (mB 28 2047) HT_ ?_
                 refine pV_ 11 58 (mB 28 4095) HT_ ?_
                 refine pV_ 12 59 (mB 28 8191) HT_ ?_
                 refine pV_ 14 61 (mB 28 24575) HT_ ?_
                 refine pV_ 15 62 (mB 28 57343) HT_ ?_
                 refine pV_ 17 64 (mB 28 188415) HT_ ?_
                 refine pV_ 19 66 (mB 28 712703) HT_ ?_
                 refine pV_ 20 67 (mB 28 1761279) HT_ ?_
                 refine pV_ 21 68 (mB 28 3858431) HT_ ?_
                 refine pV_ 22 69 (mB 28 8052735) HT_ ?_
                 refine pV_ 23 70 (mB 28 16441343) HT_ ?_
                 refine tV_ 18 65 (mB 28 16703487) HT_ HW_ hHeld ?_
                 refine pV_ 24 71 (mB 28 33480703) HT_ ?_
                 refine tV_ 25 72 (mB 28 67035135) HT_ HW_ hHeld ?_
                 refine one_ (i := 13) (N := some 60) (mB 28 67043327) rfl rfl (one_of HT_.out (by kernel_rfl)) (by decide) (fun K hK => ?_)
                 refine goes_ Try.func81 (by kernel_rfl) rfl #[.slice A1 l1.length c1, .int .i64 x8_3] (by rfl) rfl rfl vL ?_
                 with_reducible refine (gimbalref11_value.calls _ _ l1 x8_3 t330 _ ?side1 ?side2 A22.out).mono ?_
                 (case side1 => exact vC (Kd.C_below HR1.out HB.out))
                 (case side2 => exact HC1.out)
                 rintro e w' ⟨rfl, ⟨nd, rfl⟩⟩
                 refine ⟨_, rfl, ?_⟩
                 refine hK.out _ _ ⟨(blk_cell BK327.out 0).trans rfl, (blk_cell BK327.out 1).trans rfl, (blk_cell BK327.out 2).trans rfl, ((HB.out.cell (World.block_lt_of_cell? w _ hw329_0)).trans hw329_0), ((HB.out.cell (World.block_lt_of_cell? w _ hw332_0)).trans hw332_0)⟩ (fun hHeld => ?_)
                 clear hK K
                 refine norm_ (a' := ?_) ?_ ?_
                 rotate_left
                 ·
                  show Act.put _ (some 60) _ = _
                  simp only [Act.put, List.setIfInBounds_toArray, List.set_cons_zero, List.set_cons_succ, i64_w, i32_w]
                  rfl
                 refine one_ (i := 16) (N := some 63) (mB 28 67108863) rfl rfl (one_of HT_.out (by kernel_rfl)) (by decide) (fun K hK => ?_)
                 refine goes_ Try.func81 (by kernel_rfl) rfl #[.slice A1 l1.length c1, .int .i64 x9_4] (by rfl) rfl rfl vL ?_
                 with_reducible refine (gimbalref11_value.calls _ _ l1 x9_4 t331 _ ?side1 ?side2 A23.out).mono ?_
                 (case side1 => repeat (first | exact (Kd.C_below HR1.out (vW HB.out)) | (with_reducible refine Kd.C_alloc ?_ _) | (with_reducible refine Kd.C_drewN ?_ _) | (with_reducible refine Kd.C_drew ?_)))
                 (case side2 => exact HC1.out)
                 rintro e w' ⟨rfl, ⟨nd, rfl⟩⟩
                 refine ⟨_, rfl, ?_⟩
                 refine hK.out _ _ ⟨(blk_cell BK327.out 0).trans rfl, (blk_cell BK327.out 1).trans rfl, (blk_cell BK327.out 2).trans rfl, ((HB.out.cell (World.block_lt_of_cell? w _ hw329_0)).trans hw329_0), ((HB.out.cell (World.block_lt_of_cell? w _ hw332_0)).trans hw332_0)⟩ (fun hHeld => ?_)
                 clear hK K
                 refine norm_ (a' := ?_) ?_ ?_
                 rotate_left
                 ·
                  show Act.put _ (some 63) _ = _
                  simp only [Act.put, List.setIfInBounds_toArray, List.set_cons_zero, List.set_cons_succ, i64_w, i32_w]
                  rfl
                 refine one_ (i := 26) (N := some 73) (mB 28 134217727) rfl rfl (one_of HT_.out (by kernel_rfl)) (by decide) (fun K hK => ?_)
                 refine goes_ Try.func80 (by kernel_rfl) rfl #[.int .i64 t330, .int .i64 t331, .int .i64 (rd l0_1 (ji17))] (by rfl) rfl rfl (by (try simp only [List.map_toArray, List.map_cons, List.map_nil]); first | done | (simp only [hji17]; rfl) | rfl | (simp only [List.length_drop, List.length_take]; rfl)) ?_
                 with_reducible refine (gimbalref11_beyond.calls t330 t331 (rd l0_1 (ji17)) false _ A24.out).mono ?_
                 rintro e w29 ⟨rfl, hb⟩
                 refine ⟨_, rfl, ?_⟩
                 replace BK327 := vBb BK327 hb
                 replace HB := vWs HB hb
                 (try clear hb)
                 (try clear hb2)
                 (try clear hk)
                 (try clear hi)
                 refine hK.out _ _ ⟨(blk_cell BK327.out 0).trans rfl, (blk_cell BK327.out 1).trans rfl, (blk_cell BK327.out 2).trans rfl, ((HB.out.cell (World.block_lt_of_cell? w _ hw329_0)).trans hw329_0), ((HB.out.cell (World.block_lt_of_cell? w _ hw332_0)).trans hw332_0)⟩ (fun hHeld => ?_)
                 clear hK K
                 refine norm_ (a' := ?_) ?_ ?_
                 rotate_left
                 ·
                  show Act.put _ (some 73) _ = _
                  simp only [Act.put, List.setIfInBounds_toArray, List.set_cons_zero, List.set_cons_succ, i64_w, i32_w]
                  rfl
                 refine pV_ 27 74 (mB 28 268435455) HT_ ?_
                 refine done_ (done_of HT_.out (by kernel_rfl)) ?_
                 try go_wp2
                 go_roundg k4
                 case measure => have := HJ2.out; have := HK2.out; have := HK3.out; have := HK4.out; omega
                 case rel => exact ⟨(wrap64 (x9_4 + 1)), (by first | rfl | (simp; done) | (simp [*]; done)), H', ⟨by have := HJ2.out; have := HK2.out; have := HK3.out; have := HK4.out; omega⟩, ⟨vB BK327.out⟩, ⟨vW HB.out⟩⟩
              ·
               rw [if_neg c19] at H
               exact absurd H (by simp)
             ·
              rw [if_neg c18] at H
              exact absurd H (by simp)
            ·
             rw [if_neg c16] at H
             have c16b0 : decide (x9_4 < (wrap64 (2 * (l0_0.length : Int)))) = false := decide_eq_false c16
             clear c16
             have H' := Aside0.mk H
             clear H
             go_wp2
             go_roundg k4
             case measure => have := HJ2.out; have := HK2.out; have := HK3.out; have := HK4.out; omega
             case rel => exact ⟨(wrap64 (x8_3 + 1)), (by first | rfl | (simp; done) | (simp [*]; done)), H', ⟨by have := HJ2.out; have := HK2.out; have := HK3.out; have := HK4.out; omega⟩, ⟨vB BK327.out⟩, ⟨vW HB.out⟩⟩
         ·
          rw [if_neg c15] at H
          have c15b0 : decide (x8_3 < (wrap64 (2 * (l0_0.length : Int)))) = false := decide_eq_false c15
          clear c15
          obtain rfl := Option.some.inj H
          go_wp2
          go_ret
          exact ⟨by first | rfl | (simp [errW_none, errW_some] <;> rfl) | (simp [*, errW_none, errW_some] <;> rfl) | (simp [wrap64]; done), vW HB.out⟩
end Go.Proofs.Ytomgebmimgaojaa.QO
end
end
section
/- Written by a program of this session out of the translation. -/
noncomputable section
namespace Go.Proofs.Ytomgebmimgaojaa.QO
open Go.RowKit Go.Proofs.YtomgebmimgaojaaW.PrintWords Go.Proofs.YtomgebmimgaojaaW.PrintLast
set_option linter.unusedVariables false
set_option linter.unusedSimpArgs false
attribute [local go_sem high] eqA37
/-! ### gimballaw11_OctBounds: function 11 -/
mutual
def gimballaw11_OctBounds.l0 : Nat → List Int → Bool → List Int → Int → Int → List Int → List Int → Bool → Int → Int → Int → Int → Int → Option (Bool)
 | 0, _, _, _, _, _, _, _, _, _, _, _, _, _ => none
 | k + 1, x2, x7, x14, x15, x16, x335000, x335001, x335002, x336000, x336001, x336002, x336003, x336004 => if x16 < x15 then (if 0 ≤ x16 then (if x16 < (x14.length : Int) then (if x7 = true then (if (rd x14 x16) > (-4611686018427387904) then (gimballaw11_OctBounds.l0 k x2 (decide ((rd x14 x16) < 4611686018427387904)) x14 x15 (wrap64 (x16 + 1)) x335000 x335001 x335002 x336000 x336001 x336002 x336003 x336004) else (gimballaw11_OctBounds.l0 k x2 false x14 x15 (wrap64 (x16 + 1)) x335000 x335001 x335002 x336000 x336001 x336002 x336003 x336004)) else (gimballaw11_OctBounds.l0 k x2 false x14 x15 (wrap64 (x16 + 1)) x335000 x335001 x335002 x336000 x336001 x336002 x336003 x336004)) else (none)) else (none)) else ((gimballaw11_form.f k x336000 x336001 x336002 x336003 x336004).bind fun t339 => (if t339 = true then ((oct_Bounds.f k x335000 x335001 x335002 x336000 x336001 x336002 x336003 x336004).bind fun bt340 => ((gimbalref11_Bounds.f k x335000 x335001 x335002 x336000 x336001 x336002 x336003 x336004).bind fun bt342 => (gimballaw11_OctBounds.j1 k x2 x7 (!(bt340.1 == bt342.1) || (!(bt340.2 == bt342.2))) x335000 x335001 x335002))) else (gimballaw11_OctBounds.j1 k x2 x7 false x335000 x335001 x335002)))
def gimballaw11_OctBounds.j1 : Nat → List Int → Bool → Bool → List Int → List Int → Bool → Option (Bool)
 | 0, _, _, _, _, _, _ => none
 | k + 1, x2, x7, x40, x335000, x335001, x335002 => if x40 = true then (some false) else (if x7 = true then (if (x2.length : Int) = (x335000.length : Int) then ((oct_Has.f x335000 x335001 x335002 x2).bind fun t344 => ((gimbalref11_Has.f k x335000 x335001 x335002 x2).bind fun t345 => (if (t344 != t345) = true then (some false) else ((gimballaw11_awake.f k).bind fun t346 => (some t346))))) else ((gimballaw11_awake.f k).bind fun t347 => (some t347))) else ((gimballaw11_awake.f k).bind fun t348 => (some t348)))
end
def gimballaw11_OctBounds.f (k : Nat) (l0_0 : List Int) (l0_1 : List Int) (a0_2 : Bool) (a1_0 : Int) (a1_1 : Int) (a1_2 : Int) (a1_3 : Int) (a1_4 : Int) (l2 : List Int) : Option (Bool) := (gimbalref11_Fit.f l0_0 l0_1 a0_2).bind fun t336 => (if t336 = true then (gimballaw11_OctBounds.l0 k l2 true l2 (l2.length : Int) 0 l0_0 l0_1 a0_2 a1_0 a1_1 a1_2 a1_3 a1_4) else ((gimballaw11_awake.f k).bind fun t337 => (some t337)))
theorem gimballaw11_OctBounds.mono_l : ∀ k, (∀ y0 y1 y2 y3 y4 y5 y6 y7 y8 y9 y10 y11 y12, LeO (gimballaw11_OctBounds.l0 k y0 y1 y2 y3 y4 y5 y6 y7 y8 y9 y10 y11 y12) (gimballaw11_OctBounds.l0 (k + 1) y0 y1 y2 y3 y4 y5 y6 y7 y8 y9 y10 y11 y12)) ∧ (∀ y0 y1 y2 y3 y4 y5, LeO (gimballaw11_OctBounds.j1 k y0 y1 y2 y3 y4 y5) (gimballaw11_OctBounds.j1 (k + 1) y0 y1 y2 y3 y4 y5))
 | 0 => ⟨fun _ _ _ _ _ _ _ _ _ _ _ _ _ r h => by simp [gimballaw11_OctBounds.l0] at h, fun _ _ _ _ _ _ r h => by simp [gimballaw11_OctBounds.j1] at h⟩
 | k + 1 => by
  obtain ⟨ih0, ih1⟩ := gimballaw11_OctBounds.mono_l k
  refine ⟨?_, ?_⟩
  ·
   intro y0 y1 y2 y3 y4 y5 y6 y7 y8 y9 y10 y11 y12
   unfold gimballaw11_OctBounds.l0
   repeat' first
   | (with_reducible exact ih0 _ _ _ _ _ _ _ _ _ _ _ _ _)
   | (with_reducible exact ih1 _ _ _ _ _ _)
   | (with_reducible exact gimballaw11_awake.mono _)
   | (with_reducible exact gimballaw11_form.mono _ _ _ _ _ _)
   | (with_reducible exact gimbalref11_Bounds.mono _ _ _ _ _ _ _ _ _)
   | (with_reducible exact gimbalref11_Has.mono _ _ _ _ _)
   | (with_reducible exact oct_Bounds.mono _ _ _ _ _ _ _ _ _)
   | (with_reducible exact LeO.refl _)
   | (with_reducible exact LeO.none _)
   | (with_reducible refine LeO.ite ?_ ?_)
   | (with_reducible refine LeO.bind ?_ (fun _ => ?_))
   | exact ih0 _ _ _ _ _ _ _ _ _ _ _ _ _
   | exact ih1 _ _ _ _ _ _
   | exact gimballaw11_awake.mono _
   | exact gimballaw11_form.mono _ _ _ _ _ _
   | exact gimbalref11_Bounds.mono _ _ _ _ _ _ _ _ _
   | exact gimbalref11_Has.mono _ _ _ _ _
   | exact oct_Bounds.mono _ _ _ _ _ _ _ _ _
   | exact LeO.none _
   | refine LeO.ite ?_ ?_
   | refine LeO.bind ?_ (fun _ => ?_)
  ·
   intro y0 y1 y2 y3 y4 y5
   unfold gimballaw11_OctBounds.j1
   repeat' first
   | (with_reducible exact ih0 _ _ _ _ _ _ _ _ _ _ _ _ _)
   | (with_reducible exact ih1 _ _ _ _ _ _)
   | (with_reducible exact gimballaw11_awake.mono _)
   | (with_reducible exact gimballaw11_form.mono _ _ _ _ _ _)
   | (with_reducible exact gimbalref11_Bounds.mono _ _ _ _ _ _ _ _ _)
   | (with_reducible exact gimbalref11_Has.mono _ _ _ _ _)
   | (with_reducible exact oct_Bounds.mono _ _ _ _ _ _ _ _ _)
   | (with_reducible exact LeO.refl _)
   | (with_reducible exact LeO.none _)
   | (with_reducible refine LeO.ite ?_ ?_)
   | (with_reducible refine LeO.bind ?_ (fun _ => ?_))
   | exact ih0 _ _ _ _ _ _ _ _ _ _ _ _ _
   | exact ih1 _ _ _ _ _ _
   | exact gimballaw11_awake.mono _
   | exact gimballaw11_form.mono _ _ _ _ _ _
   | exact gimbalref11_Bounds.mono _ _ _ _ _ _ _ _ _
   | exact gimbalref11_Has.mono _ _ _ _ _
   | exact oct_Bounds.mono _ _ _ _ _ _ _ _ _
   | exact LeO.none _
   | refine LeO.ite ?_ ?_
   | refine LeO.bind ?_ (fun _ => ?_)
theorem gimballaw11_OctBounds.mono : ∀ a0 a1 a2 a3 a4 a5 a6 a7 a8 k, LeO (gimballaw11_OctBounds.f k a0 a1 a2 a3 a4 a5 a6 a7 a8) (gimballaw11_OctBounds.f (k + 1) a0 a1 a2 a3 a4 a5 a6 a7 a8) := by
 intro a0 a1 a2 a3 a4 a5 a6 a7 a8 k
 obtain ⟨ih0, ih1⟩ := gimballaw11_OctBounds.mono_l k
 unfold gimballaw11_OctBounds.f
 repeat' first
  | (with_reducible exact ih0 _ _ _ _ _ _ _ _ _ _ _ _ _)
  | (with_reducible exact ih1 _ _ _ _ _ _)
  | (with_reducible exact gimballaw11_awake.mono _)
  | (with_reducible exact gimballaw11_form.mono _ _ _ _ _ _)
  | (with_reducible exact gimbalref11_Bounds.mono _ _ _ _ _ _ _ _ _)
  | (with_reducible exact gimbalref11_Has.mono _ _ _ _ _)
  | (with_reducible exact oct_Bounds.mono _ _ _ _ _ _ _ _ _)
  | (with_reducible exact LeO.refl _)
  | (with_reducible exact LeO.none _)
  | (with_reducible refine LeO.ite ?_ ?_)
  | (with_reducible refine LeO.bind ?_ (fun _ => ?_))
  | exact ih0 _ _ _ _ _ _ _ _ _ _ _ _ _
  | exact ih1 _ _ _ _ _ _
  | exact gimballaw11_awake.mono _
  | exact gimballaw11_form.mono _ _ _ _ _ _
  | exact gimbalref11_Bounds.mono _ _ _ _ _ _ _ _ _
  | exact gimbalref11_Has.mono _ _ _ _ _
  | exact oct_Bounds.mono _ _ _ _ _ _ _ _ _
  | exact LeO.none _
  | refine LeO.ite ?_ ?_
  | refine LeO.bind ?_ (fun _ => ?_)
def gimballaw11_OctBounds.T9 : Bool × List (List Nat × List Nat) := (true, [([], []), ([0], [0]), ([1, 1], [1]), ([2], [2]), ([2], [2]), ([3, 4, 2, 2], [2, 3, 4]), ([2], [2]), ([2], [2]), ([6, 7, 5, 2], [2, 6, 7]), ([5, 8, 2], [2, 5, 8]), ([2, 9], [2, 9])])
def gimballaw11_OctBounds.B9 : List Nat := [0, 1, 3, 7, 7, 31, 7, 7, 255, 511, 1023]
theorem gimballaw11_OctBounds.tab9 : rtab .any (opsOf Try.f11 9) = gimballaw11_OctBounds.T9 := by kernel_rfl
theorem gimballaw11_OctBounds.bits9 : waitsOk gimballaw11_OctBounds.T9.2 gimballaw11_OctBounds.B9 = true := by kernel_rfl
def gimballaw11_OctBounds.T11 : Bool × List (List Nat × List Nat) := (true, [([], []), ([0], [0]), ([1], [1]), ([2, 1], [1, 2]), ([1], [1]), ([4, 1], [1, 4]), ([5, 1], [1, 5]), ([3, 6, 1], [1, 3, 6]), ([1, 7], [1, 7]), ([8, 1], [8]), ([9], [9]), ([9], [9]), ([10, 11, 9, 9], [9, 10, 11]), ([9], [9]), ([9], [9]), ([13, 14, 12, 9], [9, 13, 14]), ([12, 15, 9], [9, 12, 15]), ([9, 16], [9, 16])])
def gimballaw11_OctBounds.B11 : List Nat := [0, 1, 3, 7, 3, 19, 51, 127, 255, 511, 1023, 1023, 4095, 1023, 1023, 32767, 65535, 131071]
theorem gimballaw11_OctBounds.tab11 : rtab .any (opsOf Try.f11 11) = gimballaw11_OctBounds.T11 := by kernel_rfl
theorem gimballaw11_OctBounds.bits11 : waitsOk gimballaw11_OctBounds.T11.2 gimballaw11_OctBounds.B11 = true := by kernel_rfl
set_option maxHeartbeats 8000000 in
set_option maxRecDepth 100000 in
theorem gimballaw11_OctBounds.calls (k : Nat) (A0_0 : Option Addr) (c0_0 : Nat) (l0_0 : List Int) (A0_1 : Option Addr) (c0_1 : Nat) (l0_1 : List Int) (a0_2 : Bool) (a1_0 : Int) (a1_1 : Int) (a1_2 : Int) (a1_3 : Int) (a1_4 : Int) (A2 : Option Addr) (c2 : Nat) (l2 : List Int) (r : Bool) (w : World) (hr0_0 : Kd.C (Kd.int .i64) w A0_0 l0_0.length l0_0) (hc0_0 : l0_0.length ≤ c0_0) (hr0_1 : Kd.C (Kd.int .i64) w A0_1 l0_1.length l0_1) (hc0_1 : l0_1.length ≤ c0_1) (hr2 : Kd.C (Kd.int .i64) w A2 l2.length l2) (hc2 : l2.length ≤ c2) (h : gimballaw11_OctBounds.f k l0_0 l0_1 a0_2 a1_0 a1_1 a1_2 a1_3 a1_4 l2 = some r) :
 Calls Try.prog 11 #[.agg #[.slice A0_0 l0_0.length c0_0, .slice A0_1 l0_1.length c0_1, .bool a0_2], .agg #[.int .i64 a1_0, .int .i64 a1_1, .int .i64 a1_2, .int .i64 a1_3, .int .i64 a1_4], .slice A2 l2.length c2] w fun e w' => e = .returned (.bool r) ∧ Below w.heap.size w w' := by
 have hu25 := Try.underlying25
 have hu49 := Try.underlying49
 have HR0_0 := Aside0.mk hr0_0
 have HC0_0 := Aside0.mk hc0_0
 clear hr0_0 hc0_0
 have HR0_1 := Aside0.mk hr0_1
 have HC0_1 := Aside0.mk hc0_1
 clear hr0_1 hc0_1
 have HR2 := Aside0.mk hr2
 have HC2 := Aside0.mk hc2
 clear hr2 hc2
 have HB := Aside0.mk (Below.refl w.heap.size w)
 have H : ((gimbalref11_Fit.f l0_0 l0_1 a0_2).bind fun t336 => (if t336 = true then (gimballaw11_OctBounds.l0 k l2 true l2 (l2.length : Int) 0 l0_0 l0_1 a0_2 a1_0 a1_1 a1_2 a1_3 a1_4) else ((gimballaw11_awake.f k).bind fun t337 => (some t337)))) = some r := h
 clear h
 replace H := Option.bind_eq_some_iff.mp H
 obtain ⟨t336, A40, H⟩ := H
 replace H : (if t336 = true then (gimballaw11_OctBounds.l0 k l2 true l2 (l2.length : Int) 0 l0_0 l0_1 a0_2 a1_0 a1_1 a1_2 a1_3 a1_4) else ((gimballaw11_awake.f k).bind fun t337 => (some t337))) = some r := H
 have A4 := Aside0.mk A40
 clear A40
 by_cases c5 : t336 = true
 ·
  subst c5
  have H1 : (gimballaw11_OctBounds.l0 k l2 true l2 (l2.length : Int) 0 l0_0 l0_1 a0_2 a1_0 a1_1 a1_2 a1_3 a1_4) = some r := by rw [if_pos rfl] at H; exact H
  clear H
  have H := H1
  clear H1
  have H' := Aside0.mk H
  clear H
  go_enter Try.func11, Try.ntmps11
  go_wp2_with (first | ((with_reducible refine gate_dst (N := 3) rfl ?_); (try (refine gate_guard (by rfl) ?_; dsimp only)); refine box_event ?hg (N := 3) ?hd (cs := #[.slice A0_0 l0_0.length c0_0, .slice A0_1 l0_1.length c0_1, .bool a0_2]) (t := 25) ?hr ?_; (case hd => rfl); (case hg => rfl); (case hr => first | (go_simp; done) | (go_simp; rfl)); intro gb334 hg w6 hbox hb; have BK334 := Aside0.mk (hbox); have GW334 := vS hg HB; have GE334 := vS hg HB; replace HB := vWs HB hb; clear hb hbox hg) | ((with_reducible refine gate_dst (N := 4) rfl ?_); (try (refine gate_guard (by rfl) ?_; dsimp only)); refine box_event ?hg (N := 4) ?hd (cs := #[.int .i64 a1_0, .int .i64 a1_1, .int .i64 a1_2, .int .i64 a1_3, .int .i64 a1_4]) (t := 49) ?hr ?_; (case hd => rfl); (case hg => rfl); (case hr => first | (go_simp; done) | (go_simp; rfl)); intro gb335 hg w7 hbox hb; have BK335 := Aside0.mk (hbox); have GW335 := vS hg HB; have GE335 := vS hg HB; replace HB := vWs HB hb; have NB334_335 := vNl hg BK334; have NB335_334 := vNg hg BK334; replace BK334 := vBb BK334 hb; clear hb hbox hg; have hnb8 := NB334_335.out; have hnc8 := NB335_334.out; obtain ⟨hcz9_0, hcz9_1, hcz9_2, hfz9_0, hfz9_1, hfz9_2⟩ := vF3 BK334.out) | ((with_reducible refine gate_callee (f := 19) rfl ?_); refine goesL_ (some 11) rfl rfl Try.func19 (by kernel_rfl) rfl #[.agg #[.slice A0_0 l0_0.length c0_0, .slice A0_1 l0_1.length c0_1, .bool a0_2]] rfl vL ?_; (with_reducible refine (gimbalref11_Fit.calls _ _ l0_0 _ _ l0_1 a0_2 true _ ?side1 ?side2 ?side3 ?side4 A4.out).mono ?_); (case side1 => exact vC (Kd.C_below HR0_0.out HB.out)); (case side2 => exact HC0_0.out); (case side3 => exact vC (Kd.C_below HR0_1.out HB.out)); (case side4 => exact HC0_1.out); rintro e w10 ⟨rfl, hb⟩; refine ⟨_, rfl, ?_⟩; replace BK334 := vBb BK334 hb; replace BK335 := vBb BK335 hb; replace HB := vWs HB hb; (try clear hb); (try clear hb2); (try clear hk); (try clear hi)))
  go_loopg [7, 16] k (fun kq v7 v16 w' => ∃ (x7_1 : Bool) (x16_1 : Int), v7 = .bool x7_1 ∧ v16 = .int .i64 x16_1 ∧ Aside0 (gimballaw11_OctBounds.l0 kq l2 x7_1 l2 (l2.length : Int) x16_1 l0_0 l0_1 a0_2 a1_0 a1_1 a1_2 a1_3 a1_4 = some r) ∧ Aside0 (kq ≤ k) ∧ Aside0 (w'.heap[gb334]? = some (.cells #[(.slice A0_0 l0_0.length c0_0), (.slice A0_1 l0_1.length c0_1), .bool a0_2] 25 (0, 0))) ∧ Aside0 (w'.heap[gb335]? = some (.cells #[.int .i64 a1_0, .int .i64 a1_1, .int .i64 a1_2, .int .i64 a1_3, .int .i64 a1_4] 49 (0, 0))) ∧ Aside0 (Below w.heap.size w w'))
  case atStart => exact ⟨(true), (0), (by first | rfl | (simp; done) | (simp [*]; done)), (by first | rfl | (simp; done) | (simp [*]; done)), H', ⟨Nat.le_refl _⟩, ⟨vB BK334.out⟩, ⟨vB BK335.out⟩, ⟨vW HB.out⟩⟩
  case round =>
   clear H'
   try clear c1
   try clear c2
   try clear p2
   try clear c5
   try clear c8
   try clear hcz9_0
   try clear hcz9_1
   try clear hcz9_2
   try clear hfz9_0
   try clear hfz9_1
   try clear hfz9_2
   obtain ⟨x7_1, x16_1, rfl, rfl, HA, HK1, BK334, BK335, HB⟩ := hrel
   cases gk with
   | zero => exact absurd HA.out (by simp [gimballaw11_OctBounds.l0])
   | succ k1 =>
    have H := HA.out
    clear HA
    simp only [gimballaw11_OctBounds.l0] at H
    by_cases c11 : x16_1 < (l2.length : Int)
    ·
     rw [if_pos c11] at H
     have c11b0 : decide (x16_1 < (l2.length : Int)) = true := decide_eq_true c11
     clear c11
     by_cases c12 : 0 ≤ x16_1
     ·
      rw [if_pos c12] at H
      have c12b0 : decide (0 ≤ x16_1) = true := decide_eq_true c12
      clear c12
      by_cases c13 : x16_1 < (l2.length : Int)
      ·
       rw [if_pos c13] at H
       have c13b0 : decide (x16_1 < (l2.length : Int)) = true := decide_eq_true c13
       clear c13
       by_cases c14 : x7_1 = true
       ·
        subst c14
        have H1 : (if (rd l2 x16_1) > (-4611686018427387904) then (gimballaw11_OctBounds.l0 k1 l2 (decide ((rd l2 x16_1) < 4611686018427387904)) l2 (l2.length : Int) (wrap64 (x16_1 + 1)) l0_0 l0_1 a0_2 a1_0 a1_1 a1_2 a1_3 a1_4) else (gimballaw11_OctBounds.l0 k1 l2 false l2 (l2.length : Int) (wrap64 (x16_1 + 1)) l0_0 l0_1 a0_2 a1_0 a1_1 a1_2 a1_3 a1_4)) = some r := by rw [if_pos rfl] at H; exact H
        clear H
        have H := H1
        clear H1
        by_cases c15 : (rd l2 x16_1) > (-4611686018427387904)
        ·
         rw [if_pos c15] at H
         have c15b0 : decide ((-4611686018427387904) < (rd l2 x16_1)) = true := decide_eq_true c15
         clear c15
         have H' := Aside0.mk H
         clear H
         have p338 : 0 ≤ (x16_1 : Int) := of_decide_eq_true (by first | (with_reducible assumption) | assumption)
         have q338 : x16_1 < (l2.length : Int) := of_decide_eq_true (by first | (with_reducible assumption) | assumption)
         obtain ⟨ad338, e338, hx338_0⟩ := Kd.at_int HR2.out x16_1 p338 q338
         cases e338
         replace hx338_0 := (HB.out.cell (World.block_lt_of_cell? w _ hx338_0)).trans hx338_0
         replace p338 := eq_true p338
         replace q338 := eq_true q338
         go_wp2
         go_roundg k1
         case measure => have := HK1.out; omega
         case rel => exact ⟨(decide ((rd l2 x16_1) < 4611686018427387904)), (wrap64 (x16_1 + 1)), (by first | rfl | (simp; done) | (simp [*]; done)), (by first | rfl | (simp; done) | (simp [*]; done)), H', ⟨by have := HK1.out; omega⟩, ⟨vB BK334.out⟩, ⟨vB BK335.out⟩, ⟨vW HB.out⟩⟩
        ·
         rw [if_neg c15] at H
         have c15b0 : decide ((-4611686018427387904) < (rd l2 x16_1)) = false := decide_eq_false c15
         clear c15
         have H' := Aside0.mk H
         clear H
         have p338 : 0 ≤ (x16_1 : Int) := of_decide_eq_true (by first | (with_reducible assumption) | assumption)
         have q338 : x16_1 < (l2.length : Int) := of_decide_eq_true (by first | (with_reducible assumption) | assumption)
         obtain ⟨ad338, e338, hx338_0⟩ := Kd.at_int HR2.out x16_1 p338 q338
         cases e338
         replace hx338_0 := (HB.out.cell (World.block_lt_of_cell? w _ hx338_0)).trans hx338_0
         replace p338 := eq_true p338
         replace q338 := eq_true q338
         go_wp2
         go_roundg k1
         case measure => have := HK1.out; omega
         case rel => exact ⟨(false), (wrap64 (x16_1 + 1)), (by first | rfl | (simp; done) | (simp [*]; done)), (by first | rfl | (simp; done) | (simp [*]; done)), H', ⟨by have := HK1.out; omega⟩, ⟨vB BK334.out⟩, ⟨vB BK335.out⟩, ⟨vW HB.out⟩⟩
       ·
        replace c14 := Bool.eq_false_iff.mpr c14
        subst c14
        have H1 : (gimballaw11_OctBounds.l0 k1 l2 false l2 (l2.length : Int) (wrap64 (x16_1 + 1)) l0_0 l0_1 a0_2 a1_0 a1_1 a1_2 a1_3 a1_4) = some r := by rw [if_neg (show ¬ (false = true) by decide)] at H; exact H
        clear H
        have H := H1
        clear H1
        have H' := Aside0.mk H
        clear H
        have p338 : 0 ≤ (x16_1 : Int) := of_decide_eq_true (by first | (with_reducible assumption) | assumption)
        have q338 : x16_1 < (l2.length : Int) := of_decide_eq_true (by first | (with_reducible assumption) | assumption)
        obtain ⟨ad338, e338, hx338_0⟩ := Kd.at_int HR2.out x16_1 p338 q338
        cases e338
        replace hx338_0 := (HB.out.cell (World.block_lt_of_cell? w _ hx338_0)).trans hx338_0
        replace p338 := eq_true p338
        replace q338 := eq_true q338
        go_wp2
        go_roundg k1
        case measure => have := HK1.out; omega
        case rel => exact ⟨(false), (wrap64 (x16_1 + 1)), (by first | rfl | (simp; done) | (simp [*]; done)), (by first | rfl | (simp; done) | (simp [*]; done)), H', ⟨by have := HK1.out; omega⟩, ⟨vB BK334.out⟩, ⟨vB BK335.out⟩, ⟨vW HB.out⟩⟩
      ·
       rw [if_neg c13] at H
       exact absurd H (by simp)
     ·
      rw [if_neg c12] at H
      exact absurd H (by simp)
    ·
     rw [if_neg c11] at H
     have c11b0 : decide (x16_1 < (l2.length : Int)) = false := decide_eq_false c11
     clear c11
     have HC16 := Aside0.mk H
     clear H
     go_upto_region 9 with (fail)
     go_cut [40] (fun v40 wc => ∃ (kq : Nat) (x40_15 : Bool), v40 = .bool x40_15 ∧ Aside0 (gimballaw11_OctBounds.j1 kq l2 x7_1 x40_15 l0_0 l0_1 a0_2 = some r) ∧ Aside0 (kq ≤ k1) ∧ Aside0 (wc.heap[gb334]? = some (.cells #[(.slice A0_0 l0_0.length c0_0), (.slice A0_1 l0_1.length c0_1), .bool a0_2] 25 (0, 0))) ∧ Aside0 (wc.heap[gb335]? = some (.cells #[.int .i64 a1_0, .int .i64 a1_1, .int .i64 a1_2, .int .i64 a1_3, .int .i64 a1_4] 49 (0, 0))) ∧ Aside0 (Below w.heap.size w wc))
     case first =>
      have H := HC16.out
      clear HC16
      replace H := Option.bind_eq_some_iff.mp H
      obtain ⟨t339, A170, H⟩ := H
      replace H : (if t339 = true then ((oct_Bounds.f k1 l0_0 l0_1 a0_2 a1_0 a1_1 a1_2 a1_3 a1_4).bind fun bt340 => ((gimbalref11_Bounds.f k1 l0_0 l0_1 a0_2 a1_0 a1_1 a1_2 a1_3 a1_4).bind fun bt342 => (gimballaw11_OctBounds.j1 k1 l2 x7_1 (!(bt340.1 == bt342.1) || (!(bt340.2 == bt342.2))) l0_0 l0_1 a0_2))) else (gimballaw11_OctBounds.j1 k1 l2 x7_1 false l0_0 l0_1 a0_2)) = some r := H
      have A17 := Aside0.mk A170
      clear A170
      by_cases c18 : t339 = true
      ·
       subst c18
       have H1 : ((oct_Bounds.f k1 l0_0 l0_1 a0_2 a1_0 a1_1 a1_2 a1_3 a1_4).bind fun bt340 => ((gimbalref11_Bounds.f k1 l0_0 l0_1 a0_2 a1_0 a1_1 a1_2 a1_3 a1_4).bind fun bt342 => (gimballaw11_OctBounds.j1 k1 l2 x7_1 (!(bt340.1 == bt342.1) || (!(bt340.2 == bt342.2))) l0_0 l0_1 a0_2))) = some r := by rw [if_pos rfl] at H; exact H
       clear H
       have H := H1
       clear H1
       replace H := Option.bind_eq_some_iff.mp H
       obtain ⟨⟨t340, t341⟩, A190, H⟩ := H
       replace H : ((gimbalref11_Bounds.f k1 l0_0 l0_1 a0_2 a1_0 a1_1 a1_2 a1_3 a1_4).bind fun bt342 => (gimballaw11_OctBounds.j1 k1 l2 x7_1 (!(t340 == bt342.1) || (!(t341 == bt342.2))) l0_0 l0_1 a0_2)) = some r := H
       have A19 := Aside0.mk A190
       clear A190
       replace H := Option.bind_eq_some_iff.mp H
       obtain ⟨⟨t342, t343⟩, A200, H⟩ := H
       replace H : (gimballaw11_OctBounds.j1 k1 l2 x7_1 (!(t340 == t342) || (!(t341 == t343))) l0_0 l0_1 a0_2) = some r := H
       have A20 := Aside0.mk A200
       clear A200
       have H' := Aside0.mk H
       clear H
       try go_wp2
       replace BK334 := Aside0.mk (blk_drew BK334.out)
       replace BK335 := Aside0.mk (blk_drew BK335.out)
       replace HB := Aside0.mk (below_drew1 HB.out)
       refine start_ (n := 11) (S := fun w' => w'.cell? ⟨gb335, 0, none⟩ = some (.int .i64 a1_0) ∧ w'.cell? ⟨gb335, 1, none⟩ = some (.int .i64 a1_1) ∧ w'.cell? ⟨gb335, 2, none⟩ = some (.int .i64 a1_2) ∧ w'.cell? ⟨gb335, 3, none⟩ = some (.int .i64 a1_3) ∧ w'.cell? ⟨gb335, 4, none⟩ = some (.int .i64 a1_4) ∧ w'.cell? ⟨gb334, 0, none⟩ = some (.slice A0_0 l0_0.length c0_0) ∧ w'.cell? ⟨gb334, 1, none⟩ = some (.slice A0_1 l0_1.length c0_1) ∧ w'.cell? ⟨gb334, 2, none⟩ = some (.bool a0_2)) (ds := []) (mB 11 0) (by kernel_rfl) rfl rfl ⟨(blk_cell BK335.out 0).trans rfl, (blk_cell BK335.out 1).trans rfl, (blk_cell BK335.out 2).trans rfl, (blk_cell BK335.out 3).trans rfl, (blk_cell BK335.out 4).trans rfl, (blk_cell BK334.out 0).trans rfl, (blk_cell BK334.out 1).trans rfl, (blk_cell BK334.out 2).trans rfl⟩ (fun hHeld => ?_); refine with_tabW gimballaw11_OctBounds.tab9 gimballaw11_OctBounds.bits9 (fun HT_ HW_ => ?_)
       generalize wr.drew = w21 at BK334 BK335 HB hHeld ⊢
       refine tV_ 0 30 (mB 11 1) HT_ HW_ hHeld ?_
       refine one_ (i := 1) (N := some 31) (mB 11 3) rfl rfl (one_of HT_.out (by kernel_rfl)) (by decide) (fun K hK => ?_)
       refine goes_ Try.func42 (by kernel_rfl) rfl #[.agg #[.int .i64 a1_0, .int .i64 a1_1, .int .i64 a1_2, .int .i64 a1_3, .int .i64 a1_4]] (by rfl) rfl rfl vL ?_
       with_reducible refine (gimballaw11_form.calls k1 a1_0 a1_1 a1_2 a1_3 a1_4 true _ A17.out).mono ?_
       rintro e w22 ⟨rfl, hb⟩
       refine ⟨_, rfl, ?_⟩
       replace BK334 := vBb BK334 hb
       replace BK335 := vBb BK335 hb
       replace HB := vWs HB hb
       (try clear hb)
       (try clear hb2)
       (try clear hk)
       (try clear hi)
       refine hK.out _ _ ⟨(blk_cell BK335.out 0).trans rfl, (blk_cell BK335.out 1).trans rfl, (blk_cell BK335.out 2).trans rfl, (blk_cell BK335.out 3).trans rfl, (blk_cell BK335.out 4).trans rfl, (blk_cell BK334.out 0).trans rfl, (blk_cell BK334.out 1).trans rfl, (blk_cell BK334.out 2).trans rfl⟩ (fun hHeld => ?_)
       clear hK K
       refine norm_ (a' := ?_) ?_ ?_
       rotate_left
       ·
        show Act.put _ (some 31) _ = _
        simp only [Act.put, List.setIfInBounds_toArray, List.set_cons_zero, List.set_cons_succ, i64_w, i32_w]
        rfl
       refine pV_ 2 32 (mB 11 7) HT_ ?_
       refine tV_ 3 33 (mB 11 15) HT_ HW_ hHeld ?_
       refine tV_ 4 34 (mB 11 31) HT_ HW_ hHeld ?_
       refine tV_ 6 36 (mB 11 95) HT_ HW_ hHeld ?_
       refine tV_ 7 37 (mB 11 223) HT_ HW_ hHeld ?_
       refine one_ (i := 5) (N := some 35) (mB 11 255) rfl rfl (one_of HT_.out (by kernel_rfl)) (by decide) (fun K hK => ?_)
       refine goes_ Try.func43 (by kernel_rfl) rfl #[.agg #[.slice A0_0 l0_0.length c0_0, .slice A0_1 l0_1.length c0_1, .bool a0_2], .agg #[.int .i64 a1_0, .int .i64 a1_1, .int .i64 a1_2, .int .i64 a1_3, .int .i64 a1_4]] (by rfl) rfl rfl vL ?_
       with_reducible refine (oct_Bounds.calls k1 _ _ l0_0 _ _ l0_1 a0_2 a1_0 a1_1 a1_2 a1_3 a1_4 t340 t341 _ ?side1 ?side2 ?side3 ?side4 A19.out).mono ?_
       (case side1 => exact vC (Kd.C_below HR0_0.out HB.out))
       (case side2 => exact HC0_0.out)
       (case side3 => exact vC (Kd.C_below HR0_1.out HB.out))
       (case side4 => exact HC0_1.out)
       rintro e w23 ⟨rfl, hb⟩
       refine ⟨_, rfl, ?_⟩
       replace BK334 := vBb BK334 hb
       replace BK335 := vBb BK335 hb
       replace HB := vWs HB hb
       (try clear hb)
       (try clear hb2)
       (try clear hk)
       (try clear hi)
       refine hK.out _ _ ⟨(blk_cell BK335.out 0).trans rfl, (blk_cell BK335.out 1).trans rfl, (blk_cell BK335.out 2).trans rfl, (blk_cell BK335.out 3).trans rfl, (blk_cell BK335.out 4).trans rfl, (blk_cell BK334.out 0).trans rfl, (blk_cell BK334.out 1).trans rfl, (blk_cell BK334.out 2).trans rfl⟩ (fun hHeld => ?_)
       clear hK K
       refine norm_ (a' := ?_) ?_ ?_
       rotate_left
       ·
        show Act.put _ (some 35) _ = _
        simp only [Act.put, List.setIfInBounds_toArray, List.set_cons_zero, List.set_cons_succ, i64_w, i32_w]
        rfl
       refine one_ (i := 8) (N := some 38) (mB 11 511) rfl rfl (one_of HT_.out (by kernel_rfl)) (by decide) (fun K hK => ?_)
       refine goes_ Try.func44 (by kernel_rfl) rfl #[.agg #[.slice A0_0 l0_0.length c0_0, .slice A0_1 l0_1.length c0_1, .bool a0_2], .agg #[.int .i64 a1_0, .int .i64 a1_1, .int .i64 a1_2, .int .i64 a1_3, .int .i64 a1_4]] (by rfl) rfl rfl vL ?_
       with_reducible refine (gimbalref11_Bounds.calls k1 _ _ l0_0 _ _ l0_1 a0_2 a1_0 a1_1 a1_2 a1_3 a1_4 t342 t343 _ ?side1 ?side2 ?side3 ?side4 A20.out).mono ?_
       (case side1 => exact vC (Kd.C_below HR0_0.out HB.out))
       (case side2 => exact HC0_0.out)
       (case side3 => exact vC (Kd.C_below HR0_1.out HB.out))
       (case side4 => exact HC0_1.out)
       rintro e w24 ⟨rfl, hb⟩
       refine ⟨_, rfl, ?_⟩
       replace BK334 := vBb BK334 hb
       replace BK335 := vBb BK335 hb
       replace HB := vWs HB hb
       (try clear hb)
       (try clear hb2)
       (try clear hk)
       (try clear hi)
       refine hK.out _ _ ⟨(blk_cell BK335.out 0).trans rfl, (blk_cell BK335.out 1).trans rfl, (blk_cell BK335.out 2).trans rfl, (blk_cell BK335.out 3).trans rfl, (blk_cell BK335.out 4).trans rfl, (blk_cell BK334.out 0).trans rfl, (blk_cell BK334.out 1).trans rfl, (blk_cell BK334.out 2).trans rfl⟩ (fun hHeld => ?_)
       clear hK K
       refine norm_ (a' := ?_) ?_ ?_
       rotate_left
       ·
        show Act.put _ (some 38) _ = _
        simp only [Act.put, List.setIfInBounds_toArray, List.set_cons_zero, List.set_cons_succ, i64_w, i32_w]
        rfl
       refine pV_ 9 39 (mB 11 1023) HT_ ?_
       refine pV_ 10 40 (mB 11 2047) HT_ ?_
       refine done_ (done_of HT_.out (by kernel_rfl)) ?_
       try go_wp2
       go_meet
       case rel => exact ⟨_, ((!(t340 == t342) || (!(t341 == t343)))), (by first | rfl | (simp; done) | (simp [*]; done)), H', ⟨by have := HK1.out; first | omega | exact Nat.le_refl _⟩, ⟨vB BK334.out⟩, ⟨vB BK335.out⟩, ⟨vW HB.out⟩⟩
      ·
       replace c18 := Bool.eq_false_iff.mpr c18
       subst c18
       have H1 : (gimballaw11_OctBounds.j1 k1 l2 x7_1 false l0_0 l0_1 a0_2) = some r := by rw [if_neg (show ¬ (false = true) by decide)] at H; exact H
       clear H
       have H := H1
       clear H1
       have H' := Aside0.mk H
       clear H
       try go_wp2
       replace BK334 := Aside0.mk (blk_drew BK334.out)
       replace BK335 := Aside0.mk (blk_drew BK335.out)
       replace HB := Aside0.mk (below_drew1 HB.out)
       refine start_ (n := 11) (S := fun w' => w'.cell? ⟨gb335, 0, none⟩ = some (.int .i64 a1_0) ∧ w'.cell? ⟨gb335, 1, none⟩ = some (.int .i64 a1_1) ∧ w'.cell? ⟨gb335, 2, none⟩ = some (.int .i64 a1_2) ∧ w'.cell? ⟨gb335, 3, none⟩ = some (.int .i64 a1_3) ∧ w'.cell? ⟨gb335, 4, none⟩ = some (.int .i64 a1_4)) (ds := []) (mB 11 0) (by kernel_rfl) rfl rfl ⟨(blk_cell BK335.out 0).trans rfl, (blk_cell BK335.out 1).trans rfl, (blk_cell BK335.out 2).trans rfl, (blk_cell BK335.out 3).trans rfl, (blk_cell BK335.out 4).trans rfl⟩ (fun hHeld => ?_); refine with_tabW gimballaw11_OctBounds.tab9 gimballaw11_OctBounds.bits9 (fun HT_ HW_ => ?_)
       generalize wr.drew = w25 at BK334 BK335 HB hHeld ⊢
       refine tV_ 0 30 (mB 11 1) HT_ HW_ hHeld ?_
       refine one_ (i := 1) (N := some 31) (mB 11 3) rfl rfl (one_of HT_.out (by kernel_rfl)) (by decide) (fun K hK => ?_)
       refine goes_ Try.func42 (by kernel_rfl) rfl #[.agg #[.int .i64 a1_0, .int .i64 a1_1, .int .i64 a1_2, .int .i64 a1_3, .int .i64 a1_4]] (by rfl) rfl rfl vL ?_
       with_reducible refine (gimballaw11_form.calls k1 a1_0 a1_1 a1_2 a1_3 a1_4 false _ A17.out).mono ?_
       rintro e w26 ⟨rfl, hb⟩
       refine ⟨_, rfl, ?_⟩
       replace BK334 := vBb BK334 hb
       replace BK335 := vBb BK335 hb
       replace HB := vWs HB hb
       (try clear hb)
       (try clear hb2)
       (try clear hk)
       (try clear hi)
       refine hK.out _ _ ⟨(blk_cell BK335.out 0).trans rfl, (blk_cell BK335.out 1).trans rfl, (blk_cell BK335.out 2).trans rfl, (blk_cell BK335.out 3).trans rfl, (blk_cell BK335.out 4).trans rfl⟩ (fun hHeld => ?_)
       clear hK K
       refine norm_ (a' := ?_) ?_ ?_
       rotate_left
       ·
        show Act.put _ (some 31) _ = _
        simp only [Act.put, List.setIfInBounds_toArray, List.set_cons_zero, List.set_cons_succ, i64_w, i32_w]
        rfl
       refine pV_ 2 32 (mB 11 7) HT_ ?_
       refine pU_ 3 33 (mB 11 15) HT_ ?_
       refine pU_ 4 34 (mB 11 31) HT_ ?_
       refine pU_ 5 35 (mB 11 63) HT_ ?_
       refine pU_ 6 36 (mB 11 127) HT_ ?_
       refine pU_ 7 37 (mB 11 255) HT_ ?_
       refine pU_ 8 38 (mB 11 511) HT_ ?_
       refine pU_ 9 39 (mB 11 1023) HT_ ?_
       refine pV_ 10 40 (mB 11 2047) HT_ ?_
       refine done_ (done_of HT_.out (by kernel_rfl)) ?_
       try go_wp2
       go_meet
       case rel => exact ⟨_, (false), (by first | rfl | (simp; done) | (simp [*]; done)), H', ⟨by have := HK1.out; first | omega | exact Nat.le_refl _⟩, ⟨vB BK334.out⟩, ⟨vB BK335.out⟩, ⟨vW HB.out⟩⟩
     case rest =>
      clear HC16
      try clear c1
      try clear c2
      try clear p2
      try clear p3
      try clear q3
      try clear hx3
      try clear c4
      try clear c5
      try clear p6
      try clear c8
      try clear c11
      try clear c11b0
      try clear c12
      try clear c12b0
      try clear c13
      try clear c13b0
      try clear c14
      try clear c15
      try clear c15b0
      try clear c18
      try clear c19
      try clear hcz9_0
      try clear hcz9_1
      try clear hcz9_2
      try clear hfz9_0
      try clear hfz9_1
      try clear hfz9_2
      try clear hx338_0
      try clear p2
      try clear p338
      try clear q338
      obtain ⟨kq, x40_15, rfl, HA, HJ15, BK334, BK335, HB⟩ := hcut
      cases kq with
      | zero => exact absurd HA.out (by simp [gimballaw11_OctBounds.j1])
      | succ kj15 =>
       have H := HA.out
       clear HA
       simp only [gimballaw11_OctBounds.j1] at H
       by_cases c27 : x40_15 = true
       ·
        subst c27
        have H1 : (some false) = some r := by rw [if_pos rfl] at H; exact H
        clear H
        have H := H1
        clear H1
        obtain rfl := Option.some.inj H
        go_wp2
        go_ret
        exact ⟨by first | rfl | (simp [errW_none, errW_some] <;> rfl) | (simp [*, errW_none, errW_some] <;> rfl) | (simp [wrap64]; done), vW HB.out⟩
       ·
        replace c27 := Bool.eq_false_iff.mpr c27
        subst c27
        have H1 : (if x7_1 = true then (if (l2.length : Int) = (l0_0.length : Int) then ((oct_Has.f l0_0 l0_1 a0_2 l2).bind fun t344 => ((gimbalref11_Has.f kj15 l0_0 l0_1 a0_2 l2).bind fun t345 => (if (t344 != t345) = true then (some false) else ((gimballaw11_awake.f kj15).bind fun t346 => (some t346))))) else ((gimballaw11_awake.f kj15).bind fun t347 => (some t347))) else ((gimballaw11_awake.f kj15).bind fun t348 => (some t348))) = some r := by rw [if_neg (show ¬ (false = true) by decide)] at H; exact H
        clear H
        have H := H1
        clear H1
        by_cases c28 : x7_1 = true
        ·
         subst c28
         have H1 : (if (l2.length : Int) = (l0_0.length : Int) then ((oct_Has.f l0_0 l0_1 a0_2 l2).bind fun t344 => ((gimbalref11_Has.f kj15 l0_0 l0_1 a0_2 l2).bind fun t345 => (if (t344 != t345) = true then (some false) else ((gimballaw11_awake.f kj15).bind fun t346 => (some t346))))) else ((gimballaw11_awake.f kj15).bind fun t347 => (some t347))) = some r := by rw [if_pos rfl] at H; exact H
         clear H
         have H := H1
         clear H1
         by_cases c29 : (l2.length : Int) = (l0_0.length : Int)
         ·
          rw [if_pos c29] at H
          have c29b0 : ((l2.length : Int) == (l0_0.length : Int)) = true := beq_iff_eq.mpr c29
          have c29b1 : ((l2.length : Int) != (l0_0.length : Int)) = false := bne_eq_false_iff_eq.mpr c29
          have c29b2 : (l2.length == l0_0.length) = true := by first | simpa using c29 | (simp at c29 ⊢; omega)
          clear c29
          replace H := Option.bind_eq_some_iff.mp H
          obtain ⟨t344, A300, H⟩ := H
          replace H : ((gimbalref11_Has.f kj15 l0_0 l0_1 a0_2 l2).bind fun t345 => (if (t344 != t345) = true then (some false) else ((gimballaw11_awake.f kj15).bind fun t346 => (some t346)))) = some r := H
          have A30 := Aside0.mk A300
          clear A300
          replace H := Option.bind_eq_some_iff.mp H
          obtain ⟨t345, A310, H⟩ := H
          replace H : (if (t344 != t345) = true then (some false) else ((gimballaw11_awake.f kj15).bind fun t346 => (some t346))) = some r := H
          have A31 := Aside0.mk A310
          clear A310
          by_cases c32 : (t344 != t345) = true
          ·
           rw [if_pos c32] at H
           have c32b0 : (t344 != t345) = true := c32
           (try (have c32b1 : decide (t344 = t345) = false := by simpa using c32))
           (try (have c32b2 : (t344 == t345) = false := by simpa using c32))
           (try (have c32b3 : ¬ (t344 = t345) := by simpa using c32))
           clear c32
           obtain rfl := Option.some.inj H
           try go_wp2
           replace BK334 := Aside0.mk (blk_drew BK334.out)
           replace BK335 := Aside0.mk (blk_drew BK335.out)
           replace HB := Aside0.mk (below_drew1 HB.out)
           refine start_ (n := 18) (S := fun w' => w'.cell? ⟨gb334, 0, none⟩ = some (.slice A0_0 l0_0.length c0_0) ∧ w'.cell? ⟨gb334, 1, none⟩ = some (.slice A0_1 l0_1.length c0_1) ∧ w'.cell? ⟨gb334, 2, none⟩ = some (.bool a0_2)) (ds := []) (mB 18 0) (by kernel_rfl) rfl rfl ⟨(blk_cell BK334.out 0).trans rfl, (blk_cell BK334.out 1).trans rfl, (blk_cell BK334.out 2).trans rfl⟩ (fun hHeld => ?_); refine with_tabW gimballaw11_OctBounds.tab11 gimballaw11_OctBounds.bits11 (fun HT_ HW_ => ?_)
           generalize wc.drew = w33 at BK334 BK335 HB hHeld ⊢
           refine pV_ 0 41 (mB 18 1) HT_ ?_
           refine pV_ 1 42 (mB 18 3) HT_ ?_
           refine pV_ 2 43 (mB 18 7) HT_ ?_
           refine pV_ 3 44 (mB 18 15) HT_ ?_
           refine pV_ 4 45 (mB 18 31) HT_ ?_
           refine tV_ 5 46 (mB 18 63) HT_ HW_ hHeld ?_
           refine pV_ 6 47 (mB 18 127) HT_ ?_
           refine pV_ 7 48 (mB 18 255) HT_ ?_
           refine pV_ 8 49 (mB 18 511) HT_ ?_
           refine pV_ 9 50 (mB 18 1023) HT_ ?_
           refine pV_ 11 52 (mB 18 3071) HT_ ?_
           refine pV_ 14 55 (mB 18 19455) HT_ ?_
           refine tV_ 10 51 (mB 18 20479) HT_ HW_ hHeld ?_
           refine tV_ 13 54 (mB 18 28671) HT_ HW_ hHeld ?_
           refine one_ (i := 12) (N := some 53) (mB 18 32767) rfl rfl (one_of HT_.out (by kernel_rfl)) (by decide) (fun K hK => ?_)
           refine goes_ Try.func34 (by kernel_rfl) rfl #[.agg #[.slice A0_0 l0_0.length c0_0, .slice A0_1 l0_1.length c0_1, .bool a0_2], .slice A2 l2.length c2] (by rfl) rfl rfl vL ?_
           with_reducible refine (oct_Has.calls _ _ l0_0 _ _ l0_1 a0_2 _ _ l2 t344 _ ?side1 ?side2 ?side3 ?side4 ?side5 ?side6 A30.out).mono ?_
           (case side1 => exact vC (Kd.C_below HR0_0.out HB.out))
           (case side2 => exact HC0_0.out)
           (case side3 => exact vC (Kd.C_below HR0_1.out HB.out))
           (case side4 => exact HC0_1.out)
           (case side5 => exact vC (Kd.C_below HR2.out HB.out))
           (case side6 => exact HC2.out)
           rintro e w34 ⟨rfl, hb⟩
           refine ⟨_, rfl, ?_⟩
           replace BK334 := vBb BK334 hb
           replace BK335 := vBb BK335 hb
           replace HB := vWs HB hb
           (try clear hb)
           (try clear hb2)
           (try clear hk)
           (try clear hi)
           refine hK.out _ _ ⟨(blk_cell BK334.out 0).trans rfl, (blk_cell BK334.out 1).trans rfl, (blk_cell BK334.out 2).trans rfl⟩ (fun hHeld => ?_)
           clear hK K
           refine norm_ (a' := ?_) ?_ ?_
           rotate_left
           ·
            show Act.put _ (some 53) _ = _
            simp only [Act.put, List.setIfInBounds_toArray, List.set_cons_zero, List.set_cons_succ, i64_w, i32_w]
            rfl
           refine one_ (i := 15) (N := some 56) (mB 18 65535) rfl rfl (one_of HT_.out (by kernel_rfl)) (by decide) (fun K hK => ?_)
           refine goes_ Try.func45 (by kernel_rfl) rfl #[.agg #[.slice A0_0 l0_0.length c0_0, .slice A0_1 l0_1.length c0_1, .bool a0_2], .slice A2 l2.length c2] (by rfl) rfl rfl vL ?_
           with_reducible refine (gimbalref11_Has.calls kj15 _ _ l0_0 _ _ l0_1 a0_2 _ _ l2 t345 _ ?side1 ?side2 ?side3 ?side4 ?side5 ?side6 A31.out).mono ?_
           (case side1 => exact vC (Kd.C_below HR0_0.out HB.out))
           (case side2 => exact HC0_0.out)
           (case side3 => exact vC (Kd.C_below HR0_1.out HB.out))
           (case side4 => exact HC0_1.out)
           (case side5 => exact vC (Kd.C_below HR2.out HB.out))
           (case side6 => exact HC2.out)
           rintro e w35 ⟨rfl, hb⟩
           refine ⟨_, rfl, ?_⟩
           replace BK334 := vBb BK334 hb
           replace BK335 := vBb BK335 hb
           replace HB := vWs HB hb
           (try clear hb)
           (try clear hb2)
           (try clear hk)
           (try clear hi)
           refine hK.out _ _ ⟨(blk_cell BK334.out 0).trans rfl, (blk_cell BK334.out 1).trans rfl, (blk_cell BK334.out 2).trans rfl⟩ (fun hHeld => ?_)
           clear hK K
           refine norm_ (a' := ?_) ?_ ?_
           rotate_left
           ·
            show Act.put _ (some 56) _ = _
            simp only [Act.put, List.setIfInBounds_toArray, List.set_cons_zero, List.set_cons_succ, i64_w, i32_w]
            rfl
           refine pV_ 16 57 (mB 18 131071) HT_ ?_
           refine pV_ 17 58 (mB 18 262143) HT_ ?_
           refine done_ (done_of HT_.out (by kernel_rfl)) ?_
           try go_wp2
           go_ret
           exact ⟨by first | rfl | (simp [errW_none, errW_some] <;> rfl) | (simp [*, errW_none, errW_some] <;> rfl) | (simp [wrap64]; done), vW HB.out⟩
          ·
           rw [if_neg c32] at H
           have c32b0 : (t344 != t345) = false := by simpa using c32
           (try (have c32b1 : decide (t344 = t345) = true := by simpa using c32))
           (try (have c32b2 : (t344 == t345) = true := by simpa using c32))
           clear c32
           replace H := Option.bind_eq_some_iff.mp H
           obtain ⟨t346, A360, H⟩ := H
           replace H : (some t346) = some r := H
           have A36 := Aside0.mk A360
           clear A360
           obtain rfl := Option.some.inj H
           try go_wp2
           replace BK334 := Aside0.mk (blk_drew BK334.out)
           replace BK335 := Aside0.mk (blk_drew BK335.out)
           replace HB := Aside0.mk (below_drew1 HB.out)
           refine start_ (n := 18) (S := fun w' => w'.cell? ⟨gb334, 0, none⟩ = some (.slice A0_0 l0_0.length c0_0) ∧ w'.cell? ⟨gb334, 1, none⟩ = some (.slice A0_1 l0_1.length c0_1) ∧ w'.cell? ⟨gb334, 2, none⟩ = some (.bool a0_2)) (ds := []) (mB 18 0) (by kernel_rfl) rfl rfl ⟨(blk_cell BK334.out 0).trans rfl, (blk_cell BK334.out 1).trans rfl, (blk_cell BK334.out 2).trans rfl⟩ (fun hHeld => ?_); refine with_tabW gimballaw11_OctBounds.tab11 gimballaw11_OctBounds.bits11 (fun HT_ HW_ => ?_)
           generalize wc.drew = w37 at BK334 BK335 HB hHeld ⊢
           refine pV_ 0 41 (mB 18 1) HT_ ?_
           refine pV_ 1 42 (mB 18 3) HT_ ?_
           refine pV_ 2 43 (mB 18 7) HT_ ?_
           refine pV_ 3 44 (mB 18 15) HT_ ?_
           refine pV_ 4 45 (mB 18 31) HT_ ?_
           refine tV_ 5 46 (mB 18 63) HT_ HW_ hHeld ?_
           refine pV_ 6 47 (mB 18 127) HT_ ?_
           refine pV_ 7 48 (mB 18 255) HT_ ?_
           refine pV_ 8 49 (mB 18 511) HT_ ?_
           refine pV_ 9 50 (mB 18 1023) HT_ ?_
           refine pV_ 11 52 (mB 18 3071) HT_ ?_
           refine pV_ 14 55 (mB 18 19455) HT_ ?_
           refine tV_ 10 51 (mB 18 20479) HT_ HW_ hHeld ?_
           refine tV_ 13 54 (mB 18 28671) HT_ HW_ hHeld ?_
           refine one_ (i := 12) (N := some 53) (mB 18 32767) rfl rfl (one_of HT_.out (by kernel_rfl)) (by decide) (fun K hK => ?_)
           refine goes_ Try.func34 (by kernel_rfl) rfl #[.agg #[.slice A0_0 l0_0.length c0_0, .slice A0_1 l0_1.length c0_1, .bool a0_2], .slice A2 l2.length c2] (by rfl) rfl rfl vL ?_
           with_reducible refine (oct_Has.calls _ _ l0_0 _ _ l0_1 a0_2 _ _ l2 t344 _ ?side1 ?side2 ?side3 ?side4 ?side5 ?side6 A30.out).mono ?_
           (case side1 => exact vC (Kd.C_below HR0_0.out HB.out))
           (case side2 => exact HC0_0.out)
           (case side3 => exact vC (Kd.C_below HR0_1.out HB.out))
           (case side4 => exact HC0_1.out)
           (case side5 => exact vC (Kd.C_below HR2.out HB.out))
           (case side6 => exact HC2.out)
           rintro e w38 ⟨rfl, hb⟩
           refine ⟨_, rfl, ?_⟩
           replace BK334 := vBb BK334 hb
           replace BK335 := vBb BK335 hb
           replace HB := vWs HB hb
           (try clear hb)
           (try clear hb2)
           (try clear hk)
           (try clear hi)
           refine hK.out _ _ ⟨(blk_cell BK334.out 0).trans rfl, (blk_cell BK334.out 1).trans rfl, (blk_cell BK334.out 2).trans rfl⟩ (fun hHeld => ?_)
           clear hK K
           refine norm_ (a' := ?_) ?_ ?_
           rotate_left
           ·
            show Act.put _ (some 53) _ = _
            simp only [Act.put, List.setIfInBounds_toArray, List.set_cons_zero, List.set_cons_succ, i64_w, i32_w]
            rfl
           refine one_ (i := 15) (N := some 56) (mB 18 65535) rfl rfl (one_of HT_.out (by kernel_rfl)) (by decide) (fun K hK => ?_)
           refine goes_ Try.func45 (by kernel_rfl) rfl #[.agg #[.slice A0_0 l0_0.length c0_0, .slice A0_1 l0_1.length c0_1, .bool a0_2], .slice A2 l2.length c2] (by rfl) rfl rfl vL ?_
           with_reducible refine (gimbalref11_Has.calls kj15 _ _ l0_0 _ _ l0_1 a0_2 _ _ l2 t345 _ ?side1 ?side2 ?side3 ?side4 ?side5 ?side6 A31.out).mono ?_
           (case side1 => exact vC (Kd.C_below HR0_0.out HB.out))
           (case side2 => exact HC0_0.out)
           (case side3 => exact vC (Kd.C_below HR0_1.out HB.out))
           (case side4 => exact HC0_1.out)
           (case side5 => exact vC (Kd.C_below HR2.out HB.out))
           (case side6 => exact HC2.out)
           rintro e w39 ⟨rfl, hb⟩
           refine ⟨_, rfl, ?_⟩
           replace BK334 := vBb BK334 hb
           replace BK335 := vBb BK335 hb
           replace HB := vWs HB hb
           (try clear hb)
           (try clear hb2)
           (try clear hk)
           (try clear hi)
           refine hK.out _ _ ⟨(blk_cell BK334.out 0).trans rfl, (blk_cell BK334.out 1).trans rfl, (blk_cell BK334.out 2).trans rfl⟩ (fun hHeld => ?_)
           clear hK K
           refine norm_ (a' := ?_) ?_ ?_
           rotate_left
           ·
            show Act.put _ (some 56) _ = _
            simp only [Act.put, List.setIfInBounds_toArray, List.set_cons_zero, List.set_cons_succ, i64_w, i32_w]
            rfl
           refine pV_ 16 57 (mB 18 131071) HT_ ?_
           refine pV_ 17 58 (mB 18 262143) HT_ ?_
           refine done_ (done_of HT_.out (by kernel_rfl)) ?_
           try go_wp2_with (first | ((with_reducible refine gate_callee (f := 20) rfl ?_); refine goesL_ (some 59) rfl rfl Try.func20 (by kernel_rfl) rfl #[] rfl vL ?_; (with_reducible refine (gimballaw11_awake.calls kj15  t346 _ A36.out).mono ?_); rintro e w40 ⟨rfl, hb⟩; refine ⟨_, rfl, ?_⟩; replace BK334 := vBb BK334 hb; replace BK335 := vBb BK335 hb; replace HB := vWs HB hb; (try clear hb); (try clear hb2); (try clear hk); (try clear hi)))
           go_ret
           exact ⟨by first | rfl | (simp [errW_none, errW_some] <;> rfl) | (simp [*, errW_none, errW_some] <;> rfl) | (simp [wrap64]; done), vW HB.out⟩
         ·
          rw [if_neg c29] at H
          have c29b0 : ((l2.length : Int) == (l0_0.length : Int)) = false := beq_eq_false_iff_ne.mpr c29
          have c29b1 : ((l2.length : Int) != (l0_0.length : Int)) = true := bne_iff_ne.mpr c29
          have c29b2 : (l2.length == l0_0.length) = false := by first | simpa using c29 | (simp at c29 ⊢; omega)
          replace H := Option.bind_eq_some_iff.mp H
          obtain ⟨t347, A410, H⟩ := H
          replace H : (some t347) = some r := H
          have A41 := Aside0.mk A410
          clear A410
          obtain rfl := Option.some.inj H
          try go_wp2
          replace BK334 := Aside0.mk (blk_drew BK334.out)
          replace BK335 := Aside0.mk (blk_drew BK335.out)
          replace HB := Aside0.mk (below_drew1 HB.out)
          refine start_ (n := 18) (S := fun w' => w'.cell? ⟨gb334, 0, none⟩ = some (.slice A0_0 l0_0.length c0_0) ∧ w'.cell? ⟨gb334, 1, none⟩ = some (.slice A0_1 l0_1.length c0_1) ∧ w'.cell? ⟨gb334, 2, none⟩ = some (.bool a0_2)) (ds := []) (mB 18 0) (by kernel_rfl) rfl rfl ⟨(blk_cell BK334.out 0).trans rfl, (blk_cell BK334.out 1).trans rfl, (blk_cell BK334.out 2).trans rfl⟩ (fun hHeld => ?_); refine with_tabW gimballaw11_OctBounds.tab11 gimballaw11_OctBounds.bits11 (fun HT_ HW_ => ?_)
          generalize wc.drew = w42 at BK334 BK335 HB hHeld ⊢
          refine pV_ 0 41 (mB 18 1) HT_ ?_
          refine pV_ 1 42 (mB 18 3) HT_ ?_
          refine pV_ 2 43 (mB 18 7) HT_ ?_
          refine pV_ 3 44 (mB 18 15) HT_ ?_
          refine pV_ 4 45 (mB 18 31) HT_ ?_
          refine tV_ 5 46 (mB 18 63) HT_ HW_ hHeld ?_
          refine pV_ 6 47 (mB 18 127) HT_ ?_
          refine pV_ 7 48 (mB 18 255) HT_ ?_
          refine pV_ 8 49 (mB 18 511) HT_ ?_
          refine pV_ 9 50 (mB 18 1023) HT_ ?_
          refine pU_ 10 51 (mB 18 2047) HT_ ?_
          refine pU_ 11 52 (mB 18 4095) HT_ ?_
          refine pU_ 12 53 (mB 18 8191) HT_ ?_
          refine pU_ 13 54 (mB 18 16383) HT_ ?_
          refine pU_ 14 55 (mB 18 32767) HT_ ?_
          refine pU_ 15 56 (mB 18 65535) HT_ ?_
          refine pU_ 16 57 (mB 18 131071) HT_ ?_
          refine pV_ 17 58 (mB 18 262143) HT_ ?_
          refine done_ (done_of HT_.out (by kernel_rfl)) ?_
          try go_wp2_with (first | ((with_reducible refine gate_callee (f := 20) rfl ?_); refine goesL_ (some 59) rfl rfl Try.func20 (by kernel_rfl) rfl #[] rfl vL ?_; (with_reducible refine (gimballaw11_awake.calls kj15  t347 _ A41.out).mono ?_); rintro e w43 ⟨rfl, hb⟩; refine ⟨_, rfl, ?_⟩; replace BK334 := vBb BK334 hb; replace BK335 := vBb BK335 hb; replace HB := vWs HB hb; (try clear hb); (try clear hb2); (try clear hk); (try clear hi)))
          go_ret
          exact ⟨by first | rfl | (simp [errW_none, errW_some] <;> rfl) | (simp [*, errW_none, errW_some] <;> rfl) | (simp [wrap64]; done), vW HB.out⟩
        ·
         replace c28 := Bool.eq_false_iff.mpr c28
         subst c28
         have H1 : ((gimballaw11_awake.f kj15).bind fun t348 => (some t348)) = some r := by rw [if_neg (show ¬ (false = true) by decide)] at H; exact H
         clear H
         have H := H1
         clear H1
         replace H := Option.bind_eq_some_iff.mp H
         obtain ⟨t348, A440, H⟩ := H
         replace H : (some t348) = some r := H
         have A44 := Aside0.mk A440
         clear A440
         obtain rfl := Option.some.inj H
         try go_wp2
         replace BK334 := Aside0.mk (blk_drew BK334.out)
         replace BK335 := Aside0.mk (blk_drew BK335.out)
         replace HB := Aside0.mk (below_drew1 HB.out)
         refine start_ (n := 18) (S := fun w' => True) (ds := []) (mB 18 0) (by kernel_rfl) rfl rfl trivial (fun hHeld => ?_); refine with_tabW gimballaw11_OctBounds.tab11 gimballaw11_OctBounds.bits11 (fun HT_ HW_ => ?_)
         generalize wc.drew = w45 at BK334 BK335 HB hHeld ⊢
         refine pV_ 0 41 (mB 18 1) HT_ ?_
         refine pV_ 1 42 (mB 18 3) HT_ ?_
         refine pU_ 2 43 (mB 18 7) HT_ ?_
         refine pU_ 3 44 (mB 18 15) HT_ ?_
         refine pU_ 4 45 (mB 18 31) HT_ ?_
         refine pU_ 5 46 (mB 18 63) HT_ ?_
         refine pU_ 6 47 (mB 18 127) HT_ ?_
         refine pU_ 7 48 (mB 18 255) HT_ ?_
         refine pV_ 8 49 (mB 18 511) HT_ ?_
         refine pV_ 9 50 (mB 18 1023) HT_ ?_
         refine pU_ 10 51 (mB 18 2047) HT_ ?_
         refine pU_ 11 52 (mB 18 4095) HT_ ?_
         refine pU_ 12 53 (mB 18 8191) HT_ ?_
         refine pU_ 13 54 (mB 18 16383) HT_ ?_
         refine pU_ 14 55 (mB 18 32767) HT_ ?_
         refine pU_ 15 56 (mB 18 65535) HT_ ?_
         refine pU_ 16 57 (mB 18 131071) HT_ ?_
         refine pV_ 17 58 (mB 18 262143) HT_ ?_
         refine done_ (done_of HT_.out (by kernel_rfl)) ?_
         try go_wp2_with (first | ((with_reducible refine gate_callee (f := 20) rfl ?_); refine goesL_ (some 59) rfl rfl Try.func20 (by kernel_rfl) rfl #[] rfl vL ?_; (with_reducible refine (gimballaw11_awake.calls kj15  t348 _ A44.out).mono ?_); rintro e w46 ⟨rfl, hb⟩; refine ⟨_, rfl, ?_⟩; replace BK334 := vBb BK334 hb; replace BK335 := vBb BK335 hb; replace HB := vWs HB hb; (try clear hb); (try clear hb2); (try clear hk); (try clear hi)))
         go_ret
         exact ⟨by first | rfl | (simp [errW_none, errW_some] <;> rfl) | (simp [*, errW_none, errW_some] <;> rfl) | (simp [wrap64]; done), vW HB.out⟩
 ·
  replace c5 := Bool.eq_false_iff.mpr c5
  subst c5
  have H1 : ((gimballaw11_awake.f k).bind fun t337 => (some t337)) = some r := by rw [if_neg (show ¬ (false = true) by decide)] at H; exact H
  clear H
  have H := H1
  clear H1
  replace H := Option.bind_eq_some_iff.mp H
  obtain ⟨t337, A470, H⟩ := H
  replace H : (some t337) = some r := H
  have A47 := Aside0.mk A470
  clear A470
  obtain rfl := Option.some.inj H
  go_enter Try.func11, Try.ntmps11
  go_wp2_with (first | ((with_reducible refine gate_dst (N := 3) rfl ?_); (try (refine gate_guard (by rfl) ?_; dsimp only)); refine box_event ?hg (N := 3) ?hd (cs := #[.slice A0_0 l0_0.length c0_0, .slice A0_1 l0_1.length c0_1, .bool a0_2]) (t := 25) ?hr ?_; (case hd => rfl); (case hg => rfl); (case hr => first | (go_simp; done) | (go_simp; rfl)); intro gb334 hg w48 hbox hb; have BK334 := Aside0.mk (hbox); have GW334 := vS hg HB; have GE334 := vS hg HB; replace HB := vWs HB hb; clear hb hbox hg) | ((with_reducible refine gate_dst (N := 4) rfl ?_); (try (refine gate_guard (by rfl) ?_; dsimp only)); refine box_event ?hg (N := 4) ?hd (cs := #[.int .i64 a1_0, .int .i64 a1_1, .int .i64 a1_2, .int .i64 a1_3, .int .i64 a1_4]) (t := 49) ?hr ?_; (case hd => rfl); (case hg => rfl); (case hr => first | (go_simp; done) | (go_simp; rfl)); intro gb335 hg w49 hbox hb; have BK335 := Aside0.mk (hbox); have GW335 := vS hg HB; have GE335 := vS hg HB; replace HB := vWs HB hb; have NB334_335 := vNl hg BK334; have NB335_334 := vNg hg BK334; replace BK334 := vBb BK334 hb; clear hb hbox hg; have hnb50 := NB334_335.out; have hnc50 := NB335_334.out; obtain ⟨hcz51_0, hcz51_1, hcz51_2, hfz51_0, hfz51_1, hfz51_2⟩ := vF3 BK334.out) | ((with_reducible refine gate_callee (f := 19) rfl ?_); refine goesL_ (some 11) rfl rfl Try.func19 (by kernel_rfl) rfl #[.agg #[.slice A0_0 l0_0.length c0_0, .slice A0_1 l0_1.length c0_1, .bool a0_2]] rfl vL ?_; (with_reducible refine (gimbalref11_Fit.calls _ _ l0_0 _ _ l0_1 a0_2 false _ ?side1 ?side2 ?side3 ?side4 A4.out).mono ?_); (case side1 => exact vC (Kd.C_below HR0_0.out HB.out)); (case side2 => exact HC0_0.out); (case side3 => exact vC (Kd.C_below HR0_1.out HB.out)); (case side4 => exact HC0_1.out); rintro e w52 ⟨rfl, hb⟩; refine ⟨_, rfl, ?_⟩; replace BK334 := vBb BK334 hb; replace BK335 := vBb BK335 hb; replace HB := vWs HB hb; (try clear hb); (try clear hb2); (try clear hk); (try clear hi)) | ((with_reducible refine gate_callee (f := 20) rfl ?_); refine goesL_ (some 13) rfl rfl Try.func20 (by kernel_rfl) rfl #[] rfl vL ?_; (with_reducible refine (gimballaw11_awake.calls k  t337 _ A47.out).mono ?_); rintro e w53 ⟨rfl, hb⟩; refine ⟨_, rfl, ?_⟩; replace BK334 := vBb BK334 hb; replace BK335 := vBb BK335 hb; replace HB := vWs HB hb; (try clear hb); (try clear hb2); (try clear hk); (try clear hi)))
  go_ret
  exact ⟨by first | rfl | (simp [errW_none, errW_some] <;> rfl) | (simp [*, errW_none, errW_some] <;> rfl) | (simp [wrap64]; done), vW HB.out⟩
def gimballaw11_OctBounds.Pure : Prop := ∀ (l0_0 : List Int) (l0_1 : List Int) (a0_2 : Bool) (a1_0 : Int) (a1_1 : Int) (a1_2 : Int) (a1_3 : Int) (a1_4 : Int) (l2 : List Int), (l0_0.length * 8 ≤ 140737488351232 ∧ l0_0.length ≤ maxLen ∧ ∀ x ∈ l0_0, (Lit.int .i64 x).wf = true) → (l0_1.length * 8 ≤ 140737488351232 ∧ l0_1.length ≤ maxLen ∧ ∀ x ∈ l0_1, (Lit.int .i64 x).wf = true) → ((Lit.int .i64 a1_0).wf = true) → ((Lit.int .i64 a1_1).wf = true) → ((Lit.int .i64 a1_2).wf = true) → ((Lit.int .i64 a1_3).wf = true) → ((Lit.int .i64 a1_4).wf = true) → (l2.length * 8 ≤ 140737488351232 ∧ l2.length ≤ maxLen ∧ ∀ x ∈ l2, (Lit.int .i64 x).wf = true) → ∃ k, gimballaw11_OctBounds.f k l0_0 l0_1 a0_2 a1_0 a1_1 a1_2 a1_3 a1_4 l2 = some true
end Go.Proofs.Ytomgebmimgaojaa.QO
end
end
section
/- The place of a scalar: the program's and the document's search come to the same. -/
namespace Go.Proofs.Ytomgebmimgaojaa.Places
open Go.RowKit Go.Proofs.Ytomgebmimgaojaa.QO Go.Proofs.YtomgebmimgaojaaW.PrintWords Go.Proofs.YtomgebmimgaojaaW.PrintLast Go.Proofs.YtomgebmimgaojaaW.PrintMore
theorem search (l : List Int) (hl : l.length ≤ 4096) (x : Int) (d : Nat) : ∀ i : Nat, l.length - i = d → i ≤ l.length → ∃ v : Int, -1 ≤ v ∧ v < l.length ∧ (0 ≤ v → rd l v = x) ∧
    ∀ k, d < k → slices_Index_int_int.l0 k l x (l.length : Int) (i : Int) = some v ∧ gimbalref11_Place.l0 k x l (l.length : Int) (i : Int) = some v := by
  induction d with
  | zero =>
    intro i hi hle
    refine ⟨-1, by omega, by omega, fun h => absurd h (by decide), fun k hk => ?_⟩
    obtain ⟨k, rfl⟩ : ∃ m, k = m + 1 := ⟨k - 1, by omega⟩
    unfold slices_Index_int_int.l0 gimbalref11_Place.l0
    rw [if_neg (by omega), if_neg (by omega)]
    exact ⟨rfl, rfl⟩
  | succ d ih =>
    intro i hi hle
    have hlt : i < l.length := by omega
    have hw : wrap64 ((i : Int) + 1) = ((i + 1 : Nat) : Int) := by unfold wrap64; omega
    by_cases hx : rd l (i : Int) = x
    · refine ⟨i, by omega, by omega, fun _ => hx, fun k hk => ?_⟩
      obtain ⟨k, rfl⟩ : ∃ m, k = m + 1 := ⟨k - 1, by omega⟩
      unfold slices_Index_int_int.l0 gimbalref11_Place.l0
      rw [if_pos (by omega), if_pos (by omega), if_pos (by omega), if_pos hx.symm, if_pos (by omega), if_pos (by omega), if_pos (by omega), if_pos hx]
      exact ⟨rfl, rfl⟩
    · obtain ⟨v, h1, h2, h3, h4⟩ := ih (i + 1) (by omega) (by omega)
      refine ⟨v, h1, h2, h3, fun k hk => ?_⟩
      obtain ⟨k, rfl⟩ : ∃ m, k = m + 1 := ⟨k - 1, by omega⟩
      have h5 := h4 k (by omega)
      unfold slices_Index_int_int.l0 gimbalref11_Place.l0
      rw [if_pos (by omega), if_pos (by omega), if_pos (by omega), if_neg (fun e => hx e.symm), if_pos (by omega), if_pos (by omega), if_pos (by omega), if_neg hx, hw]
      exact h5
/-- the place: -1, if it is not there -/
theorem place (l m : List Int) (e : Bool) (hl : l.length ≤ 4096) (x : Int) : ∃ v : Int, -1 ≤ v ∧ v < l.length ∧ (0 ≤ v → rd l v = x) ∧
    ∀ k, l.length < k → slices_Index_int_int.f k l x = some v ∧ gimbalref11_Place.f k l m e x = some v := by
  obtain ⟨v, h1, h2, h3, h4⟩ := search l hl x l.length 0 (by omega) (by omega)
  exact ⟨v, h1, h2, h3, fun k hk => h4 k hk⟩
/-- the node of a scalar that is there, in both -/
theorem node (l m : List Int) (e : Bool) (hl : l.length ≤ 4096) (x : Int) : ∃ v : Int, -1 ≤ v ∧ v < l.length ∧
    (∀ k, l.length < k → gimbalref11_Place.f k l m e x = some v) ∧
    (∀ s : Int, ∀ k, l.length < k → oct_node.f k l m e x s = some (if 0 ≤ v ∧ s < 0 then 2 * v + 1 else 2 * v)) ∧
    (∀ s : Int, s ≠ 0 → 0 ≤ v → gimbalref11_Node.f v s = some (if 0 ≤ v ∧ s < 0 then 2 * v + 1 else 2 * v)) := by
  obtain ⟨v, h1, h2, h3, h4⟩ := place l m e hl x
  have hw : wrap64 (2 * v) = 2 * v := by unfold wrap64; omega
  have hw2 : wrap64 (2 * v + 1) = 2 * v + 1 := by unfold wrap64; omega
  refine ⟨v, h1, h2, fun k hk => (h4 k hk).2, fun s k hk => ?_, fun s hs h0 => ?_⟩
  · unfold oct_node.f
    rw [(h4 k hk).1]
    simp only [Option.bind_some]
    rw [hw, hw2]
    by_cases h0 : v ≥ 0
    · rw [if_pos h0]
      by_cases hs : s < 0
      · rw [if_pos hs, if_pos ⟨h0, hs⟩]
      · rw [if_neg hs, if_neg (fun h => hs h.2)]
    · rw [if_neg h0, if_neg (fun h => h0 h.1)]
  · unfold gimbalref11_Node.f
    rw [hw, hw2]
    by_cases hs' : s < 0
    · rw [if_neg (by omega), if_pos ⟨h0, hs'⟩]
    · rw [if_pos (by omega), if_neg (fun h => hs' h.2)]
end Go.Proofs.Ytomgebmimgaojaa.Places
end
section
/- Bounds of a form: the program's sums with infinity come to the document's. -/
namespace Go.Proofs.Ytomgebmimgaojaa.Arith
open Go.RowKit Go.Proofs.Ytomgebmimgaojaa.QO Go.Proofs.YtomgebmimgaojaaW.PrintWords Go.Proofs.YtomgebmimgaojaaW.PrintLast Go.Proofs.YtomgebmimgaojaaW.PrintMore
/-- a number that is small, or infinity -/
def Sm (g : Int) : Prop := g = 4611686018427387904 ∨ (-4611686018427 ≤ g ∧ g ≤ 4611686018427)
theorem fit_sm {g : Int} (h : Sm g) : bfit g = g := by unfold Sm at h; unfold bfit; repeat' split
                                                       all_goals omega
theorem fit_neg {g : Int} (h : Sm g) : bfit (-g) = -g := by unfold Sm at h; unfold bfit; repeat' split
                                                            all_goals omega
theorem up_sm {c g : Int} (hc : -4611686018427 ≤ c ∧ c ≤ 4611686018427) (hg : Sm g) : bound_Up.f c g = some (if g = 4611686018427387904 then 4611686018427387904 else c + g) := by
  unfold bound_Up.f bound_Fit.f
  rw [fit_sm (.inr hc), fit_sm hg]
  simp only [Option.bind_some]
  rw [if_neg (by omega)]
  by_cases e : g = 4611686018427387904
  · rw [if_pos e, if_pos e]
  · rw [if_neg e, if_neg e]
    have h1 : wrap64 (c + g) = c + g := by unfold Sm at hg; unfold wrap64; omega
    rw [h1]
    unfold Sm at hg; unfold mn mx
    congr 1
    split <;> split <;> omega
theorem neg_sm {g : Int} (hg : Sm g) : bound_Neg.f g = some (-g) := by
  unfold bound_Neg.f bound_Fit.f
  rw [fit_sm hg]
  simp only [Option.bind_some]
  congr 1
  unfold Sm at hg; unfold wrap64; omega
theorem down_sm {c g : Int} (hc : -4611686018427 ≤ c ∧ c ≤ 4611686018427) (hg : Sm g) : bound_Down.f c (-g) = some (if g = 4611686018427387904 then -4611686018427387904 else c - g) := by
  unfold bound_Down.f bound_Fit.f
  rw [fit_sm (.inr hc), fit_neg hg]
  simp only [Option.bind_some]
  have h1 : wrap64 (-c) = -c := by unfold wrap64; omega
  have h2 : wrap64 (- -g) = g := by unfold Sm at hg; unfold wrap64; omega
  rw [h1, h2, up_sm (by omega) hg]
  simp only [Option.bind_some]
  by_cases e : g = 4611686018427387904
  · rw [if_pos e, if_pos e]; congr 1; unfold wrap64; omega
  · rw [if_neg e, if_neg e]
    congr 1
    unfold Sm at hg; unfold wrap64; omega
end Go.Proofs.Ytomgebmimgaojaa.Arith
end
section
/- The document's own closing, ways doubled in length, comes to what the program's closing comes to. -/
noncomputable section
namespace Go.Proofs.Ytomgebmimgaojaa.Pure
open Go.RowKit Go.Proofs.Ytomgebmimgaojaa.QO Go.Proofs.YtomgebmimgaojaaW.PrintWords Go.Proofs.YtomgebmimgaojaaW.PrintLast Go.Proofs.YtomgebmimgaojaaW.PrintMore
open Go.Proofs.Ytomgebmimgaojaa.OctMath (over overs plus Bd Fin' Top62 dbl dbls least IsClosure)
/-- with enough rounds the answer is v -/
def Ev {α : Type} (g : Nat → Option α) (v : α) : Prop := ∃ K, ∀ k, K ≤ k → g k = some v
theorem Ev.step {α : Type} {g h : Nat → Option α} {v : α} (e : ∀ k, g (k + 1) = h k) (hh : Ev h v) : Ev g v := by
  obtain ⟨K, hK⟩ := hh
  refine ⟨K + 1, fun k hk => ?_⟩
  obtain ⟨k, rfl⟩ : ∃ j, k = j + 1 := ⟨k - 1, by omega⟩
  rw [e]; exact hK k (by omega)
theorem Ev.of {α : Type} (v : α) : Ev (fun _ => some v) v := ⟨0, fun _ _ => rfl⟩
theorem Ev.bind {α β : Type} {f : Nat → Option α} {g : Nat → α → Option β} {a : α} {v : β} (hf : Ev f a) (hg : Ev (fun k => g k a) v) : Ev (fun k => (f k).bind (g k)) v := by
  obtain ⟨K, hK⟩ := hf
  obtain ⟨L, hL⟩ := hg
  refine ⟨K + L, fun k hk => ?_⟩
  show (f k).bind (g k) = some v
  rw [hK k (by omega)]; exact hL k (by omega)
theorem Ev.congr {α : Type} {g h : Nat → Option α} {v : α} (e : ∀ k, g k = h k) (hh : Ev h v) : Ev g v := by
  obtain ⟨K, hK⟩ := hh
  exact ⟨K, fun k hk => (e k).trans (hK k hk)⟩
theorem bsome {α β : Type} (a : α) (f : α → Option β) : (some a).bind f = f a := by rw [Option.bind_some]
theorem idx {n i j : Nat} (hn : n ≤ 16) (hi : i ≤ 16) (hj : j ≤ 16) : wrap64 (wrap64 ((i : Int) * (n : Int)) + (j : Int)) = ((i * n + j : Nat) : Int) := by
  have m : i * n ≤ 16 * 16 := Nat.mul_le_mul hi hn
  have e : (i : Int) * (n : Int) = ((i * n : Nat) : Int) := by push_cast; rfl
  rw [e]
  have h1 : wrap64 ((i * n : Nat) : Int) = ((i * n : Nat) : Int) := by unfold wrap64; omega
  rw [h1]; unfold wrap64; omega
theorem sq {n : Nat} (hn : n ≤ 16) : wrap64 ((n : Int) * (n : Int)) = ((n * n : Nat) : Int) := by
  have m : n * n ≤ 16 * 16 := Nat.mul_le_mul hn hn
  have e : (n : Int) * (n : Int) = ((n * n : Nat) : Int) := by push_cast; rfl
  rw [e]; unfold wrap64; omega
theorem suc {i : Nat} (hi : i ≤ 100) : wrap64 ((i : Int) + 1) = ((i + 1 : Nat) : Int) := by unfold wrap64; omega
theorem plus_f {B a b : Int} (hB : B ≤ 1152921504606846976) (ha : Fin' B a) (hb : Fin' B b) : gimbalref11_plus.f a b = some (plus a b) := by
  unfold gimbalref11_plus.f plus
  by_cases h1 : a = 4611686018427387904
  · rw [if_pos h1, if_pos (.inl h1)]
  · rw [if_neg h1]
    by_cases h2 : b = 4611686018427387904
    · rw [if_pos h2, if_pos (.inr h2)]
    · rw [if_neg h2, if_neg (by rintro (h | h) <;> contradiction)]
      unfold Fin' at ha hb
      congr 1; unfold wrap64; omega
theorem in_row {n i j : Nat} {d : Nat → Nat → Int} (hi : i < n) (hj : j < n) : 0 ≤ ((i * n + j : Nat) : Int) ∧ ((i * n + j : Nat) : Int) < ((lst n d).length : Int) := by
  have := ij_lt hi hj
  rw [lst_length]; omega
/-- over the middle nodes -/
theorem l3_ev {n i j : Nat} {A b : Nat → Nat → Int} {B long : Int} {v : List Int × Bool} (hn : n ≤ 16) (hi : i < n) (hj : j < n) (hB : B ≤ 1152921504606846976) (hA : Bd n B A)
    (hv : Ev (fun k => gimbalref11_Tight.l2 k (n : Int) (lst n A) long ((lst n b).set (i * n + j) (dbl n A i j)) (i : Int) ((j + 1 : Nat) : Int)) v) :
    ∀ d kk, kk + d = n → Ev (fun k => gimbalref11_Tight.l3 k (n : Int) (lst n A) long (lst n b) (i : Int) (j : Int) (least A i j kk) (kk : Int)) v := by
  intro d
  induction d with
  | zero =>
    intro kk h
    obtain rfl : kk = n := by omega
    refine Ev.step (fun k => by rw [gimbalref11_Tight.l3]) ?_
    have r := in_row (d := b) hi hj
    simp only [Int.lt_irrefl, if_false, idx hn (by omega : i ≤ 16) (by omega : j ≤ 16), r.1, r.2, if_true, suc (show j ≤ 100 by omega), Int.toNat_natCast]
    exact hv
  | succ d ih =>
    intro kk h
    refine Ev.step (fun k => by rw [gimbalref11_Tight.l3]) ?_
    have r1 := in_row (d := A) hi (show kk < n by omega)
    have r2 := in_row (d := A) (show kk < n by omega) hj
    have hlt : (kk : Int) < (n : Int) := by omega
    simp only [hlt, if_true, idx hn (by omega : i ≤ 16) (by omega : kk ≤ 16), idx hn (by omega : kk ≤ 16) (by omega : j ≤ 16), r1.1, r1.2, r2.1, r2.2, lst_rd (d := A) hi (show kk < n by omega) rfl, lst_rd (d := A) (show kk < n by omega) hj rfl,
      plus_f hB (hA i kk hi (by omega)) (hA kk j (by omega) hj), bsome, suc (show kk ≤ 100 by omega)]
    have := ih (kk + 1) (by omega)
    have e : least A i j (kk + 1) = mn (least A i j kk) (plus (A i kk) (A kk j)) := rfl
    rw [e] at this
    exact this
/-- over a row -/
theorem l2_ev {n i : Nat} {A : Nat → Nat → Int} {B long : Int} {v : List Int × Bool} (hn : n ≤ 16) (hi : i < n) (hB : B ≤ 1152921504606846976) (hA : Bd n B A)
    (hbad : dbl n A i i < 0 → v = ([], false)) (hv : 0 ≤ dbl n A i i → Ev (fun k => gimbalref11_Tight.l1 k (n : Int) (lst n A) long (lst n (upTo (dbl n A) (i + 1) 0)) ((i + 1 : Nat) : Int)) v) :
    ∀ d j, j + d = n → Ev (fun k => gimbalref11_Tight.l2 k (n : Int) (lst n A) long (lst n (upTo (dbl n A) i j)) (i : Int) (j : Int)) v := by
  intro d
  induction d with
  | zero =>
    intro j h
    obtain rfl : j = n := by omega
    refine Ev.step (fun k => by rw [gimbalref11_Tight.l2]) ?_
    have r := in_row (d := upTo (dbl j A) i j) hi hi
    have e : upTo (dbl j A) i j i i = dbl j A i i := by unfold upTo; rw [if_pos (.inr ⟨rfl, hi⟩)]
    simp only [Int.lt_irrefl, if_false, idx hn (by omega : i ≤ 16) (by omega : i ≤ 16), r.1, r.2, if_true, lst_rd (d := upTo (dbl j A) i j) hi hi rfl, e, suc (show i ≤ 100 by omega)]
    by_cases hneg : dbl j A i i < 0
    · rw [hbad hneg]; exact Ev.congr (fun k => if_pos hneg) (Ev.of _)
    · have := hv (by omega)
      rw [lst_congr (fun a b _ hb => (upTo_row (c := dbl j A) (i := i) a b hb).symm)] at this
      exact Ev.congr (fun k => if_neg hneg) this
  | succ d ih =>
    intro j h
    refine Ev.step (fun k => by rw [gimbalref11_Tight.l2]) ?_
    have hj : j < n := by omega
    have r := in_row (d := A) hi hj
    have hlt : (j : Int) < (n : Int) := by omega
    simp only [hlt, if_true, idx hn (by omega : i ≤ 16) (by omega : j ≤ 16), r.1, r.2, lst_rd (d := A) hi hj rfl]
    have h1 := ih (j + 1) (by omega)
    have h2 := lst_set (d := upTo (dbl n A) i j) (v := dbl n A i j) hi hj (q := ((i * n + j : Nat) : Int)) rfl
    rw [Int.toNat_natCast, lst_congr (fun a b _ _ => (upTo_step (c := dbl n A) (i := i) (j := j) a b).symm)] at h2
    rw [← h2] at h1
    exact l3_ev hn hi hj hB hA h1 n 0 (by omega)
/-- over all rows -/
theorem l1_ev {n : Nat} {A : Nat → Nat → Int} {B long : Int} {v : List Int × Bool} (hn : n ≤ 16) (hB : B ≤ 1152921504606846976) (hA : Bd n B A)
    (hbad : (∃ i, i < n ∧ dbl n A i i < 0) → v = ([], false)) (hv : (∀ i, i < n → 0 ≤ dbl n A i i) → Ev (fun k => gimbalref11_Tight.l0 k (n : Int) (lst n (dbl n A)) (wrap64 (2 * long))) v) :
    ∀ d i, i + d = n → (∀ a, a < i → 0 ≤ dbl n A a a) → Ev (fun k => gimbalref11_Tight.l1 k (n : Int) (lst n A) long (lst n (upTo (dbl n A) i 0)) (i : Int)) v := by
  intro d
  induction d with
  | zero =>
    intro i h hp
    obtain rfl : i = n := by omega
    refine Ev.step (fun k => by rw [gimbalref11_Tight.l1]) ?_
    simp only [Int.lt_irrefl, if_false]
    rw [lst_congr (fun a b ha _ => upTo_all a b ha)]
    exact hv hp
  | succ d ih =>
    intro i h hp
    refine Ev.step (fun k => by rw [gimbalref11_Tight.l1]) ?_
    have hlt : (i : Int) < (n : Int) := by omega
    simp only [hlt, if_true]
    refine l2_ev hn (by omega) hB hA (fun hb => hbad ⟨i, by omega, hb⟩) (fun hg => ih (i + 1) (by omega) (fun a ha => ?_)) n 0 (by omega)
    by_cases e : a = i
    · rw [e]; exact hg
    · exact hp a (by omega)
theorem half_f {x : Int} (h : Fin' 1152921504606846976 x) (hx : x ≠ 4611686018427387904) : gimbalref11_halved.f x = some (half x) := by
  unfold gimbalref11_halved.f half
  unfold Fin' at h
  rw [if_neg hx]
  by_cases h0 : x ≥ 0
  · rw [if_pos h0, Int.tdiv_eq_ediv_of_nonneg h0]; congr 1; unfold wrap64; omega
  · rw [if_neg h0]
    have e : wrap64 (1 - x) = 1 - x := by unfold wrap64; omega
    rw [e, Int.tdiv_eq_ediv_of_nonneg (by omega)]; congr 1; unfold wrap64; omega
theorem bar_f {i n : Nat} (hn : n ≤ 16) (hi : i < n) : gimbalref11_bar.f (i : Int) = some ((nb i : Nat) : Int) := by
  unfold gimbalref11_bar.f; rw [if_pos (by omega), nbar_nb]
theorem plus_fin {a b : Int} (ha : Fin' 288230376151711744 a) (hb : Fin' 288230376151711744 b) : Fin' 1152921504606846976 (plus a b) := by
  unfold plus Fin' at *; split <;> omega
theorem strg_inf {T : Nat → Nat → Int} {i j : Nat} (hx : Fin' 288230376151711744 (T i j)) (hs : plus (T i (nb i)) (T (nb j) j) = 4611686018427387904) : strg T i j = T i j := by
  unfold strg half mn; rw [if_pos hs, hs]
  unfold Fin' at hx; rw [if_neg (by omega)]
/-- the last loops: by way of the scalars' own bounds -/
theorem l7_ev {n i : Nat} {T : Nat → Nat → Int} {v : List Int × Bool} (hn : n ≤ 16) (he : ∀ a, a < n → nb a < n) (hi : i < n) (hT : Bd n 288230376151711744 T)
    (hv : Ev (fun k => gimbalref11_Tight.l6 k (n : Int) (lst n T) (lst n (upTo (strg T) (i + 1) 0)) ((i + 1 : Nat) : Int)) v) :
    ∀ d j, j + d = n → Ev (fun k => gimbalref11_Tight.l7 k (n : Int) (lst n T) (lst n (upTo (strg T) i j)) (i : Int) (j : Int)) v := by
  intro d
  induction d with
  | zero =>
    intro j h
    obtain rfl : j = n := by omega
    refine Ev.step (fun k => by rw [gimbalref11_Tight.l7]) ?_
    simp only [Int.lt_irrefl, if_false, suc (show i ≤ 100 by omega)]
    rw [lst_congr (fun a b _ hb => (upTo_row (c := strg T) (i := i) a b hb).symm)] at hv
    exact hv
  | succ d ih =>
    intro j h
    refine Ev.step (fun k => by rw [gimbalref11_Tight.l7]) ?_
    have hj : j < n := by omega
    have hlt : (j : Int) < (n : Int) := by omega
    have r0 := in_row (d := T) hi hj
    have r1 := in_row (d := upTo (strg T) i j) hi hj
    have r2 := in_row (d := T) hi (he i hi)
    have r3 := in_row (d := T) (he j hj) hj
    have l1 := he i hi; have l2 := he j hj
    have hp := plus_f (B := 1152921504606846976) (by decide) (OctMath.fin_mono (hT i (nb i) hi l1) (by decide)) (OctMath.fin_mono (hT (nb j) j l2 hj) (by decide))
    simp only [hlt, if_true, idx hn (by omega : i ≤ 16) (by omega : j ≤ 16), r0.1, r0.2, r1.2, lst_rd (d := T) hi hj rfl, bsome, bar_f hn hi, bar_f hn hj, idx hn (by omega : i ≤ 16) (by omega : nb i ≤ 16), r2.1, r2.2,
      idx hn (by omega : nb j ≤ 16) (by omega : j ≤ 16), r3.1, r3.2, lst_rd (d := T) hi l1 rfl, lst_rd (d := T) l2 hj rfl, hp, suc (show j ≤ 100 by omega), Int.toNat_natCast]
    have h1 := ih (j + 1) (by omega)
    have s1 : ∀ w : Int, (lst n (upTo (strg T) i j)).set (i * n + j) w = lst n (fun a b => if a = i ∧ b = j then w else upTo (strg T) i j a b) := fun w => by
      have := lst_set (d := upTo (strg T) i j) (v := w) hi hj (q := ((i * n + j : Nat) : Int)) rfl
      rwa [Int.toNat_natCast] at this
    have hx := hT i j hi hj
    clear h
    have hq1 := hT i (nb i) hi l1; have hq2 := hT (nb j) j l2 hj
    by_cases hs : plus (T i (nb i)) (T (nb j) j) = 4611686018427387904
    · refine Ev.congr (fun k => if_pos hs) ?_
      have e : strg T i j = T i j := strg_inf hx hs
      rw [s1, ← e, lst_congr (fun a b _ _ => (upTo_step (c := strg T) (i := i) (j := j) a b).symm)]
      exact h1
    · refine Ev.congr (fun k => if_neg hs) ?_
      have hb := plus_fin hq1 hq2
      rw [half_f hb hs]
      simp only [bsome]
      rw [s1, lst_rd hi hj rfl, if_pos ⟨rfl, rfl⟩]
      have s2 := lst_set (d := fun a b => if a = i ∧ b = j then T i j else upTo (strg T) i j a b) (v := mn (T i j) (half (plus (T i (nb i)) (T (nb j) j)))) hi hj (q := ((i * n + j : Nat) : Int)) rfl
      rw [Int.toNat_natCast] at s2
      have s3 : lst n (fun a b => if a = i ∧ b = j then mn (T i j) (half (plus (T i (nb i)) (T (nb j) j))) else if a = i ∧ b = j then T i j else upTo (strg T) i j a b) = lst n (upTo (strg T) i (j + 1)) := lst_congr (fun a b _ _ => by
        rw [upTo_step]
        by_cases h : a = i ∧ b = j
        · rw [if_pos h, if_pos h]; rfl
        · rw [if_neg h, if_neg h, if_neg h])
      rw [s2, s3]
      exact h1
theorem l6_ev {n : Nat} {T : Nat → Nat → Int} (hn : n ≤ 16) (he : ∀ a, a < n → nb a < n) (hT : Bd n 288230376151711744 T) :
    ∀ d i, i + d = n → Ev (fun k => gimbalref11_Tight.l6 k (n : Int) (lst n T) (lst n (upTo (strg T) i 0)) (i : Int)) (lst n (strg T), true) := by
  intro d
  induction d with
  | zero =>
    intro i h
    obtain rfl : i = n := by omega
    refine Ev.step (fun k => by rw [gimbalref11_Tight.l6]) ?_
    simp only [Int.lt_irrefl, if_false]
    rw [lst_congr (fun a b ha _ => upTo_all a b ha)]
    exact Ev.of _
  | succ d ih =>
    intro i h
    refine Ev.step (fun k => by rw [gimbalref11_Tight.l6]) ?_
    have hlt : (i : Int) < (n : Int) := by omega
    simp only [hlt, if_true]
    exact l7_ev hn he (by omega) hT (ih (i + 1) (by omega)) n 0 (by omega)
/-- is there no value? -/
theorem l5_ev {n : Nat} {T : Nat → Nat → Int} {v : List Int × Bool} (hn : n ≤ 16) (he : ∀ a, a < n → nb a < n) (hT : Bd n 288230376151711744 T)
    (hbad : ¬ StrOk n T → v = ([], false)) (hv : StrOk n T → v = (lst n (strg T), true)) :
    ∀ d i, i + d = n → (∀ a, a < i → 0 ≤ plus (T a (nb a)) (T (nb a) a)) → Ev (fun k => gimbalref11_Tight.l5 k (n : Int) (lst n T) (i : Int)) v := by
  intro d
  induction d with
  | zero =>
    intro i h hp
    obtain rfl : i = n := by omega
    refine Ev.step (fun k => by rw [gimbalref11_Tight.l5]) ?_
    have m : i * i ≤ 16 * 16 := Nat.mul_le_mul hn hn
    have c1 : (0 : Int) ≤ ((i * i : Nat) : Int) := by omega
    have c2 : i * i ≤ 35184372088832 := by omega
    simp only [Int.lt_irrefl, if_false, sq hn, c1, c2, if_true, Int.toNat_natCast]
    rw [lst_zero i (strg T), hv hp]
    exact l6_ev hn he hT i 0 (by omega)
  | succ d ih =>
    intro i h hp
    refine Ev.step (fun k => by rw [gimbalref11_Tight.l5]) ?_
    have hi : i < n := by omega
    have hlt : (i : Int) < (n : Int) := by omega
    have l1 := he i hi
    have r2 := in_row (d := T) hi l1
    have r3 := in_row (d := T) l1 hi
    have hpl := plus_f (B := 1152921504606846976) (by decide) (OctMath.fin_mono (hT i (nb i) hi l1) (by decide)) (OctMath.fin_mono (hT (nb i) i l1 hi) (by decide))
    simp only [hlt, if_true, bar_f hn hi, bsome, idx hn (by omega : i ≤ 16) (by omega : nb i ≤ 16), r2.1, r2.2, idx hn (by omega : nb i ≤ 16) (by omega : i ≤ 16), r3.1, r3.2, lst_rd (d := T) hi l1 rfl, lst_rd (d := T) l1 hi rfl, hpl, suc (show i ≤ 100 by omega)]
    by_cases hs : plus (T i (nb i)) (T (nb i) i) < 0
    · rw [hbad (fun h => by have := h i hi; omega)]
      exact Ev.congr (fun k => if_pos hs) (Ev.of _)
    · refine Ev.congr (fun k => if_neg hs) (ih (i + 1) (by omega) (fun a ha => ?_))
      by_cases e : a = i
      · subst e; omega
      · exact hp a (by omega)
theorem even_w {D : Nat → Nat → Int} {i : Nat} (hb : Fin' 72057594037927936 (D i (nb i))) (hs : D i (nb i) ≠ 4611686018427387904) : wrap64 (2 * half (D i (nb i))) = tig D i (nb i) := by
  have e : tig D i (nb i) = 2 * (D i (nb i) / 2) := by unfold tig; rw [if_pos rfl, if_neg hs]
  have e1 : half (D i (nb i)) = D i (nb i) / 2 := by unfold half; rw [if_neg hs]
  rw [e, e1]
  unfold Fin' at hb
  generalize D i (nb i) = x at *
  unfold wrap64; omega
/-- the scalars' own bounds are made even -/
theorem l4_ev {n : Nat} {D : Nat → Nat → Int} {v : List Int × Bool} (hn : n ≤ 16) (he : ∀ a, a < n → nb a < n) (hD : Bd n 72057594037927936 D)
    (hbad : ¬ StrOk n (tig D) → v = ([], false)) (hv : StrOk n (tig D) → v = (lst n (strg (tig D)), true)) :
    ∀ d i, i + d = n → Ev (fun k => gimbalref11_Tight.l4 k (n : Int) (lst n (tigTo D i)) (i : Int)) v := by
  intro d
  induction d with
  | zero =>
    intro i h
    obtain rfl : i = n := by omega
    refine Ev.step (fun k => by rw [gimbalref11_Tight.l4]) ?_
    simp only [Int.lt_irrefl, if_false]
    rw [lst_congr (fun a b ha _ => tigTo_all a b ha)]
    have hT : Bd i 288230376151711744 (tig D) := fun a b ha hb => OctMath.fin_mono (tig_bd hD (by decide) a b ha hb) (by decide)
    exact l5_ev hn he hT hbad hv i 0 (by omega) (fun a ha => absurd ha (by omega))
  | succ d ih =>
    intro i h
    refine Ev.step (fun k => by rw [gimbalref11_Tight.l4]) ?_
    have hi : i < n := by omega
    have hlt : (i : Int) < (n : Int) := by omega
    have l1 := he i hi
    have r2 := in_row (d := tigTo D i) hi l1
    have ed : tigTo D i i (nb i) = D i (nb i) := by unfold tigTo; rw [if_neg (by omega)]
    simp only [hlt, if_true, bar_f hn hi, bsome, idx hn (by omega : i ≤ 16) (by omega : nb i ≤ 16), r2.1, r2.2, lst_rd (d := tigTo D i) hi l1 rfl, ed, suc (show i ≤ 100 by omega), Int.toNat_natCast]
    have h1 := ih (i + 1) (by omega)
    by_cases hs : D i (nb i) = 4611686018427387904
    · refine Ev.congr (fun k => if_pos hs) ?_
      rw [lst_congr (e := tigTo D (i + 1)) (fun a b _ _ => by
        rw [tigTo_step a b]
        by_cases h : a = i ∧ b = nb i
        · rw [if_pos h, h.1, h.2, ed]; unfold tig; rw [if_pos rfl, if_pos hs, hs]
        · rw [if_neg h])]
      exact h1
    · refine Ev.congr (fun k => if_neg hs) ?_
      have hb := hD i (nb i) hi l1
      rw [half_f (OctMath.fin_mono hb (by decide)) hs]
      simp only [bsome]
      have e2 := even_w hb hs
      have s2 := lst_set (d := tigTo D i) (v := tig D i (nb i)) hi l1 (q := ((i * n + nb i : Nat) : Int)) rfl
      rw [Int.toNat_natCast, lst_congr (fun a b _ _ => (tigTo_step (d := D) (i := i) a b).symm)] at s2
      rw [e2, s2]
      exact h1
/-- what the document's Tight answers -/
def tightR (n : Nat) (M : Nat → Nat → Int) : List Int × Bool := if closeB n M = true then (lst n (strg (tig (overs M n))), true) else ([], false)
theorem l0_ev {n : Nat} {M : Nat → Nat → Int} (hn : n ≤ 16) (he : ∀ a, a < n → nb a < n) (hM : Bd n 1099511627776 M) (hd : ∀ i, i < n → M i i = 0) :
    ∀ d t, t + d = 6 → (∀ s i, s ≤ t → i < n → 0 ≤ dbls n M s i i) → Ev (fun k => gimbalref11_Tight.l0 k (n : Int) (lst n (dbls n M t)) (2 ^ t)) (tightR n M) := by
  have top : Top62 n M := OctMath.fin_of_low hM (by decide)
  have w2 : wrap64 (2 * (n : Int)) = 2 * (n : Int) := by unfold wrap64; omega
  have bd : ∀ t, t ≤ 6 → Bd n 70368744177664 (dbls n M t) := fun t ht i j hi hj => by
    have hp : (2 : Int) ^ t ≤ 2 ^ 6 := by
      have := Nat.pow_le_pow_right (n := 2) (by decide) ht
      exact_mod_cast this
    have h4 : (1099511627776 : Int) * 2 ^ t ≤ 1099511627776 * 2 ^ 6 := Int.mul_le_mul_of_nonneg_left hp (by decide)
    exact OctMath.fin_mono (OctMath.bd_dbls hM (by decide) t (by omega) i j hi hj) (by omega)
  have pw : (2 : Int) ^ n ≤ 2 ^ 16 := by
    have := Nat.pow_le_pow_right (n := 2) (by decide) hn
    exact_mod_cast this
  have h16 : (1099511627776 : Int) * 2 ^ n ≤ 1099511627776 * 2 ^ 16 := Int.mul_le_mul_of_nonneg_left pw (by decide)
  have floyd : FloydOk n M → IsClosure n M true (overs M n) ∧ Top62 n (overs M n) := fun h =>
    ⟨OctMath.overs_closure hM (by decide) (by omega) hd (fun k i hk hi => h k i hk hi), OctMath.fin_of_low (overs_bd hM hn) (by decide)⟩
  have nofloyd : ¬ FloydOk n M → IsClosure n M false (overs M n) := fun h => by
    obtain ⟨t, h⟩ := Classical.not_forall.1 h
    obtain ⟨i, h⟩ := Classical.not_forall.1 h
    have h1 : t ≤ n ∧ i < n ∧ overs M t i i < 0 := by
      refine ⟨?_, ?_, ?_⟩
      · exact Classical.byContradiction fun e => h (fun a => absurd a e)
      · exact Classical.byContradiction fun e => h (fun _ a => absurd a e)
      · exact Classical.byContradiction fun e => h (fun _ _ => by omega)
    exact OctMath.overs_none top h1.1 h1.2.1 h1.2.2
  have same : ∀ {b : Bool} {e : Nat → Nat → Int}, IsClosure n M b e → (b = true → Top62 n e) → (b = true ↔ FloydOk n M) ∧ (b = true → ∀ i j, i < n → j < n → e i j = overs M n i j) := fun {b e} hc ht => by
    by_cases hf : FloydOk n M
    · have := OctMath.closure_unique hc (floyd hf).1 ht (fun _ => (floyd hf).2)
      exact ⟨⟨fun _ => hf, fun _ => this.1⟩, this.2⟩
    · have := OctMath.closure_unique hc (nofloyd hf) ht (fun h => by cases h)
      exact ⟨⟨(fun h => by rw [this.1] at h; cases h), fun h => absurd h hf⟩, this.2⟩
  have last : ∀ t, t ≤ 6 → ¬ ((2 : Int) ^ t ≤ 2 * (n : Int)) → (∀ s i, s ≤ t → i < n → 0 ≤ dbls n M s i i) → Ev (fun k => gimbalref11_Tight.l4 k (n : Int) (lst n (dbls n M t)) 0) (tightR n M) := fun t ht h2 hp => by
    have h3 : n + 1 ≤ 2 ^ t := by
      have : (n : Int) + 1 ≤ 2 ^ t := by omega
      exact_mod_cast this
    have h5 : (2 : Int) ^ t ≤ 2 ^ 6 := by
      have := Nat.pow_le_pow_right (n := 2) (by decide) ht
      exact_mod_cast this
    have h4 : (1099511627776 : Int) * 2 ^ t ≤ 1099511627776 * 2 ^ 6 := Int.mul_le_mul_of_nonneg_left h5 (by decide)
    have hcl := OctMath.dbls_closure (t := t) hM (by decide) hd (by omega) h3 (fun i hi => hp t i (Nat.le_refl _) hi)
    have hs := same hcl (fun _ => OctMath.fin_of_low (bd t ht) (by decide))
    have hok := hs.1.1 rfl
    rw [lst_congr (e := tigTo (overs M n) 0) (fun a b ha hb => by rw [hs.2 rfl a b ha hb, tigTo_zero])]
    refine l4_ev hn he (overs_bd hM hn) (fun hb => ?_) (fun hg => ?_) n 0 (by omega)
    · unfold tightR; rw [closeB_false.2 (fun h => hb h.2)]; rfl
    · unfold tightR; rw [if_pos (closeB_true.2 ⟨hok, hg⟩)]
  intro d
  induction d with
  | zero =>
    intro t h hp
    obtain rfl : t = 6 := by omega
    refine Ev.step (fun k => by rw [gimbalref11_Tight.l0]) ?_
    have c : ¬ ((2 : Int) ^ 6 ≤ 2 * (n : Int)) := by omega
    simp only [w2, c, if_false]
    exact last 6 (Nat.le_refl _) c hp
  | succ d ih =>
    intro t h hp
    refine Ev.step (fun k => by rw [gimbalref11_Tight.l0]) ?_
    simp only [w2]
    by_cases c : (2 : Int) ^ t ≤ 2 * (n : Int)
    · have m : n * n ≤ 16 * 16 := Nat.mul_le_mul hn hn
      have c1 : (0 : Int) ≤ ((n * n : Nat) : Int) := by omega
      have c2 : n * n ≤ 35184372088832 := by omega
      simp only [c, if_true, sq hn, c1, c2, Int.toNat_natCast]
      rw [lst_zero n (dbl n (dbls n M t))]
      refine l1_ev hn (by decide) (bd t (by omega)) (fun hb => ?_) (fun hg => ?_) n 0 (by omega) (fun a ha => absurd ha (by omega))
      · obtain ⟨i, hi, hneg⟩ := hb
        have hc : IsClosure n M false (overs M n) := OctMath.dbls_none (t := t + 1) top hi hneg
        have hs := same hc (fun h => by cases h)
        unfold tightR
        rw [closeB_false.2 (fun h => by have := hs.1.2 h.1; cases this)]; rfl
      · have e : wrap64 (2 * (2 : Int) ^ t) = 2 ^ (t + 1) := by
          have e1 : (2 : Int) ^ (t + 1) = 2 * 2 ^ t := by rw [Int.pow_succ]; omega
          have e2 : (0 : Int) ≤ 2 ^ t := Int.pow_nonneg (by decide)
          rw [e1]; unfold wrap64; omega
        rw [e]
        refine ih (t + 1) (by omega) (fun s i hs hi => ?_)
        by_cases e : s = t + 1
        · rw [e]; exact hg i hi
        · exact hp s i (by omega) hi
    · simp only [c, if_false]
      exact last t (by omega) c hp
/-- **the document's Tight** -/
theorem tight_ev {nv : Nat} {m : List Int} {M : Nat → Nat → Int} (hn : nv ≤ 8) (hm : m = lst (2 * nv) M) (hM : Bd (2 * nv) 1099511627776 M) (hd : ∀ i, i < 2 * nv → M i i = 0) :
    Ev (fun k => gimbalref11_Tight.f k m (wrap64 (2 * (nv : Int)))) (tightR (2 * nv) M) := by
  have w2 : wrap64 (2 * (nv : Int)) = ((2 * nv : Nat) : Int) := by unfold wrap64; omega
  have hl : m.length ≤ 256 := by rw [hm, lst_length]; exact Nat.mul_le_mul (show 2 * nv ≤ 16 by omega) (show 2 * nv ≤ 16 by omega)
  refine Ev.congr (fun k => by unfold gimbalref11_Tight.f; rw [if_pos (by simp; omega), List.nil_append, w2]) ?_
  rw [hm]
  exact l0_ev (n := 2 * nv) (by omega) (fun a ha => nb_lt ha) hM hd 6 0 (by omega) (fun s i hs hi => by
    have e : s = 0 := by omega
    rw [e]; show 0 ≤ M i i; rw [hd i hi]; exact Int.le_refl _)
theorem clip_f (x : Int) : gimbalref11_clip.f x = some (clipV x) := by
  unfold gimbalref11_clip.f clipV
  split
  · rfl
  · split <;> rfl
theorem clip_loop (vars : List Int) : ∀ (d : Nat) (l : List Int) (i : Nat) (done : List Int), i + d = l.length → l.length ≤ 1000 → done.length ≤ 1000 + i →
    Ev (fun k => gimbalref11_Close.l0 k l (l.length : Int) (i : Int) vars done false) (vars, done ++ (l.drop i).map clipV, false) := by
  intro d
  induction d with
  | zero =>
    intro l i done h _ _
    refine Ev.step (fun k => by rw [gimbalref11_Close.l0]) ?_
    have c : ¬ ((i : Int) < (l.length : Int)) := by omega
    simp only [c, if_false]
    rw [List.drop_of_length_le (by omega), List.map_nil, List.append_nil]
    exact Ev.of _
  | succ d ih =>
    intro l i done h hl hd
    refine Ev.step (fun k => by rw [gimbalref11_Close.l0]) ?_
    have c : (i : Int) < (l.length : Int) := by omega
    have c0 : (0 : Int) ≤ (i : Int) := by omega
    have c1 : done.length < 17592186044416 := by omega
    have hw : wrap64 ((i : Int) + 1) = ((i + 1 : Nat) : Int) := by unfold wrap64; omega
    simp only [c, c0, if_true, clip_f, bsome, c1, hw]
    have e : done ++ (l.drop i).map clipV = (done ++ [clipV (rd l (i : Int))]) ++ (l.drop (i + 1)).map clipV := by
      rw [List.drop_eq_getElem_cons (by omega), List.map_cons]
      have : rd l (i : Int) = l[i] := by unfold rd; rw [Int.toNat_natCast]; simp [show i < l.length by omega]
      rw [this]; simp
    rw [e]
    exact ih l (i + 1) _ (by omega) hl (by simp; omega)
/-- **the document's Close is the program's** -/
theorem close_ev {vars m : List Int} {empty : Bool} (h : OFit vars m empty) : Ev (fun k => gimbalref11_Close.f k vars m empty) (closeF vars m empty) := by
  have h8 := h.1.1
  have hc : gimbalref11_copied.f vars = some vars := by unfold gimbalref11_copied.f; rw [if_pos (by simp; omega)]; rfl
  have hb : gimbalref11_Bottom.f vars = some (vars, [], true) := by unfold gimbalref11_Bottom.f gimbalref11_VarsFit.f; rw [varsB_true.2 h.1, bsome, if_pos rfl, hc]; rfl
  cases empty with
  | true =>
    refine Ev.congr (fun k => ?_) (Ev.of _)
    unfold gimbalref11_Close.f closeF
    rw [if_pos rfl, if_pos rfl, hb]; rfl
  | false =>
    obtain ⟨hM, hd⟩ := lowM_ok h
    have hm : m = lst (2 * vars.length) (lowM vars.length m) := by
      have hl : m.length = (2 * vars.length) * (2 * vars.length) := by
        have h1 := (h.2.2 rfl).1
        have e : ((m.length : Nat) : Int) = (((2 * vars.length) * (2 * vars.length) : Nat) : Int) := by rw [h1]; push_cast; rfl
        omega
      apply List.ext_getElem
      · rw [lst_length]; exact hl
      · intro t h1 h2
        have ht : t < (2 * vars.length) * (2 * vars.length) := by omega
        have h0 : 0 < 2 * vars.length := by
          rcases Nat.eq_zero_or_pos (2 * vars.length) with e | e
          · rw [e] at ht; omega
          · exact e
        have ha : t / (2 * vars.length) < 2 * vars.length := Nat.div_lt_of_lt_mul ht
        have hb := Nat.mod_lt t h0
        have hdm := Nat.div_add_mod t (2 * vars.length)
        simp only [lst, List.getElem_map, List.getElem_range]
        generalize t / (2 * vars.length) = a at *
        generalize t % (2 * vars.length) = b at *
        unfold lowM
        rw [lowAt_same h (by omega) (by omega) (by omega) (by omega)]
        have e : (a : Int) * (2 * (vars.length : Int)) + (b : Int) = (t : Int) := by
          have e2 : ((2 * vars.length * a + b : Nat) : Int) = (t : Int) := by rw [hdm]
          push_cast at e2
          rw [Int.mul_comm]; exact e2
        rw [e]; unfold rd; rw [Int.toNat_natCast]; simp [h1]
    have ht := tight_ev h8 hm hM hd
    refine Ev.congr (h := fun k => (gimbalref11_Tight.f k m (wrap64 (2 * (vars.length : Int)))).bind fun bt => (if bt.2 = true then ((gimbalref11_copied.f vars).bind fun t286 => (gimbalref11_Close.l0 k bt.1 (bt.1.length : Int) 0 t286 ([] : List Int) false)) else ((gimbalref11_Bottom.f vars).bind fun bt279 => (some (bt279.1, bt279.2.1, bt279.2.2))))) (fun k => by unfold gimbalref11_Close.f; rw [if_neg (by decide)]) ?_
    refine Ev.bind ht ?_
    unfold tightR closeF closeL
    rw [if_neg (show ¬ (false = true) by decide)]
    by_cases hcb : closeB (2 * vars.length) (lowM vars.length m) = true
    · rw [if_pos hcb, if_pos hcb, hcb]
      simp only [if_true, hc, bsome]
      have := clip_loop vars _ (lst (2 * vars.length) (strg (tig (overs (lowM vars.length m) (2 * vars.length))))) 0 [] (Nat.zero_add _) (by rw [lst_length]; exact Nat.le_trans (Nat.mul_le_mul (show 2 * vars.length ≤ 16 by omega) (show 2 * vars.length ≤ 16 by omega)) (by decide)) (by simp)
      rw [List.nil_append, List.drop_zero] at this
      have e : (lst (2 * vars.length) (strg (tig (overs (lowM vars.length m) (2 * vars.length))))).map clipV = lst (2 * vars.length) (closeM (2 * vars.length) (lowM vars.length m)) := by
        unfold lst closeM; rw [List.map_map]; rfl
      rw [e] at this
      exact this
    · rw [if_neg hcb, if_neg hcb]
      have hcb' : closeB (2 * vars.length) (lowM vars.length m) = false := by simpa using hcb
      rw [hcb']
      simp only [Bool.false_eq_true, if_false, hb, bsome]
      exact Ev.of _
end Go.Proofs.Ytomgebmimgaojaa.Pure
end
end
section
/- The greatest value of a form over a closed octagon: the program's and the document's. -/
namespace Go.Proofs.Ytomgebmimgaojaa.Most
open Go.RowKit Go.Proofs.Ytomgebmimgaojaa.QO Go.Proofs.YtomgebmimgaojaaW.PrintWords Go.Proofs.YtomgebmimgaojaaW.PrintLast Go.Proofs.YtomgebmimgaojaaW.PrintMore
open OctMath (Fin')
open Go.Proofs.Ytomgebmimgaojaa.Pure (bsome half_f)
/-- a closed matrix, as it is read -/
structure Mat (n : Nat) (m : List Int) : Prop where
  n8 : n ≤ 8
  len : (m.length : Int) = (2 * (n : Int)) * (2 * (n : Int))
  sm : ∀ i j : Int, 0 ≤ i → i < 2 * (n : Int) → 0 ≤ j → j < 2 * (n : Int) → Arith.Sm (rd m (i * (2 * (n : Int)) + j))
  low : ∀ i j : Int, 0 ≤ i → i < 2 * (n : Int) → 0 ≤ j → j < 2 * (n : Int) → lowAt (2 * (n : Int)) m i j = rd m (i * (2 * (n : Int)) + j)
theorem half_sm {g : Int} (h : Arith.Sm g) : Arith.Sm (half g) := by
  unfold Arith.Sm at *; unfold half; split <;> omega
theorem idx {n i j : Int} (hn : n ≤ 16) (hi : 0 ≤ i) (hi' : i < n) (hj : 0 ≤ j) (hj' : j < n) : wrap64 (wrap64 (i * n) + j) = i * n + j ∧ 0 ≤ i * n + j ∧ i * n + j < n * n := by
  have h1 : 0 ≤ i * n := Int.mul_nonneg hi (by omega)
  have h2 : (i + 1) * n ≤ n * n := Int.mul_le_mul_of_nonneg_right (by omega) (by omega)
  have h3 : n * n ≤ 16 * 16 := Int.mul_le_mul hn hn (by omega) (by decide)
  rw [Int.add_mul, Int.one_mul] at h2
  have h4 : wrap64 (i * n) = i * n := by unfold wrap64; omega
  rw [h4]
  refine ⟨by unfold wrap64; omega, by omega, by omega⟩
/-- both come to the same, where the scalars are there -/
theorem most (l m : List Int) (e : Bool) (h : Mat l.length m) (x sx y sy c : Int)
    (hx : sx ≠ 0 → ∀ v, (∀ k, l.length < k → gimbalref11_Place.f k l m e x = some v) → 0 ≤ v)
    (hy : sx ≠ 0 → sy ≠ 0 → ∀ v, (∀ k, l.length < k → gimbalref11_Place.f k l m e y = some v) → 0 ≤ v) :
    ∃ g, Arith.Sm g ∧ ∀ k, l.length < k → oct_most.f k l m e x sx y sy c = some g ∧ gimbalref11_greatest.f k l m e x sx y sy c = some g := by
  have n8 := h.n8
  have hw : wrap64 (2 * (l.length : Int)) = 2 * (l.length : Int) := by unfold wrap64; omega
  by_cases h0 : sx = 0
  · refine ⟨0, .inr (by omega), fun k hk => ?_⟩
    unfold oct_most.f gimbalref11_greatest.f
    rw [if_pos h0, if_pos h0]; exact ⟨rfl, rfl⟩
  · obtain ⟨v, v1, v2, v3, v4, v5⟩ := Places.node l m e (by omega) x
    have v0 := hx h0 v v3
    obtain ⟨X, hX⟩ : ∃ X, (if 0 ≤ v ∧ sx < 0 then 2 * v + 1 else 2 * v) = X := ⟨_, rfl⟩
    have X0 : 0 ≤ X ∧ X < 2 * (l.length : Int) := by rw [← hX]; split <;> omega
    have nX := nbar_in (i := X) (n := l.length) X0.1 X0.2
    have hb : gimbalref11_bar.f X = some (nbar X) := by unfold gimbalref11_bar.f; rw [if_pos ⟨X0.1, by omega⟩]
    by_cases hs : sy = 0
    · obtain ⟨i1, i2, i3⟩ := idx (n := 2 * (l.length : Int)) (by omega) nX.1 nX.2 X0.1 X0.2
      have hsm := h.sm (nbar X) X nX.1 nX.2 X0.1 X0.2
      obtain ⟨g, hg⟩ : ∃ g, rd m (nbar X * (2 * (l.length : Int)) + X) = g := ⟨_, rfl⟩
      rw [hg] at hsm
      have hf : Fin' 1152921504606846976 g := by unfold Arith.Sm at hsm; unfold OctMath.Fin'; omega
      refine ⟨half g, half_sm hsm, fun k hk => ?_⟩
      unfold oct_most.f gimbalref11_greatest.f
      rw [if_neg h0, if_neg h0, v4 sx k hk, v3 k hk, hX, bsome, if_pos ⟨n8, h.len, X0.1, X0.2⟩, if_pos hs, h.low _ _ nX.1 nX.2 X0.1 X0.2, hg, half_half hf, bsome, v5 sx h0 v0, hX, bsome, if_pos hs, hb, bsome, hw, i1, if_pos i2, if_pos (by rw [h.len]; exact i3), hg]
      refine ⟨rfl, ?_⟩
      by_cases he : g = 4611686018427387904
      · rw [if_pos he]; unfold half; rw [if_pos he, he]
      · rw [if_neg he, half_f hf he, bsome]
    · obtain ⟨u, u1, u2, u3, u4, u5⟩ := Places.node l m e (by omega) y
      have u0 := hy h0 hs u u3
      obtain ⟨Y, hY⟩ : ∃ Y, (if 0 ≤ u ∧ sy < 0 then 2 * u + 1 else 2 * u) = Y := ⟨_, rfl⟩
      have Y0 : 0 ≤ Y ∧ Y < 2 * (l.length : Int) := by rw [← hY]; split <;> omega
      obtain ⟨i1, i2, i3⟩ := idx (n := 2 * (l.length : Int)) (by omega) nX.1 nX.2 Y0.1 Y0.2
      refine ⟨rd m (nbar X * (2 * (l.length : Int)) + Y), h.sm _ _ nX.1 nX.2 Y0.1 Y0.2, fun k hk => ?_⟩
      unfold oct_most.f gimbalref11_greatest.f
      rw [if_neg h0, if_neg h0, v4 sx k hk, v3 k hk, hX, bsome, if_pos ⟨n8, h.len, X0.1, X0.2⟩, if_neg hs, u4 sy k hk, hY, bsome, if_pos ⟨Y0.1, Y0.2⟩, h.low _ _ nX.1 nX.2 Y0.1 Y0.2, bsome, v5 sx h0 v0, hX, bsome, if_neg hs, u3 k hk, bsome, u5 sy hs u0, hY, bsome, hb, bsome, hw, i1, if_pos i2, if_pos (by rw [h.len]; exact i3)]
      exact ⟨rfl, rfl⟩
end Go.Proofs.Ytomgebmimgaojaa.Most
end
section
/- The interval of a form over a closed octagon: the program's and the document's. -/
namespace Go.Proofs.Ytomgebmimgaojaa.Bnds
open Go.RowKit Go.Proofs.Ytomgebmimgaojaa.QO Go.Proofs.YtomgebmimgaojaaW.PrintWords Go.Proofs.YtomgebmimgaojaaW.PrintLast Go.Proofs.YtomgebmimgaojaaW.PrintMore
open Go.Proofs.Ytomgebmimgaojaa.Pure (bsome)
open Go.Proofs.Ytomgebmimgaojaa.Most (Mat most)
theorem j0_eq (l m : List Int) (e : Bool) (h : Mat l.length m) (x sx y sy c : Int) (hc : -4611686018427 ≤ c ∧ c ≤ 4611686018427) (h1 : -1 ≤ sx ∧ sx ≤ 1) (h2 : -1 ≤ sy ∧ sy ≤ 1)
    (hx : sx ≠ 0 → ∀ v, (∀ k, l.length < k → gimbalref11_Place.f k l m e x = some v) → 0 ≤ v)
    (hy : sy ≠ 0 → ∀ v, (∀ k, l.length < k → gimbalref11_Place.f k l m e y = some v) → 0 ≤ v) :
    ∃ r, ∀ k, l.length < k → oct_Bounds.j0 (k + 1) false x sx y sy c l m e = some r ∧ gimbalref11_Bounds.j0 (k + 1) false x sx y sy c l m e = some r := by
  have w1 : wrap64 (-sx) = -sx := by unfold wrap64; omega
  have w2 : wrap64 (-sy) = -sy := by unfold wrap64; omega
  obtain ⟨g, hg, G⟩ := most l m e h x sx y sy c hx (fun _ => hy)
  obtain ⟨f, hf, F⟩ := most l m e h x (-sx) y (-sy) c (fun h => hx (by omega)) (fun _ h => hy (by omega))
  refine ⟨(if f = 4611686018427387904 then -4611686018427387904 else c - f, if g = 4611686018427387904 then 4611686018427387904 else c + g), fun k hk => ?_⟩
  have v1 : f ≠ 4611686018427387904 → wrap64 (c - f) = c - f := fun h => by unfold Arith.Sm at hf; unfold wrap64; omega
  have v2 : g ≠ 4611686018427387904 → wrap64 (g + c) = c + g := fun h => by unfold Arith.Sm at hg; unfold wrap64; omega
  constructor
  · unfold oct_Bounds.j0
    dsimp only
    rw [if_neg (show ¬ (false = true) by decide), w1, w2, (F k hk).1, bsome, Arith.neg_sm hf, bsome, Arith.down_sm hc hf, bsome, (G k hk).1, bsome, Arith.up_sm hc hg, bsome]
  · unfold gimbalref11_Bounds.j0
    dsimp only
    rw [if_neg (show ¬ (false = true) by decide), w1, w2, (F k hk).2, (G k hk).2, bsome]
    by_cases e1 : g = 4611686018427387904
    · rw [if_pos e1, bsome]
      by_cases e2 : f = 4611686018427387904
      · rw [if_pos e2, if_pos e2, if_pos e1]
      · rw [if_neg e2, if_neg e2, if_pos e1, v1 e2]
    · rw [if_neg e1, bsome]
      by_cases e2 : f = 4611686018427387904
      · rw [if_pos e2, if_pos e2, if_neg e1, v2 e1]
      · rw [if_neg e2, if_neg e2, if_neg e1, v1 e2, v2 e1]
end Go.Proofs.Ytomgebmimgaojaa.Bnds
end
