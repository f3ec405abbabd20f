/- Own texts of this claim, joined: QOx1091, QOx1101, QOx1102, QOx1057, QOx1070, QOx1018, QOx1014, QOx1017, QOx1016, QOx1012, QOx1048, QOx1049 -/
import Derived.Test.YtphfchbggechhaaBOW0
import Derived.Test.YtphfchbggechhaaBOW1
set_option maxRecDepth 100000
set_option maxHeartbeats 16000000
section
noncomputable section
namespace Go.Proofs.Ytphfchbggechhaa.QO
open Go.RowKit YtphfchbggechhaaW.PrintWords YtphfchbggechhaaW.PrintLast
set_option linter.unusedVariables false
set_option linter.unusedSimpArgs false
def gimbalref11_greatest.f (k : Nat) (l0_0 : List Int) (l0_1 : List Int) (a0_2 : Bool) (a1_0 : Int) (a1_1 : Int) (a1_2 : Int) (a1_3 : Int) (a1_4 : Int) : Option (Int) := if a1_1 = 0 then (some 0) else ((gimbalref11_Place.f k l0_0 l0_1 a0_2 a1_0).bind fun t279 => ((gimbalref11_Node.f t279 a1_1).bind fun t280 => (if a1_3 = 0 then ((gimbalref11_bar.f t280).bind fun t281 => (if 0 ≤ (wrap64 ((wrap64 (t281 * (wrap64 (2 * (l0_0.length : Int))))) + t280)) then (if (wrap64 ((wrap64 (t281 * (wrap64 (2 * (l0_0.length : Int))))) + t280)) < (l0_1.length : Int) then (if (rd l0_1 (wrap64 ((wrap64 (t281 * (wrap64 (2 * (l0_0.length : Int))))) + t280))) = 4611686018427387904 then (some 4611686018427387904) else ((gimbalref11_halved.f (rd l0_1 (wrap64 ((wrap64 (t281 * (wrap64 (2 * (l0_0.length : Int))))) + t280)))).bind fun t283 => (some t283))) else (none)) else (none))) else ((gimbalref11_Place.f k l0_0 l0_1 a0_2 a1_2).bind fun t284 => ((gimbalref11_Node.f t284 a1_3).bind fun t285 => ((gimbalref11_bar.f t280).bind fun t286 => (if 0 ≤ (wrap64 ((wrap64 (t286 * (wrap64 (2 * (l0_0.length : Int))))) + t285)) then (if (wrap64 ((wrap64 (t286 * (wrap64 (2 * (l0_0.length : Int))))) + t285)) < (l0_1.length : Int) then (some (rd l0_1 (wrap64 ((wrap64 (t286 * (wrap64 (2 * (l0_0.length : Int))))) + t285)))) else (none)) else (none))))))))
theorem gimbalref11_greatest.mono : ∀ a0 a1 a2 a3 a4 a5 a6 a7 k, LeO (gimbalref11_greatest.f k a0 a1 a2 a3 a4 a5 a6 a7) (gimbalref11_greatest.f (k + 1) a0 a1 a2 a3 a4 a5 a6 a7) := by
 intro a0 a1 a2 a3 a4 a5 a6 a7 k
 unfold gimbalref11_greatest.f
 repeat' first | (with_reducible first | apply gimbalref11_Place.mono | apply LeO.refl | apply LeO.none | refine LeO.ite ?_ ?_ | refine LeO.bind ?_ (fun _ => ?_)) | apply gimbalref11_Place.mono | apply LeO.none | refine LeO.ite ?_ ?_ | refine LeO.bind ?_ (fun _ => ?_)
def gimbalref11_greatest.T4 : Bool × List (List Nat × List Nat) := (true, [([], []), ([], []), ([1], [1]), ([0, 2], [0, 2]), ([], []), ([4], [4]), ([3, 5, 3], [3, 5]), ([6, 6, 0, 1, 2, 3, 4, 5, 6], [6])])
def gimbalref11_greatest.B4 : List Nat := [0, 0, 2, 7, 0, 16, 63, 127]
theorem gimbalref11_greatest.tab4 : rtab .any (opsOf Try.f91 4) = gimbalref11_greatest.T4 := by kernel_rfl
theorem gimbalref11_greatest.bits4 : waitsOk gimbalref11_greatest.T4.2 gimbalref11_greatest.B4 = true := by kernel_rfl
def gimbalref11_greatest.T6 : Bool × List (List Nat × List Nat) := (true, [([], []), ([0], [0]), ([], []), ([2], [2]), ([], []), ([3, 4], [3, 4]), ([], []), ([5, 6], [5, 6]), ([1, 7], [1, 7]), ([8], [8]), ([9, 3, 0, 1, 2, 3, 4, 5, 6, 7, 8, 9], [9])])
def gimbalref11_greatest.B6 : List Nat := [0, 1, 0, 4, 0, 28, 0, 124, 255, 511, 1023]
theorem gimbalref11_greatest.tab6 : rtab .any (opsOf Try.f91 6) = gimbalref11_greatest.T6 := by kernel_rfl
theorem gimbalref11_greatest.bits6 : waitsOk gimbalref11_greatest.T6.2 gimbalref11_greatest.B6 = true := by kernel_rfl
def gimbalref11_greatest.T10 : Bool × List (List Nat × List Nat) := (true, [([], []), ([], []), ([1], [1]), ([0, 2], [0, 2]), ([], []), ([4], [4]), ([3, 5, 3], [3, 5]), ([6, 6, 0, 1, 2, 3, 4, 5, 6], [6])])
def gimbalref11_greatest.B10 : List Nat := [0, 0, 2, 7, 0, 16, 63, 127]
theorem gimbalref11_greatest.tab10 : rtab .any (opsOf Try.f91 10) = gimbalref11_greatest.T10 := by kernel_rfl
theorem gimbalref11_greatest.bits10 : waitsOk gimbalref11_greatest.T10.2 gimbalref11_greatest.B10 = true := by kernel_rfl
def gimbalref11_greatest.T11 : Bool × List (List Nat × List Nat) := (true, [([], []), ([0], [0]), ([], []), ([2], [2]), ([], []), ([3, 4], [3, 4]), ([], []), ([5, 6], [5, 6]), ([1, 7], [1, 7]), ([8], [8]), ([9, 3, 0, 1, 2, 3, 4, 5, 6, 7, 8, 9], [9])])
def gimbalref11_greatest.B11 : List Nat := [0, 1, 0, 4, 0, 28, 0, 124, 255, 511, 1023]
theorem gimbalref11_greatest.tab11 : rtab .any (opsOf Try.f91 11) = gimbalref11_greatest.T11 := by kernel_rfl
theorem gimbalref11_greatest.bits11 : waitsOk gimbalref11_greatest.T11.2 gimbalref11_greatest.B11 = true := by kernel_rfl
theorem gimbalref11_greatest.calls (k : Nat) (A0_0 : Option Addr) (c0_0 : Nat) (l0_0 : List Int) (A0_1 : Option Addr) (c0_1 : Nat) (l0_1 : List Int) (a0_2 : Bool) (a1_0 : Int) (a1_1 : Int) (a1_2 : Int) (a1_3 : Int) (a1_4 : Int) (r : Int) (w : World) (hr0_0 : Kd.C (Kd.int .i64) w A0_0 l0_0.length l0_0) (hc0_0 : l0_0.length ≤ c0_0) (hr0_1 : Kd.C (Kd.int .i64) w A0_1 l0_1.length l0_1) (hc0_1 : l0_1.length ≤ c0_1) (h : gimbalref11_greatest.f k l0_0 l0_1 a0_2 a1_0 a1_1 a1_2 a1_3 a1_4 = some r) :
 Calls Try.prog 91 #[.agg #[.slice A0_0 l0_0.length c0_0, .slice A0_1 l0_1.length c0_1, .bool a0_2], .agg #[.int .i64 a1_0, .int .i64 a1_1, .int .i64 a1_2, .int .i64 a1_3, .int .i64 a1_4]] w fun e w' => e = .returned (.int .i64 r) ∧ Below w.heap.size w w' := by
 have hu25 := Try.underlying25
 have hu34 := Try.underlying34
 have HR0_0 := Aside0.mk hr0_0
 have HC0_0 := Aside0.mk hc0_0
 clear hr0_0 hc0_0
 have HR0_1 := Aside0.mk hr0_1
 have HC0_1 := Aside0.mk hc0_1
 clear hr0_1 hc0_1
 have HB := Aside0.mk (Below.refl w.heap.size w)
 have H := h
 unfold gimbalref11_greatest.f at H
 clear h
 by_cases c3 : a1_1 = 0
 ·
  rw [if_pos c3] at H
  have c3b0 : (a1_1 == 0) = true := beq_iff_eq.mpr c3
  have c3b1 : (a1_1 != 0) = false := bne_eq_false_iff_eq.mpr c3
  clear c3
  obtain rfl := Option.some.inj H
  go_enter Try.func91, Try.ntmps91
  go_wp2_with (first | ((with_reducible refine gate_dst (N := 2) rfl ?_); refine bx_ 2 #[.slice A0_0 l0_0.length c0_0, .slice A0_1 l0_1.length c0_1, .bool a0_2] 25 ?_; intro gb277 hg w4 hbox hb; have BK277 := Aside0.mk (hbox); have GW277 := vS hg HB; have GE277 := vS hg HB; replace HB := vWs HB hb; clear hb hbox hg) | ((with_reducible refine gate_dst (N := 3) rfl ?_); refine bx_ 3 #[.int .i64 a1_0, .int .i64 a1_1, .int .i64 a1_2, .int .i64 a1_3, .int .i64 a1_4] 34 ?_; intro gb278 hg w5 hbox hb; have BK278 := Aside0.mk (hbox); have GW278 := vS hg HB; have GE278 := vS hg HB; replace HB := vWs HB hb; have NB277_278 := vNl hg BK277; have NB278_277 := vNg hg BK277; replace BK277 := vBb BK277 hb; clear hb hbox hg; have hnb6 := NB277_278.out; have hnc6 := NB278_277.out; obtain ⟨hcz7_0, hcz7_1, hcz7_2, hfz7_0, hfz7_1, hfz7_2⟩ := vF3 BK277.out; obtain ⟨hcz8_0, hcz8_1, hcz8_2, hcz8_3, hcz8_4, hfz8_0, hfz8_1, hfz8_2, hfz8_3, hfz8_4⟩ := vF5 BK278.out))
  go_ret
  exact ⟨vE, vW HB.out⟩
 ·
  rw [if_neg c3] at H
  have c3b0 : (a1_1 == 0) = false := beq_eq_false_iff_ne.mpr c3
  have c3b1 : (a1_1 != 0) = true := bne_iff_ne.mpr c3
  replace H := Option.bind_eq_some_iff.mp H
  obtain ⟨t279, A90, H⟩ := H
  try dsimp only at H
  have A9 := Aside0.mk A90
  clear A90
  replace H := Option.bind_eq_some_iff.mp H
  obtain ⟨t280, A100, H⟩ := H
  try dsimp only at H
  have A10 := Aside0.mk A100
  clear A100
  by_cases c11 : a1_3 = 0
  ·
   rw [if_pos c11] at H
   have c11b0 : (a1_3 == 0) = true := beq_iff_eq.mpr c11
   have c11b1 : (a1_3 != 0) = false := bne_eq_false_iff_eq.mpr c11
   clear c11
   replace H := Option.bind_eq_some_iff.mp H
   obtain ⟨t281, A120, H⟩ := H
   try dsimp only at H
   have A12 := Aside0.mk A120
   clear A120
   obtain ⟨ji13, hji13⟩ : ∃ j_ : Int, (wrap64 ((wrap64 (t281 * (wrap64 (2 * (l0_0.length : Int))))) + t280)) = j_ := ⟨_, rfl⟩
   first | rw [hji13] at H | simp only [hji13] at H
   (try rw [hji13] at A9)
   (try rw [hji13] at A10)
   (try rw [hji13] at A12)
   have hji13w : (IntKind.i64.wrap ((wrap64 (t281 * (wrap64 (2 * (l0_0.length : Int))))) + t280)) = ji13 := (i64_w _).trans hji13
   by_cases c14 : 0 ≤ (ji13)
   ·
    rw [if_pos c14] at H
    have c14b0 : decide (0 ≤ (ji13)) = true := decide_eq_true c14
    clear c14
    by_cases c15 : (ji13) < (l0_1.length : Int)
    ·
     rw [if_pos c15] at H
     have c15b0 : decide ((ji13) < (l0_1.length : Int)) = true := decide_eq_true c15
     clear c15
     by_cases c16 : (rd l0_1 (ji13)) = 4611686018427387904
     ·
      rw [if_pos c16] at H
      have c16b0 : ((rd l0_1 (ji13)) == 4611686018427387904) = true := beq_iff_eq.mpr c16
      have c16b1 : ((rd l0_1 (ji13)) != 4611686018427387904) = false := bne_eq_false_iff_eq.mpr c16
      clear c16
      obtain rfl := Option.some.inj H
      go_enter Try.func91, Try.ntmps91
      try go_wp2_with (first | ((with_reducible refine gate_dst (N := 2) rfl ?_); refine bx_ 2 #[.slice A0_0 l0_0.length c0_0, .slice A0_1 l0_1.length c0_1, .bool a0_2] 25 ?_; intro gb277 hg w17 hbox hb; have BK277 := Aside0.mk (hbox); have GW277 := vS hg HB; have GE277 := vS hg HB; replace HB := vWs HB hb; clear hb hbox hg) | ((with_reducible refine gate_dst (N := 3) rfl ?_); refine bx_ 3 #[.int .i64 a1_0, .int .i64 a1_1, .int .i64 a1_2, .int .i64 a1_3, .int .i64 a1_4] 34 ?_; intro gb278 hg w18 hbox hb; have BK278 := Aside0.mk (hbox); have GW278 := vS hg HB; have GE278 := vS hg HB; replace HB := vWs HB hb; have NB277_278 := vNl hg BK277; have NB278_277 := vNg hg BK277; replace BK277 := vBb BK277 hb; clear hb hbox hg; have hnb19 := NB277_278.out; have hnc19 := NB278_277.out; obtain ⟨hcz20_0, hcz20_1, hcz20_2, hfz20_0, hfz20_1, hfz20_2⟩ := vF3 BK277.out; obtain ⟨hcz21_0, hcz21_1, hcz21_2, hcz21_3, hcz21_4, hfz21_0, hfz21_1, hfz21_2, hfz21_3, hfz21_4⟩ := vF5 BK278.out))
      replace BK277 := Aside0.mk (blk_drew BK277.out)
      replace BK278 := Aside0.mk (blk_drew BK278.out)
      replace HB := Aside0.mk (below_drew1 HB.out)
      refine start_ (n := 8) (S := fun w' => w'.cell? ⟨gb277, 0, none⟩ = some (.slice A0_0 l0_0.length c0_0) ∧ w'.cell? ⟨gb277, 1, none⟩ = some (.slice A0_1 l0_1.length c0_1) ∧ w'.cell? ⟨gb277, 2, none⟩ = some (.bool a0_2) ∧ w'.cell? ⟨gb278, 0, none⟩ = some (.int .i64 a1_0) ∧ w'.cell? ⟨gb278, 1, none⟩ = some (.int .i64 a1_1) ∧ w'.cell? ⟨gb278, 2, none⟩ = some (.int .i64 a1_2) ∧ w'.cell? ⟨gb278, 3, none⟩ = some (.int .i64 a1_3) ∧ w'.cell? ⟨gb278, 4, none⟩ = some (.int .i64 a1_4)) (ds := []) (mB 8 0) (by kernel_rfl) rfl rfl ⟨(blk_cell BK277.out 0).trans rfl, (blk_cell BK277.out 1).trans rfl, (blk_cell BK277.out 2).trans rfl, (blk_cell BK278.out 0).trans rfl, (blk_cell BK278.out 1).trans rfl, (blk_cell BK278.out 2).trans rfl, (blk_cell BK278.out 3).trans rfl, (blk_cell BK278.out 4).trans rfl⟩ (fun hHeld => ?_); refine with_tabW gimbalref11_greatest.tab4 gimbalref11_greatest.bits4 (fun HT_ HW_ => ?_)
      generalize w18.drew = w22 at BK277 BK278 HB hHeld ⊢
      refine pV_ 1 17 (mB 8 2) HT_ ?_
      refine pV_ 4 20 (mB 8 18) HT_ ?_
      refine tV_ 0 16 (mB 8 19) HT_ HW_ hHeld ?_
      refine tV_ 2 18 (mB 8 23) HT_ HW_ hHeld ?_
      refine tV_ 5 21 (mB 8 55) HT_ HW_ hHeld ?_
      refine on_ 3 (some 19) (mB 8 63) HT_ (fun K hK => ?_)
      refine gs_ Try.func28 #[.agg #[.slice A0_0 l0_0.length c0_0, .slice A0_1 l0_1.length c0_1, .bool a0_2], .int .i64 a1_0] ?_
      with_reducible refine (gimbalref11_Place.calls k _ _ l0_0 _ _ l0_1 a0_2 a1_0 t279 _ ?side1 ?side2 ?side3 ?side4 A9.out).mono ?_
      (case side1 => exact vC (Kd.C_below HR0_0.out HB.out))
      (case side2 => exact HC0_0.out)
      (case side3 => exact vC (Kd.C_below HR0_1.out HB.out))
      (case side4 => exact HC0_1.out)
      rintro e w23 ⟨rfl, hb⟩
      refine ⟨_, rfl, ?_⟩
      replace BK277 := vBb BK277 hb
      replace BK278 := vBb BK278 hb
      replace HB := vWs HB hb
      (try clear hb)
      (try clear hb2)
      (try clear hk)
      (try clear hi)
      refine hK.out _ _ ⟨(blk_cell BK277.out 0).trans rfl, (blk_cell BK277.out 1).trans rfl, (blk_cell BK277.out 2).trans rfl, (blk_cell BK278.out 0).trans rfl, (blk_cell BK278.out 1).trans rfl, (blk_cell BK278.out 2).trans rfl, (blk_cell BK278.out 3).trans rfl, (blk_cell BK278.out 4).trans rfl⟩ (fun hHeld => ?_)
      clear hK K
      refine norm_ (a' := ?_) ?_ ?_
      rotate_left
      ·
       show Act.put _ (some 19) _ = _
       simp only [Act.put, List.setIfInBounds_toArray, List.set_cons_zero, List.set_cons_succ, i64_w, i32_w]
       rfl
      refine on_ 6 (some 22) (mB 8 127) HT_ (fun K hK => ?_)
      refine gs_ Try.func107 #[.int .i64 t279, .int .i64 a1_1] ?_
      with_reducible refine (gimbalref11_Node.calls t279 a1_1 t280 _ A10.out).mono ?_
      rintro e w' ⟨rfl, ⟨nd, rfl⟩⟩
      refine ⟨_, rfl, ?_⟩
      refine hK.out _ _ ⟨(blk_cell BK277.out 0).trans rfl, (blk_cell BK277.out 1).trans rfl, (blk_cell BK277.out 2).trans rfl, (blk_cell BK278.out 0).trans rfl, (blk_cell BK278.out 1).trans rfl, (blk_cell BK278.out 2).trans rfl, (blk_cell BK278.out 3).trans rfl, (blk_cell BK278.out 4).trans rfl⟩ (fun hHeld => ?_)
      clear hK K
      refine norm_ (a' := ?_) ?_ ?_
      rotate_left
      ·
       show Act.put _ (some 22) _ = _
       simp only [Act.put, List.setIfInBounds_toArray, List.set_cons_zero, List.set_cons_succ, i64_w, i32_w]
       rfl
      refine pV_ 7 6 (mB 8 255) HT_ ?_
      refine dn_ HT_ ?_
      obtain ⟨hcz24_0, hcz24_1, hcz24_2, hcz24_3, hcz24_4, hfz24_0, hfz24_1, hfz24_2, hfz24_3, hfz24_4⟩ := vF5 BK278.out
      try go_wp2
      (try (rw [drewN_self w23]; generalize hq_ : World.drewN w23 _ = w23; have n0_ : Aside0 (w23.heap[gb277]? = some (.cells #[.slice A0_0 l0_0.length c0_0, .slice A0_1 l0_1.length c0_1, .bool a0_2] 25 (0, 0))) := ⟨by rw [← hq_]; exact (vB BK277.out)⟩; have n1_ : Aside0 (w23.heap[gb278]? = some (.cells #[.int .i64 a1_0, .int .i64 a1_1, .int .i64 a1_2, .int .i64 a1_3, .int .i64 a1_4] 34 (0, 0))) := ⟨by rw [← hq_]; exact (vB BK278.out)⟩; have n2_ : Aside0 (Below w.heap.size w w23) := ⟨by rw [← hq_]; exact (vW HB.out)⟩; clear BK277 BK278 HB hq_; have BK277 := n0_; have BK278 := n1_; have HB := n2_; clear n0_ n1_ n2_))
      replace BK277 := Aside0.mk (blk_drew BK277.out)
      replace BK278 := Aside0.mk (blk_drew BK278.out)
      replace HB := Aside0.mk (below_drew1 HB.out)
      have p282 : 0 ≤ ((ji13) : Int) := of_decide_eq_true (by first | (with_reducible assumption) | assumption)
      have q282 : (ji13) < (l0_1.length : Int) := of_decide_eq_true (by first | (with_reducible assumption) | assumption)
      obtain ⟨ad282, e282, hx282_0⟩ := Kd.at_int HR0_1.out (ji13) p282 q282
      have hw282_0 := hx282_0
      cases e282
      replace hx282_0 := (HB.out.cell (World.block_lt_of_cell? w _ hx282_0)).trans hx282_0
      replace p282 := eq_true p282
      replace q282 := eq_true q282
      refine start_ (n := 11) (S := fun w' => w'.cell? ⟨gb277, 0, none⟩ = some (.slice A0_0 l0_0.length c0_0) ∧ w'.cell? ⟨gb277, 1, none⟩ = some (.slice (some ad282) l0_1.length c0_1) ∧ w'.cell? ⟨gb277, 2, none⟩ = some (.bool a0_2) ∧ w'.cell? (ad282.add ((ji13)).toNat) = some (.int .i64 (rd l0_1 (ji13)))) (ds := []) (mB 11 0) (by kernel_rfl) rfl rfl ⟨(blk_cell BK277.out 0).trans rfl, (blk_cell BK277.out 1).trans rfl, (blk_cell BK277.out 2).trans rfl, ((HB.out.cell (World.block_lt_of_cell? w _ hw282_0)).trans hw282_0)⟩ (fun hHeld => ?_); refine with_tabW gimbalref11_greatest.tab6 gimbalref11_greatest.bits6 (fun HT_ HW_ => ?_)
      generalize w23.drew = w25 at BK277 BK278 HB hx282_0 hHeld ⊢
      refine pV_ 0 26 (mB 11 1) HT_ ?_
      refine pV_ 2 28 (mB 11 5) HT_ ?_
      refine pV_ 4 30 (mB 11 21) HT_ ?_
      refine pV_ 6 32 (mB 11 85) HT_ ?_
      refine tV_ 1 27 (mB 11 87) HT_ HW_ hHeld ?_
      refine on_ 3 (some 29) (mB 11 95) HT_ (fun K hK => ?_)
      refine gs_ Try.func47 #[.int .i64 t280] ?_
      with_reducible refine (gimbalref11_bar.calls t280 t281 _ A12.out).mono ?_
      rintro e w' ⟨rfl, ⟨nd, rfl⟩⟩
      refine ⟨_, rfl, ?_⟩
      refine hK.out _ _ ⟨(blk_cell BK277.out 0).trans rfl, (blk_cell BK277.out 1).trans rfl, (blk_cell BK277.out 2).trans rfl, ((HB.out.cell (World.block_lt_of_cell? w _ hw282_0)).trans hw282_0)⟩ (fun hHeld => ?_)
      clear hK K
      refine norm_ (a' := ?_) ?_ ?_
      rotate_left
      ·
       show Act.put _ (some 29) _ = _
       simp only [Act.put, List.setIfInBounds_toArray, List.set_cons_zero, List.set_cons_succ, i64_w, i32_w]
       rfl
      refine pV_ 5 31 (mB 11 127) HT_ ?_
      refine pV_ 7 33 (mB 11 255) HT_ ?_
      refine pV_ 8 34 (mB 11 511) HT_ ?_
      refine tV_ 9 35 (mB 11 1023) HT_ HW_ hHeld ?_
      refine pV_ 10 7 (mB 11 2047) HT_ ?_
      refine dn_ HT_ ?_
      try go_wp2
      go_ret
      exact ⟨by first | rfl | (simp [errW_none, errW_some] <;> rfl) | (simp only [← hji13]; first | rfl | (simp [errW_none, errW_some] <;> rfl)) | (simp [*, errW_none, errW_some] <;> rfl) | (simp [wrap64]; done), vW HB.out⟩
     ·
      rw [if_neg c16] at H
      have c16b0 : ((rd l0_1 (ji13)) == 4611686018427387904) = false := beq_eq_false_iff_ne.mpr c16
      have c16b1 : ((rd l0_1 (ji13)) != 4611686018427387904) = true := bne_iff_ne.mpr c16
      replace H := Option.bind_eq_some_iff.mp H
      obtain ⟨t283, A260, H⟩ := H
      try dsimp only at H
      have A26 := Aside0.mk A260
      clear A260
      obtain rfl := Option.some.inj H
      go_enter Try.func91, Try.ntmps91
      try go_wp2_with (first | ((with_reducible refine gate_dst (N := 2) rfl ?_); refine bx_ 2 #[.slice A0_0 l0_0.length c0_0, .slice A0_1 l0_1.length c0_1, .bool a0_2] 25 ?_; intro gb277 hg w27 hbox hb; have BK277 := Aside0.mk (hbox); have GW277 := vS hg HB; have GE277 := vS hg HB; replace HB := vWs HB hb; clear hb hbox hg) | ((with_reducible refine gate_dst (N := 3) rfl ?_); refine bx_ 3 #[.int .i64 a1_0, .int .i64 a1_1, .int .i64 a1_2, .int .i64 a1_3, .int .i64 a1_4] 34 ?_; intro gb278 hg w28 hbox hb; have BK278 := Aside0.mk (hbox); have GW278 := vS hg HB; have GE278 := vS hg HB; replace HB := vWs HB hb; have NB277_278 := vNl hg BK277; have NB278_277 := vNg hg BK277; replace BK277 := vBb BK277 hb; clear hb hbox hg; have hnb29 := NB277_278.out; have hnc29 := NB278_277.out; obtain ⟨hcz30_0, hcz30_1, hcz30_2, hfz30_0, hfz30_1, hfz30_2⟩ := vF3 BK277.out; obtain ⟨hcz31_0, hcz31_1, hcz31_2, hcz31_3, hcz31_4, hfz31_0, hfz31_1, hfz31_2, hfz31_3, hfz31_4⟩ := vF5 BK278.out))
      replace BK277 := Aside0.mk (blk_drew BK277.out)
      replace BK278 := Aside0.mk (blk_drew BK278.out)
      replace HB := Aside0.mk (below_drew1 HB.out)
      refine start_ (n := 8) (S := fun w' => w'.cell? ⟨gb277, 0, none⟩ = some (.slice A0_0 l0_0.length c0_0) ∧ w'.cell? ⟨gb277, 1, none⟩ = some (.slice A0_1 l0_1.length c0_1) ∧ w'.cell? ⟨gb277, 2, none⟩ = some (.bool a0_2) ∧ w'.cell? ⟨gb278, 0, none⟩ = some (.int .i64 a1_0) ∧ w'.cell? ⟨gb278, 1, none⟩ = some (.int .i64 a1_1) ∧ w'.cell? ⟨gb278, 2, none⟩ = some (.int .i64 a1_2) ∧ w'.cell? ⟨gb278, 3, none⟩ = some (.int .i64 a1_3) ∧ w'.cell? ⟨gb278, 4, none⟩ = some (.int .i64 a1_4)) (ds := []) (mB 8 0) (by kernel_rfl) rfl rfl ⟨(blk_cell BK277.out 0).trans rfl, (blk_cell BK277.out 1).trans rfl, (blk_cell BK277.out 2).trans rfl, (blk_cell BK278.out 0).trans rfl, (blk_cell BK278.out 1).trans rfl, (blk_cell BK278.out 2).trans rfl, (blk_cell BK278.out 3).trans rfl, (blk_cell BK278.out 4).trans rfl⟩ (fun hHeld => ?_); refine with_tabW gimbalref11_greatest.tab4 gimbalref11_greatest.bits4 (fun HT_ HW_ => ?_)
      generalize w28.drew = w32 at BK277 BK278 HB hHeld ⊢
      refine pV_ 1 17 (mB 8 2) HT_ ?_
      refine pV_ 4 20 (mB 8 18) HT_ ?_
      refine tV_ 0 16 (mB 8 19) HT_ HW_ hHeld ?_
      refine tV_ 2 18 (mB 8 23) HT_ HW_ hHeld ?_
      refine tV_ 5 21 (mB 8 55) HT_ HW_ hHeld ?_
      refine on_ 3 (some 19) (mB 8 63) HT_ (fun K hK => ?_)
      refine gs_ Try.func28 #[.agg #[.slice A0_0 l0_0.length c0_0, .slice A0_1 l0_1.length c0_1, .bool a0_2], .int .i64 a1_0] ?_
      with_reducible refine (gimbalref11_Place.calls k _ _ l0_0 _ _ l0_1 a0_2 a1_0 t279 _ ?side1 ?side2 ?side3 ?side4 A9.out).mono ?_
      (case side1 => exact vC (Kd.C_below HR0_0.out HB.out))
      (case side2 => exact HC0_0.out)
      (case side3 => exact vC (Kd.C_below HR0_1.out HB.out))
      (case side4 => exact HC0_1.out)
      rintro e w33 ⟨rfl, hb⟩
      refine ⟨_, rfl, ?_⟩
      replace BK277 := vBb BK277 hb
      replace BK278 := vBb BK278 hb
      replace HB := vWs HB hb
      (try clear hb)
      (try clear hb2)
      (try clear hk)
      (try clear hi)
      refine hK.out _ _ ⟨(blk_cell BK277.out 0).trans rfl, (blk_cell BK277.out 1).trans rfl, (blk_cell BK277.out 2).trans rfl, (blk_cell BK278.out 0).trans rfl, (blk_cell BK278.out 1).trans rfl, (blk_cell BK278.out 2).trans rfl, (blk_cell BK278.out 3).trans rfl, (blk_cell BK278.out 4).trans rfl⟩ (fun hHeld => ?_)
      clear hK K
      refine norm_ (a' := ?_) ?_ ?_
      rotate_left
      ·
       show Act.put _ (some 19) _ = _
       simp only [Act.put, List.setIfInBounds_toArray, List.set_cons_zero, List.set_cons_succ, i64_w, i32_w]
       rfl
      refine on_ 6 (some 22) (mB 8 127) HT_ (fun K hK => ?_)
      refine gs_ Try.func107 #[.int .i64 t279, .int .i64 a1_1] ?_
      with_reducible refine (gimbalref11_Node.calls t279 a1_1 t280 _ A10.out).mono ?_
      rintro e w' ⟨rfl, ⟨nd, rfl⟩⟩
      refine ⟨_, rfl, ?_⟩
      refine hK.out _ _ ⟨(blk_cell BK277.out 0).trans rfl, (blk_cell BK277.out 1).trans rfl, (blk_cell BK277.out 2).trans rfl, (blk_cell BK278.out 0).trans rfl, (blk_cell BK278.out 1).trans rfl, (blk_cell BK278.out 2).trans rfl, (blk_cell BK278.out 3).trans rfl, (blk_cell BK278.out 4).trans rfl⟩ (fun hHeld => ?_)
      clear hK K
      refine norm_ (a' := ?_) ?_ ?_
      rotate_left
      ·
       show Act.put _ (some 22) _ = _
       simp only [Act.put, List.setIfInBounds_toArray, List.set_cons_zero, List.set_cons_succ, i64_w, i32_w]
       rfl
      refine pV_ 7 6 (mB 8 255) HT_ ?_
      refine dn_ HT_ ?_
      obtain ⟨hcz34_0, hcz34_1, hcz34_2, hcz34_3, hcz34_4, hfz34_0, hfz34_1, hfz34_2, hfz34_3, hfz34_4⟩ := vF5 BK278.out
      try go_wp2
      (try (rw [drewN_self w33]; generalize hq_ : World.drewN w33 _ = w33; have n0_ : Aside0 (w33.heap[gb277]? = some (.cells #[.slice A0_0 l0_0.length c0_0, .slice A0_1 l0_1.length c0_1, .bool a0_2] 25 (0, 0))) := ⟨by rw [← hq_]; exact (vB BK277.out)⟩; have n1_ : Aside0 (w33.heap[gb278]? = some (.cells #[.int .i64 a1_0, .int .i64 a1_1, .int .i64 a1_2, .int .i64 a1_3, .int .i64 a1_4] 34 (0, 0))) := ⟨by rw [← hq_]; exact (vB BK278.out)⟩; have n2_ : Aside0 (Below w.heap.size w w33) := ⟨by rw [← hq_]; exact (vW HB.out)⟩; clear BK277 BK278 HB hq_; have BK277 := n0_; have BK278 := n1_; have HB := n2_; clear n0_ n1_ n2_))
      replace BK277 := Aside0.mk (blk_drew BK277.out)
      replace BK278 := Aside0.mk (blk_drew BK278.out)
      replace HB := Aside0.mk (below_drew1 HB.out)
      have p282 : 0 ≤ ((ji13) : Int) := of_decide_eq_true (by first | (with_reducible assumption) | assumption)
      have q282 : (ji13) < (l0_1.length : Int) := of_decide_eq_true (by first | (with_reducible assumption) | assumption)
      obtain ⟨ad282, e282, hx282_0⟩ := Kd.at_int HR0_1.out (ji13) p282 q282
      have hw282_0 := hx282_0
      cases e282
      replace hx282_0 := (HB.out.cell (World.block_lt_of_cell? w _ hx282_0)).trans hx282_0
      replace p282 := eq_true p282
      replace q282 := eq_true q282
      refine start_ (n := 11) (S := fun w' => w'.cell? ⟨gb277, 0, none⟩ = some (.slice A0_0 l0_0.length c0_0) ∧ w'.cell? ⟨gb277, 1, none⟩ = some (.slice (some ad282) l0_1.length c0_1) ∧ w'.cell? ⟨gb277, 2, none⟩ = some (.bool a0_2) ∧ w'.cell? (ad282.add ((ji13)).toNat) = some (.int .i64 (rd l0_1 (ji13)))) (ds := []) (mB 11 0) (by kernel_rfl) rfl rfl ⟨(blk_cell BK277.out 0).trans rfl, (blk_cell BK277.out 1).trans rfl, (blk_cell BK277.out 2).trans rfl, ((HB.out.cell (World.block_lt_of_cell? w _ hw282_0)).trans hw282_0)⟩ (fun hHeld => ?_); refine with_tabW gimbalref11_greatest.tab6 gimbalref11_greatest.bits6 (fun HT_ HW_ => ?_)
      generalize w33.drew = w35 at BK277 BK278 HB hx282_0 hHeld ⊢
      refine pV_ 0 26 (mB 11 1) HT_ ?_
      refine pV_ 2 28 (mB 11 5) HT_ ?_
      refine pV_ 4 30 (mB 11 21) HT_ ?_
      refine pV_ 6 32 (mB 11 85) HT_ ?_
      refine tV_ 1 27 (mB 11 87) HT_ HW_ hHeld ?_
      refine on_ 3 (some 29) (mB 11 95) HT_ (fun K hK => ?_)
      refine gs_ Try.func47 #[.int .i64 t280] ?_
      with_reducible refine (gimbalref11_bar.calls t280 t281 _ A12.out).mono ?_
      rintro e w' ⟨rfl, ⟨nd, rfl⟩⟩
      refine ⟨_, rfl, ?_⟩
      refine hK.out _ _ ⟨(blk_cell BK277.out 0).trans rfl, (blk_cell BK277.out 1).trans rfl, (blk_cell BK277.out 2).trans rfl, ((HB.out.cell (World.block_lt_of_cell? w _ hw282_0)).trans hw282_0)⟩ (fun hHeld => ?_)
      clear hK K
      refine norm_ (a' := ?_) ?_ ?_
      rotate_left
      ·
       show Act.put _ (some 29) _ = _
       simp only [Act.put, List.setIfInBounds_toArray, List.set_cons_zero, List.set_cons_succ, i64_w, i32_w]
       rfl
      refine pV_ 5 31 (mB 11 127) HT_ ?_
      refine pV_ 7 33 (mB 11 255) HT_ ?_
      refine pV_ 8 34 (mB 11 511) HT_ ?_
      refine tV_ 9 35 (mB 11 1023) HT_ HW_ hHeld ?_
      refine pV_ 10 7 (mB 11 2047) HT_ ?_
      refine dn_ HT_ ?_
      try go_wp2_with ((with_reducible refine gate_callee (f := 119) rfl ?_); refine goesL_ (some 39) rfl rfl Try.func119 (by kernel_rfl) rfl #[.int .i64 (rd l0_1 (ji13))] rfl (by (try simp only [List.map_toArray, List.map_cons, List.map_nil]); first | done | (simp only [hji13]; rfl) | rfl | (simp only [List.length_drop, List.length_take]; rfl)) ?_; (with_reducible refine (gimbalref11_halved.calls (rd l0_1 (ji13)) t283 _ A26.out).mono ?_); rintro e w' ⟨rfl, ⟨nd, rfl⟩⟩; refine ⟨_, rfl, ?_⟩)
      go_ret
      exact ⟨by first | rfl | (simp [errW_none, errW_some] <;> rfl) | (simp only [← hji13]; first | rfl | (simp [errW_none, errW_some] <;> rfl)) | (simp [*, errW_none, errW_some] <;> rfl) | (simp [wrap64]; done), vW HB.out⟩
    ·
     rw [if_neg c15] at H
     exact absurd H (by simp)
   ·
    rw [if_neg c14] at H
    exact absurd H (by simp)
  ·
   rw [if_neg c11] at H
   have c11b0 : (a1_3 == 0) = false := beq_eq_false_iff_ne.mpr c11
   have c11b1 : (a1_3 != 0) = true := bne_iff_ne.mpr c11
   replace H := Option.bind_eq_some_iff.mp H
   obtain ⟨t284, A360, H⟩ := H
   try dsimp only at H
   have A36 := Aside0.mk A360
   clear A360
   replace H := Option.bind_eq_some_iff.mp H
   obtain ⟨t285, A370, H⟩ := H
   try dsimp only at H
   have A37 := Aside0.mk A370
   clear A370
   replace H := Option.bind_eq_some_iff.mp H
   obtain ⟨t286, A380, H⟩ := H
   try dsimp only at H
   have A38 := Aside0.mk A380
   clear A380
   obtain ⟨ji39, hji39⟩ : ∃ j_ : Int, (wrap64 ((wrap64 (t286 * (wrap64 (2 * (l0_0.length : Int))))) + t285)) = j_ := ⟨_, rfl⟩
   first | rw [hji39] at H | simp only [hji39] at H
   (try rw [hji39] at A9)
   (try rw [hji39] at A10)
   (try rw [hji39] at A36)
   (try rw [hji39] at A37)
   (try rw [hji39] at A38)
   have hji39w : (IntKind.i64.wrap ((wrap64 (t286 * (wrap64 (2 * (l0_0.length : Int))))) + t285)) = ji39 := (i64_w _).trans hji39
   by_cases c40 : 0 ≤ (ji39)
   ·
    rw [if_pos c40] at H
    have c40b0 : decide (0 ≤ (ji39)) = true := decide_eq_true c40
    clear c40
    by_cases c41 : (ji39) < (l0_1.length : Int)
    ·
     rw [if_pos c41] at H
     have c41b0 : decide ((ji39) < (l0_1.length : Int)) = true := decide_eq_true c41
     clear c41
     obtain rfl := Option.some.inj H
     go_enter Try.func91, Try.ntmps91
     try go_wp2_with (first | ((with_reducible refine gate_dst (N := 2) rfl ?_); refine bx_ 2 #[.slice A0_0 l0_0.length c0_0, .slice A0_1 l0_1.length c0_1, .bool a0_2] 25 ?_; intro gb277 hg w42 hbox hb; have BK277 := Aside0.mk (hbox); have GW277 := vS hg HB; have GE277 := vS hg HB; replace HB := vWs HB hb; clear hb hbox hg) | ((with_reducible refine gate_dst (N := 3) rfl ?_); refine bx_ 3 #[.int .i64 a1_0, .int .i64 a1_1, .int .i64 a1_2, .int .i64 a1_3, .int .i64 a1_4] 34 ?_; intro gb278 hg w43 hbox hb; have BK278 := Aside0.mk (hbox); have GW278 := vS hg HB; have GE278 := vS hg HB; replace HB := vWs HB hb; have NB277_278 := vNl hg BK277; have NB278_277 := vNg hg BK277; replace BK277 := vBb BK277 hb; clear hb hbox hg; have hnb44 := NB277_278.out; have hnc44 := NB278_277.out; obtain ⟨hcz45_0, hcz45_1, hcz45_2, hfz45_0, hfz45_1, hfz45_2⟩ := vF3 BK277.out; obtain ⟨hcz46_0, hcz46_1, hcz46_2, hcz46_3, hcz46_4, hfz46_0, hfz46_1, hfz46_2, hfz46_3, hfz46_4⟩ := vF5 BK278.out))
     replace BK277 := Aside0.mk (blk_drew BK277.out)
     replace BK278 := Aside0.mk (blk_drew BK278.out)
     replace HB := Aside0.mk (below_drew1 HB.out)
     refine start_ (n := 8) (S := fun w' => w'.cell? ⟨gb277, 0, none⟩ = some (.slice A0_0 l0_0.length c0_0) ∧ w'.cell? ⟨gb277, 1, none⟩ = some (.slice A0_1 l0_1.length c0_1) ∧ w'.cell? ⟨gb277, 2, none⟩ = some (.bool a0_2) ∧ w'.cell? ⟨gb278, 0, none⟩ = some (.int .i64 a1_0) ∧ w'.cell? ⟨gb278, 1, none⟩ = some (.int .i64 a1_1) ∧ w'.cell? ⟨gb278, 2, none⟩ = some (.int .i64 a1_2) ∧ w'.cell? ⟨gb278, 3, none⟩ = some (.int .i64 a1_3) ∧ w'.cell? ⟨gb278, 4, none⟩ = some (.int .i64 a1_4)) (ds := []) (mB 8 0) (by kernel_rfl) rfl rfl ⟨(blk_cell BK277.out 0).trans rfl, (blk_cell BK277.out 1).trans rfl, (blk_cell BK277.out 2).trans rfl, (blk_cell BK278.out 0).trans rfl, (blk_cell BK278.out 1).trans rfl, (blk_cell BK278.out 2).trans rfl, (blk_cell BK278.out 3).trans rfl, (blk_cell BK278.out 4).trans rfl⟩ (fun hHeld => ?_); refine with_tabW gimbalref11_greatest.tab4 gimbalref11_greatest.bits4 (fun HT_ HW_ => ?_)
     generalize w43.drew = w47 at BK277 BK278 HB hHeld ⊢
     refine pV_ 1 17 (mB 8 2) HT_ ?_
     refine pV_ 4 20 (mB 8 18) HT_ ?_
     refine tV_ 0 16 (mB 8 19) HT_ HW_ hHeld ?_
     refine tV_ 2 18 (mB 8 23) HT_ HW_ hHeld ?_
     refine tV_ 5 21 (mB 8 55) HT_ HW_ hHeld ?_
     refine on_ 3 (some 19) (mB 8 63) HT_ (fun K hK => ?_)
     refine gs_ Try.func28 #[.agg #[.slice A0_0 l0_0.length c0_0, .slice A0_1 l0_1.length c0_1, .bool a0_2], .int .i64 a1_0] ?_
     with_reducible refine (gimbalref11_Place.calls k _ _ l0_0 _ _ l0_1 a0_2 a1_0 t279 _ ?side1 ?side2 ?side3 ?side4 A9.out).mono ?_
     (case side1 => exact vC (Kd.C_below HR0_0.out HB.out))
     (case side2 => exact HC0_0.out)
     (case side3 => exact vC (Kd.C_below HR0_1.out HB.out))
     (case side4 => exact HC0_1.out)
     rintro e w48 ⟨rfl, hb⟩
     refine ⟨_, rfl, ?_⟩
     replace BK277 := vBb BK277 hb
     replace BK278 := vBb BK278 hb
     replace HB := vWs HB hb
     (try clear hb)
     (try clear hb2)
     (try clear hk)
     (try clear hi)
     refine hK.out _ _ ⟨(blk_cell BK277.out 0).trans rfl, (blk_cell BK277.out 1).trans rfl, (blk_cell BK277.out 2).trans rfl, (blk_cell BK278.out 0).trans rfl, (blk_cell BK278.out 1).trans rfl, (blk_cell BK278.out 2).trans rfl, (blk_cell BK278.out 3).trans rfl, (blk_cell BK278.out 4).trans rfl⟩ (fun hHeld => ?_)
     clear hK K
     refine norm_ (a' := ?_) ?_ ?_
     rotate_left
     ·
      show Act.put _ (some 19) _ = _
      simp only [Act.put, List.setIfInBounds_toArray, List.set_cons_zero, List.set_cons_succ, i64_w, i32_w]
      rfl
     refine on_ 6 (some 22) (mB 8 127) HT_ (fun K hK => ?_)
     refine gs_ Try.func107 #[.int .i64 t279, .int .i64 a1_1] ?_
     with_reducible refine (gimbalref11_Node.calls t279 a1_1 t280 _ A10.out).mono ?_
     rintro e w' ⟨rfl, ⟨nd, rfl⟩⟩
     refine ⟨_, rfl, ?_⟩
     refine hK.out _ _ ⟨(blk_cell BK277.out 0).trans rfl, (blk_cell BK277.out 1).trans rfl, (blk_cell BK277.out 2).trans rfl, (blk_cell BK278.out 0).trans rfl, (blk_cell BK278.out 1).trans rfl, (blk_cell BK278.out 2).trans rfl, (blk_cell BK278.out 3).trans rfl, (blk_cell BK278.out 4).trans rfl⟩ (fun hHeld => ?_)
     clear hK K
     refine norm_ (a' := ?_) ?_ ?_
     rotate_left
     ·
      show Act.put _ (some 22) _ = _
      simp only [Act.put, List.setIfInBounds_toArray, List.set_cons_zero, List.set_cons_succ, i64_w, i32_w]
      rfl
     refine pV_ 7 6 (mB 8 255) HT_ ?_
     refine dn_ HT_ ?_
     obtain ⟨hcz49_0, hcz49_1, hcz49_2, hcz49_3, hcz49_4, hfz49_0, hfz49_1, hfz49_2, hfz49_3, hfz49_4⟩ := vF5 BK278.out
     try go_wp2
     (try (rw [drewN_self w48]; generalize hq_ : World.drewN w48 _ = w48; have n0_ : Aside0 (w48.heap[gb277]? = some (.cells #[.slice A0_0 l0_0.length c0_0, .slice A0_1 l0_1.length c0_1, .bool a0_2] 25 (0, 0))) := ⟨by rw [← hq_]; exact (vB BK277.out)⟩; have n1_ : Aside0 (w48.heap[gb278]? = some (.cells #[.int .i64 a1_0, .int .i64 a1_1, .int .i64 a1_2, .int .i64 a1_3, .int .i64 a1_4] 34 (0, 0))) := ⟨by rw [← hq_]; exact (vB BK278.out)⟩; have n2_ : Aside0 (Below w.heap.size w w48) := ⟨by rw [← hq_]; exact (vW HB.out)⟩; clear BK277 BK278 HB hq_; have BK277 := n0_; have BK278 := n1_; have HB := n2_; clear n0_ n1_ n2_))
     replace BK277 := Aside0.mk (blk_drew BK277.out)
     replace BK278 := Aside0.mk (blk_drew BK278.out)
     replace HB := Aside0.mk (below_drew1 HB.out)
     refine start_ (n := 8) (S := fun w' => w'.cell? ⟨gb277, 0, none⟩ = some (.slice A0_0 l0_0.length c0_0) ∧ w'.cell? ⟨gb277, 1, none⟩ = some (.slice A0_1 l0_1.length c0_1) ∧ w'.cell? ⟨gb277, 2, none⟩ = some (.bool a0_2) ∧ w'.cell? ⟨gb278, 0, none⟩ = some (.int .i64 a1_0) ∧ w'.cell? ⟨gb278, 1, none⟩ = some (.int .i64 a1_1) ∧ w'.cell? ⟨gb278, 2, none⟩ = some (.int .i64 a1_2) ∧ w'.cell? ⟨gb278, 3, none⟩ = some (.int .i64 a1_3) ∧ w'.cell? ⟨gb278, 4, none⟩ = some (.int .i64 a1_4)) (ds := []) (mB 8 0) (by kernel_rfl) rfl rfl ⟨(blk_cell BK277.out 0).trans rfl, (blk_cell BK277.out 1).trans rfl, (blk_cell BK277.out 2).trans rfl, (blk_cell BK278.out 0).trans rfl, (blk_cell BK278.out 1).trans rfl, (blk_cell BK278.out 2).trans rfl, (blk_cell BK278.out 3).trans rfl, (blk_cell BK278.out 4).trans rfl⟩ (fun hHeld => ?_); refine with_tabW gimbalref11_greatest.tab10 gimbalref11_greatest.bits10 (fun HT_ HW_ => ?_)
     generalize w48.drew = w50 at BK277 BK278 HB hHeld ⊢
     refine pV_ 1 41 (mB 8 2) HT_ ?_
     refine pV_ 4 44 (mB 8 18) HT_ ?_
     refine tV_ 0 40 (mB 8 19) HT_ HW_ hHeld ?_
     refine tV_ 2 42 (mB 8 23) HT_ HW_ hHeld ?_
     refine tV_ 5 45 (mB 8 55) HT_ HW_ hHeld ?_
     refine on_ 3 (some 43) (mB 8 63) HT_ (fun K hK => ?_)
     refine gs_ Try.func28 #[.agg #[.slice A0_0 l0_0.length c0_0, .slice A0_1 l0_1.length c0_1, .bool a0_2], .int .i64 a1_2] ?_
     with_reducible refine (gimbalref11_Place.calls k _ _ l0_0 _ _ l0_1 a0_2 a1_2 t284 _ ?side1 ?side2 ?side3 ?side4 A36.out).mono ?_
     (case side1 => exact vC (Kd.C_below HR0_0.out HB.out))
     (case side2 => exact HC0_0.out)
     (case side3 => exact vC (Kd.C_below HR0_1.out HB.out))
     (case side4 => exact HC0_1.out)
     rintro e w51 ⟨rfl, hb⟩
     refine ⟨_, rfl, ?_⟩
     replace BK277 := vBb BK277 hb
     replace BK278 := vBb BK278 hb
     replace HB := vWs HB hb
     (try clear hb)
     (try clear hb2)
     (try clear hk)
     (try clear hi)
     refine hK.out _ _ ⟨(blk_cell BK277.out 0).trans rfl, (blk_cell BK277.out 1).trans rfl, (blk_cell BK277.out 2).trans rfl, (blk_cell BK278.out 0).trans rfl, (blk_cell BK278.out 1).trans rfl, (blk_cell BK278.out 2).trans rfl, (blk_cell BK278.out 3).trans rfl, (blk_cell BK278.out 4).trans rfl⟩ (fun hHeld => ?_)
     clear hK K
     refine norm_ (a' := ?_) ?_ ?_
     rotate_left
     ·
      show Act.put _ (some 43) _ = _
      simp only [Act.put, List.setIfInBounds_toArray, List.set_cons_zero, List.set_cons_succ, i64_w, i32_w]
      rfl
     refine on_ 6 (some 46) (mB 8 127) HT_ (fun K hK => ?_)
     refine gs_ Try.func107 #[.int .i64 t284, .int .i64 a1_3] ?_
     with_reducible refine (gimbalref11_Node.calls t284 a1_3 t285 _ A37.out).mono ?_
     rintro e w' ⟨rfl, ⟨nd, rfl⟩⟩
     refine ⟨_, rfl, ?_⟩
     refine hK.out _ _ ⟨(blk_cell BK277.out 0).trans rfl, (blk_cell BK277.out 1).trans rfl, (blk_cell BK277.out 2).trans rfl, (blk_cell BK278.out 0).trans rfl, (blk_cell BK278.out 1).trans rfl, (blk_cell BK278.out 2).trans rfl, (blk_cell BK278.out 3).trans rfl, (blk_cell BK278.out 4).trans rfl⟩ (fun hHeld => ?_)
     clear hK K
     refine norm_ (a' := ?_) ?_ ?_
     rotate_left
     ·
      show Act.put _ (some 46) _ = _
      simp only [Act.put, List.setIfInBounds_toArray, List.set_cons_zero, List.set_cons_succ, i64_w, i32_w]
      rfl
     refine pV_ 7 8 (mB 8 255) HT_ ?_
     refine dn_ HT_ ?_
     try go_wp2
     (try (rw [drewN_self w51]; generalize hq_ : World.drewN w51 _ = w51; have n0_ : Aside0 (w51.heap[gb277]? = some (.cells #[.slice A0_0 l0_0.length c0_0, .slice A0_1 l0_1.length c0_1, .bool a0_2] 25 (0, 0))) := ⟨by rw [← hq_]; exact (vB BK277.out)⟩; have n1_ : Aside0 (w51.heap[gb278]? = some (.cells #[.int .i64 a1_0, .int .i64 a1_1, .int .i64 a1_2, .int .i64 a1_3, .int .i64 a1_4] 34 (0, 0))) := ⟨by rw [← hq_]; exact (vB BK278.out)⟩; have n2_ : Aside0 (Below w.heap.size w w51) := ⟨by rw [← hq_]; exact (vW HB.out)⟩; clear BK277 BK278 HB hq_; have BK277 := n0_; have BK278 := n1_; have HB := n2_; clear n0_ n1_ n2_))
     replace BK277 := Aside0.mk (blk_drew BK277.out)
     replace BK278 := Aside0.mk (blk_drew BK278.out)
     replace HB := Aside0.mk (below_drew1 HB.out)
     have p287 : 0 ≤ ((ji39) : Int) := of_decide_eq_true (by first | (with_reducible assumption) | assumption)
     have q287 : (ji39) < (l0_1.length : Int) := of_decide_eq_true (by first | (with_reducible assumption) | assumption)
     obtain ⟨ad287, e287, hx287_0⟩ := Kd.at_int HR0_1.out (ji39) p287 q287
     have hw287_0 := hx287_0
     cases e287
     replace hx287_0 := (HB.out.cell (World.block_lt_of_cell? w _ hx287_0)).trans hx287_0
     replace p287 := eq_true p287
     replace q287 := eq_true q287
     refine start_ (n := 11) (S := fun w' => w'.cell? ⟨gb277, 0, none⟩ = some (.slice A0_0 l0_0.length c0_0) ∧ w'.cell? ⟨gb277, 1, none⟩ = some (.slice (some ad287) l0_1.length c0_1) ∧ w'.cell? ⟨gb277, 2, none⟩ = some (.bool a0_2) ∧ w'.cell? (ad287.add ((ji39)).toNat) = some (.int .i64 (rd l0_1 (ji39)))) (ds := []) (mB 11 0) (by kernel_rfl) rfl rfl ⟨(blk_cell BK277.out 0).trans rfl, (blk_cell BK277.out 1).trans rfl, (blk_cell BK277.out 2).trans rfl, ((HB.out.cell (World.block_lt_of_cell? w _ hw287_0)).trans hw287_0)⟩ (fun hHeld => ?_); refine with_tabW gimbalref11_greatest.tab11 gimbalref11_greatest.bits11 (fun HT_ HW_ => ?_)
     generalize w51.drew = w52 at BK277 BK278 HB hx287_0 hHeld ⊢
     refine pV_ 0 47 (mB 11 1) HT_ ?_
     refine pV_ 2 49 (mB 11 5) HT_ ?_
     refine pV_ 4 51 (mB 11 21) HT_ ?_
     refine pV_ 6 53 (mB 11 85) HT_ ?_
     refine tV_ 1 48 (mB 11 87) HT_ HW_ hHeld ?_
     refine on_ 3 (some 50) (mB 11 95) HT_ (fun K hK => ?_)
     refine gs_ Try.func47 #[.int .i64 t280] ?_
     with_reducible refine (gimbalref11_bar.calls t280 t286 _ A38.out).mono ?_
     rintro e w' ⟨rfl, ⟨nd, rfl⟩⟩
     refine ⟨_, rfl, ?_⟩
     refine hK.out _ _ ⟨(blk_cell BK277.out 0).trans rfl, (blk_cell BK277.out 1).trans rfl, (blk_cell BK277.out 2).trans rfl, ((HB.out.cell (World.block_lt_of_cell? w _ hw287_0)).trans hw287_0)⟩ (fun hHeld => ?_)
     clear hK K
     refine norm_ (a' := ?_) ?_ ?_
     rotate_left
     ·
      show Act.put _ (some 50) _ = _
      simp only [Act.put, List.setIfInBounds_toArray, List.set_cons_zero, List.set_cons_succ, i64_w, i32_w]
      rfl
     refine pV_ 5 52 (mB 11 127) HT_ ?_
     refine pV_ 7 54 (mB 11 255) HT_ ?_
     refine pV_ 8 55 (mB 11 511) HT_ ?_
     refine tV_ 9 56 (mB 11 1023) HT_ HW_ hHeld ?_
     refine pV_ 10 4 (mB 11 2047) HT_ ?_
     refine dn_ HT_ ?_
     try go_wp2
     go_ret
     exact ⟨by first | rfl | (simp [errW_none, errW_some] <;> rfl) | (simp only [← hji39]; first | rfl | (simp [errW_none, errW_some] <;> rfl)) | (simp [*, errW_none, errW_some] <;> rfl) | (simp [wrap64]; done), vW HB.out⟩
    ·
     rw [if_neg c41] at H
     exact absurd H (by simp)
   ·
    rw [if_neg c40] at H
    exact absurd H (by simp)
def octop_node.f (a0 : Int) (a1 : Int) : Option (Int) := if a1 < 0 then (some (wrap64 ((wrap64 (2 * a0)) + 1))) else (some (wrap64 (2 * a0)))
theorem octop_node.calls (a0 : Int) (a1 : Int) (r : Int) (w : World) (h : octop_node.f a0 a1 = some r) :
 Calls Try.prog 101 #[.int .i64 a0, .int .i64 a1] w fun e w' => e = .returned (.int .i64 r) ∧ Drawn0 w w' := by
 have H : (if a1 < 0 then (some (wrap64 ((wrap64 (2 * a0)) + 1))) else (some (wrap64 (2 * a0)))) = some r := h
 clear h
 by_cases c3 : a1 < 0
 ·
  rw [if_pos c3] at H
  have c3b0 : decide (a1 < 0) = true := decide_eq_true c3
  clear c3
  obtain rfl := Option.some.inj H
  go_enter Try.func101, Try.ntmps101
  go_wp2
  go_ret
  exact ⟨by first | rfl | (simp; done) | (simp [*]; done), by repeat (first | exact Drawn0.refl _ | apply Drawn0.step)⟩
 ·
  rw [if_neg c3] at H
  have c3b0 : decide (a1 < 0) = false := decide_eq_false c3
  clear c3
  obtain rfl := Option.some.inj H
  go_enter Try.func101, Try.ntmps101
  go_wp2
  go_ret
  exact ⟨by first | rfl | (simp; done) | (simp [*]; done), by repeat (first | exact Drawn0.refl _ | apply Drawn0.step)⟩
def octop_taken.f (a0 : Int) : Option (Int) := if a0 > 1099511627776 then (some 4611686018427387904) else (some (mx a0 (-1099511627776)))
theorem octop_taken.calls (a0 : Int) (r : Int) (w : World) (h : octop_taken.f a0 = some r) :
 Calls Try.prog 102 #[.int .i64 a0] w fun e w' => e = .returned (.int .i64 r) ∧ Below w.heap.size w w' := by
 have HB := Aside0.mk (Below.refl w.heap.size w)
 have H : (if a0 > 1099511627776 then (some 4611686018427387904) else (some (mx a0 (-1099511627776)))) = some r := h
 clear h
 by_cases c2 : a0 > 1099511627776
 ·
  rw [if_pos c2] at H
  have c2b0 : decide (1099511627776 < a0) = true := decide_eq_true c2
  clear c2
  obtain rfl := Option.some.inj H
  go_enter Try.func102, Try.ntmps102
  go_wp2
  go_ret
  exact ⟨vE, by repeat (first | (with_reducible first | exact HB.out | apply below_alloc | apply pw_below_drewN | apply below_drew1) | exact HB.out)⟩
 ·
  rw [if_neg c2] at H
  have c2b0 : decide (1099511627776 < a0) = false := decide_eq_false c2
  clear c2
  obtain ⟨ji3, hji3⟩ : ∃ j_ : Int, (mx a0 (-1099511627776)) = j_ := ⟨_, rfl⟩
  replace H : (some ji3) = some r := by first | (rw [hji3] at H; exact H) | (simp only [hji3] at H ⊢; exact H)
  have hji3_ : (if a0 < (-1099511627776) then (-1099511627776) else a0) = ji3 := hji3
  obtain rfl := Option.some.inj H
  go_enter Try.func102, Try.ntmps102
  go_wp2
  go_ret
  exact ⟨by first | rfl | (simp [errW_none, errW_some] <;> rfl) | (simp only [← hji3]; first | rfl | (simp [errW_none, errW_some] <;> rfl)) | (simp [*, errW_none, errW_some] <;> rfl) | (simp [wrap64]; done), by repeat (first | (with_reducible first | exact HB.out | apply below_alloc | apply pw_below_drewN | apply below_drew1) | exact HB.out)⟩
def itv_None.f (a0_0 : Int) (a0_1 : Int) : Option (Bool) := some (decide (a0_0 > a0_1))
theorem itv_None.calls (a0_0 : Int) (a0_1 : Int) (r : Bool) (w : World) (h : itv_None.f a0_0 a0_1 = some r) :
 Calls Try.prog 57 #[.agg #[.int .i64 a0_0, .int .i64 a0_1]] w fun e w' => e = .returned (.bool r) ∧ Below w.heap.size w w' := by
 have hu36 := Try.underlying36
 have HB := Aside0.mk (Below.refl w.heap.size w)
 have H : (some (decide (a0_0 > a0_1))) = some r := h
 clear h
 obtain rfl := Option.some.inj H
 go_enter Try.func57, Try.ntmps57
 go_wp2_with (first | ((with_reducible refine gate_dst (N := 1) rfl ?_); refine bx_ 1 #[.int .i64 a0_0, .int .i64 a0_1] 36 ?_; intro gb101 hg w2 hbox hb; have n0_ := Aside0.mk (below_step (by repeat (first | (with_reducible first | exact HB.out | apply below_alloc | apply pw_below_drewN | apply below_drew1) | exact HB.out)) hb); have n1_ := Aside0.mk (hbox); have n2_ := Aside0.mk ((by rw [hg]; exact (below_size (by repeat (first | (with_reducible first | exact HB.out | apply below_alloc | apply pw_below_drewN | apply below_drew1) | exact HB.out))) : w.heap.size ≤ gb101)); have n3_ := Aside0.mk ((by rw [hg]; exact (below_size (by repeat (first | (with_reducible first | exact HB.out | apply below_alloc | apply pw_below_drewN | apply below_drew1) | exact HB.out))) : w.heap.size ≤ gb101)); clear HB; have HB := n0_; have BK101 := n1_; have GW101 := n2_; have GE101 := n3_; clear n0_ n1_ n2_ n3_; clear hb hbox hg; have hcz3_0 : w2.cell? ⟨gb101, 0, none⟩ = some (.int .i64 a0_0) := (blk_cell BK101.out 0).trans rfl; have hcz3_1 : w2.cell? ⟨gb101, 1, none⟩ = some (.int .i64 a0_1) := (blk_cell BK101.out 1).trans rfl; have hfz3_0 := blk_frozen BK101.out 0; have hfz3_1 := blk_frozen BK101.out 1))
 go_ret
 exact ⟨vE, by repeat (first | (with_reducible first | exact HB.out | apply below_alloc | apply pw_below_drewN | apply below_drew1 | refine below_set ?_ GE101.out) | exact HB.out)⟩
def octop_less.f (a0 : Int) (a1 : Int) (a2 : Int) : Option (Int × Int × Int × Int × Int) := if a0 < a2 then (some (a0, 1, a2, wrap64 (-a1), 0)) else (some (a2, wrap64 (-a1), a0, 1, 0))
theorem octop_less.calls (a0 : Int) (a1 : Int) (a2 : Int) (r1 : Int) (r2 : Int) (r3 : Int) (r4 : Int) (r5 : Int) (w : World) (h : octop_less.f a0 a1 a2 = some (r1, r2, r3, r4, r5)) :
 Calls Try.prog 70 #[.int .i64 a0, .int .i64 a1, .int .i64 a2] w fun e w' => e = .returned (.agg #[.int .i64 r1, .int .i64 r2, .int .i64 r3, .int .i64 r4, .int .i64 r5]) ∧ Below w.heap.size w w' := by
 have hu34 := Try.underlying34
 have HB := Aside0.mk (Below.refl w.heap.size w)
 have H := h
 unfold octop_less.f at H
 clear h
 by_cases c4 : a0 < a2
 ·
  rw [if_pos c4] at H
  have c4b0 : decide (a0 < a2) = true := decide_eq_true c4
  clear c4
  simp only [Option.some.injEq, Prod.mk.injEq] at H
  obtain ⟨rfl, rfl, rfl, rfl, rfl⟩ := H
  go_enter Try.func70, Try.ntmps70
  go_wp2_with (first | ((with_reducible refine gate_dst (N := 6) rfl ?_); refine bx_ 6 #[.int .i64 0, .int .i64 0, .int .i64 0, .int .i64 0, .int .i64 0] 34 ?_; intro gb151 hg w5 hbox hb; have BK151 := Aside0.mk (hbox); have GW151 := vS hg HB; have GE151 := vS hg HB; replace HB := vWs HB hb; clear hb hbox hg; obtain ⟨hcz6_0, hcz6_1, hcz6_2, hcz6_3, hcz6_4, hfz6_0, hfz6_1, hfz6_2, hfz6_3, hfz6_4⟩ := vF5 BK151.out))
  refine bodyPost_ret (results_cell_row rfl _ _ gb151 34 #[.int .i64 a0, .int .i64 1, .int .i64 a2, .int .i64 (wrap64 (-a1)), .int .i64 0] (0, 0) _ rfl (by (with_reducible repeat (first | refine blk_drewN ?_ _ | refine blk_drew ?_ | refine blk_alloc ?_ _)); refine blk_put (cs := #[.int .i64 a0, .int .i64 1, .int .i64 a2, .int .i64 (wrap64 (-a1)), .int .i64 0]) ?_ 4 _ rfl; (with_reducible repeat (first | refine blk_drewN ?_ _ | refine blk_drew ?_ | refine blk_alloc ?_ _)); refine blk_put (cs := #[.int .i64 a0, .int .i64 1, .int .i64 a2, .int .i64 0, .int .i64 0]) ?_ 3 _ rfl; (with_reducible repeat (first | refine blk_drewN ?_ _ | refine blk_drew ?_ | refine blk_alloc ?_ _)); refine blk_put (cs := #[.int .i64 a0, .int .i64 1, .int .i64 0, .int .i64 0, .int .i64 0]) ?_ 2 _ rfl; (with_reducible repeat (first | refine blk_drewN ?_ _ | refine blk_drew ?_ | refine blk_alloc ?_ _)); refine blk_put (cs := #[.int .i64 a0, .int .i64 0, .int .i64 0, .int .i64 0, .int .i64 0]) ?_ 1 _ rfl; (with_reducible repeat (first | refine blk_drewN ?_ _ | refine blk_drew ?_ | refine blk_alloc ?_ _)); refine blk_put (cs := #[.int .i64 0, .int .i64 0, .int .i64 0, .int .i64 0, .int .i64 0]) ?_ 0 _ rfl; (with_reducible repeat (first | refine blk_drewN ?_ _ | refine blk_drew ?_ | refine blk_alloc ?_ _)); exact BK151.out) Try.underlying34 rfl (by kernel_rfl)) rfl ?_
  exact ⟨vE, vW HB.out⟩
 ·
  rw [if_neg c4] at H
  have c4b0 : decide (a0 < a2) = false := decide_eq_false c4
  clear c4
  simp only [Option.some.injEq, Prod.mk.injEq] at H
  obtain ⟨rfl, rfl, rfl, rfl, rfl⟩ := H
  go_enter Try.func70, Try.ntmps70
  go_wp2_with (first | ((with_reducible refine gate_dst (N := 6) rfl ?_); refine bx_ 6 #[.int .i64 0, .int .i64 0, .int .i64 0, .int .i64 0, .int .i64 0] 34 ?_; intro gb151 hg w7 hbox hb; have BK151 := Aside0.mk (hbox); have GW151 := vS hg HB; have GE151 := vS hg HB; replace HB := vWs HB hb; clear hb hbox hg; obtain ⟨hcz8_0, hcz8_1, hcz8_2, hcz8_3, hcz8_4, hfz8_0, hfz8_1, hfz8_2, hfz8_3, hfz8_4⟩ := vF5 BK151.out))
  refine bodyPost_ret (results_cell_row rfl _ _ gb151 34 #[.int .i64 a2, .int .i64 (wrap64 (-a1)), .int .i64 a0, .int .i64 1, .int .i64 0] (0, 0) _ rfl (by (with_reducible repeat (first | refine blk_drewN ?_ _ | refine blk_drew ?_ | refine blk_alloc ?_ _)); refine blk_put (cs := #[.int .i64 a2, .int .i64 (wrap64 (-a1)), .int .i64 a0, .int .i64 1, .int .i64 0]) ?_ 4 _ rfl; (with_reducible repeat (first | refine blk_drewN ?_ _ | refine blk_drew ?_ | refine blk_alloc ?_ _)); refine blk_put (cs := #[.int .i64 a2, .int .i64 (wrap64 (-a1)), .int .i64 a0, .int .i64 0, .int .i64 0]) ?_ 3 _ rfl; (with_reducible repeat (first | refine blk_drewN ?_ _ | refine blk_drew ?_ | refine blk_alloc ?_ _)); refine blk_put (cs := #[.int .i64 a2, .int .i64 (wrap64 (-a1)), .int .i64 0, .int .i64 0, .int .i64 0]) ?_ 2 _ rfl; (with_reducible repeat (first | refine blk_drewN ?_ _ | refine blk_drew ?_ | refine blk_alloc ?_ _)); refine blk_put (cs := #[.int .i64 a2, .int .i64 0, .int .i64 0, .int .i64 0, .int .i64 0]) ?_ 1 _ rfl; (with_reducible repeat (first | refine blk_drewN ?_ _ | refine blk_drew ?_ | refine blk_alloc ?_ _)); refine blk_put (cs := #[.int .i64 0, .int .i64 0, .int .i64 0, .int .i64 0, .int .i64 0]) ?_ 0 _ rfl; (with_reducible repeat (first | refine blk_drewN ?_ _ | refine blk_drew ?_ | refine blk_alloc ?_ _)); exact BK151.out) Try.underlying34 rfl (by kernel_rfl)) rfl ?_
  exact ⟨vE, vW HB.out⟩
end Go.Proofs.Ytphfchbggechhaa.QO
end
end
section
namespace Go.Proofs.Ytphfchbggechhaa.QO
open Go.RowKit YtphfchbggechhaaW.PrintWords YtphfchbggechhaaW.PrintLast
set_option linter.unusedVariables false
set_option linter.unusedSimpArgs false
noncomputable def gimbalref11_Fit.f (l0_0 : List Int) (l0_1 : List Int) (a0_2 : Bool) : Option Bool := if l0_0.length ≤ 17592186044416 then some (ofitB l0_0 l0_1 a0_2) else none
theorem Box1.three {w W : World} {g : Nat} {a b c : Value} {t : Nat} (h : Box1 w g #[a, b, c] t W) : W.cell? ⟨g, 0, none⟩ = some a ∧ W.cell? ⟨g, 1, none⟩ = some b ∧ W.cell? ⟨g, 2, none⟩ = some c := ⟨(blk_cell h.box 0).trans rfl, (blk_cell h.box 1).trans rfl, (blk_cell h.box 2).trans rfl⟩
theorem gimbalref11_Fit.calls (A0_0 : Option Addr) (c0_0 : Nat) (l0_0 : List Int) (A0_1 : Option Addr) (c0_1 : Nat) (l0_1 : List Int) (a0_2 : Bool) (r : Bool) (w : World) (hr0_0 : Kd.C (Kd.int .i64) w A0_0 l0_0.length l0_0) (hc0_0 : l0_0.length ≤ c0_0) (hr0_1 : Kd.C (Kd.int .i64) w A0_1 l0_1.length l0_1) (hc0_1 : l0_1.length ≤ c0_1) (h : gimbalref11_Fit.f l0_0 l0_1 a0_2 = some r) :
 Calls Try.prog 12 #[.agg #[.slice A0_0 l0_0.length c0_0, .slice A0_1 l0_1.length c0_1, .bool a0_2]] w fun e w' => e = .returned (.bool r) ∧ Below w.heap.size w w' := by
 have hu25 := Try.underlying25
 have HR0 := Aside0.mk hr0_0
 have HR1 := Aside0.mk hr0_1
 have HC0 := Aside0.mk hc0_0
 have HC1 := Aside0.mk hc0_1
 clear hr0_0 hr0_1 hc0_0 hc0_1
 unfold gimbalref11_Fit.f at h
 by_cases hlen : l0_0.length ≤ 17592186044416
 ·
  rw [if_pos hlen] at h
  have HV := Aside0.mk (Option.some.inj h)
  clear h
  have e1 : wrap64 (2 * (l0_0.length : Int)) = 2 * (l0_0.length : Int) := by unfold wrap64; omega
  have e2 : IntKind.i64.wrap (2 * (l0_0.length : Int)) = 2 * (l0_0.length : Int) := by rw [IntKind.wrap_i64]; omega
  cases hv : varsB l0_0 with
  | false =>
   have HM := fun W (hW : Kd.C (Kd.int .i64) W A0_0 l0_0.length l0_0) => gimbalref11_VarsFit.calls A0_0 c0_0 l0_0 false W hW HC0.out (by unfold gimbalref11_VarsFit.f; rw [hv])
   replace HM := Aside0.mk HM
   have HF := Aside0.mk (varsB_false.1 hv)
   clear hv hlen
   go_enter Try.func12, Try.ntmps12
   go_wp2_with (go_at_call 46; (with_reducible refine (HM.out _ ?side1).mono ?_); (case side1 => repeat (first | exact HR0.out | (with_reducible refine Kd.C_alloc ?_ _) | (with_reducible refine Kd.C_drewN ?_ _) | (with_reducible refine Kd.C_drew ?_))); rintro e w1 ⟨rfl, ⟨nd, rfl⟩⟩)
   go_ret
   refine ⟨?_, by repeat (first | exact Below.refl _ _ | (with_reducible apply below_alloc) | (with_reducible apply pw_below_drewN) | (with_reducible apply below_drew))⟩
   rw [← HV.out, ofitB_false.2 (fun h => HF.out h.1)]
   rfl
  | true =>
   have HM := fun W (hW : Kd.C (Kd.int .i64) W A0_0 l0_0.length l0_0) => gimbalref11_VarsFit.calls A0_0 c0_0 l0_0 true W hW HC0.out (by unfold gimbalref11_VarsFit.f; rw [hv])
   replace HM := Aside0.mk HM
   have HT := Aside0.mk (varsB_true.1 hv)
   clear hv hlen
   cases a0_2 with
   | true =>
    by_cases hz : l0_1.length = 0
    ·
     have f1 : ((l0_1.length : Int) == 0) = true := by rw [hz]; rfl
     have f2 : (l0_1.length == 0) = true := by rw [hz]; rfl
     have HZ := Aside0.mk hz
     clear hz
     go_enter Try.func12, Try.ntmps12
     go_wp2_with (go_at_call 46; (with_reducible refine (HM.out _ ?side1).mono ?_); (case side1 => repeat (first | exact HR0.out | (with_reducible refine Kd.C_alloc ?_ _) | (with_reducible refine Kd.C_drewN ?_ _) | (with_reducible refine Kd.C_drew ?_))); rintro e w1 ⟨rfl, ⟨nd, rfl⟩⟩)
     go_ret
     refine ⟨?_, by repeat (first | exact Below.refl _ _ | (with_reducible apply below_alloc) | (with_reducible apply pw_below_drewN) | (with_reducible apply below_drew))⟩
     rw [← HV.out, ofitB_true.2 ⟨HT.out, fun _ => List.eq_nil_of_length_eq_zero HZ.out, fun h => by cases h⟩]
     rfl
    ·
     have f1 : ((l0_1.length : Int) == 0) = false := by simpa using (by omega : ¬ ((l0_1.length : Int) = 0))
     have f2 : (l0_1.length == 0) = false := by simpa using hz
     have HZ := Aside0.mk hz
     clear hz
     go_enter Try.func12, Try.ntmps12
     go_wp2_with (go_at_call 46; (with_reducible refine (HM.out _ ?side1).mono ?_); (case side1 => repeat (first | exact HR0.out | (with_reducible refine Kd.C_alloc ?_ _) | (with_reducible refine Kd.C_drewN ?_ _) | (with_reducible refine Kd.C_drew ?_))); rintro e w1 ⟨rfl, ⟨nd, rfl⟩⟩)
     go_ret
     refine ⟨?_, by repeat (first | exact Below.refl _ _ | (with_reducible apply below_alloc) | (with_reducible apply pw_below_drewN) | (with_reducible apply below_drew))⟩
     rw [← HV.out, ofitB_false.2 (fun h => HZ.out (by rw [h.2.1 rfl]; rfl))]
     rfl
   | false =>
    obtain ⟨n2, hn2⟩ : ∃ n2 : Int, 2 * (l0_0.length : Int) = n2 := ⟨_, rfl⟩
    replace e1 : wrap64 (2 * (l0_0.length : Int)) = n2 := e1.trans hn2
    replace e2 : IntKind.i64.wrap (2 * (l0_0.length : Int)) = n2 := e2.trans hn2
    have hl8 := HT.out.1
    obtain ⟨nn, hnn⟩ : ∃ nn : Int, n2 * n2 = nn := ⟨_, rfl⟩
    have hnn2 : 0 ≤ nn ∧ nn ≤ 256 := by rw [← hnn]; exact mul_in (a := n2) (b := n2) (by omega) (by omega) (by omega) (by omega)
    have e3 : wrap64 (n2 * n2) = nn := by rw [hnn]; unfold wrap64; omega
    have e4 : IntKind.i64.wrap (n2 * n2) = nn := by rw [hnn, IntKind.wrap_i64]; omega
    by_cases hz : (l0_1.length : Int) = nn
    ·
     have f1 : ((l0_1.length : Int) != nn) = false := by rw [hz]; simp
     have HZ := Aside0.mk hz
     have HN := Aside0.mk hn2
     have HNN := Aside0.mk hnn
     clear hz hn2 hnn hnn2 hl8
     go_enter Try.func12, Try.ntmps12
     go_wp2_with (go_at_call 46; (with_reducible refine (HM.out _ ?side1).mono ?_); (case side1 => repeat (first | exact HR0.out | (with_reducible refine Kd.C_alloc ?_ _) | (with_reducible refine Kd.C_drewN ?_ _) | (with_reducible refine Kd.C_drew ?_))); rintro e w1 ⟨rfl, ⟨nd, rfl⟩⟩)
     go_loopg [4, 5, 6] n2.toNat (fun gg s4 _ _ wr => ∃ i : Int, s4 = .int .i64 i ∧ Aside0 (0 ≤ i ∧ i ≤ n2 ∧ n2.toNat - i.toNat ≤ gg) ∧ Aside0 (Box1 w w.heap.size #[.slice A0_0 l0_0.length c0_0, .slice A0_1 l0_1.length c0_1, .bool false] 25 wr) ∧ Aside0 (∀ a b : Int, 0 ≤ a → a < i → 0 ≤ b → b < n2 → EntryOk n2 l0_1 a b))
     case atStart => exact ⟨0, rfl, ⟨by have := HN.out; omega, by have := HN.out; omega, by omega⟩, ⟨by repeat (first | exact box1_new (Below.refl _ _) rfl | (with_reducible apply Box1.drewN) | (with_reducible apply Box1.drew))⟩, ⟨fun a b h0 h1 => absurd h1 (by omega)⟩⟩
     case round =>
      obtain ⟨i, rfl, HI, HX, HA⟩ := hrel
      by_cases hlt : i < n2
      ·
       have f2 : decide (i < n2) = true := decide_eq_true hlt
       have HL := Aside0.mk hlt
       clear hlt
       go_wp2
       obtain ⟨wo, rfl⟩ : ∃ wo : World, wo = wr := ⟨_, rfl⟩
       go_loopg [5, 6] n2.toNat (fun hh s5 _ wr => ∃ j : Int, s5 = .int .i64 j ∧ Aside0 (0 ≤ j ∧ j ≤ n2 ∧ n2.toNat - j.toNat ≤ hh) ∧ Aside0 (Box1 w w.heap.size #[.slice A0_0 l0_0.length c0_0, .slice A0_1 l0_1.length c0_1, .bool false] 25 wr) ∧ Aside0 (∀ b : Int, 0 ≤ b → b < j → EntryOk n2 l0_1 i b))
       case atStart => exact ⟨0, rfl, ⟨by have := HN.out; omega, by have := HN.out; omega, by omega⟩, ⟨HX.out⟩, ⟨fun b h0 h1 => absurd h1 (by omega)⟩⟩
       case round =>
        clear HX
        obtain ⟨j, rfl, HJ, HX, HE⟩ := hrel
        by_cases hlt : j < n2
        ·
         have f3 : decide (j < n2) = true := decide_eq_true hlt
         have HK := Aside0.mk hlt
         clear hlt
         have hi := HI.out; have hj := HJ.out; have hil := HL.out; have hjl := HK.out
         have h8 := HT.out.1
         have hm : (l0_1.length : Int) = n2 * n2 := by rw [HNN.out]; exact HZ.out
         have nj := nbar_in (i := j) (n := l0_0.length) hj.1 (by rw [HN.out]; exact hjl)
         have ni := nbar_in (i := i) (n := l0_0.length) hi.1 (by rw [HN.out]; exact hil)
         rw [HN.out] at nj ni
         have hn16 : n2 ≤ 16 := by have := HN.out; omega
         have b1 : gimbalref11_bar.f j = some (nbar j) := by unfold gimbalref11_bar.f; rw [if_pos ⟨hj.1, by have := HN.out; omega⟩]
         have b2 : gimbalref11_bar.f i = some (nbar i) := by unfold gimbalref11_bar.f; rw [if_pos ⟨hi.1, by have := HN.out; omega⟩]
         have pl1 := place_in (n := n2) hi.1 hil hj.1 hjl
         have pl2 := place_in (n := n2) nj.1 nj.2 ni.1 ni.2
         obtain ⟨p, hp⟩ : ∃ p, nbar j = p := ⟨_, rfl⟩
         obtain ⟨q, hq⟩ : ∃ q, nbar i = q := ⟨_, rfl⟩
         rw [hp] at nj pl2 b1
         rw [hq] at ni pl2 b2
         have mi1 := mul_in (a := n2) (b := i) (by omega) (by have := HN.out; omega) (by omega) (by have := HN.out; omega)
         have mi2 := mul_in (a := n2) (b := p) (by omega) (by have := HN.out; omega) (by omega) (by have := HN.out; omega)
         obtain ⟨s, hs⟩ : ∃ s, i * n2 = s := ⟨_, rfl⟩
         obtain ⟨u, hu⟩ : ∃ u, s + j = u := ⟨_, rfl⟩
         obtain ⟨v, hv⟩ : ∃ v, p * n2 = v := ⟨_, rfl⟩
         obtain ⟨z, hz⟩ : ∃ z, v + q = z := ⟨_, rfl⟩
         rw [hs] at pl1 mi1
         rw [hu] at pl1
         rw [hv] at pl2 mi2
         rw [hz] at pl2
         rw [← hm] at pl1 pl2
         obtain ⟨ad, e0, hx⟩ := Kd.at_int (Kd.C_below HR1.out HX.out.below) u pl1.1 pl1.2
         obtain ⟨ad', e9, hy⟩ := Kd.at_int (Kd.C_below HR1.out HX.out.below) z pl2.1 pl2.2
         cases e0
         cases e9
         obtain ⟨x, hxx⟩ : ∃ x, rd l0_1 u = x := ⟨_, rfl⟩
         obtain ⟨y, hyy⟩ : ∃ y, rd l0_1 z = y := ⟨_, rfl⟩
         rw [hxx] at hx
         rw [hyy] at hy
         have g1 : wrap64 (i * n2) = s := by rw [hs]; unfold wrap64; omega
         have g2 : IntKind.i64.wrap (i * n2) = s := by rw [hs, IntKind.wrap_i64]; omega
         have g3 : wrap64 (s + j) = u := by rw [hu]; unfold wrap64; omega
         have g4 : IntKind.i64.wrap (s + j) = u := by rw [hu, IntKind.wrap_i64]; omega
         have g5 : wrap64 (p * n2) = v := by rw [hv]; unfold wrap64; omega
         have g6 : IntKind.i64.wrap (p * n2) = v := by rw [hv, IntKind.wrap_i64]; omega
         have g7 : wrap64 (v + q) = z := by rw [hz]; unfold wrap64; omega
         have g8 : IntKind.i64.wrap (v + q) = z := by rw [hz, IntKind.wrap_i64]; omega
         have k1 := eq_true pl1.1
         have k2 := eq_true pl1.2
         have k3 := eq_true pl2.1
         have k4 := eq_true pl2.2
         have B1 := Aside0.mk (fun W => gimbalref11_bar_still j p W b1)
         have B2 := Aside0.mk (fun W => gimbalref11_bar_still i q W b2)
         have HXY : Aside0 (EntryOk n2 l0_1 i j ↔ (x = 4611686018427387904 ∨ (-1099511627776 ≤ x ∧ x ≤ 1099511627776)) ∧ (i = j → x = 0) ∧ x = y) := ⟨by unfold EntryOk; rw [hp, hq, hs, hu, hv, hz, hxx, hyy]⟩
         clear hi hj hil hjl h8 hn16 hm nj ni b1 b2 hp hq hs hu hv hz hxx hyy pl1 pl2 mi1 mi2
         obtain ⟨hx0, hx1, hx2⟩ := HX.out.three
         go_upto_region 15 with fail
         go_cut [80] (fun s80 wx => ∃ b : Bool, s80 = .bool b ∧ (b = false ↔ (x = 4611686018427387904 ∨ (-1099511627776 ≤ x ∧ x ≤ 1099511627776)) ∧ (i = j → x = 0) ∧ x = y) ∧ Box1 w w.heap.size #[.slice A0_0 l0_0.length c0_0, .slice (some ad) l0_1.length c0_1, .bool false] 25 wx)
         case first =>
          by_cases c1 : x = 4611686018427387904
          ·
           have f1 : (x != 4611686018427387904) = false := by rw [c1]; rfl
           by_cases c4 : i = j
           ·
            have f4 : (i == j) = true := by simpa using c4
            by_cases c5 : x = 0
            ·
             have f5 : (x != 0) = false := by rw [c5]; rfl
             by_cases c6 : x = y
             ·
              have f6 : (x != y) = false := by rw [c6]; simp
              have HB : Aside0 (false = false ↔ (x = 4611686018427387904 ∨ (-1099511627776 ≤ x ∧ x ≤ 1099511627776)) ∧ (i = j → x = 0) ∧ x = y) := ⟨by constructor; (intro _; exact ⟨by omega, by omega, by omega⟩); intro _; rfl⟩
              clear c1 c4 c5 c6
              go_quiet ((first | (go_at_call 47; exact Calls.quiet_of_same (B1.out _)) | (go_at_call 47; exact Calls.quiet_of_same (B2.out _))))
              go_wp2_with fail
              go_meet
              exact ⟨false, rfl, (by have h := HB.out; first | exact h | simpa using h), (by repeat (first | exact HX.out | (with_reducible apply Box1.drewN) | (with_reducible apply Box1.drew)))⟩
             ·
              have f6 : (x != y) = true := by simpa using c6
              have HB : Aside0 (true = false ↔ (x = 4611686018427387904 ∨ (-1099511627776 ≤ x ∧ x ≤ 1099511627776)) ∧ (i = j → x = 0) ∧ x = y) := ⟨by constructor; (intro h; cases h); intro h; exfalso; omega⟩
              clear c1 c4 c5 c6
              go_quiet ((first | (go_at_call 47; exact Calls.quiet_of_same (B1.out _)) | (go_at_call 47; exact Calls.quiet_of_same (B2.out _))))
              go_wp2_with fail
              go_meet
              exact ⟨true, rfl, (by have h := HB.out; first | exact h | simpa using h), (by repeat (first | exact HX.out | (with_reducible apply Box1.drewN) | (with_reducible apply Box1.drew)))⟩
            ·
             have f5 : (x != 0) = true := by simpa using c5
             have HB : Aside0 (true = false ↔ (x = 4611686018427387904 ∨ (-1099511627776 ≤ x ∧ x ≤ 1099511627776)) ∧ (i = j → x = 0) ∧ x = y) := ⟨by constructor; (intro h; cases h); intro h; exfalso; omega⟩
             clear c1 c4 c5
             go_quiet ((first | (go_at_call 47; exact Calls.quiet_of_same (B1.out _)) | (go_at_call 47; exact Calls.quiet_of_same (B2.out _))))
             go_wp2_with fail
             go_meet
             exact ⟨true, rfl, (by have h := HB.out; first | exact h | simpa using h), (by repeat (first | exact HX.out | (with_reducible apply Box1.drewN) | (with_reducible apply Box1.drew)))⟩
           ·
            have f4 : (i == j) = false := by simpa using c4
            by_cases c6 : x = y
            ·
             have f6 : (x != y) = false := by rw [c6]; simp
             have HB : Aside0 (false = false ↔ (x = 4611686018427387904 ∨ (-1099511627776 ≤ x ∧ x ≤ 1099511627776)) ∧ (i = j → x = 0) ∧ x = y) := ⟨by constructor; (intro _; exact ⟨by omega, by omega, by omega⟩); intro _; rfl⟩
             clear c1 c4 c6
             go_quiet ((first | (go_at_call 47; exact Calls.quiet_of_same (B1.out _)) | (go_at_call 47; exact Calls.quiet_of_same (B2.out _))))
             go_wp2_with fail
             go_meet
             exact ⟨false, rfl, (by have h := HB.out; first | exact h | simpa using h), (by repeat (first | exact HX.out | (with_reducible apply Box1.drewN) | (with_reducible apply Box1.drew)))⟩
            ·
             have f6 : (x != y) = true := by simpa using c6
             have HB : Aside0 (true = false ↔ (x = 4611686018427387904 ∨ (-1099511627776 ≤ x ∧ x ≤ 1099511627776)) ∧ (i = j → x = 0) ∧ x = y) := ⟨by constructor; (intro h; cases h); intro h; exfalso; omega⟩
             clear c1 c4 c6
             go_quiet ((first | (go_at_call 47; exact Calls.quiet_of_same (B1.out _)) | (go_at_call 47; exact Calls.quiet_of_same (B2.out _))))
             go_wp2_with fail
             go_meet
             exact ⟨true, rfl, (by have h := HB.out; first | exact h | simpa using h), (by repeat (first | exact HX.out | (with_reducible apply Box1.drewN) | (with_reducible apply Box1.drew)))⟩
          ·
           have f1 : (x != 4611686018427387904) = true := by simpa using c1
           by_cases c2 : x < -1099511627776
           ·
            have f2 : decide (x < -1099511627776) = true := decide_eq_true c2
            have HB : Aside0 (true = false ↔ (x = 4611686018427387904 ∨ (-1099511627776 ≤ x ∧ x ≤ 1099511627776)) ∧ (i = j → x = 0) ∧ x = y) := ⟨by constructor; (intro h; cases h); intro h; exfalso; omega⟩
            clear c1 c2
            go_quiet ((first | (go_at_call 47; exact Calls.quiet_of_same (B1.out _)) | (go_at_call 47; exact Calls.quiet_of_same (B2.out _))))
            go_wp2_with fail
            go_meet
            exact ⟨true, rfl, (by have h := HB.out; first | exact h | simpa using h), (by repeat (first | exact HX.out | (with_reducible apply Box1.drewN) | (with_reducible apply Box1.drew)))⟩
           ·
            have f2 : decide (x < -1099511627776) = false := decide_eq_false c2
            by_cases c3 : 1099511627776 < x
            ·
             have f3 : decide (1099511627776 < x) = true := decide_eq_true c3
             have HB : Aside0 (true = false ↔ (x = 4611686018427387904 ∨ (-1099511627776 ≤ x ∧ x ≤ 1099511627776)) ∧ (i = j → x = 0) ∧ x = y) := ⟨by constructor; (intro h; cases h); intro h; exfalso; omega⟩
             clear c1 c2 c3
             go_quiet ((first | (go_at_call 47; exact Calls.quiet_of_same (B1.out _)) | (go_at_call 47; exact Calls.quiet_of_same (B2.out _))))
             go_wp2_with fail
             go_meet
             exact ⟨true, rfl, (by have h := HB.out; first | exact h | simpa using h), (by repeat (first | exact HX.out | (with_reducible apply Box1.drewN) | (with_reducible apply Box1.drew)))⟩
            ·
             have f3 : decide (1099511627776 < x) = false := decide_eq_false c3
             by_cases c4 : i = j
             ·
              have f4 : (i == j) = true := by simpa using c4
              by_cases c5 : x = 0
              ·
               have f5 : (x != 0) = false := by rw [c5]; rfl
               by_cases c6 : x = y
               ·
                have f6 : (x != y) = false := by rw [c6]; simp
                have HB : Aside0 (false = false ↔ (x = 4611686018427387904 ∨ (-1099511627776 ≤ x ∧ x ≤ 1099511627776)) ∧ (i = j → x = 0) ∧ x = y) := ⟨by constructor; (intro _; exact ⟨by omega, by omega, by omega⟩); intro _; rfl⟩
                clear c1 c2 c3 c4 c5 c6
                go_quiet ((first | (go_at_call 47; exact Calls.quiet_of_same (B1.out _)) | (go_at_call 47; exact Calls.quiet_of_same (B2.out _))))
                go_wp2_with fail
                go_meet
                exact ⟨false, rfl, (by have h := HB.out; first | exact h | simpa using h), (by repeat (first | exact HX.out | (with_reducible apply Box1.drewN) | (with_reducible apply Box1.drew)))⟩
               ·
                have f6 : (x != y) = true := by simpa using c6
                have HB : Aside0 (true = false ↔ (x = 4611686018427387904 ∨ (-1099511627776 ≤ x ∧ x ≤ 1099511627776)) ∧ (i = j → x = 0) ∧ x = y) := ⟨by constructor; (intro h; cases h); intro h; exfalso; omega⟩
                clear c1 c2 c3 c4 c5 c6
                go_quiet ((first | (go_at_call 47; exact Calls.quiet_of_same (B1.out _)) | (go_at_call 47; exact Calls.quiet_of_same (B2.out _))))
                go_wp2_with fail
                go_meet
                exact ⟨true, rfl, (by have h := HB.out; first | exact h | simpa using h), (by repeat (first | exact HX.out | (with_reducible apply Box1.drewN) | (with_reducible apply Box1.drew)))⟩
              ·
               have f5 : (x != 0) = true := by simpa using c5
               have HB : Aside0 (true = false ↔ (x = 4611686018427387904 ∨ (-1099511627776 ≤ x ∧ x ≤ 1099511627776)) ∧ (i = j → x = 0) ∧ x = y) := ⟨by constructor; (intro h; cases h); intro h; exfalso; omega⟩
               clear c1 c2 c3 c4 c5
               go_quiet ((first | (go_at_call 47; exact Calls.quiet_of_same (B1.out _)) | (go_at_call 47; exact Calls.quiet_of_same (B2.out _))))
               go_wp2_with fail
               go_meet
               exact ⟨true, rfl, (by have h := HB.out; first | exact h | simpa using h), (by repeat (first | exact HX.out | (with_reducible apply Box1.drewN) | (with_reducible apply Box1.drew)))⟩
             ·
              have f4 : (i == j) = false := by simpa using c4
              by_cases c6 : x = y
              ·
               have f6 : (x != y) = false := by rw [c6]; simp
               have HB : Aside0 (false = false ↔ (x = 4611686018427387904 ∨ (-1099511627776 ≤ x ∧ x ≤ 1099511627776)) ∧ (i = j → x = 0) ∧ x = y) := ⟨by constructor; (intro _; exact ⟨by omega, by omega, by omega⟩); intro _; rfl⟩
               clear c1 c2 c3 c4 c6
               go_quiet ((first | (go_at_call 47; exact Calls.quiet_of_same (B1.out _)) | (go_at_call 47; exact Calls.quiet_of_same (B2.out _))))
               go_wp2_with fail
               go_meet
               exact ⟨false, rfl, (by have h := HB.out; first | exact h | simpa using h), (by repeat (first | exact HX.out | (with_reducible apply Box1.drewN) | (with_reducible apply Box1.drew)))⟩
              ·
               have f6 : (x != y) = true := by simpa using c6
               have HB : Aside0 (true = false ↔ (x = 4611686018427387904 ∨ (-1099511627776 ≤ x ∧ x ≤ 1099511627776)) ∧ (i = j → x = 0) ∧ x = y) := ⟨by constructor; (intro h; cases h); intro h; exfalso; omega⟩
               clear c1 c2 c3 c4 c6
               go_quiet ((first | (go_at_call 47; exact Calls.quiet_of_same (B1.out _)) | (go_at_call 47; exact Calls.quiet_of_same (B2.out _))))
               go_wp2_with fail
               go_meet
               exact ⟨true, rfl, (by have h := HB.out; first | exact h | simpa using h), (by repeat (first | exact HX.out | (with_reducible apply Box1.drewN) | (with_reducible apply Box1.drew)))⟩
         case rest =>
          obtain ⟨b, rfl, hb, hX⟩ := hcut
          clear HX hx0 hx1 hx2 hx hy B1 B2 g1 g2 g3 g4 g5 g6 g7 g8 k1 k2 k3 k4
          have HX := Aside0.mk hX
          have HB := Aside0.mk (hb.trans HXY.out.symm)
          clear hX hb HXY
          cases b with
          | true =>
           go_wp2
           go_ret
           refine ⟨?_, HX.out.below⟩
           have h1 := HI.out; have h2 := HL.out; have h3 := HJ.out; have h4 := HK.out
           rw [← HV.out, ofitB_false.2 (fun h => by have := (h.2.2 rfl).2 i j h1.1 (by rw [HN.out]; exact h2) h3.1 (by rw [HN.out]; exact h4); rw [HN.out] at this; exact absurd (HB.out.2 this) (by simp))]
           rfl
          | false =>
           go_wp2
           go_roundg (n2.toNat - (j.toNat + 1))
           case measure => have h1 := HJ.out; have h2 := HK.out; omega
           case rel =>
            have h1 := HJ.out; have h2 := HK.out; have h3 := HT.out.1; have h4 := HN.out
            have hw : wrap64 (j + 1) = j + 1 := by unfold wrap64; omega
            refine ⟨wrap64 (j + 1), rfl, ⟨by omega, by omega, by omega⟩, ⟨HX.out⟩, ⟨fun b b0 b1 => ?_⟩⟩
            by_cases e : b = j
            ·
             subst e; exact HB.out.1 (by first | rfl | trivial)
            ·
             exact HE.out b b0 (by omega)
        ·
         have f3 : decide (j < n2) = false := decide_eq_false hlt
         have HK := Aside0.mk hlt
         clear hlt
         go_wp2
         go_roundg (n2.toNat - (i.toNat + 1))
         case measure => have h1 := HI.out; have h2 := HL.out; omega
         case rel =>
          have h1 := HI.out; have h2 := HL.out; have h3 := HT.out.1; have h4 := HN.out; have h5 := HK.out; have h6 := HJ.out
          have hw : wrap64 (i + 1) = i + 1 := by unfold wrap64; omega
          refine ⟨wrap64 (i + 1), rfl, ⟨by omega, by omega, by omega⟩, ⟨HX.out⟩, ⟨fun a b a0 a1 b0 b1 => ?_⟩⟩
          by_cases e : a = i
          ·
           subst e; exact HE.out b b0 (by omega)
          ·
           exact HA.out a b a0 (by omega) b0 b1
      ·
       have f2 : decide (i < n2) = false := decide_eq_false hlt
       have HL := Aside0.mk hlt
       clear hlt
       go_wp2
       go_ret
       have h1 := HI.out; have h2 := HL.out
       refine ⟨?_, HX.out.below⟩
       rw [← HV.out, ofitB_true.2 ⟨HT.out, fun h => (by cases h), fun _ => ⟨by rw [HN.out, HNN.out]; exact HZ.out, fun a b a0 a1 b0 b1 => by rw [HN.out] at a1 b1 ⊢; exact HA.out a b a0 (by omega) b0 b1⟩⟩]
       rfl
    ·
     have f1 : ((l0_1.length : Int) != nn) = true := by simpa using hz
     have HZ := Aside0.mk hz
     have HN := Aside0.mk hn2
     have HNN := Aside0.mk hnn
     clear hz hn2 hnn hnn2 hl8
     go_enter Try.func12, Try.ntmps12
     go_wp2_with (go_at_call 46; (with_reducible refine (HM.out _ ?side1).mono ?_); (case side1 => repeat (first | exact HR0.out | (with_reducible refine Kd.C_alloc ?_ _) | (with_reducible refine Kd.C_drewN ?_ _) | (with_reducible refine Kd.C_drew ?_))); rintro e w1 ⟨rfl, ⟨nd, rfl⟩⟩)
     go_ret
     refine ⟨?_, by repeat (first | exact Below.refl _ _ | (with_reducible apply below_alloc) | (with_reducible apply pw_below_drewN) | (with_reducible apply below_drew))⟩
     rw [← HV.out, ofitB_false.2 (fun h => HZ.out (by rw [(h.2.2 rfl).1, HN.out, HNN.out]))]
     rfl
 ·
  rw [if_neg hlen] at h
  cases h
end Go.Proofs.Ytphfchbggechhaa.QO
end
section
noncomputable section
namespace Go.Proofs.Ytphfchbggechhaa.QO
open Go.RowKit YtphfchbggechhaaW.PrintWords YtphfchbggechhaaW.PrintLast
set_option linter.unusedVariables false
set_option linter.unusedSimpArgs false
mutual
def gimbalref11_Top.l0 : Nat → Int → Int → List Int → List Int → Bool → Option (List Int × List Int × Bool)
 | 0, _, _, _, _, _ => none
 | k + 1, x3, x5, x199000, x199001, x199002 => if x5 < x3 then (gimbalref11_Top.l1 k x3 x5 0 x199000 x199001 x199002) else (some (x199000, x199001, x199002))
def gimbalref11_Top.l1 : Nat → Int → Int → Int → List Int → List Int → Bool → Option (List Int × List Int × Bool)
 | 0, _, _, _, _, _, _ => none
 | k + 1, x3, x5, x6, x199000, x199001, x199002 => if x6 < x3 then (if x5 = x6 then (if x199001.length < 17592186044416 then (gimbalref11_Top.l1 k x3 x5 (wrap64 (x6 + 1)) x199000 (x199001 ++ [0]) x199002) else (none)) else (if x199001.length < 17592186044416 then (gimbalref11_Top.l1 k x3 x5 (wrap64 (x6 + 1)) x199000 (x199001 ++ [4611686018427387904]) x199002) else (none))) else (gimbalref11_Top.l0 k x3 (wrap64 (x5 + 1)) x199000 x199001 x199002)
end
def gimbalref11_Top.f (k : Nat) (l0 : List Int) : Option (List Int × List Int × Bool) := (gimbalref11_VarsFit.f l0).bind fun t194 => (if t194 = true then ((gimbalref11_copied.f l0).bind fun t195 => (gimbalref11_Top.l0 k (wrap64 (2 * (l0.length : Int))) 0 t195 ([] : List Int) false)) else (some (([] : List Int), ([] : List Int), false)))
theorem gimbalref11_Top.mono_l : ∀ k, (∀ y0 y1 y2 y3 y4, LeO (gimbalref11_Top.l0 k y0 y1 y2 y3 y4) (gimbalref11_Top.l0 (k + 1) y0 y1 y2 y3 y4)) ∧ (∀ y0 y1 y2 y3 y4 y5, LeO (gimbalref11_Top.l1 k y0 y1 y2 y3 y4 y5) (gimbalref11_Top.l1 (k + 1) y0 y1 y2 y3 y4 y5))
 | 0 => ⟨fun _ _ _ _ _ r h => by simp [gimbalref11_Top.l0] at h, fun _ _ _ _ _ _ r h => by simp [gimbalref11_Top.l1] at h⟩
 | k + 1 => by
  obtain ⟨ih0, ih1⟩ := gimbalref11_Top.mono_l k
  refine ⟨?_, ?_⟩ <;> intros <;> (first | unfold gimbalref11_Top.l0 | unfold gimbalref11_Top.l1) <;> repeat' first | (with_reducible first | apply ih0 | apply ih1 | apply LeO.refl | apply LeO.none | refine LeO.ite ?_ ?_ | refine LeO.bind ?_ (fun _ => ?_)) | apply ih0 | apply ih1 | apply LeO.none | refine LeO.ite ?_ ?_ | refine LeO.bind ?_ (fun _ => ?_)
theorem gimbalref11_Top.mono : ∀ a0 k, LeO (gimbalref11_Top.f k a0) (gimbalref11_Top.f (k + 1) a0) := by
 intro a0 k
 obtain ⟨ih0, ih1⟩ := gimbalref11_Top.mono_l k
 unfold gimbalref11_Top.f
 repeat' first | (with_reducible first | apply ih0 | apply ih1 | apply LeO.refl | apply LeO.none | refine LeO.ite ?_ ?_ | refine LeO.bind ?_ (fun _ => ?_)) | apply ih0 | apply ih1 | apply LeO.none | refine LeO.ite ?_ ?_ | refine LeO.bind ?_ (fun _ => ?_)
theorem gimbalref11_Top.calls (k : Nat) (A0 : Option Addr) (c0 : Nat) (l0 : List Int) (r1 : List Int) (r2 : List Int) (r3 : Bool) (w : World) (hr0 : Kd.C (Kd.int .i64) w A0 l0.length l0) (hc0 : l0.length ≤ c0) (h : gimbalref11_Top.f k l0 = some (r1, r2, r3)) :
 Calls Try.prog 48 #[.slice A0 l0.length c0] w fun e w' => ∃ v0_ v1_ : Value, e = .returned (.agg #[v0_, v1_, .bool r3]) ∧ Kd.R (Kd.int .i64) 3 w' w.heap.size (fun _ => True) v0_ r1 ∧ Kd.R (Kd.int .i64) 2 w' w.heap.size (fun _ => True) v1_ r2 ∧ Below w.heap.size w w' := by
 have hu25 := Try.underlying25
 have HR0 := Aside0.mk hr0
 have HC0 := Aside0.mk hc0
 clear hr0 hc0
 have HB := Aside0.mk (Below.refl w.heap.size w)
 have H := h
 unfold gimbalref11_Top.f at H
 clear h
 replace H := Option.bind_eq_some_iff.mp H
 obtain ⟨t194, A20, H⟩ := H
 try dsimp only at H
 have A2 := Aside0.mk A20
 clear A20
 by_cases c3 : t194 = true
 ·
  subst c3
  rw [if_pos rfl] at H
  try dsimp only at H
  replace H := Option.bind_eq_some_iff.mp H
  obtain ⟨t195, A40, H⟩ := H
  try dsimp only at H
  have A4 := Aside0.mk A40
  clear A40
  have H' := Aside0.mk H
  clear H
  go_enter Try.func48, Try.ntmps48
  go_wp2_with (first | ((with_reducible refine gate_dst (N := 2) rfl ?_); refine bx_ 2 #[.slice none 0 0, .slice none 0 0, .bool false] 25 ?_; intro gb193 hg w5 hbox hb; have BK193 := Aside0.mk (hbox); have GW193 := vS hg HB; have GE193 := vS hg HB; replace HB := vWs HB hb; clear hb hbox hg) | ((with_reducible refine gate_callee (f := 46) rfl ?_); refine gl_ (some 8) Try.func46 #[.slice A0 l0.length c0] ?_; (with_reducible refine (gimbalref11_VarsFit.calls _ _ l0 true _ ?side1 ?side2 A2.out).mono ?_); (case side1 => exact vC (Kd.C_below HR0.out HB.out)); (case side2 => exact HC0.out); rintro e w' ⟨rfl, ⟨nd, rfl⟩⟩; refine ⟨_, rfl, ?_⟩; (try (rw [drewN_self w5]; generalize hq_ : World.drewN w5 _ = w5; have n0_ : Aside0 (w5.heap[gb193]? = some (.cells #[.slice none 0 0, .slice none 0 0, .bool false] 25 (0, 0))) := ⟨by rw [← hq_]; exact (vB BK193.out)⟩; have n1_ : Aside0 (Below w.heap.size w w5) := ⟨by rw [← hq_]; exact (vW HB.out)⟩; clear BK193 HB hq_; have BK193 := n0_; have HB := n1_; clear n0_ n1_))) | ((with_reducible refine gate_callee (f := 83) rfl ?_); refine gl_ (some 15) Try.func83 #[.slice A0 l0.length c0] ?_; (with_reducible refine (gimbalref11_copied.calls _ _ l0 t195 _ ?side1 ?side2 A4.out).mono ?_); (case side1 => exact vC (Kd.C_below HR0.out HB.out)); (case side2 => exact HC0.out); rintro e w6 ⟨v196, rfl, ho0, hb⟩; refine ⟨_, rfl, ?_⟩; have HO197 := Aside0.mk (Kd.R_lower ho0 (below_size (vW HB.out))); replace BK193 := vBb BK193 hb; replace HB := vWs HB hb; (try clear hb); (try clear hb2); (try clear hk); (try clear hi); (try clear ho0); obtain ⟨Ao7, co7, eo7⟩ := Kd.R_slice HO197.out; subst eo7) | ((with_reducible refine gate_dst (N := 4) rfl ?_); refine bx_ 4 #[.slice none 0 0, .slice none 0 0, .bool false] 25 ?_; intro gb198 hg w8 hbox hb; replace HO197 := vRb HO197 hb; have BK198 := Aside0.mk (hbox); have GW198 := vS hg HB; have GE198 := vS hg HB; replace HB := vWs HB hb; have NB193_198 := vNl hg BK193; have NB198_193 := vNg hg BK193; replace BK193 := vBb BK193 hb; clear hb hbox hg; have hnb9 := NB198_193.out; have hnc9 := NB193_198.out; obtain ⟨hcz10_0, hcz10_1, hcz10_2, hfz10_0, hfz10_1, hfz10_2⟩ := vF3 BK198.out))
  go_loopg [5] k (fun kq v5 w' => ∃ (x5_1 : Int) (x199001_1 : List Int) (u199001 : Value), v5 = .int .i64 x5_1 ∧ Aside0 (gimbalref11_Top.l0 kq (wrap64 (2 * (l0.length : Int))) x5_1 t195 x199001_1 false = some (r1, r2, r3)) ∧ Aside0 (kq ≤ k) ∧ Aside0 (Kd.R (Kd.int .i64) 3 w' w.heap.size (fun _ => True) (.slice Ao7 t195.length co7) t195) ∧ Aside0 (Kd.R (Kd.int .i64) 2 w' w.heap.size (fun _ => True) u199001 x199001_1) ∧ Aside0 (w'.heap[gb193]? = some (.cells #[(.slice none 0 0), (.slice none 0 0), .bool false] 25 (0, 0))) ∧ Aside0 (w'.heap[gb198]? = some (.cells #[(.slice Ao7 t195.length co7), u199001, .bool false] 25 (0, 0))) ∧ Aside0 (Below w.heap.size w w'))
  case atStart => exact ⟨(0), (([] : List Int)), (.slice none 0 0), (by first | rfl | (simp; done) | (simp [*]; done)), H', ⟨Nat.le_refl _⟩, ⟨vTt HO197.out BK198.out⟩, ⟨by first | exact Kd.R_nil _ _ _ _ _ | exact Kd.N_nil _ _ _ _ _ | exact Kd.V_nil _ _ _ _ _ | exact Kd.Q_nil _ _ _ _ _ | exact Kd.S_nil _ _ _ _ _⟩, ⟨vB BK193.out⟩, ⟨vP3 BK198.out⟩, ⟨vW HB.out⟩⟩
  case round =>
   clear H'
   try clear hcz10_0
   try clear hcz10_1
   try clear hcz10_2
   try clear hfz10_0
   try clear hfz10_1
   try clear hfz10_2
   obtain ⟨x5_1, x199001_1, u199001, rfl, HA, HK1, HO_199000, HO_199001, BK193, BK198, HB⟩ := hrel
   cases gk with
   | zero => exact absurd HA.out (by simp [gimbalref11_Top.l0])
   | succ k1 =>
    have H := HA.out
    clear HA
    simp only [gimbalref11_Top.l0] at H
    by_cases c11 : x5_1 < (wrap64 (2 * (l0.length : Int)))
    ·
     rw [if_pos c11] at H
     have c11b0 : decide (x5_1 < (wrap64 (2 * (l0.length : Int)))) = true := decide_eq_true c11
     clear c11
     have H' := Aside0.mk H
     clear H
     go_wp2
     go_loopg [6] k1 (fun kq v6 w' => ∃ (x6_2 : Int) (x199001_2 : List Int) (u199001 : Value), v6 = .int .i64 x6_2 ∧ Aside0 (gimbalref11_Top.l1 kq (wrap64 (2 * (l0.length : Int))) x5_1 x6_2 t195 x199001_2 false = some (r1, r2, r3)) ∧ Aside0 (kq ≤ k1) ∧ Aside0 (Kd.R (Kd.int .i64) 3 w' w.heap.size (fun _ => True) (.slice Ao7 t195.length co7) t195) ∧ Aside0 (Kd.R (Kd.int .i64) 2 w' w.heap.size (fun _ => True) u199001 x199001_2) ∧ Aside0 (w'.heap[gb193]? = some (.cells #[(.slice none 0 0), (.slice none 0 0), .bool false] 25 (0, 0))) ∧ Aside0 (w'.heap[gb198]? = some (.cells #[(.slice Ao7 t195.length co7), u199001, .bool false] 25 (0, 0))) ∧ Aside0 (Below w.heap.size w w'))
     case atStart => exact ⟨(0), (x199001_1), (u199001), (by first | rfl | (simp; done) | (simp [*]; done)), H', ⟨Nat.le_refl _⟩, ⟨vR HO_199000.out⟩, ⟨vR HO_199001.out⟩, ⟨vB BK193.out⟩, ⟨vB BK198.out⟩, ⟨vW HB.out⟩⟩
     case round =>
      clear H'
      try clear c11b0
      obtain ⟨x6_2, x199001_2, u199001, rfl, HA, HK2, HO_199000, HO_199001, BK193, BK198, HB⟩ := hrel
      cases gk with
      | zero => exact absurd HA.out (by simp [gimbalref11_Top.l1])
      | succ k2 =>
       have H := HA.out
       clear HA
       simp only [gimbalref11_Top.l1] at H
       by_cases c12 : x6_2 < (wrap64 (2 * (l0.length : Int)))
       ·
        rw [if_pos c12] at H
        have c12b0 : decide (x6_2 < (wrap64 (2 * (l0.length : Int)))) = true := decide_eq_true c12
        clear c12
        by_cases c13 : x5_1 = x6_2
        ·
         rw [if_pos c13] at H
         have c13b0 : (x5_1 == x6_2) = true := beq_iff_eq.mpr c13
         have c13b1 : (x5_1 != x6_2) = false := bne_eq_false_iff_eq.mpr c13
         clear c13
         by_cases c14 : x199001_2.length < 17592186044416
         ·
          rw [if_pos c14] at H
          have LMc14 := Aside0.mk c14
          clear c14
          obtain ⟨y199, hy199⟩ : ∃ y_ : List Int, y_ = (x199001_2 ++ [0]) := ⟨_, rfl⟩
          replace H : (gimbalref11_Top.l1 k2 (wrap64 (2 * (l0.length : Int))) x5_1 (wrap64 (x6_2 + 1)) t195 y199 false) = some (r1, r2, r3) := by first | (rw [hy199]; with_reducible exact H) | (have H2_ := (Option.bind_some _ _).symm.trans H; rw [hy199]; with_reducible exact H2_) | (have H2_ := (Option.bind_some _ _).symm.trans H; with_reducible exact H2_) | with_reducible exact H | (rw [hy199]; exact H) | exact H
          have Ny199 := Aside0.mk hy199
          clear hy199
          have H' := Aside0.mk H
          clear H
          have hnb15 := NB198_193.out
          have hnc15 := NB193_198.out
          obtain ⟨hcz16_0, hcz16_1, hcz16_2, hfz16_0, hfz16_1, hfz16_2⟩ := vF3 BK198.out
          go_wp2_with ((with_reducible refine gate_builtin (b := .append) (xs := #[.tmp 31, .tmp 32]) rfl ?_); at_builtin; refine Kd.R_append (Kd.int .i64) (w0 := w) w.heap.size rfl (.tmp 31) (.tmp 32) 23 2 (.int .i64 0) 8 rfl Try.underlying23 info2 rfl (by decide) (by omega) u199001 x199001_2 0 [.int .i64 0] (fun _ => True) (fun _ => False) rfl rfl ?aP (fun _ hk => hk.elim) ?aF ?aO ?aB ?aS ?aL ?_; (case aP => exact rfl); (case aB => exact (vW HB.out)); (case aF => exact (fun _ _ => trivial)); (case aO => exact (vR HO_199001.out)); (case aS => exact (below_size (vW HB.out))); (case aL => have := LMc14.out; omega); intro v200 w17 ho hb hg hat; rw [← Ny199.out] at ho; replace HO_199000 := Aside0.mk (Kd.R_over' (vR HO_199000.out) (Kd.R_typed (vR HO_199001.out)) (by decide) hg); replace BK193 := Aside0.mk (blk_grown (g := gb193) (o := .cells #[.slice none 0 0, .slice none 0 0, .bool false] 25 (0, 0)) (vB BK193.out) hg (Kd.R_ne HO_199001.out BK193.out (by decide))); replace BK198 := Aside0.mk (blk_grown (g := gb198) (o := .cells #[.slice Ao7 t195.length co7, u199001, .bool false] 25 (0, 0)) (vB BK198.out) hg (Kd.R_ne HO_199001.out BK198.out (by decide))); replace HB := Aside0.mk (hb); have HO201 := Aside0.mk (ho); clear HO_199001; clear ho hb hg hat; obtain ⟨Ao18, co18, eo18⟩ := Kd.R_slice HO201.out; subst eo18; obtain ⟨hcz19_0, hcz19_1, hcz19_2, hfz19_0, hfz19_1, hfz19_2⟩ := vF3 BK198.out)
          go_roundg k2
          case measure => have := HK1.out; have := HK2.out; omega
          case rel => exact ⟨(wrap64 (x6_2 + 1)), (y199), (.slice Ao18 y199.length co18), (by first | rfl | (simp; done) | (simp [*]; done)), H', ⟨by have := HK1.out; have := HK2.out; omega⟩, ⟨vTt HO_199000.out BK198.out⟩, ⟨vTt HO201.out BK198.out⟩, ⟨vB BK193.out⟩, ⟨vP1 BK198.out⟩, ⟨vW HB.out⟩⟩
         ·
          rw [if_neg c14] at H
          exact absurd H (by simp)
        ·
         rw [if_neg c13] at H
         have c13b0 : (x5_1 == x6_2) = false := beq_eq_false_iff_ne.mpr c13
         have c13b1 : (x5_1 != x6_2) = true := bne_iff_ne.mpr c13
         by_cases c20 : x199001_2.length < 17592186044416
         ·
          rw [if_pos c20] at H
          have LMc20 := Aside0.mk c20
          clear c20
          obtain ⟨y202, hy202⟩ : ∃ y_ : List Int, y_ = (x199001_2 ++ [4611686018427387904]) := ⟨_, rfl⟩
          replace H : (gimbalref11_Top.l1 k2 (wrap64 (2 * (l0.length : Int))) x5_1 (wrap64 (x6_2 + 1)) t195 y202 false) = some (r1, r2, r3) := by first | (rw [hy202]; with_reducible exact H) | (have H2_ := (Option.bind_some _ _).symm.trans H; rw [hy202]; with_reducible exact H2_) | (have H2_ := (Option.bind_some _ _).symm.trans H; with_reducible exact H2_) | with_reducible exact H | (rw [hy202]; exact H) | exact H
          have Ny202 := Aside0.mk hy202
          clear hy202
          have H' := Aside0.mk H
          clear H
          have hnb21 := NB198_193.out
          have hnc21 := NB193_198.out
          obtain ⟨hcz22_0, hcz22_1, hcz22_2, hfz22_0, hfz22_1, hfz22_2⟩ := vF3 BK198.out
          go_wp2_with ((with_reducible refine gate_builtin (b := .append) (xs := #[.tmp 36, .tmp 37]) rfl ?_); at_builtin; refine Kd.R_append (Kd.int .i64) (w0 := w) w.heap.size rfl (.tmp 36) (.tmp 37) 23 2 (.int .i64 0) 8 rfl Try.underlying23 info2 rfl (by decide) (by omega) u199001 x199001_2 4611686018427387904 [.int .i64 4611686018427387904] (fun _ => True) (fun _ => False) rfl rfl ?aP (fun _ hk => hk.elim) ?aF ?aO ?aB ?aS ?aL ?_; (case aP => exact rfl); (case aB => exact (vW HB.out)); (case aF => exact (fun _ _ => trivial)); (case aO => exact (vR HO_199001.out)); (case aS => exact (below_size (vW HB.out))); (case aL => have := LMc20.out; omega); intro v203 w23 ho hb hg hat; rw [← Ny202.out] at ho; replace HO_199000 := Aside0.mk (Kd.R_over' (vR HO_199000.out) (Kd.R_typed (vR HO_199001.out)) (by decide) hg); replace BK193 := Aside0.mk (blk_grown (g := gb193) (o := .cells #[.slice none 0 0, .slice none 0 0, .bool false] 25 (0, 0)) (vB BK193.out) hg (Kd.R_ne HO_199001.out BK193.out (by decide))); replace BK198 := Aside0.mk (blk_grown (g := gb198) (o := .cells #[.slice Ao7 t195.length co7, u199001, .bool false] 25 (0, 0)) (vB BK198.out) hg (Kd.R_ne HO_199001.out BK198.out (by decide))); replace HB := Aside0.mk (hb); have HO204 := Aside0.mk (ho); clear HO_199001; clear ho hb hg hat; obtain ⟨Ao24, co24, eo24⟩ := Kd.R_slice HO204.out; subst eo24; obtain ⟨hcz25_0, hcz25_1, hcz25_2, hfz25_0, hfz25_1, hfz25_2⟩ := vF3 BK198.out)
          go_roundg k2
          case measure => have := HK1.out; have := HK2.out; omega
          case rel => exact ⟨(wrap64 (x6_2 + 1)), (y202), (.slice Ao24 y202.length co24), (by first | rfl | (simp; done) | (simp [*]; done)), H', ⟨by have := HK1.out; have := HK2.out; omega⟩, ⟨vTt HO_199000.out BK198.out⟩, ⟨vTt HO204.out BK198.out⟩, ⟨vB BK193.out⟩, ⟨vP1 BK198.out⟩, ⟨vW HB.out⟩⟩
         ·
          rw [if_neg c20] at H
          exact absurd H (by simp)
       ·
        rw [if_neg c12] at H
        have c12b0 : decide (x6_2 < (wrap64 (2 * (l0.length : Int)))) = false := decide_eq_false c12
        clear c12
        have H' := Aside0.mk H
        clear H
        go_wp2
        go_roundg k2
        case measure => have := HK1.out; have := HK2.out; omega
        case rel => exact ⟨(wrap64 (x5_1 + 1)), (x199001_2), (u199001), (by first | rfl | (simp; done) | (simp [*]; done)), H', ⟨by have := HK1.out; have := HK2.out; omega⟩, ⟨vR HO_199000.out⟩, ⟨vR HO_199001.out⟩, ⟨vB BK193.out⟩, ⟨vB BK198.out⟩, ⟨vW HB.out⟩⟩
    ·
     rw [if_neg c11] at H
     have c11b0 : decide (x5_1 < (wrap64 (2 * (l0.length : Int)))) = false := decide_eq_false c11
     clear c11
     simp only [Option.some.injEq, Prod.mk.injEq] at H
     obtain ⟨rfl, rfl, rfl⟩ := H
     have hnb26 := NB198_193.out
     have hnc26 := NB193_198.out
     obtain ⟨hcz27_0, hcz27_1, hcz27_2, hfz27_0, hfz27_1, hfz27_2⟩ := vF3 BK198.out
     obtain ⟨hcz28_0, hcz28_1, hcz28_2, hfz28_0, hfz28_1, hfz28_2⟩ := vF3 BK193.out
     obtain ⟨Ao29, co29, eo29⟩ := Kd.R_slice HO_199001.out
     subst eo29
     go_wp2
     refine bodyPost_ret (results_cell_row rfl _ _ gb193 25 #[.slice Ao7 t195.length co7, .slice Ao29 x199001_1.length co29, .bool false] (0, 0) _ rfl (vP3 BK193.out) Try.underlying25 rfl (by kernel_rfl)) rfl ?_
     exact ⟨_, _, vE, vTt HO_199000.out BK193.out, vTt HO_199001.out BK193.out, vW HB.out⟩
 ·
  replace c3 := Bool.eq_false_iff.mpr c3
  subst c3
  rw [if_neg (show ¬ (false = true) by decide)] at H
  try dsimp only at H
  simp only [Option.some.injEq, Prod.mk.injEq] at H
  obtain ⟨rfl, rfl, rfl⟩ := H
  go_enter Try.func48, Try.ntmps48
  go_wp2_with (first | ((with_reducible refine gate_dst (N := 2) rfl ?_); refine bx_ 2 #[.slice none 0 0, .slice none 0 0, .bool false] 25 ?_; intro gb193 hg w30 hbox hb; have BK193 := Aside0.mk (hbox); have GW193 := vS hg HB; have GE193 := vS hg HB; replace HB := vWs HB hb; clear hb hbox hg) | ((with_reducible refine gate_callee (f := 46) rfl ?_); refine gl_ (some 8) Try.func46 #[.slice A0 l0.length c0] ?_; (with_reducible refine (gimbalref11_VarsFit.calls _ _ l0 false _ ?side1 ?side2 A2.out).mono ?_); (case side1 => exact vC (Kd.C_below HR0.out HB.out)); (case side2 => exact HC0.out); rintro e w' ⟨rfl, ⟨nd, rfl⟩⟩; refine ⟨_, rfl, ?_⟩; (try (rw [drewN_self w30]; generalize hq_ : World.drewN w30 _ = w30; have n0_ : Aside0 (w30.heap[gb193]? = some (.cells #[.slice none 0 0, .slice none 0 0, .bool false] 25 (0, 0))) := ⟨by rw [← hq_]; exact (vB BK193.out)⟩; have n1_ : Aside0 (Below w.heap.size w w30) := ⟨by rw [← hq_]; exact (vW HB.out)⟩; clear BK193 HB hq_; have BK193 := n0_; have HB := n1_; clear n0_ n1_)); obtain ⟨hcz31_0, hcz31_1, hcz31_2, hfz31_0, hfz31_1, hfz31_2⟩ := vF3 BK193.out))
  refine bodyPost_ret (results_cell_row rfl _ _ gb193 25 #[.slice none 0 0, .slice none 0 0, .bool false] (0, 0) _ rfl (vP3 BK193.out) Try.underlying25 rfl (by kernel_rfl)) rfl ?_
  exact ⟨_, _, vE, by first | exact Kd.R_nil _ _ _ _ _ | exact Kd.N_nil _ _ _ _ _ | exact Kd.V_nil _ _ _ _ _ | exact Kd.Q_nil _ _ _ _ _ | exact Kd.S_nil _ _ _ _ _, by first | exact Kd.R_nil _ _ _ _ _ | exact Kd.N_nil _ _ _ _ _ | exact Kd.V_nil _ _ _ _ _ | exact Kd.Q_nil _ _ _ _ _ | exact Kd.S_nil _ _ _ _ _, vW HB.out⟩
def gimballaw12_one.f (a0 : Int) : Option (Int × Int × Int × Int × Int) := some (a0, 1, 0, 0, 0)
theorem gimballaw12_one.calls (a0 : Int) (r1 : Int) (r2 : Int) (r3 : Int) (r4 : Int) (r5 : Int) (w : World) (h : gimballaw12_one.f a0 = some (r1, r2, r3, r4, r5)) :
 Calls Try.prog 49 #[.int .i64 a0] w fun e w' => e = .returned (.agg #[.int .i64 r1, .int .i64 r2, .int .i64 r3, .int .i64 r4, .int .i64 r5]) ∧ Below w.heap.size w w' := by
 have hu34 := Try.underlying34
 have HB := Aside0.mk (Below.refl w.heap.size w)
 have H : (some (a0, 1, 0, 0, 0)) = some (r1, r2, r3, r4, r5) := h
 clear h
 simp only [Option.some.injEq, Prod.mk.injEq] at H
 obtain ⟨rfl, rfl, rfl, rfl, rfl⟩ := H
 go_enter Try.func49, Try.ntmps49
 go_wp2_with (first | ((with_reducible refine gate_dst (N := 2) rfl ?_); refine bx_ 2 #[.int .i64 0, .int .i64 0, .int .i64 0, .int .i64 0, .int .i64 0] 34 ?_; intro gb205 hg w2 hbox hb; have n0_ := Aside0.mk (below_step (by repeat (first | (with_reducible first | exact HB.out | apply below_alloc | apply pw_below_drewN | apply below_drew1) | exact HB.out)) hb); have n1_ := Aside0.mk (hbox); have n2_ := Aside0.mk ((by rw [hg]; exact (below_size (by repeat (first | (with_reducible first | exact HB.out | apply below_alloc | apply pw_below_drewN | apply below_drew1) | exact HB.out))) : w.heap.size ≤ gb205)); have n3_ := Aside0.mk ((by rw [hg]; exact (below_size (by repeat (first | (with_reducible first | exact HB.out | apply below_alloc | apply pw_below_drewN | apply below_drew1) | exact HB.out))) : w.heap.size ≤ gb205)); clear HB; have HB := n0_; have BK205 := n1_; have GW205 := n2_; have GE205 := n3_; clear n0_ n1_ n2_ n3_; clear hb hbox hg; have hcz3_0 : w2.cell? ⟨gb205, 0, none⟩ = some (.int .i64 0) := (blk_cell BK205.out 0).trans rfl; have hcz3_1 : w2.cell? ⟨gb205, 1, none⟩ = some (.int .i64 0) := (blk_cell BK205.out 1).trans rfl; have hcz3_2 : w2.cell? ⟨gb205, 2, none⟩ = some (.int .i64 0) := (blk_cell BK205.out 2).trans rfl; have hcz3_3 : w2.cell? ⟨gb205, 3, none⟩ = some (.int .i64 0) := (blk_cell BK205.out 3).trans rfl; have hcz3_4 : w2.cell? ⟨gb205, 4, none⟩ = some (.int .i64 0) := (blk_cell BK205.out 4).trans rfl; have hfz3_0 := blk_frozen BK205.out 0; have hfz3_1 := blk_frozen BK205.out 1; have hfz3_2 := blk_frozen BK205.out 2; have hfz3_3 := blk_frozen BK205.out 3; have hfz3_4 := blk_frozen BK205.out 4))
 refine bodyPost_ret (results_cell_row rfl _ _ gb205 34 #[.int .i64 a0, .int .i64 1, .int .i64 0, .int .i64 0, .int .i64 0] (0, 0) _ rfl (by (with_reducible repeat (first | refine blk_drewN ?_ _ | refine blk_drew ?_ | refine blk_alloc ?_ _)); refine blk_put (cs := #[.int .i64 a0, .int .i64 1, .int .i64 0, .int .i64 0, .int .i64 0]) ?_ 4 _ rfl; (with_reducible repeat (first | refine blk_drewN ?_ _ | refine blk_drew ?_ | refine blk_alloc ?_ _)); refine blk_put (cs := #[.int .i64 a0, .int .i64 1, .int .i64 0, .int .i64 0, .int .i64 0]) ?_ 3 _ rfl; (with_reducible repeat (first | refine blk_drewN ?_ _ | refine blk_drew ?_ | refine blk_alloc ?_ _)); refine blk_put (cs := #[.int .i64 a0, .int .i64 1, .int .i64 0, .int .i64 0, .int .i64 0]) ?_ 2 _ rfl; (with_reducible repeat (first | refine blk_drewN ?_ _ | refine blk_drew ?_ | refine blk_alloc ?_ _)); refine blk_put (cs := #[.int .i64 a0, .int .i64 0, .int .i64 0, .int .i64 0, .int .i64 0]) ?_ 1 _ rfl; (with_reducible repeat (first | refine blk_drewN ?_ _ | refine blk_drew ?_ | refine blk_alloc ?_ _)); refine blk_put (cs := #[.int .i64 0, .int .i64 0, .int .i64 0, .int .i64 0, .int .i64 0]) ?_ 0 _ rfl; (with_reducible repeat (first | refine blk_drewN ?_ _ | refine blk_drew ?_ | refine blk_alloc ?_ _)); exact BK205.out) Try.underlying34 rfl (by kernel_rfl)) rfl ?_
 exact ⟨vE, by repeat (first | (with_reducible first | exact HB.out | apply below_alloc | apply pw_below_drewN | apply below_drew1 | refine below_set ?_ GE205.out) | exact HB.out)⟩
end Go.Proofs.Ytphfchbggechhaa.QO
end
end
