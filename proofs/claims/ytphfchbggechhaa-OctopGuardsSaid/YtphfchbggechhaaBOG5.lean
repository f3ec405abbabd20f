/- Own texts of this claim, joined: QOx1106, QOx1066, RGuardM, RMost0, RMost, RGuard, WalkOctopGuards, Open -/
import Derived.Test.YtphfchbggechhaaBOG0
import Derived.Test.YtphfchbggechhaaBOG1
import Derived.Test.YtphfchbggechhaaBOG2
import Derived.Test.YtphfchbggechhaaBOG4
import Derived.ChangeArms
import Derived.SizedLaws
section
noncomputable section
namespace Go.Proofs.Ytphfchbggechhaa.QO
open Go.RowKit Go.Proofs.YtphfchbggechhaaW.PrintWords Go.Proofs.YtphfchbggechhaaW.PrintLast
set_option linter.unusedVariables false
set_option linter.unusedSimpArgs false
def gimbalref02_norm.f (a0_0 : Int) (a0_1 : Int) : Option (Int × Int) := (gimbalref02_Of.f a0_0 a0_1).bind fun bt368 => (some (bt368.1, bt368.2))
set_option maxHeartbeats 8000000 in
set_option maxRecDepth 100000 in
theorem gimbalref02_norm.calls (a0_0 : Int) (a0_1 : Int) (r1 : Int) (r2 : Int) (w : World) (h : gimbalref02_norm.f a0_0 a0_1 = some (r1, r2)) :
 Calls Try.prog 106 #[.agg #[.int .i64 a0_0, .int .i64 a0_1]] w fun e w' => e = .returned (.agg #[.int .i64 r1, .int .i64 r2]) ∧ Below w.heap.size w w' := by
 have hu36 := Try.underlying36
 have HB := Aside0.mk (Below.refl w.heap.size w)
 have H : ((gimbalref02_Of.f a0_0 a0_1).bind fun bt368 => (some (bt368.1, bt368.2))) = some (r1, r2) := h
 clear h
 replace H := Option.bind_eq_some_iff.mp H
 obtain ⟨⟨t368, t369⟩, A20, H⟩ := H
 replace H : (some (t368, t369)) = some (r1, r2) := H
 have A2 := Aside0.mk A20
 clear A20
 simp only [Option.some.injEq, Prod.mk.injEq] at H
 obtain ⟨rfl, rfl⟩ := H
 go_enter Try.func106, Try.ntmps106
 go_wp2_with (first | ((with_reducible refine gate_dst (N := 1) rfl ?_); refine box_event ?hg (N := 1) ?hd (cs := #[.int .i64 a0_0, .int .i64 a0_1]) (t := 36) ?hr ?_; (case hd => rfl); (case hg => rfl); (case hr => first | (go_simp; done) | (go_simp; rfl)); intro gb366 hg w3 hbox hb; have n0_ := Aside0.mk (below_step (by repeat (first | (with_reducible first | exact HB.out | apply below_alloc | apply pw_below_drewN | apply below_drew1) | exact HB.out)) hb); have n1_ := Aside0.mk (hbox); have n2_ := Aside0.mk ((by rw [hg]; exact (below_size (by repeat (first | (with_reducible first | exact HB.out | apply below_alloc | apply pw_below_drewN | apply below_drew1) | exact HB.out))) : w.heap.size ≤ gb366)); have n3_ := Aside0.mk ((by rw [hg]; exact (below_size (by repeat (first | (with_reducible first | exact HB.out | apply below_alloc | apply pw_below_drewN | apply below_drew1) | exact HB.out))) : w.heap.size ≤ gb366)); clear HB; have HB := n0_; have BK366 := n1_; have GW366 := n2_; have GE366 := n3_; clear n0_ n1_ n2_ n3_; clear hb hbox hg) | ((with_reducible refine gate_dst (N := 2) rfl ?_); refine box_event ?hg (N := 2) ?hd (cs := #[.int .i64 0, .int .i64 0]) (t := 36) ?hr ?_; (case hd => rfl); (case hg => rfl); (case hr => first | (go_simp; done) | (go_simp; rfl)); intro gb367 hg w4 hbox hb; have n0_ := Aside0.mk (blk_below (g := gb366) (o := .cells #[.int .i64 a0_0, .int .i64 a0_1] 36 (0, 0)) (by (with_reducible repeat (first | refine blk_drewN ?_ _ | refine blk_drew ?_ | refine blk_alloc ?_ _)); exact BK366.out) hb); have n1_ := Aside0.mk (below_step (by repeat (first | (with_reducible first | exact HB.out | apply below_alloc | apply pw_below_drewN | apply below_drew1 | refine below_set ?_ GE366.out) | exact HB.out)) hb); have n2_ := Aside0.mk (hbox); have n3_ := Aside0.mk ((by rw [hg]; exact (below_size (by repeat (first | (with_reducible first | exact HB.out | apply below_alloc | apply pw_below_drewN | apply below_drew1 | refine below_set ?_ GE366.out) | exact HB.out))) : w.heap.size ≤ gb367)); have n4_ := Aside0.mk ((by rw [hg]; exact (below_size (by repeat (first | (with_reducible first | exact HB.out | apply below_alloc | apply pw_below_drewN | apply below_drew1 | refine below_set ?_ GE366.out) | exact HB.out))) : w.heap.size ≤ gb367)); have n5_ := Aside0.mk ((by rw [hg]; exact Nat.ne_of_lt (blk_lt (g := gb366) (o := .cells #[.int .i64 a0_0, .int .i64 a0_1] 36 (0, 0)) (by (with_reducible repeat (first | refine blk_drewN ?_ _ | refine blk_drew ?_ | refine blk_alloc ?_ _)); exact BK366.out)) : gb366 ≠ gb367)); have n6_ := Aside0.mk ((by rw [hg]; exact Nat.ne_of_gt (blk_lt (g := gb366) (o := .cells #[.int .i64 a0_0, .int .i64 a0_1] 36 (0, 0)) (by (with_reducible repeat (first | refine blk_drewN ?_ _ | refine blk_drew ?_ | refine blk_alloc ?_ _)); exact BK366.out)) : gb367 ≠ gb366)); clear BK366; clear HB; have BK366 := n0_; have HB := n1_; have BK367 := n2_; have GW367 := n3_; have GE367 := n4_; have NB366_367 := n5_; have NB367_366 := n6_; clear n0_ n1_ n2_ n3_ n4_ n5_ n6_; clear hb hbox hg; have hnb5 := NB366_367.out; have hnc5 := NB367_366.out; have hcz6_0 : w4.cell? ⟨gb366, 0, none⟩ = some (.int .i64 a0_0) := (blk_cell BK366.out 0).trans rfl; have hcz6_1 : w4.cell? ⟨gb366, 1, none⟩ = some (.int .i64 a0_1) := (blk_cell BK366.out 1).trans rfl; have hfz6_0 := blk_frozen BK366.out 0; have hfz6_1 := blk_frozen BK366.out 1) | ((with_reducible refine gate_callee (f := 63) rfl ?_); refine goesL_ (some 7) rfl rfl Try.func63 (by kernel_rfl) rfl #[.int .i64 a0_0, .int .i64 a0_1] rfl (by (try simp only [List.map_toArray, List.map_cons, List.map_nil]); first | done | rfl | (simp only [List.length_drop, List.length_take]; rfl)) ?_; (with_reducible refine (gimbalref02_Of.calls a0_0 a0_1 t368 t369 _ A2.out).mono ?_); rintro e w7 ⟨rfl, hb⟩; refine ⟨_, rfl, ?_⟩; have n0_ := Aside0.mk (blk_below (g := gb366) (o := .cells #[.int .i64 a0_0, .int .i64 a0_1] 36 (0, 0)) (by (with_reducible repeat (first | refine blk_drewN ?_ _ | refine blk_drew ?_ | refine blk_alloc ?_ _)); exact BK366.out) hb); have n1_ := Aside0.mk (blk_below (g := gb367) (o := .cells #[.int .i64 0, .int .i64 0] 36 (0, 0)) (by (with_reducible repeat (first | refine blk_drewN ?_ _ | refine blk_drew ?_ | refine blk_alloc ?_ _)); exact BK367.out) hb); have n2_ := Aside0.mk (below_step (by repeat (first | (with_reducible first | exact HB.out | apply below_alloc | apply pw_below_drewN | apply below_drew1 | refine below_set ?_ GE366.out | refine below_set ?_ GE367.out) | exact HB.out)) hb); clear BK366; clear BK367; clear HB; have BK366 := n0_; have BK367 := n1_; have HB := n2_; clear n0_ n1_ n2_; (try clear hb); (try clear hb2); (try clear hk); (try clear hi); have hcz8_0 : w7.cell? ⟨gb367, 0, none⟩ = some (.int .i64 0) := (blk_cell BK367.out 0).trans rfl; have hcz8_1 : w7.cell? ⟨gb367, 1, none⟩ = some (.int .i64 0) := (blk_cell BK367.out 1).trans rfl; have hfz8_0 := blk_frozen BK367.out 0; have hfz8_1 := blk_frozen BK367.out 1))
 refine bodyPost_ret (results_cell_row rfl _ _ gb367 36 #[.int .i64 t368, .int .i64 t369] (0, 0) _ rfl (by (with_reducible repeat (first | refine blk_drewN ?_ _ | refine blk_drew ?_ | refine blk_alloc ?_ _)); refine blk_put (cs := #[.int .i64 t368, .int .i64 0]) ?_ 1 _ rfl; (with_reducible repeat (first | refine blk_drewN ?_ _ | refine blk_drew ?_ | refine blk_alloc ?_ _)); refine blk_put (cs := #[.int .i64 0, .int .i64 0]) ?_ 0 _ rfl; (with_reducible repeat (first | refine blk_drewN ?_ _ | refine blk_drew ?_ | refine blk_alloc ?_ _)); exact BK367.out) Try.underlying36 rfl (by kernel_rfl)) rfl ?_
 exact ⟨by first | rfl | (simp [errW_none, errW_some] <;> rfl) | (simp [*, errW_none, errW_some] <;> rfl) | (simp [wrap64]; done), by repeat (first | (with_reducible first | exact HB.out | apply below_alloc | apply pw_below_drewN | apply below_drew1 | refine below_set ?_ GE366.out | refine below_set ?_ GE367.out) | exact HB.out)⟩
end Go.Proofs.Ytphfchbggechhaa.QO
end
end
section
noncomputable section
namespace Go.Proofs.Ytphfchbggechhaa.QO
open Go.RowKit Go.Proofs.YtphfchbggechhaaW.PrintWords Go.Proofs.YtphfchbggechhaaW.PrintLast
set_option linter.unusedVariables false
set_option linter.unusedSimpArgs false
def gimbalref02_Has.f (a0_0 : Int) (a0_1 : Int) (a1 : Int) : Option (Bool) := (gimbalref02_norm.f a0_0 a0_1).bind fun bt371 => (if bt371.1 ≤ bt371.2 then (if bt371.1 = (-4611686018427387904) then (if bt371.2 = 4611686018427387904 then (some true) else (some (decide (a1 ≤ bt371.2)))) else (if bt371.1 ≤ a1 then (if bt371.2 = 4611686018427387904 then (some true) else (some (decide (a1 ≤ bt371.2)))) else (some false))) else (some false))
set_option maxHeartbeats 8000000 in
set_option maxRecDepth 100000 in
theorem gimbalref02_Has.calls (a0_0 : Int) (a0_1 : Int) (a1 : Int) (r : Bool) (w : World) (h : gimbalref02_Has.f a0_0 a0_1 a1 = some r) :
 Calls Try.prog 66 #[.agg #[.int .i64 a0_0, .int .i64 a0_1], .int .i64 a1] w fun e w' => e = .returned (.bool r) ∧ Below w.heap.size w w' := by
 have hu36 := Try.underlying36
 have HB := Aside0.mk (Below.refl w.heap.size w)
 have H : ((gimbalref02_norm.f a0_0 a0_1).bind fun bt371 => (if bt371.1 ≤ bt371.2 then (if bt371.1 = (-4611686018427387904) then (if bt371.2 = 4611686018427387904 then (some true) else (some (decide (a1 ≤ bt371.2)))) else (if bt371.1 ≤ a1 then (if bt371.2 = 4611686018427387904 then (some true) else (some (decide (a1 ≤ bt371.2)))) else (some false))) else (some false))) = some r := h
 clear h
 replace H := Option.bind_eq_some_iff.mp H
 obtain ⟨⟨t371, t372⟩, A30, H⟩ := H
 replace H : (if t371 ≤ t372 then (if t371 = (-4611686018427387904) then (if t372 = 4611686018427387904 then (some true) else (some (decide (a1 ≤ t372)))) else (if t371 ≤ a1 then (if t372 = 4611686018427387904 then (some true) else (some (decide (a1 ≤ t372)))) else (some false))) else (some false)) = some r := H
 have A3 := Aside0.mk A30
 clear A30
 by_cases c4 : t371 ≤ t372
 ·
  rw [if_pos c4] at H
  have c4b0 : decide (t371 ≤ t372) = true := decide_eq_true c4
  clear c4
  by_cases c5 : t371 = (-4611686018427387904)
  ·
   rw [if_pos c5] at H
   have c5b0 : (t371 == (-4611686018427387904)) = true := beq_iff_eq.mpr c5
   have c5b1 : (t371 != (-4611686018427387904)) = false := bne_eq_false_iff_eq.mpr c5
   clear c5
   by_cases c6 : t372 = 4611686018427387904
   ·
    rw [if_pos c6] at H
    have c6b0 : (t372 == 4611686018427387904) = true := beq_iff_eq.mpr c6
    have c6b1 : (t372 != 4611686018427387904) = false := bne_eq_false_iff_eq.mpr c6
    clear c6
    obtain rfl := Option.some.inj H
    go_enter Try.func66, Try.ntmps66
    go_wp2_with (first | ((with_reducible refine gate_dst (N := 2) rfl ?_); refine box_event ?hg (N := 2) ?hd (cs := #[.int .i64 a0_0, .int .i64 a0_1]) (t := 36) ?hr ?_; (case hd => rfl); (case hg => rfl); (case hr => first | (go_simp; done) | (go_simp; rfl)); intro gb370 hg w7 hbox hb; have BK370 := Aside0.mk (hbox); have GW370 := vS hg HB; have GE370 := vS hg HB; replace HB := vWs HB hb; clear hb hbox hg; obtain ⟨hcz8_0, hcz8_1, hfz8_0, hfz8_1⟩ := vF2 BK370.out) | ((with_reducible refine gate_callee (f := 106) rfl ?_); refine goesL_ (some 6) rfl rfl Try.func106 (by kernel_rfl) rfl #[.agg #[.int .i64 a0_0, .int .i64 a0_1]] rfl vL ?_; (with_reducible refine (gimbalref02_norm.calls a0_0 a0_1 t371 t372 _ A3.out).mono ?_); rintro e w9 ⟨rfl, hb⟩; refine ⟨_, rfl, ?_⟩; replace BK370 := vBb BK370 hb; replace HB := vWs HB hb; (try clear hb); (try clear hb2); (try clear hk); (try clear hi); obtain ⟨hcz10_0, hcz10_1, hfz10_0, hfz10_1⟩ := vF2 BK370.out))
    go_ret
    exact ⟨by first | rfl | (simp [errW_none, errW_some] <;> rfl) | (simp [*, errW_none, errW_some] <;> rfl) | (simp [wrap64]; done), vW HB.out⟩
   ·
    rw [if_neg c6] at H
    have c6b0 : (t372 == 4611686018427387904) = false := beq_eq_false_iff_ne.mpr c6
    have c6b1 : (t372 != 4611686018427387904) = true := bne_iff_ne.mpr c6
    obtain rfl := Option.some.inj H
    go_enter Try.func66, Try.ntmps66
    go_wp2_with (first | ((with_reducible refine gate_dst (N := 2) rfl ?_); refine box_event ?hg (N := 2) ?hd (cs := #[.int .i64 a0_0, .int .i64 a0_1]) (t := 36) ?hr ?_; (case hd => rfl); (case hg => rfl); (case hr => first | (go_simp; done) | (go_simp; rfl)); intro gb370 hg w11 hbox hb; have BK370 := Aside0.mk (hbox); have GW370 := vS hg HB; have GE370 := vS hg HB; replace HB := vWs HB hb; clear hb hbox hg; obtain ⟨hcz12_0, hcz12_1, hfz12_0, hfz12_1⟩ := vF2 BK370.out) | ((with_reducible refine gate_callee (f := 106) rfl ?_); refine goesL_ (some 6) rfl rfl Try.func106 (by kernel_rfl) rfl #[.agg #[.int .i64 a0_0, .int .i64 a0_1]] rfl vL ?_; (with_reducible refine (gimbalref02_norm.calls a0_0 a0_1 t371 t372 _ A3.out).mono ?_); rintro e w13 ⟨rfl, hb⟩; refine ⟨_, rfl, ?_⟩; replace BK370 := vBb BK370 hb; replace HB := vWs HB hb; (try clear hb); (try clear hb2); (try clear hk); (try clear hi); obtain ⟨hcz14_0, hcz14_1, hfz14_0, hfz14_1⟩ := vF2 BK370.out))
    go_ret
    exact ⟨by first | rfl | (simp [errW_none, errW_some] <;> rfl) | (simp [*, errW_none, errW_some] <;> rfl) | (simp [wrap64]; done), vW HB.out⟩
  ·
   rw [if_neg c5] at H
   have c5b0 : (t371 == (-4611686018427387904)) = false := beq_eq_false_iff_ne.mpr c5
   have c5b1 : (t371 != (-4611686018427387904)) = true := bne_iff_ne.mpr c5
   by_cases c15 : t371 ≤ a1
   ·
    rw [if_pos c15] at H
    have c15b0 : decide (t371 ≤ a1) = true := decide_eq_true c15
    clear c15
    by_cases c16 : t372 = 4611686018427387904
    ·
     rw [if_pos c16] at H
     have c16b0 : (t372 == 4611686018427387904) = true := beq_iff_eq.mpr c16
     have c16b1 : (t372 != 4611686018427387904) = false := bne_eq_false_iff_eq.mpr c16
     clear c16
     obtain rfl := Option.some.inj H
     go_enter Try.func66, Try.ntmps66
     go_wp2_with (first | ((with_reducible refine gate_dst (N := 2) rfl ?_); refine box_event ?hg (N := 2) ?hd (cs := #[.int .i64 a0_0, .int .i64 a0_1]) (t := 36) ?hr ?_; (case hd => rfl); (case hg => rfl); (case hr => first | (go_simp; done) | (go_simp; rfl)); intro gb370 hg w17 hbox hb; have BK370 := Aside0.mk (hbox); have GW370 := vS hg HB; have GE370 := vS hg HB; replace HB := vWs HB hb; clear hb hbox hg; obtain ⟨hcz18_0, hcz18_1, hfz18_0, hfz18_1⟩ := vF2 BK370.out) | ((with_reducible refine gate_callee (f := 106) rfl ?_); refine goesL_ (some 6) rfl rfl Try.func106 (by kernel_rfl) rfl #[.agg #[.int .i64 a0_0, .int .i64 a0_1]] rfl vL ?_; (with_reducible refine (gimbalref02_norm.calls a0_0 a0_1 t371 t372 _ A3.out).mono ?_); rintro e w19 ⟨rfl, hb⟩; refine ⟨_, rfl, ?_⟩; replace BK370 := vBb BK370 hb; replace HB := vWs HB hb; (try clear hb); (try clear hb2); (try clear hk); (try clear hi); obtain ⟨hcz20_0, hcz20_1, hfz20_0, hfz20_1⟩ := vF2 BK370.out))
     go_ret
     exact ⟨by first | rfl | (simp [errW_none, errW_some] <;> rfl) | (simp [*, errW_none, errW_some] <;> rfl) | (simp [wrap64]; done), vW HB.out⟩
    ·
     rw [if_neg c16] at H
     have c16b0 : (t372 == 4611686018427387904) = false := beq_eq_false_iff_ne.mpr c16
     have c16b1 : (t372 != 4611686018427387904) = true := bne_iff_ne.mpr c16
     obtain rfl := Option.some.inj H
     go_enter Try.func66, Try.ntmps66
     go_wp2_with (first | ((with_reducible refine gate_dst (N := 2) rfl ?_); refine box_event ?hg (N := 2) ?hd (cs := #[.int .i64 a0_0, .int .i64 a0_1]) (t := 36) ?hr ?_; (case hd => rfl); (case hg => rfl); (case hr => first | (go_simp; done) | (go_simp; rfl)); intro gb370 hg w21 hbox hb; have BK370 := Aside0.mk (hbox); have GW370 := vS hg HB; have GE370 := vS hg HB; replace HB := vWs HB hb; clear hb hbox hg; obtain ⟨hcz22_0, hcz22_1, hfz22_0, hfz22_1⟩ := vF2 BK370.out) | ((with_reducible refine gate_callee (f := 106) rfl ?_); refine goesL_ (some 6) rfl rfl Try.func106 (by kernel_rfl) rfl #[.agg #[.int .i64 a0_0, .int .i64 a0_1]] rfl vL ?_; (with_reducible refine (gimbalref02_norm.calls a0_0 a0_1 t371 t372 _ A3.out).mono ?_); rintro e w23 ⟨rfl, hb⟩; refine ⟨_, rfl, ?_⟩; replace BK370 := vBb BK370 hb; replace HB := vWs HB hb; (try clear hb); (try clear hb2); (try clear hk); (try clear hi); obtain ⟨hcz24_0, hcz24_1, hfz24_0, hfz24_1⟩ := vF2 BK370.out))
     go_ret
     exact ⟨by first | rfl | (simp [errW_none, errW_some] <;> rfl) | (simp [*, errW_none, errW_some] <;> rfl) | (simp [wrap64]; done), vW HB.out⟩
   ·
    rw [if_neg c15] at H
    have c15b0 : decide (t371 ≤ a1) = false := decide_eq_false c15
    clear c15
    obtain rfl := Option.some.inj H
    go_enter Try.func66, Try.ntmps66
    go_wp2_with (first | ((with_reducible refine gate_dst (N := 2) rfl ?_); refine box_event ?hg (N := 2) ?hd (cs := #[.int .i64 a0_0, .int .i64 a0_1]) (t := 36) ?hr ?_; (case hd => rfl); (case hg => rfl); (case hr => first | (go_simp; done) | (go_simp; rfl)); intro gb370 hg w25 hbox hb; have BK370 := Aside0.mk (hbox); have GW370 := vS hg HB; have GE370 := vS hg HB; replace HB := vWs HB hb; clear hb hbox hg; obtain ⟨hcz26_0, hcz26_1, hfz26_0, hfz26_1⟩ := vF2 BK370.out) | ((with_reducible refine gate_callee (f := 106) rfl ?_); refine goesL_ (some 6) rfl rfl Try.func106 (by kernel_rfl) rfl #[.agg #[.int .i64 a0_0, .int .i64 a0_1]] rfl vL ?_; (with_reducible refine (gimbalref02_norm.calls a0_0 a0_1 t371 t372 _ A3.out).mono ?_); rintro e w27 ⟨rfl, hb⟩; refine ⟨_, rfl, ?_⟩; replace BK370 := vBb BK370 hb; replace HB := vWs HB hb; (try clear hb); (try clear hb2); (try clear hk); (try clear hi); obtain ⟨hcz28_0, hcz28_1, hfz28_0, hfz28_1⟩ := vF2 BK370.out))
    go_ret
    exact ⟨by first | rfl | (simp [errW_none, errW_some] <;> rfl) | (simp [*, errW_none, errW_some] <;> rfl) | (simp [wrap64]; done), vW HB.out⟩
 ·
  rw [if_neg c4] at H
  have c4b0 : decide (t371 ≤ t372) = false := decide_eq_false c4
  clear c4
  obtain rfl := Option.some.inj H
  go_enter Try.func66, Try.ntmps66
  go_wp2_with (first | ((with_reducible refine gate_dst (N := 2) rfl ?_); refine box_event ?hg (N := 2) ?hd (cs := #[.int .i64 a0_0, .int .i64 a0_1]) (t := 36) ?hr ?_; (case hd => rfl); (case hg => rfl); (case hr => first | (go_simp; done) | (go_simp; rfl)); intro gb370 hg w29 hbox hb; have BK370 := Aside0.mk (hbox); have GW370 := vS hg HB; have GE370 := vS hg HB; replace HB := vWs HB hb; clear hb hbox hg; obtain ⟨hcz30_0, hcz30_1, hfz30_0, hfz30_1⟩ := vF2 BK370.out) | ((with_reducible refine gate_callee (f := 106) rfl ?_); refine goesL_ (some 6) rfl rfl Try.func106 (by kernel_rfl) rfl #[.agg #[.int .i64 a0_0, .int .i64 a0_1]] rfl vL ?_; (with_reducible refine (gimbalref02_norm.calls a0_0 a0_1 t371 t372 _ A3.out).mono ?_); rintro e w31 ⟨rfl, hb⟩; refine ⟨_, rfl, ?_⟩; replace BK370 := vBb BK370 hb; replace HB := vWs HB hb; (try clear hb); (try clear hb2); (try clear hk); (try clear hi); obtain ⟨hcz32_0, hcz32_1, hfz32_0, hfz32_1⟩ := vF2 BK370.out))
  go_ret
  exact ⟨by first | rfl | (simp [errW_none, errW_some] <;> rfl) | (simp [*, errW_none, errW_some] <;> rfl) | (simp [wrap64]; done), vW HB.out⟩
end Go.Proofs.Ytphfchbggechhaa.QO
end
end
section
noncomputable section
namespace Go.Proofs.Ytphfchbggechhaa.QO
open Go.RowKit Go.Shelf Go.Proofs.YtphfchbggechhaaW.PrintWords Go.Proofs.YtphfchbggechhaaW.PrintLast Go.Proofs.YtphfchbggechhaaW.PrintMore
open Go.Proofs.Ytphfchbggechhaa.Pure
open OctMath (Bd Fin')
set_option linter.unusedVariables false
set_option linter.unusedSimpArgs false
theorem formfit_f (x sx y sy c : Int) (k : Nat) : gimbalref12_FormFit.f (k + 2) x sx y sy c = some (lfitB x sx y sy c) := by
 unfold gimbalref12_FormFit.f
 by_cases h1 : c < -1099511627776
 ·
  have e : lfitB x sx y sy c = false := decide_eq_false (fun h => by have := h.1; omega)
  rw [if_pos h1, gimbalref12_FormFit.j0, if_pos rfl, e]
 ·
  by_cases h2 : c > 1099511627776
  ·
   have e : lfitB x sx y sy c = false := decide_eq_false (fun h => by have := h.2.1; omega)
   rw [if_neg h1, decide_eq_true h2, gimbalref12_FormFit.j0, if_pos rfl, e]
  ·
   rw [if_neg h1, decide_eq_false h2, gimbalref12_FormFit.j0, if_neg (by decide)]
   have key : ∀ t : Bool, (lfitB x sx y sy c = true ↔ t = true) → some t = some (lfitB x sx y sy c) := fun t h => by
    congr 1; rw [Bool.eq_iff_iff]; exact h.symm
   have lp : lfitB x sx y sy c = true ↔ lfitP x sx y sy c := decide_eq_true_iff
   simp only [gimbalref12_FormFit.j1, if_true, reduceIte]
   (repeat' split) <;> (refine key _ (lp.trans ?_); unfold lfitP; simp only [decide_eq_true_eq, beq_iff_eq, Bool.false_eq_true, iff_false] at *; omega)
theorem among_f (v m : List Int) (e : Bool) (x sx y sy c : Int) (hl : v.length ≤ 1000) : Pure.Ev (fun k => gimbalref12_among.f k v m e x sx y sy c) (ofB v x sx y sy c) := by
 obtain ⟨K1, h1⟩ := rplace_f v m e x hl
 obtain ⟨K2, h2⟩ := rplace_f v m e y hl
 replace h1 : ∀ k, K1 ≤ k → gimbalref11_Place.f k v m e x = some (placeF v x) := h1
 replace h2 : ∀ k, K2 ≤ k → gimbalref11_Place.f k v m e y = some (placeF v y) := h2
 refine ⟨K1 + K2 + 2, fun k hk => ?_⟩
 show gimbalref12_among.f k v m e x sx y sy c = _
 unfold gimbalref12_among.f
 rw [show k = (k - 2) + 2 by omega, formfit_f, bsome, h1 _ (by omega), h2 _ (by omega)]
 simp only [bsome]
 unfold lfitB
 (repeat' split) <;> (congr 1; rw [Bool.eq_iff_iff]; simp only [decide_eq_true_eq, decide_eq_false_iff_not, Bool.false_eq_true] at *; unfold ofB; simp only [decide_eq_true_eq]; first | (simp_all; done) | (simp_all; omega))
def cutF (x : Int) : Int := if x > 2199023255552 then 2199023255552 else if x < -2199023255552 then -2199023255552 else x
theorem cut_f (x : Int) : gimbalref12_cut.f x = some (cutF x) := by unfold gimbalref12_cut.f cutF; (repeat' split) <;> rfl
theorem bar2_f {i : Nat} (hi : i < 16) : gimbalref12_bar.f (i : Int) = some ((nb i : Nat) : Int) := by
 unfold gimbalref12_bar.f nb
 rw [show Int.tmod (i : Int) 2 = ((i % 2 : Nat) : Int) from rfl]
 by_cases h : i % 2 = 0
 ·
  rw [if_pos (by omega), if_pos h]; congr 1; unfold wrap64; omega
 ·
  rw [if_neg (by omega), if_neg h]; congr 1; unfold wrap64; omega
theorem rnode_f (p : Nat) (s : Int) (hp : p < 100) (hs : s ≠ 0) : gimbalref11_Node.f (p : Int) s = some ((nd p s : Nat) : Int) := by
 have h1 : wrap64 (2 * (p : Int)) = 2 * (p : Int) := by unfold wrap64; omega
 have h2 : wrap64 (2 * (p : Int) + 1) = 2 * (p : Int) + 1 := by unfold wrap64; omega
 unfold gimbalref11_Node.f nd
 rw [h1, h2]
 by_cases h : s < 0
 ·
  rw [if_neg (by omega), if_pos h]; push_cast; rfl
 ·
  rw [if_pos (by omega), if_neg h]; push_cast; rfl
def amC (C : Mx) (p : Nat) (sx : Int) (q : Nat) (sy b : Int) : Mx :=
 if sy = 0 then upM C (nb (nd p sx)) (nd p sx) (clipV (2 * b)) else upM C (nb (nd p sx)) (nd q sy) (clipV b)
theorem upM_inf {n : Nat} {C : Mx} {a b : Nat} (hC : Snd n C) (i j : Nat) (hi : i < n) (hj : j < n) : upM C a b 4611686018427387904 i j = C i j := by
 have h := hC.bd i j hi hj
 unfold upM upG
 split
 ·
  rfl
 ·
  split
  ·
   unfold mn Fin' at *; rw [if_neg (by omega)]
  ·
   rfl
theorem nb_ne' (i : Nat) : nb i ≠ i := by unfold nb; split <;> omega
theorem nd_half (p : Nat) (s : Int) : nd p s / 2 = p := by unfold nd; split <;> omega
theorem up_is {n : Nat} {C : Mx} {p q : Nat} {sx sy hi c : Int} (hC : Snd n C) (hc : -1099511627776 ≤ c ∧ c ≤ 1099511627776) (hh : -4611686018427387904 ≤ hi ∧ hi < 4611686018427387904) : lst n (upC C p sx q sy (bupF hi c)) = lst n (amC C p sx q sy (cutF (hi + c))) := by
 have hb : bfit hi = hi := by unfold bfit; (repeat' split) <;> omega
 have hcb : bfit c = c := by unfold bfit; (repeat' split) <;> omega
 have hu : bupF hi c = mn (mx (hi + c) (-4611686018427387903)) 4611686018427387904 := by unfold bupF; rw [hb, hcb, if_neg (by omega)]
 have hu2 : (bupF hi c = 4611686018427387904 ∧ hi + c ≥ 4611686018427387904) ∨ (bupF hi c ≠ 4611686018427387904 ∧ -4611686018427387903 ≤ bupF hi c ∧ bupF hi c < 4611686018427387904 ∧ (bupF hi c = hi + c ∨ (bupF hi c = -4611686018427387903 ∧ hi + c < -4611686018427387903))) := by
  rw [hu]; unfold mn mx; (repeat' split) <;> omega
 clear hu
 generalize bupF hi c = u at hu2 ⊢
 obtain ⟨z, hz⟩ : ∃ z, hi + c = z := ⟨_, rfl⟩
 rw [hz] at hu2 ⊢
 unfold upC amC
 rcases hu2 with ⟨h1, h2⟩ | ⟨h1, h2, h3, h4⟩
 ·
  rw [if_pos h1]
  have e1 : clipV (2 * cutF z) = 4611686018427387904 := by unfold cutF clipV; rw [if_pos (by omega)]
  have e2 : clipV (cutF z) = 4611686018427387904 := by unfold cutF clipV; rw [if_pos (by omega)]
  rw [e1, e2]
  split <;> exact (lst_ext (upM_inf hC)).symm
 ·
  rw [if_neg h1]
  have hbu : bfit u = u := by unfold bfit; (repeat' split) <;> omega
  have e1 : clipV (bupF u u) = clipV (2 * cutF z) := by
   unfold bupF
   rw [hbu, if_neg (by omega)]
   unfold cutF clipV mn mx
   (repeat' split) <;> omega
  have e2 : clipV u = clipV (cutF z) := by unfold cutF clipV; (repeat' split) <;> omega
  rw [e1, e2]
theorem up_none {C : Mx} {p q : Nat} {sx sy hi c : Int} (h : hi = 4611686018427387904) : upC C p sx q sy (bupF hi c) = C := by
 have hb : bfit hi = hi := by rw [h]; rfl
 have : bupF hi c = 4611686018427387904 := by unfold bupF; rw [hb, if_pos (.inl h)]
 unfold upC; rw [if_pos this]
section
variable {w W W' : World} {x : OV} {os : List OV} {fs : List (Nat × Obj)}
end
section
variable {w W : World} {x : OV} {os : List OV} {fs : List (Nat × Obj)}
theorem among_as {v m : List Int} {e : Bool} {lx sx y sy c : Int} {t : Bool} (hx : Oc w W x) (hb : Below w.heap.size w W) (ho : x.o = (v, m, e)) (l : v.length ≤ 1000) (h : ofB v lx sx y sy c = t) : Says 62 #[x.val, .agg #[.int .i64 lx, .int .i64 sx, .int .i64 y, .int .i64 sy, .int .i64 c]] W (.bool t) := by
 obtain ⟨P, p, Q, q, v', m', e'⟩ := x
 cases ho
 rw [← h]
 obtain ⟨K, hK⟩ := among_f v' m' e' lx sx y sy c l
 exact gimbalref12_among.calls K P p _ Q q _ _ lx sx y sy c _ W (hx.r0.reads hb) hx.r0.le (hx.r1.reads hb) hx.r1.le (hK K (Nat.le_refl _))
theorem ritvOf_as {a b l h : Int} (e : itvOf a b = (l, h)) : Says 63 #[.int .i64 a, .int .i64 b] W (.agg #[.int .i64 l, .int .i64 h]) := by
 have g := ritvOf_any a b W
 rw [e] at g; exact g
theorem rNone_as {a b : Int} {t : Bool} (e : decide (a > b) = t) : Says 64 #[.agg #[.int .i64 a, .int .i64 b]] W (.bool t) :=
 gimbalref02_None.calls a b t W (by unfold gimbalref02_None.f; rw [e])
theorem rHas_f (a b x : Int) : gimbalref02_Has.f a b x = some (itvHas a b x) := by
 unfold gimbalref02_Has.f gimbalref02_norm.f gimbalref02_Of.f itvHas
 simp only [bsome]
 generalize (itvOf a b).1 = l
 generalize (itvOf a b).2 = h
 (repeat' split) <;> (congr 1; rw [Bool.eq_iff_iff]; simp only [decide_eq_true_eq, Bool.false_eq_true, true_iff, false_iff]; omega)
theorem rHas_as {a b c : Int} {t : Bool} (e : itvHas a b c = t) : Says 66 #[.agg #[.int .i64 a, .int .i64 b], .int .i64 c] W (.bool t) :=
 gimbalref02_Has.calls a b c t W (by rw [rHas_f, e])
theorem cut_as {a r : Int} (h : cutF a = r) : Says 68 #[.int .i64 a] W (.int .i64 r) := by
 subst h
 exact says_of (gimbalref12_cut.calls a _ W (cut_f a))
theorem rbottom_own {A : Option Addr} {c : Nat} {v : List Int} (hr : Row w W 3 A c v) (hb : Below w.heap.size w W) (hv : VarsOk v) :
 Calls Try.prog 65 #[.slice A v.length c] W fun e W' => ∃ z : OV, e = .returned z.val ∧ z.o = (v, [], true) ∧ Own W W' z ∧ Below W.heap.size W W' :=
 of_calls2 (a := (v, [], true)) (gimbalref11_Bottom.calls A c v _ _ _ W (hr.reads hb) hr.le (by
  have h : gimbalref11_VarsFit.f v = some true := by unfold gimbalref11_VarsFit.f; rw [varsB_true.2 hv]
  have hc : gimbalref11_copied.f v = some v := by unfold gimbalref11_copied.f; rw [if_pos (by have := hv.1; simp; omega)]; rfl
  unfold gimbalref11_Bottom.f
  rw [h, bsome, if_pos rfl, hc, bsome]))
end
end Go.Proofs.Ytphfchbggechhaa.QO
end
end
section
noncomputable section
namespace Go.Proofs.Ytphfchbggechhaa.QO
open Go.RowKit Go.Shelf Go.Proofs.YtphfchbggechhaaW.PrintWords Go.Proofs.YtphfchbggechhaaW.PrintLast Go.Proofs.YtphfchbggechhaaW.PrintMore
open Go.Proofs.Ytphfchbggechhaa.Pure
attribute [local go_sem] Oper.semAt_some
attribute [local go_sem ↓] Go.wp_at_zero Go.wp_at_succ
set_option linter.unusedVariables false
set_option linter.unusedSimpArgs false
def rmost_T2 : Bool × List (List Nat × List Nat) := (true, [([], []), ([], []), ([1], [1]), ([0, 2], [0, 2]), ([], []), ([4], [4]), ([3, 5, 3], [3, 5]), ([6, 6, 0, 1, 2, 3, 4, 5, 6], [6])])
def rmost_B2 : List Nat := [0, 0, 2, 7, 0, 16, 63, 127]
theorem rmost_tab2 : rtab .any (opsOf Try.f67 2) = rmost_T2 := by kernel_rfl
theorem rmost_bits2 : waitsOk rmost_T2.2 rmost_B2 = true := by kernel_rfl
def rmost_T6 : Bool × List (List Nat × List Nat) := (true, [([], []), ([], []), ([1], [1]), ([0, 2], [0, 2]), ([], []), ([4], [4]), ([3, 5, 3], [3, 5]), ([6, 6, 0, 1, 2, 3, 4, 5, 6], [6])])
def rmost_B6 : List Nat := [0, 0, 2, 7, 0, 16, 63, 127]
theorem rmost_tab6 : rtab .any (opsOf Try.f67 6) = rmost_T6 := by kernel_rfl
theorem rmost_bits6 : waitsOk rmost_T6.2 rmost_B6 = true := by kernel_rfl
def rmost_T14 : Bool × List (List Nat × List Nat) := (true, [([], []), ([0], [0]), ([], []), ([2], [2]), ([], []), ([3, 4], [3, 4]), ([], []), ([6, 3], [6]), ([5, 7], [5, 7]), ([], []), ([1, 8, 0, 1, 2, 3, 4, 5, 6, 7, 8, 9], [1, 8]), ([10, 9, 7, 0, 1, 2, 3, 4, 5, 6, 7, 8, 9], [9, 10])])
def rmost_B14 : List Nat := [0, 1, 0, 4, 0, 28, 0, 76, 252, 0, 1023, 2047]
theorem rmost_tab14 : rtab .any (opsOf Try.f67 14) = rmost_T14 := by kernel_rfl
theorem rmost_bits14 : waitsOk rmost_T14.2 rmost_B14 = true := by kernel_rfl
section
variable {w W : World} {os : List OV} {fs : List (Nat × Obj)} {x : OV}
theorem MS.poke {b : Nat} (h : MS w (x :: os) fs W) (hQ : x.Q = some ⟨b, 0, none⟩) (hp : 0 < x.m.length) (i u : Int) : MS w ({ x with m := x.m.set i.toNat u } :: os) fs (W.setCell ⟨b, i.toNat, none⟩ (.int .i64 u)) := by
 have hb : x.has b := by
  obtain ⟨b', cap, e, _, _, h3, _⟩ := h.S.place hp
  rw [hQ] at e
  cases e; exact h3
 refine ⟨h.S.poke hQ hp i u, h.F.far (fun f hf e => h.far f hf x m0_ (by first | exact e ▸ hb | exact e.symm ▸ hb)) _ _, fun f hf z hz => ?_⟩
 cases hz with
 | head =>
  intro hk
  refine h.far f hf x m0_ ?_
  unfold OV.has at hk ⊢
  dsimp only at hk
  rw [List.length_set] at hk
  exact hk
 | tail _ hz => exact h.far f hf z (.tail _ hz)
def amL (m : List Int) (B k1 k2 : Int) : List Int := if B > 1099511627776 then m else if (if B < -1099511627776 then -1099511627776 else B) < rd m k1 then (m.set k1.toNat (if B < -1099511627776 then -1099511627776 else B)).set k2.toNat (if B < -1099511627776 then -1099511627776 else B) else m
theorem rnode_as {a s r : Int} (h : gimbalref11_Node.f a s = some r) : Says 107 #[.int .i64 a, .int .i64 s] W (.int .i64 r) := says_of (gimbalref11_Node.calls a s _ W h)
theorem rbar_as {a r : Int} (h : gimbalref12_bar.f a = some r) : Says 108 #[.int .i64 a] W (.int .i64 r) := says_of (gimbalref12_bar.calls a _ W h)
variable {P : Option Addr} {p0 b0 q0 : Nat} {v m : List Int} {lx sx y sy c b B pI xI iI qI jI jb ib N r1 r2 k1 k2 : Int}
set_option maxHeartbeats 16000000 in
set_option maxRecDepth 100000 in
theorem am_one (h : Aside0 (MS w (⟨P, p0, some ⟨b0, 0, none⟩, q0, v, m, false⟩ :: os) fs W)) (LK : Aside0 (v.length ≤ 1000)) (HP : Aside0 (placeF v lx = pI)) (HN1 : Aside0 (gimbalref11_Node.f pI sx = some xI)) (HB1 : Aside0 (gimbalref12_bar.f xI = some iI)) (WN : Aside0 (IntKind.i64.wrap (2 * (v.length : Int)) = N ∧ wrap64 (2 * (v.length : Int)) = N)) (R1 : Aside0 (0 ≤ k1 ∧ k1 < (m.length : Int))) (R2 : Aside0 (0 ≤ k2 ∧ k2 < (m.length : Int))) (TY : Aside0 ((sy != 0) = false)) (WB : Aside0 (IntKind.i64.wrap (2 * b) = B ∧ wrap64 (2 * b) = B)) (WK1 : Aside0 (IntKind.i64.wrap (iI * N) = r1 ∧ wrap64 (iI * N) = r1 ∧ IntKind.i64.wrap (r1 + xI) = k1 ∧ wrap64 (r1 + xI) = k1)) (WK2 : Aside0 (IntKind.i64.wrap (jb * N) = r2 ∧ wrap64 (jb * N) = r2 ∧ IntKind.i64.wrap (r2 + ib) = k2 ∧ wrap64 (r2 + ib) = k2)) (HBJ : Aside0 (gimbalref12_bar.f xI = some jb)) (HBI : Aside0 (gimbalref12_bar.f iI = some ib)) {r : List Int} (HR : Aside0 (amL m B k1 k2 = r)) :
 Calls Try.prog 67 #[OV.val ⟨P, p0, some ⟨b0, 0, none⟩, q0, v, m, false⟩, .agg #[.int .i64 lx, .int .i64 sx, .int .i64 y, .int .i64 sy, .int .i64 c], .int .i64 b] W fun e W' => ∃ z : OV, e = .returned z.val ∧ z.o = (v, r, false) ∧ MS w (z :: os) fs W' := by
 have hu25 := Try.underlying25
 have hu34 := Try.underlying34
 go_enter Try.func67, Try.ntmps67
 go_upto_region 1 with fail
 have HM : Aside0 (MS w (⟨P, p0, some ⟨b0, 0, none⟩, q0, v, m, false⟩ :: os) ((W.heap.size + 2, .cells #[.slice none 0 0, .slice none 0 0, .bool false] 25 (0, 0)) :: (W.heap.size + 1, .cells #[.int .i64 lx, .int .i64 sx, .int .i64 y, .int .i64 sy, .int .i64 c] 34 (0, 0)) :: (W.heap.size, .cells #[.slice P v.length p0, .slice (some ⟨b0, 0, none⟩) m.length q0, .bool false] 25 (0, 0)) :: fs) (((W.alloc (.cells #[.slice P v.length p0, .slice (some ⟨b0, 0, none⟩) m.length q0, .bool false] 25 (0, 0))).alloc (.cells #[.int .i64 lx, .int .i64 sx, .int .i64 y, .int .i64 sy, .int .i64 c] 34 (0, 0))).alloc (.cells #[.slice none 0 0, .slice none 0 0, .bool false] 25 (0, 0)))) := ⟨(MS.new (MS.new (MS.new h.out _ rfl) _ (by simp)) _ (by simp))⟩
 clear h
 generalize hW_ : (((W.alloc (.cells #[.slice P v.length p0, .slice (some ⟨b0, 0, none⟩) m.length q0, .bool false] 25 (0, 0))).alloc (.cells #[.int .i64 lx, .int .i64 sx, .int .i64 y, .int .i64 sy, .int .i64 c] 34 (0, 0))).alloc (.cells #[.slice none 0 0, .slice none 0 0, .bool false] 25 (0, 0))) = wk at HM ⊢; clear hW_
 generalize hg_ : W.heap.size + 2 = gr at HM ⊢; clear hg_
 generalize hg_ : W.heap.size + 1 = gl at HM ⊢; clear hg_
 generalize hg_ : W.heap.size = go at HM ⊢; clear hg_
 have kgr := MS.c3 HM m0_; have kgl := MS.c5 HM m1_; have kgo := MS.c3 HM m2_
 obtain ⟨s1, s1'⟩ := WN.out
 go_upto_region 2 with fail
 clear s1 s1'
 have n_ := Aside0.mk (HM.out.next (below_drew (Below.refl _ _))); clear HM; have HM := n_; clear n_
 clear kgl kgo kgr
 refine start_ (n := 8) (S := fun w' => w'.cell? ⟨go, 0, none⟩ = some (.slice P v.length p0) ∧ w'.cell? ⟨go, 1, none⟩ = some (.slice (some ⟨b0, 0, none⟩) m.length q0) ∧ w'.cell? ⟨go, 2, none⟩ = some (.bool false) ∧ w'.cell? ⟨gl, 0, none⟩ = some (.int .i64 lx) ∧ w'.cell? ⟨gl, 1, none⟩ = some (.int .i64 sx)) (ds := []) (mB 8 0) (by kernel_rfl) rfl (by kernel_rfl) ⟨MS.k HM m2_ 0 rfl, MS.k HM m2_ 1 rfl, MS.k HM m2_ 2 rfl, MS.k HM m1_ 0 rfl, MS.k HM m1_ 1 rfl⟩ (fun hHeld => ?_)
 refine with_tabW rmost_tab2 rmost_bits2 (fun HT_ HW_ => ?_)
 generalize hWd : World.drew _ = wk at HM hHeld ⊢; clear hWd
 refine tV_ 0 15 (mB 8 1) HT_ HW_ hHeld ?_
 refine pV_ 1 16 (mB 8 3) HT_ ?_
 refine tV_ 2 17 (mB 8 7) HT_ HW_ hHeld ?_
 refine pV_ 4 19 (mB 8 23) HT_ ?_
 refine tV_ 5 20 (mB 8 55) HT_ HW_ hHeld ?_
 refine one_ (i := 3) (N := some 18) (mB 8 63) rfl rfl (one_of HT_.out (by kernel_rfl)) (by decide) (fun K hK => ?_)
 refine goes_ Try.func28 (by kernel_rfl) rfl #[(OV.val ⟨P, p0, some ⟨b0, 0, none⟩, q0, v, m, false⟩), .int .i64 lx] (by rfl) rfl rfl vL ?_
 with_reducible refine (rplace_as (MS.oc HM m0_) (MS.bel HM) rfl LK.out lx HP.out).mono ?_
 rintro e wk ⟨rfl, hb⟩; refine ⟨_, rfl, ?_⟩
 have n_ := Aside0.mk (HM.out.next hb); clear HM hb; have HM := n_; clear n_
 refine hK.out _ _ ⟨MS.k HM m2_ 0 rfl, MS.k HM m2_ 1 rfl, MS.k HM m2_ 2 rfl, MS.k HM m1_ 0 rfl, MS.k HM m1_ 1 rfl⟩ (fun hHeld => ?_)
 clear hK K
 refine nO_ 18 ?_
 refine one_ (i := 6) (N := some 21) (mB 8 127) rfl rfl (one_of HT_.out (by kernel_rfl)) (by decide) (fun K hK => ?_)
 refine goes_ Try.func107 (by kernel_rfl) rfl #[.int .i64 pI, .int .i64 sx] (by rfl) rfl rfl vL ?_
 with_reducible refine (rnode_as HN1.out).mono ?_
 rintro e wk ⟨rfl, hb⟩; refine ⟨_, rfl, ?_⟩
 have n_ := Aside0.mk (HM.out.next hb); clear HM hb; have HM := n_; clear n_
 refine hK.out _ _ ⟨MS.k HM m2_ 0 rfl, MS.k HM m2_ 1 rfl, MS.k HM m2_ 2 rfl, MS.k HM m1_ 0 rfl, MS.k HM m1_ 1 rfl⟩ (fun hHeld => ?_)
 clear hK K
 refine nO_ 21 ?_
 refine pV_ 7 8 (mB 8 255) HT_ ?_
 refine done_ (done_of HT_.out (by kernel_rfl)) ?_
 clear HT_ HW_ hHeld
 have kgr := MS.c3 HM m0_; have kgl := MS.c5 HM m1_; have kgo := MS.c3 HM m2_
 have t1 := TY.out
 obtain ⟨s1, s1'⟩ := WB.out
 go_upto_region 8 with (first | (go_at_call 108; (with_reducible refine (rbar_as HB1.out).mono ?_); rintro e wk ⟨rfl, hb⟩; have n_ := Aside0.mk ((MS.to HM).next hb); clear HM hb; have HM := n_; clear n_; clear kgl kgo kgr; have kgr := MS.c3 HM m0_; have kgl := MS.c5 HM m1_; have kgo := MS.c3 HM m2_))
 clear t1 s1 s1'
 by_cases c1 : B > 1099511627776
 ·
  have hr : m = r := by rw [← HR.out]; unfold amL; rw [if_pos c1]
  subst hr
  have TM : Aside0 (decide (B > 1099511627776) = true ∧ decide (1099511627776 < B) = true) := ⟨decide_eq_true c1, decide_eq_true c1⟩
  clear c1 HR
  obtain ⟨t2, t2'⟩ := TM.out
  go_wp2
  have n_ : Aside0 (MS w (⟨P, p0, some ⟨b0, 0, none⟩, q0, v, m, false⟩ :: os) ((gr, .cells #[.slice P v.length p0, .slice (some ⟨b0, 0, none⟩) m.length q0, .bool false] 25 (0, 0)) :: (gl, .cells #[.int .i64 lx, .int .i64 sx, .int .i64 y, .int .i64 sy, .int .i64 c] 34 (0, 0)) :: (go, .cells #[.slice P v.length p0, .slice (some ⟨b0, 0, none⟩) m.length q0, .bool false] 25 (0, 0)) :: fs) _) := ⟨MS.put3 [] HM.out (a' := .slice P v.length p0) (b' := .slice (some ⟨b0, 0, none⟩) m.length q0) (c' := .bool false)⟩; clear HM; have HM := n_; clear n_
  generalize hW_ : World.setCell _ _ _ = wk at HM ⊢; clear hW_
  clear kgl kgo kgr; have kgr := MS.c3 HM m0_; have kgl := MS.c5 HM m1_; have kgo := MS.c3 HM m2_
  refine bodyPost_ret (results_cell_row rfl _ _ gr 25 #[.slice P v.length p0, .slice (some ⟨b0, 0, none⟩) m.length q0, .bool false] (0, 0) _ rfl (HM.out.F.all _ m0_).1 Try.underlying25 rfl (by kernel_rfl)) rfl ?_
  exact ⟨⟨P, p0, some ⟨b0, 0, none⟩, q0, v, m, false⟩, rfl, (by first | rfl | exact ⟨rfl, rfl, rfl⟩), HM.out.sub (List.Sublist.refl _) (((List.Sublist.refl _).cons _ |>.cons _) |>.cons _)⟩
 ·
  by_cases c2 : B < -1099511627776
  ·
   by_cases c3 : (-1099511627776) < rd m k1
   ·
    obtain rfl : r = ((m.set k1.toNat (-1099511627776)).set k2.toNat (-1099511627776)) := by rw [← HR.out]; unfold amL; rw [if_neg c1, if_pos c2, if_pos c3]
    have TM : Aside0 (decide (B > 1099511627776) = false ∧ decide (1099511627776 < B) = false) := ⟨decide_eq_false c1, decide_eq_false c1⟩
    have TC : Aside0 (decide (B < -1099511627776) = true) := ⟨decide_eq_true c2⟩
    have TD : Aside0 (decide ((-1099511627776) < rd m k1) = true) := ⟨decide_eq_true c3⟩
    clear c1 c2 c3 HR
    obtain ⟨t2, t2'⟩ := TM.out
    have t3 := TC.out
    go_upto_region 12 with fail
    clear t2 t2' t3
    have t4 : decide ((-1099511627776) < rdOf 0 m k1) = true := TD.out; have p1 := eq_true R1.out.1; have p2 := eq_true R1.out.2; obtain ⟨s1, s1', s2, s2'⟩ := WK1.out; obtain ⟨hx0, hfx⟩ := Kd.R_cell 0 (HM.out.S.own _ m0_).r1 k1 R1.out.1 R1.out.2
    go_upto_region 14 with fail
    clear t4 p1 p2 s1 s1' s2 s2' hx0 hfx
    have n_ : Aside0 (MS w (⟨P, p0, some ⟨b0, 0, none⟩, q0, v, (m.set k1.toNat (-1099511627776)), false⟩ :: os) ((gr, .cells #[.slice none 0 0, .slice none 0 0, .bool false] 25 (0, 0)) :: (gl, .cells #[.int .i64 lx, .int .i64 sx, .int .i64 y, .int .i64 sy, .int .i64 c] 34 (0, 0)) :: (go, .cells #[.slice P v.length p0, .slice (some ⟨b0, 0, none⟩) m.length q0, .bool false] 25 (0, 0)) :: fs) _) := ⟨HM.out.poke rfl (by simp only [List.length_set]; have := R1.out; omega) k1 (-1099511627776)⟩; clear HM; have HM := n_; clear n_
    generalize hW_ : World.setCell _ _ _ = wk at HM ⊢; clear hW_
    clear kgl kgo kgr; have kgr := MS.c3 HM m0_; have kgl := MS.c5 HM m1_; have kgo := MS.c3 HM m2_
    have p1 := eq_true R2.out.1; have p2 := eq_true R2.out.2; obtain ⟨s1, s1', s2, s2'⟩ := WK2.out
    have n_ := Aside0.mk (HM.out.next (below_drew (Below.refl _ _))); clear HM; have HM := n_; clear n_
    clear kgl kgo kgr
    refine start_ (n := 12) (S := fun w' => w'.cell? ⟨go, 1, none⟩ = some (.slice (some ⟨b0, 0, none⟩) m.length q0)) (ds := [11]) (mB 12 0) (by kernel_rfl) rfl (by kernel_rfl) (MS.k HM m2_ 1 rfl) (fun hHeld => ?_)
    refine with_tabW rmost_tab14 rmost_bits14 (fun HT_ HW_ => ?_)
    generalize hWd : World.drew _ = wk at HM hHeld ⊢; clear hWd
    refine pV_ 0 62 (mB 12 1) HT_ ?_
    refine tV_ 1 63 (mB 12 3) HT_ HW_ hHeld ?_
    refine pV_ 2 64 (mB 12 7) HT_ ?_
    refine pV_ 4 66 (mB 12 23) HT_ ?_
    refine pV_ 6 68 (mB 12 87) HT_ ?_
    refine pV_ 9 71 (mB 12 599) HT_ ?_
    refine one_ (i := 3) (N := some 65) (mB 12 607) rfl rfl (one_of HT_.out (by kernel_rfl)) (by decide) (fun K hK => ?_)
    refine goes_ Try.func108 (by kernel_rfl) rfl #[.int .i64 xI] (by rfl) rfl rfl vL ?_
    with_reducible refine (rbar_as HBJ.out).mono ?_
    rintro e wk ⟨rfl, hb⟩; refine ⟨_, rfl, ?_⟩
    have n_ := Aside0.mk (HM.out.next hb); clear HM hb; have HM := n_; clear n_
    refine hK.out _ _ (MS.k HM m2_ 1 rfl) (fun hHeld => ?_)
    clear hK K
    refine nO_ 65 ?_
    refine pV_ 5 67 (mB 12 639) HT_ ?_
    refine one_ (i := 7) (N := some 69) (mB 12 767) rfl rfl (one_of HT_.out (by kernel_rfl)) (by decide) (fun K hK => ?_)
    refine goes_ Try.func108 (by kernel_rfl) rfl #[.int .i64 iI] (by rfl) rfl rfl vL ?_
    with_reducible refine (rbar_as HBI.out).mono ?_
    rintro e wk ⟨rfl, hb⟩; refine ⟨_, rfl, ?_⟩
    have n_ := Aside0.mk (HM.out.next hb); clear HM hb; have HM := n_; clear n_
    refine hK.out _ _ (MS.k HM m2_ 1 rfl) (fun hHeld => ?_)
    clear hK K
    refine nO_ 69 ?_
    refine pV_ 8 70 (mB 12 1023) HT_ ?_
    obtain ⟨hx0, hfx⟩ := Kd.R_cell 0 (HM.out.S.own _ m0_).r1 k2 R2.out.1 (by simp only [List.length_set]; exact R2.out.2)
    refine pV_ 10 72 (mB 12 2047) HT_ ?_
    have kgr := MS.c3 HM m0_; have kgl := MS.c5 HM m1_; have kgo := MS.c3 HM m2_
    refine last_ (i := 11) (N := none) (mB 12 4095) rfl rfl (one_of HT_.out (by kernel_rfl)) (by decide) (fun K hK => ?_)
    refine skip_ (w1 := ?_) (by rfl) rfl ?_ ?_
    rotate_left
    ·
     go_simp
     rfl
    refine hK.out _ _ ?_
    clear hK K
    refine done_ (done_of HT_.out (by kernel_rfl)) ?_
    clear HT_ HW_ hHeld
    clear p1 p2 s1 s1' s2 s2' hx0 hfx
    have n_ : Aside0 (MS w (⟨P, p0, some ⟨b0, 0, none⟩, q0, v, ((m.set k1.toNat (-1099511627776)).set k2.toNat (-1099511627776)), false⟩ :: os) ((gr, .cells #[.slice none 0 0, .slice none 0 0, .bool false] 25 (0, 0)) :: (gl, .cells #[.int .i64 lx, .int .i64 sx, .int .i64 y, .int .i64 sy, .int .i64 c] 34 (0, 0)) :: (go, .cells #[.slice P v.length p0, .slice (some ⟨b0, 0, none⟩) m.length q0, .bool false] 25 (0, 0)) :: fs) _) := ⟨HM.out.poke rfl (by simp only [List.length_set]; have := R1.out; omega) k2 (-1099511627776)⟩; clear HM; have HM := n_; clear n_
    generalize hW_ : World.setCell _ _ _ = wk at HM ⊢; clear hW_
    clear kgl kgo kgr; have kgr := MS.c3 HM m0_; have kgl := MS.c5 HM m1_; have kgo := MS.c3 HM m2_
    go_wp2
    have n_ : Aside0 (MS w (⟨P, p0, some ⟨b0, 0, none⟩, q0, v, ((m.set k1.toNat (-1099511627776)).set k2.toNat (-1099511627776)), false⟩ :: os) ((gr, .cells #[.slice P v.length p0, .slice (some ⟨b0, 0, none⟩) m.length q0, .bool false] 25 (0, 0)) :: (gl, .cells #[.int .i64 lx, .int .i64 sx, .int .i64 y, .int .i64 sy, .int .i64 c] 34 (0, 0)) :: (go, .cells #[.slice P v.length p0, .slice (some ⟨b0, 0, none⟩) m.length q0, .bool false] 25 (0, 0)) :: fs) _) := ⟨MS.put3 [] HM.out (a' := .slice P v.length p0) (b' := .slice (some ⟨b0, 0, none⟩) m.length q0) (c' := .bool false)⟩; clear HM; have HM := n_; clear n_
    generalize hW_ : World.setCell _ _ _ = wk at HM ⊢; clear hW_
    clear kgl kgo kgr; have kgr := MS.c3 HM m0_; have kgl := MS.c5 HM m1_; have kgo := MS.c3 HM m2_
    refine bodyPost_ret (results_cell_row rfl _ _ gr 25 #[.slice P v.length p0, .slice (some ⟨b0, 0, none⟩) m.length q0, .bool false] (0, 0) _ rfl (HM.out.F.all _ m0_).1 Try.underlying25 rfl (by kernel_rfl)) rfl ?_
    exact ⟨⟨P, p0, some ⟨b0, 0, none⟩, q0, v, ((m.set k1.toNat (-1099511627776)).set k2.toNat (-1099511627776)), false⟩, by simp [OV.val], (by first | rfl | exact ⟨rfl, rfl, rfl⟩), HM.out.sub (List.Sublist.refl _) (((List.Sublist.refl _).cons _ |>.cons _) |>.cons _)⟩
   ·
    have hr : m = r := by rw [← HR.out]; unfold amL; rw [if_neg c1, if_pos c2, if_neg c3]
    subst hr
    have TM : Aside0 (decide (B > 1099511627776) = false ∧ decide (1099511627776 < B) = false) := ⟨decide_eq_false c1, decide_eq_false c1⟩
    have TC : Aside0 (decide (B < -1099511627776) = true) := ⟨decide_eq_true c2⟩
    have TD : Aside0 (decide ((-1099511627776) < rd m k1) = false) := ⟨decide_eq_false c3⟩
    clear c1 c2 c3 HR
    obtain ⟨t2, t2'⟩ := TM.out
    have t3 := TC.out
    go_upto_region 12 with fail
    clear t2 t2' t3
    have t4 : decide ((-1099511627776) < rdOf 0 m k1) = false := TD.out; have p1 := eq_true R1.out.1; have p2 := eq_true R1.out.2; obtain ⟨s1, s1', s2, s2'⟩ := WK1.out; obtain ⟨hx0, hfx⟩ := Kd.R_cell 0 (HM.out.S.own _ m0_).r1 k1 R1.out.1 R1.out.2
    go_wp2
    clear t4 p1 p2 s1 s1' s2 s2' hx0 hfx
    have n_ : Aside0 (MS w (⟨P, p0, some ⟨b0, 0, none⟩, q0, v, m, false⟩ :: os) ((gr, .cells #[.slice P v.length p0, .slice (some ⟨b0, 0, none⟩) m.length q0, .bool false] 25 (0, 0)) :: (gl, .cells #[.int .i64 lx, .int .i64 sx, .int .i64 y, .int .i64 sy, .int .i64 c] 34 (0, 0)) :: (go, .cells #[.slice P v.length p0, .slice (some ⟨b0, 0, none⟩) m.length q0, .bool false] 25 (0, 0)) :: fs) _) := ⟨MS.put3 [] HM.out (a' := .slice P v.length p0) (b' := .slice (some ⟨b0, 0, none⟩) m.length q0) (c' := .bool false)⟩; clear HM; have HM := n_; clear n_
    generalize hW_ : World.setCell _ _ _ = wk at HM ⊢; clear hW_
    clear kgl kgo kgr; have kgr := MS.c3 HM m0_; have kgl := MS.c5 HM m1_; have kgo := MS.c3 HM m2_
    refine bodyPost_ret (results_cell_row rfl _ _ gr 25 #[.slice P v.length p0, .slice (some ⟨b0, 0, none⟩) m.length q0, .bool false] (0, 0) _ rfl (HM.out.F.all _ m0_).1 Try.underlying25 rfl (by kernel_rfl)) rfl ?_
    exact ⟨⟨P, p0, some ⟨b0, 0, none⟩, q0, v, m, false⟩, rfl, (by first | rfl | exact ⟨rfl, rfl, rfl⟩), HM.out.sub (List.Sublist.refl _) (((List.Sublist.refl _).cons _ |>.cons _) |>.cons _)⟩
  ·
   by_cases c3 : B < rd m k1
   ·
    obtain rfl : r = ((m.set k1.toNat B).set k2.toNat B) := by rw [← HR.out]; unfold amL; rw [if_neg c1, if_neg c2, if_pos c3]
    have TM : Aside0 (decide (B > 1099511627776) = false ∧ decide (1099511627776 < B) = false) := ⟨decide_eq_false c1, decide_eq_false c1⟩
    have TC : Aside0 (decide (B < -1099511627776) = false) := ⟨decide_eq_false c2⟩
    have TD : Aside0 (decide (B < rd m k1) = true) := ⟨decide_eq_true c3⟩
    clear c1 c2 c3 HR
    obtain ⟨t2, t2'⟩ := TM.out
    have t3 := TC.out
    go_upto_region 12 with fail
    clear t2 t2' t3
    have t4 : decide (B < rdOf 0 m k1) = true := TD.out; have p1 := eq_true R1.out.1; have p2 := eq_true R1.out.2; obtain ⟨s1, s1', s2, s2'⟩ := WK1.out; obtain ⟨hx0, hfx⟩ := Kd.R_cell 0 (HM.out.S.own _ m0_).r1 k1 R1.out.1 R1.out.2
    go_upto_region 14 with fail
    clear t4 p1 p2 s1 s1' s2 s2' hx0 hfx
    have n_ : Aside0 (MS w (⟨P, p0, some ⟨b0, 0, none⟩, q0, v, (m.set k1.toNat B), false⟩ :: os) ((gr, .cells #[.slice none 0 0, .slice none 0 0, .bool false] 25 (0, 0)) :: (gl, .cells #[.int .i64 lx, .int .i64 sx, .int .i64 y, .int .i64 sy, .int .i64 c] 34 (0, 0)) :: (go, .cells #[.slice P v.length p0, .slice (some ⟨b0, 0, none⟩) m.length q0, .bool false] 25 (0, 0)) :: fs) _) := ⟨HM.out.poke rfl (by simp only [List.length_set]; have := R1.out; omega) k1 B⟩; clear HM; have HM := n_; clear n_
    generalize hW_ : World.setCell _ _ _ = wk at HM ⊢; clear hW_
    clear kgl kgo kgr; have kgr := MS.c3 HM m0_; have kgl := MS.c5 HM m1_; have kgo := MS.c3 HM m2_
    have p1 := eq_true R2.out.1; have p2 := eq_true R2.out.2; obtain ⟨s1, s1', s2, s2'⟩ := WK2.out
    have n_ := Aside0.mk (HM.out.next (below_drew (Below.refl _ _))); clear HM; have HM := n_; clear n_
    clear kgl kgo kgr
    refine start_ (n := 12) (S := fun w' => w'.cell? ⟨go, 1, none⟩ = some (.slice (some ⟨b0, 0, none⟩) m.length q0)) (ds := [11]) (mB 12 0) (by kernel_rfl) rfl (by kernel_rfl) (MS.k HM m2_ 1 rfl) (fun hHeld => ?_)
    refine with_tabW rmost_tab14 rmost_bits14 (fun HT_ HW_ => ?_)
    generalize hWd : World.drew _ = wk at HM hHeld ⊢; clear hWd
    refine pV_ 0 62 (mB 12 1) HT_ ?_
    refine tV_ 1 63 (mB 12 3) HT_ HW_ hHeld ?_
    refine pV_ 2 64 (mB 12 7) HT_ ?_
    refine pV_ 4 66 (mB 12 23) HT_ ?_
    refine pV_ 6 68 (mB 12 87) HT_ ?_
    refine pV_ 9 71 (mB 12 599) HT_ ?_
    refine one_ (i := 3) (N := some 65) (mB 12 607) rfl rfl (one_of HT_.out (by kernel_rfl)) (by decide) (fun K hK => ?_)
    refine goes_ Try.func108 (by kernel_rfl) rfl #[.int .i64 xI] (by rfl) rfl rfl vL ?_
    with_reducible refine (rbar_as HBJ.out).mono ?_
    rintro e wk ⟨rfl, hb⟩; refine ⟨_, rfl, ?_⟩
    have n_ := Aside0.mk (HM.out.next hb); clear HM hb; have HM := n_; clear n_
    refine hK.out _ _ (MS.k HM m2_ 1 rfl) (fun hHeld => ?_)
    clear hK K
    refine nO_ 65 ?_
    refine pV_ 5 67 (mB 12 639) HT_ ?_
    refine one_ (i := 7) (N := some 69) (mB 12 767) rfl rfl (one_of HT_.out (by kernel_rfl)) (by decide) (fun K hK => ?_)
    refine goes_ Try.func108 (by kernel_rfl) rfl #[.int .i64 iI] (by rfl) rfl rfl vL ?_
    with_reducible refine (rbar_as HBI.out).mono ?_
    rintro e wk ⟨rfl, hb⟩; refine ⟨_, rfl, ?_⟩
    have n_ := Aside0.mk (HM.out.next hb); clear HM hb; have HM := n_; clear n_
    refine hK.out _ _ (MS.k HM m2_ 1 rfl) (fun hHeld => ?_)
    clear hK K
    refine nO_ 69 ?_
    refine pV_ 8 70 (mB 12 1023) HT_ ?_
    obtain ⟨hx0, hfx⟩ := Kd.R_cell 0 (HM.out.S.own _ m0_).r1 k2 R2.out.1 (by simp only [List.length_set]; exact R2.out.2)
    refine pV_ 10 72 (mB 12 2047) HT_ ?_
    have kgr := MS.c3 HM m0_; have kgl := MS.c5 HM m1_; have kgo := MS.c3 HM m2_
    refine last_ (i := 11) (N := none) (mB 12 4095) rfl rfl (one_of HT_.out (by kernel_rfl)) (by decide) (fun K hK => ?_)
    refine skip_ (w1 := ?_) (by rfl) rfl ?_ ?_
    rotate_left
    ·
     go_simp
     rfl
    refine hK.out _ _ ?_
    clear hK K
    refine done_ (done_of HT_.out (by kernel_rfl)) ?_
    clear HT_ HW_ hHeld
    clear p1 p2 s1 s1' s2 s2' hx0 hfx
    have n_ : Aside0 (MS w (⟨P, p0, some ⟨b0, 0, none⟩, q0, v, ((m.set k1.toNat B).set k2.toNat B), false⟩ :: os) ((gr, .cells #[.slice none 0 0, .slice none 0 0, .bool false] 25 (0, 0)) :: (gl, .cells #[.int .i64 lx, .int .i64 sx, .int .i64 y, .int .i64 sy, .int .i64 c] 34 (0, 0)) :: (go, .cells #[.slice P v.length p0, .slice (some ⟨b0, 0, none⟩) m.length q0, .bool false] 25 (0, 0)) :: fs) _) := ⟨HM.out.poke rfl (by simp only [List.length_set]; have := R1.out; omega) k2 B⟩; clear HM; have HM := n_; clear n_
    generalize hW_ : World.setCell _ _ _ = wk at HM ⊢; clear hW_
    clear kgl kgo kgr; have kgr := MS.c3 HM m0_; have kgl := MS.c5 HM m1_; have kgo := MS.c3 HM m2_
    go_wp2
    have n_ : Aside0 (MS w (⟨P, p0, some ⟨b0, 0, none⟩, q0, v, ((m.set k1.toNat B).set k2.toNat B), false⟩ :: os) ((gr, .cells #[.slice P v.length p0, .slice (some ⟨b0, 0, none⟩) m.length q0, .bool false] 25 (0, 0)) :: (gl, .cells #[.int .i64 lx, .int .i64 sx, .int .i64 y, .int .i64 sy, .int .i64 c] 34 (0, 0)) :: (go, .cells #[.slice P v.length p0, .slice (some ⟨b0, 0, none⟩) m.length q0, .bool false] 25 (0, 0)) :: fs) _) := ⟨MS.put3 [] HM.out (a' := .slice P v.length p0) (b' := .slice (some ⟨b0, 0, none⟩) m.length q0) (c' := .bool false)⟩; clear HM; have HM := n_; clear n_
    generalize hW_ : World.setCell _ _ _ = wk at HM ⊢; clear hW_
    clear kgl kgo kgr; have kgr := MS.c3 HM m0_; have kgl := MS.c5 HM m1_; have kgo := MS.c3 HM m2_
    refine bodyPost_ret (results_cell_row rfl _ _ gr 25 #[.slice P v.length p0, .slice (some ⟨b0, 0, none⟩) m.length q0, .bool false] (0, 0) _ rfl (HM.out.F.all _ m0_).1 Try.underlying25 rfl (by kernel_rfl)) rfl ?_
    exact ⟨⟨P, p0, some ⟨b0, 0, none⟩, q0, v, ((m.set k1.toNat B).set k2.toNat B), false⟩, by simp [OV.val], (by first | rfl | exact ⟨rfl, rfl, rfl⟩), HM.out.sub (List.Sublist.refl _) (((List.Sublist.refl _).cons _ |>.cons _) |>.cons _)⟩
   ·
    have hr : m = r := by rw [← HR.out]; unfold amL; rw [if_neg c1, if_neg c2, if_neg c3]
    subst hr
    have TM : Aside0 (decide (B > 1099511627776) = false ∧ decide (1099511627776 < B) = false) := ⟨decide_eq_false c1, decide_eq_false c1⟩
    have TC : Aside0 (decide (B < -1099511627776) = false) := ⟨decide_eq_false c2⟩
    have TD : Aside0 (decide (B < rd m k1) = false) := ⟨decide_eq_false c3⟩
    clear c1 c2 c3 HR
    obtain ⟨t2, t2'⟩ := TM.out
    have t3 := TC.out
    go_upto_region 12 with fail
    clear t2 t2' t3
    have t4 : decide (B < rdOf 0 m k1) = false := TD.out; have p1 := eq_true R1.out.1; have p2 := eq_true R1.out.2; obtain ⟨s1, s1', s2, s2'⟩ := WK1.out; obtain ⟨hx0, hfx⟩ := Kd.R_cell 0 (HM.out.S.own _ m0_).r1 k1 R1.out.1 R1.out.2
    go_wp2
    clear t4 p1 p2 s1 s1' s2 s2' hx0 hfx
    have n_ : Aside0 (MS w (⟨P, p0, some ⟨b0, 0, none⟩, q0, v, m, false⟩ :: os) ((gr, .cells #[.slice P v.length p0, .slice (some ⟨b0, 0, none⟩) m.length q0, .bool false] 25 (0, 0)) :: (gl, .cells #[.int .i64 lx, .int .i64 sx, .int .i64 y, .int .i64 sy, .int .i64 c] 34 (0, 0)) :: (go, .cells #[.slice P v.length p0, .slice (some ⟨b0, 0, none⟩) m.length q0, .bool false] 25 (0, 0)) :: fs) _) := ⟨MS.put3 [] HM.out (a' := .slice P v.length p0) (b' := .slice (some ⟨b0, 0, none⟩) m.length q0) (c' := .bool false)⟩; clear HM; have HM := n_; clear n_
    generalize hW_ : World.setCell _ _ _ = wk at HM ⊢; clear hW_
    clear kgl kgo kgr; have kgr := MS.c3 HM m0_; have kgl := MS.c5 HM m1_; have kgo := MS.c3 HM m2_
    refine bodyPost_ret (results_cell_row rfl _ _ gr 25 #[.slice P v.length p0, .slice (some ⟨b0, 0, none⟩) m.length q0, .bool false] (0, 0) _ rfl (HM.out.F.all _ m0_).1 Try.underlying25 rfl (by kernel_rfl)) rfl ?_
    exact ⟨⟨P, p0, some ⟨b0, 0, none⟩, q0, v, m, false⟩, rfl, (by first | rfl | exact ⟨rfl, rfl, rfl⟩), HM.out.sub (List.Sublist.refl _) (((List.Sublist.refl _).cons _ |>.cons _) |>.cons _)⟩
set_option maxHeartbeats 16000000 in
set_option maxRecDepth 100000 in
theorem am_two (h : Aside0 (MS w (⟨P, p0, some ⟨b0, 0, none⟩, q0, v, m, false⟩ :: os) fs W)) (LK : Aside0 (v.length ≤ 1000)) (HP : Aside0 (placeF v lx = pI)) (HN1 : Aside0 (gimbalref11_Node.f pI sx = some xI)) (HB1 : Aside0 (gimbalref12_bar.f xI = some iI)) (WN : Aside0 (IntKind.i64.wrap (2 * (v.length : Int)) = N ∧ wrap64 (2 * (v.length : Int)) = N)) (R1 : Aside0 (0 ≤ k1 ∧ k1 < (m.length : Int))) (R2 : Aside0 (0 ≤ k2 ∧ k2 < (m.length : Int))) (TY : Aside0 ((sy != 0) = true)) (HQ : Aside0 (placeF v y = qI)) (HN2 : Aside0 (gimbalref11_Node.f qI sy = some jI)) (WK1 : Aside0 (IntKind.i64.wrap (iI * N) = r1 ∧ wrap64 (iI * N) = r1 ∧ IntKind.i64.wrap (r1 + jI) = k1 ∧ wrap64 (r1 + jI) = k1)) (WK2 : Aside0 (IntKind.i64.wrap (jb * N) = r2 ∧ wrap64 (jb * N) = r2 ∧ IntKind.i64.wrap (r2 + ib) = k2 ∧ wrap64 (r2 + ib) = k2)) (HBJ : Aside0 (gimbalref12_bar.f jI = some jb)) (HBI : Aside0 (gimbalref12_bar.f iI = some ib)) {r : List Int} (HR : Aside0 (amL m b k1 k2 = r)) :
 Calls Try.prog 67 #[OV.val ⟨P, p0, some ⟨b0, 0, none⟩, q0, v, m, false⟩, .agg #[.int .i64 lx, .int .i64 sx, .int .i64 y, .int .i64 sy, .int .i64 c], .int .i64 b] W fun e W' => ∃ z : OV, e = .returned z.val ∧ z.o = (v, r, false) ∧ MS w (z :: os) fs W' := by
 have hu25 := Try.underlying25
 have hu34 := Try.underlying34
 go_enter Try.func67, Try.ntmps67
 go_upto_region 1 with fail
 have HM : Aside0 (MS w (⟨P, p0, some ⟨b0, 0, none⟩, q0, v, m, false⟩ :: os) ((W.heap.size + 2, .cells #[.slice none 0 0, .slice none 0 0, .bool false] 25 (0, 0)) :: (W.heap.size + 1, .cells #[.int .i64 lx, .int .i64 sx, .int .i64 y, .int .i64 sy, .int .i64 c] 34 (0, 0)) :: (W.heap.size, .cells #[.slice P v.length p0, .slice (some ⟨b0, 0, none⟩) m.length q0, .bool false] 25 (0, 0)) :: fs) (((W.alloc (.cells #[.slice P v.length p0, .slice (some ⟨b0, 0, none⟩) m.length q0, .bool false] 25 (0, 0))).alloc (.cells #[.int .i64 lx, .int .i64 sx, .int .i64 y, .int .i64 sy, .int .i64 c] 34 (0, 0))).alloc (.cells #[.slice none 0 0, .slice none 0 0, .bool false] 25 (0, 0)))) := ⟨(MS.new (MS.new (MS.new h.out _ rfl) _ (by simp)) _ (by simp))⟩
 clear h
 generalize hW_ : (((W.alloc (.cells #[.slice P v.length p0, .slice (some ⟨b0, 0, none⟩) m.length q0, .bool false] 25 (0, 0))).alloc (.cells #[.int .i64 lx, .int .i64 sx, .int .i64 y, .int .i64 sy, .int .i64 c] 34 (0, 0))).alloc (.cells #[.slice none 0 0, .slice none 0 0, .bool false] 25 (0, 0))) = wk at HM ⊢; clear hW_
 generalize hg_ : W.heap.size + 2 = gr at HM ⊢; clear hg_
 generalize hg_ : W.heap.size + 1 = gl at HM ⊢; clear hg_
 generalize hg_ : W.heap.size = go at HM ⊢; clear hg_
 have kgr := MS.c3 HM m0_; have kgl := MS.c5 HM m1_; have kgo := MS.c3 HM m2_
 obtain ⟨s1, s1'⟩ := WN.out
 go_upto_region 2 with fail
 clear s1 s1'
 have n_ := Aside0.mk (HM.out.next (below_drew (Below.refl _ _))); clear HM; have HM := n_; clear n_
 clear kgl kgo kgr
 refine start_ (n := 8) (S := fun w' => w'.cell? ⟨go, 0, none⟩ = some (.slice P v.length p0) ∧ w'.cell? ⟨go, 1, none⟩ = some (.slice (some ⟨b0, 0, none⟩) m.length q0) ∧ w'.cell? ⟨go, 2, none⟩ = some (.bool false) ∧ w'.cell? ⟨gl, 0, none⟩ = some (.int .i64 lx) ∧ w'.cell? ⟨gl, 1, none⟩ = some (.int .i64 sx)) (ds := []) (mB 8 0) (by kernel_rfl) rfl (by kernel_rfl) ⟨MS.k HM m2_ 0 rfl, MS.k HM m2_ 1 rfl, MS.k HM m2_ 2 rfl, MS.k HM m1_ 0 rfl, MS.k HM m1_ 1 rfl⟩ (fun hHeld => ?_)
 refine with_tabW rmost_tab2 rmost_bits2 (fun HT_ HW_ => ?_)
 generalize hWd : World.drew _ = wk at HM hHeld ⊢; clear hWd
 refine tV_ 0 15 (mB 8 1) HT_ HW_ hHeld ?_
 refine pV_ 1 16 (mB 8 3) HT_ ?_
 refine tV_ 2 17 (mB 8 7) HT_ HW_ hHeld ?_
 refine pV_ 4 19 (mB 8 23) HT_ ?_
 refine tV_ 5 20 (mB 8 55) HT_ HW_ hHeld ?_
 refine one_ (i := 3) (N := some 18) (mB 8 63) rfl rfl (one_of HT_.out (by kernel_rfl)) (by decide) (fun K hK => ?_)
 refine goes_ Try.func28 (by kernel_rfl) rfl #[(OV.val ⟨P, p0, some ⟨b0, 0, none⟩, q0, v, m, false⟩), .int .i64 lx] (by rfl) rfl rfl vL ?_
 with_reducible refine (rplace_as (MS.oc HM m0_) (MS.bel HM) rfl LK.out lx HP.out).mono ?_
 rintro e wk ⟨rfl, hb⟩; refine ⟨_, rfl, ?_⟩
 have n_ := Aside0.mk (HM.out.next hb); clear HM hb; have HM := n_; clear n_
 refine hK.out _ _ ⟨MS.k HM m2_ 0 rfl, MS.k HM m2_ 1 rfl, MS.k HM m2_ 2 rfl, MS.k HM m1_ 0 rfl, MS.k HM m1_ 1 rfl⟩ (fun hHeld => ?_)
 clear hK K
 refine nO_ 18 ?_
 refine one_ (i := 6) (N := some 21) (mB 8 127) rfl rfl (one_of HT_.out (by kernel_rfl)) (by decide) (fun K hK => ?_)
 refine goes_ Try.func107 (by kernel_rfl) rfl #[.int .i64 pI, .int .i64 sx] (by rfl) rfl rfl vL ?_
 with_reducible refine (rnode_as HN1.out).mono ?_
 rintro e wk ⟨rfl, hb⟩; refine ⟨_, rfl, ?_⟩
 have n_ := Aside0.mk (HM.out.next hb); clear HM hb; have HM := n_; clear n_
 refine hK.out _ _ ⟨MS.k HM m2_ 0 rfl, MS.k HM m2_ 1 rfl, MS.k HM m2_ 2 rfl, MS.k HM m1_ 0 rfl, MS.k HM m1_ 1 rfl⟩ (fun hHeld => ?_)
 clear hK K
 refine nO_ 21 ?_
 refine pV_ 7 8 (mB 8 255) HT_ ?_
 refine done_ (done_of HT_.out (by kernel_rfl)) ?_
 clear HT_ HW_ hHeld
 have kgr := MS.c3 HM m0_; have kgl := MS.c5 HM m1_; have kgo := MS.c3 HM m2_
 have t1 := TY.out
 go_upto_region 6 with (first | (go_at_call 108; (with_reducible refine (rbar_as HB1.out).mono ?_); rintro e wk ⟨rfl, hb⟩; have n_ := Aside0.mk ((MS.to HM).next hb); clear HM hb; have HM := n_; clear n_; clear kgl kgo kgr; have kgr := MS.c3 HM m0_; have kgl := MS.c5 HM m1_; have kgo := MS.c3 HM m2_))
 clear t1
 have n_ := Aside0.mk (HM.out.next (below_drew (Below.refl _ _))); clear HM; have HM := n_; clear n_
 clear kgl kgo kgr
 refine start_ (n := 8) (S := fun w' => w'.cell? ⟨go, 0, none⟩ = some (.slice P v.length p0) ∧ w'.cell? ⟨go, 1, none⟩ = some (.slice (some ⟨b0, 0, none⟩) m.length q0) ∧ w'.cell? ⟨go, 2, none⟩ = some (.bool false) ∧ w'.cell? ⟨gl, 2, none⟩ = some (.int .i64 y) ∧ w'.cell? ⟨gl, 3, none⟩ = some (.int .i64 sy)) (ds := []) (mB 8 0) (by kernel_rfl) rfl (by kernel_rfl) ⟨MS.k HM m2_ 0 rfl, MS.k HM m2_ 1 rfl, MS.k HM m2_ 2 rfl, MS.k HM m1_ 2 rfl, MS.k HM m1_ 3 rfl⟩ (fun hHeld => ?_)
 refine with_tabW rmost_tab6 rmost_bits6 (fun HT_ HW_ => ?_)
 generalize hWd : World.drew _ = wk at HM hHeld ⊢; clear hWd
 refine tV_ 0 28 (mB 8 1) HT_ HW_ hHeld ?_
 refine pV_ 1 29 (mB 8 3) HT_ ?_
 refine tV_ 2 30 (mB 8 7) HT_ HW_ hHeld ?_
 refine pV_ 4 32 (mB 8 23) HT_ ?_
 refine tV_ 5 33 (mB 8 55) HT_ HW_ hHeld ?_
 refine one_ (i := 3) (N := some 31) (mB 8 63) rfl rfl (one_of HT_.out (by kernel_rfl)) (by decide) (fun K hK => ?_)
 refine goes_ Try.func28 (by kernel_rfl) rfl #[(OV.val ⟨P, p0, some ⟨b0, 0, none⟩, q0, v, m, false⟩), .int .i64 y] (by rfl) rfl rfl vL ?_
 with_reducible refine (rplace_as (MS.oc HM m0_) (MS.bel HM) rfl LK.out y HQ.out).mono ?_
 rintro e wk ⟨rfl, hb⟩; refine ⟨_, rfl, ?_⟩
 have n_ := Aside0.mk (HM.out.next hb); clear HM hb; have HM := n_; clear n_
 refine hK.out _ _ ⟨MS.k HM m2_ 0 rfl, MS.k HM m2_ 1 rfl, MS.k HM m2_ 2 rfl, MS.k HM m1_ 2 rfl, MS.k HM m1_ 3 rfl⟩ (fun hHeld => ?_)
 clear hK K
 refine nO_ 31 ?_
 refine one_ (i := 6) (N := some 34) (mB 8 127) rfl rfl (one_of HT_.out (by kernel_rfl)) (by decide) (fun K hK => ?_)
 refine goes_ Try.func107 (by kernel_rfl) rfl #[.int .i64 qI, .int .i64 sy] (by rfl) rfl rfl vL ?_
 with_reducible refine (rnode_as HN2.out).mono ?_
 rintro e wk ⟨rfl, hb⟩; refine ⟨_, rfl, ?_⟩
 have n_ := Aside0.mk (HM.out.next hb); clear HM hb; have HM := n_; clear n_
 refine hK.out _ _ ⟨MS.k HM m2_ 0 rfl, MS.k HM m2_ 1 rfl, MS.k HM m2_ 2 rfl, MS.k HM m1_ 2 rfl, MS.k HM m1_ 3 rfl⟩ (fun hHeld => ?_)
 clear hK K
 refine nO_ 34 ?_
 refine pV_ 7 10 (mB 8 255) HT_ ?_
 refine done_ (done_of HT_.out (by kernel_rfl)) ?_
 clear HT_ HW_ hHeld
 have kgr := MS.c3 HM m0_; have kgl := MS.c5 HM m1_; have kgo := MS.c3 HM m2_
 by_cases c1 : b > 1099511627776
 ·
  have hr : m = r := by rw [← HR.out]; unfold amL; rw [if_pos c1]
  subst hr
  have TM : Aside0 (decide (b > 1099511627776) = true ∧ decide (1099511627776 < b) = true) := ⟨decide_eq_true c1, decide_eq_true c1⟩
  clear c1 HR
  obtain ⟨t2, t2'⟩ := TM.out
  go_wp2
  have n_ : Aside0 (MS w (⟨P, p0, some ⟨b0, 0, none⟩, q0, v, m, false⟩ :: os) ((gr, .cells #[.slice P v.length p0, .slice (some ⟨b0, 0, none⟩) m.length q0, .bool false] 25 (0, 0)) :: (gl, .cells #[.int .i64 lx, .int .i64 sx, .int .i64 y, .int .i64 sy, .int .i64 c] 34 (0, 0)) :: (go, .cells #[.slice P v.length p0, .slice (some ⟨b0, 0, none⟩) m.length q0, .bool false] 25 (0, 0)) :: fs) _) := ⟨MS.put3 [] HM.out (a' := .slice P v.length p0) (b' := .slice (some ⟨b0, 0, none⟩) m.length q0) (c' := .bool false)⟩; clear HM; have HM := n_; clear n_
  generalize hW_ : World.setCell _ _ _ = wk at HM ⊢; clear hW_
  clear kgl kgo kgr; have kgr := MS.c3 HM m0_; have kgl := MS.c5 HM m1_; have kgo := MS.c3 HM m2_
  refine bodyPost_ret (results_cell_row rfl _ _ gr 25 #[.slice P v.length p0, .slice (some ⟨b0, 0, none⟩) m.length q0, .bool false] (0, 0) _ rfl (HM.out.F.all _ m0_).1 Try.underlying25 rfl (by kernel_rfl)) rfl ?_
  exact ⟨⟨P, p0, some ⟨b0, 0, none⟩, q0, v, m, false⟩, rfl, (by first | rfl | exact ⟨rfl, rfl, rfl⟩), HM.out.sub (List.Sublist.refl _) (((List.Sublist.refl _).cons _ |>.cons _) |>.cons _)⟩
 ·
  by_cases c2 : b < -1099511627776
  ·
   by_cases c3 : (-1099511627776) < rd m k1
   ·
    obtain rfl : r = ((m.set k1.toNat (-1099511627776)).set k2.toNat (-1099511627776)) := by rw [← HR.out]; unfold amL; rw [if_neg c1, if_pos c2, if_pos c3]
    have TM : Aside0 (decide (b > 1099511627776) = false ∧ decide (1099511627776 < b) = false) := ⟨decide_eq_false c1, decide_eq_false c1⟩
    have TC : Aside0 (decide (b < -1099511627776) = true) := ⟨decide_eq_true c2⟩
    have TD : Aside0 (decide ((-1099511627776) < rd m k1) = true) := ⟨decide_eq_true c3⟩
    clear c1 c2 c3 HR
    obtain ⟨t2, t2'⟩ := TM.out
    have t3 := TC.out
    go_upto_region 12 with fail
    clear t2 t2' t3
    have t4 : decide ((-1099511627776) < rdOf 0 m k1) = true := TD.out; have p1 := eq_true R1.out.1; have p2 := eq_true R1.out.2; obtain ⟨s1, s1', s2, s2'⟩ := WK1.out; obtain ⟨hx0, hfx⟩ := Kd.R_cell 0 (HM.out.S.own _ m0_).r1 k1 R1.out.1 R1.out.2
    go_upto_region 14 with fail
    clear t4 p1 p2 s1 s1' s2 s2' hx0 hfx
    have n_ : Aside0 (MS w (⟨P, p0, some ⟨b0, 0, none⟩, q0, v, (m.set k1.toNat (-1099511627776)), false⟩ :: os) ((gr, .cells #[.slice none 0 0, .slice none 0 0, .bool false] 25 (0, 0)) :: (gl, .cells #[.int .i64 lx, .int .i64 sx, .int .i64 y, .int .i64 sy, .int .i64 c] 34 (0, 0)) :: (go, .cells #[.slice P v.length p0, .slice (some ⟨b0, 0, none⟩) m.length q0, .bool false] 25 (0, 0)) :: fs) _) := ⟨HM.out.poke rfl (by simp only [List.length_set]; have := R1.out; omega) k1 (-1099511627776)⟩; clear HM; have HM := n_; clear n_
    generalize hW_ : World.setCell _ _ _ = wk at HM ⊢; clear hW_
    clear kgl kgo kgr; have kgr := MS.c3 HM m0_; have kgl := MS.c5 HM m1_; have kgo := MS.c3 HM m2_
    have p1 := eq_true R2.out.1; have p2 := eq_true R2.out.2; obtain ⟨s1, s1', s2, s2'⟩ := WK2.out
    have n_ := Aside0.mk (HM.out.next (below_drew (Below.refl _ _))); clear HM; have HM := n_; clear n_
    clear kgl kgo kgr
    refine start_ (n := 12) (S := fun w' => w'.cell? ⟨go, 1, none⟩ = some (.slice (some ⟨b0, 0, none⟩) m.length q0)) (ds := [11]) (mB 12 0) (by kernel_rfl) rfl (by kernel_rfl) (MS.k HM m2_ 1 rfl) (fun hHeld => ?_)
    refine with_tabW rmost_tab14 rmost_bits14 (fun HT_ HW_ => ?_)
    generalize hWd : World.drew _ = wk at HM hHeld ⊢; clear hWd
    refine pV_ 0 62 (mB 12 1) HT_ ?_
    refine tV_ 1 63 (mB 12 3) HT_ HW_ hHeld ?_
    refine pV_ 2 64 (mB 12 7) HT_ ?_
    refine pV_ 4 66 (mB 12 23) HT_ ?_
    refine pV_ 6 68 (mB 12 87) HT_ ?_
    refine pV_ 9 71 (mB 12 599) HT_ ?_
    refine one_ (i := 3) (N := some 65) (mB 12 607) rfl rfl (one_of HT_.out (by kernel_rfl)) (by decide) (fun K hK => ?_)
    refine goes_ Try.func108 (by kernel_rfl) rfl #[.int .i64 jI] (by rfl) rfl rfl vL ?_
    with_reducible refine (rbar_as HBJ.out).mono ?_
    rintro e wk ⟨rfl, hb⟩; refine ⟨_, rfl, ?_⟩
    have n_ := Aside0.mk (HM.out.next hb); clear HM hb; have HM := n_; clear n_
    refine hK.out _ _ (MS.k HM m2_ 1 rfl) (fun hHeld => ?_)
    clear hK K
    refine nO_ 65 ?_
    refine pV_ 5 67 (mB 12 639) HT_ ?_
    refine one_ (i := 7) (N := some 69) (mB 12 767) rfl rfl (one_of HT_.out (by kernel_rfl)) (by decide) (fun K hK => ?_)
    refine goes_ Try.func108 (by kernel_rfl) rfl #[.int .i64 iI] (by rfl) rfl rfl vL ?_
    with_reducible refine (rbar_as HBI.out).mono ?_
    rintro e wk ⟨rfl, hb⟩; refine ⟨_, rfl, ?_⟩
    have n_ := Aside0.mk (HM.out.next hb); clear HM hb; have HM := n_; clear n_
    refine hK.out _ _ (MS.k HM m2_ 1 rfl) (fun hHeld => ?_)
    clear hK K
    refine nO_ 69 ?_
    refine pV_ 8 70 (mB 12 1023) HT_ ?_
    obtain ⟨hx0, hfx⟩ := Kd.R_cell 0 (HM.out.S.own _ m0_).r1 k2 R2.out.1 (by simp only [List.length_set]; exact R2.out.2)
    refine pV_ 10 72 (mB 12 2047) HT_ ?_
    have kgr := MS.c3 HM m0_; have kgl := MS.c5 HM m1_; have kgo := MS.c3 HM m2_
    refine last_ (i := 11) (N := none) (mB 12 4095) rfl rfl (one_of HT_.out (by kernel_rfl)) (by decide) (fun K hK => ?_)
    refine skip_ (w1 := ?_) (by rfl) rfl ?_ ?_
    rotate_left
    ·
     go_simp
     rfl
    refine hK.out _ _ ?_
    clear hK K
    refine done_ (done_of HT_.out (by kernel_rfl)) ?_
    clear HT_ HW_ hHeld
    clear p1 p2 s1 s1' s2 s2' hx0 hfx
    have n_ : Aside0 (MS w (⟨P, p0, some ⟨b0, 0, none⟩, q0, v, ((m.set k1.toNat (-1099511627776)).set k2.toNat (-1099511627776)), false⟩ :: os) ((gr, .cells #[.slice none 0 0, .slice none 0 0, .bool false] 25 (0, 0)) :: (gl, .cells #[.int .i64 lx, .int .i64 sx, .int .i64 y, .int .i64 sy, .int .i64 c] 34 (0, 0)) :: (go, .cells #[.slice P v.length p0, .slice (some ⟨b0, 0, none⟩) m.length q0, .bool false] 25 (0, 0)) :: fs) _) := ⟨HM.out.poke rfl (by simp only [List.length_set]; have := R1.out; omega) k2 (-1099511627776)⟩; clear HM; have HM := n_; clear n_
    generalize hW_ : World.setCell _ _ _ = wk at HM ⊢; clear hW_
    clear kgl kgo kgr; have kgr := MS.c3 HM m0_; have kgl := MS.c5 HM m1_; have kgo := MS.c3 HM m2_
    go_wp2
    have n_ : Aside0 (MS w (⟨P, p0, some ⟨b0, 0, none⟩, q0, v, ((m.set k1.toNat (-1099511627776)).set k2.toNat (-1099511627776)), false⟩ :: os) ((gr, .cells #[.slice P v.length p0, .slice (some ⟨b0, 0, none⟩) m.length q0, .bool false] 25 (0, 0)) :: (gl, .cells #[.int .i64 lx, .int .i64 sx, .int .i64 y, .int .i64 sy, .int .i64 c] 34 (0, 0)) :: (go, .cells #[.slice P v.length p0, .slice (some ⟨b0, 0, none⟩) m.length q0, .bool false] 25 (0, 0)) :: fs) _) := ⟨MS.put3 [] HM.out (a' := .slice P v.length p0) (b' := .slice (some ⟨b0, 0, none⟩) m.length q0) (c' := .bool false)⟩; clear HM; have HM := n_; clear n_
    generalize hW_ : World.setCell _ _ _ = wk at HM ⊢; clear hW_
    clear kgl kgo kgr; have kgr := MS.c3 HM m0_; have kgl := MS.c5 HM m1_; have kgo := MS.c3 HM m2_
    refine bodyPost_ret (results_cell_row rfl _ _ gr 25 #[.slice P v.length p0, .slice (some ⟨b0, 0, none⟩) m.length q0, .bool false] (0, 0) _ rfl (HM.out.F.all _ m0_).1 Try.underlying25 rfl (by kernel_rfl)) rfl ?_
    exact ⟨⟨P, p0, some ⟨b0, 0, none⟩, q0, v, ((m.set k1.toNat (-1099511627776)).set k2.toNat (-1099511627776)), false⟩, by simp [OV.val], (by first | rfl | exact ⟨rfl, rfl, rfl⟩), HM.out.sub (List.Sublist.refl _) (((List.Sublist.refl _).cons _ |>.cons _) |>.cons _)⟩
   ·
    have hr : m = r := by rw [← HR.out]; unfold amL; rw [if_neg c1, if_pos c2, if_neg c3]
    subst hr
    have TM : Aside0 (decide (b > 1099511627776) = false ∧ decide (1099511627776 < b) = false) := ⟨decide_eq_false c1, decide_eq_false c1⟩
    have TC : Aside0 (decide (b < -1099511627776) = true) := ⟨decide_eq_true c2⟩
    have TD : Aside0 (decide ((-1099511627776) < rd m k1) = false) := ⟨decide_eq_false c3⟩
    clear c1 c2 c3 HR
    obtain ⟨t2, t2'⟩ := TM.out
    have t3 := TC.out
    go_upto_region 12 with fail
    clear t2 t2' t3
    have t4 : decide ((-1099511627776) < rdOf 0 m k1) = false := TD.out; have p1 := eq_true R1.out.1; have p2 := eq_true R1.out.2; obtain ⟨s1, s1', s2, s2'⟩ := WK1.out; obtain ⟨hx0, hfx⟩ := Kd.R_cell 0 (HM.out.S.own _ m0_).r1 k1 R1.out.1 R1.out.2
    go_wp2
    clear t4 p1 p2 s1 s1' s2 s2' hx0 hfx
    have n_ : Aside0 (MS w (⟨P, p0, some ⟨b0, 0, none⟩, q0, v, m, false⟩ :: os) ((gr, .cells #[.slice P v.length p0, .slice (some ⟨b0, 0, none⟩) m.length q0, .bool false] 25 (0, 0)) :: (gl, .cells #[.int .i64 lx, .int .i64 sx, .int .i64 y, .int .i64 sy, .int .i64 c] 34 (0, 0)) :: (go, .cells #[.slice P v.length p0, .slice (some ⟨b0, 0, none⟩) m.length q0, .bool false] 25 (0, 0)) :: fs) _) := ⟨MS.put3 [] HM.out (a' := .slice P v.length p0) (b' := .slice (some ⟨b0, 0, none⟩) m.length q0) (c' := .bool false)⟩; clear HM; have HM := n_; clear n_
    generalize hW_ : World.setCell _ _ _ = wk at HM ⊢; clear hW_
    clear kgl kgo kgr; have kgr := MS.c3 HM m0_; have kgl := MS.c5 HM m1_; have kgo := MS.c3 HM m2_
    refine bodyPost_ret (results_cell_row rfl _ _ gr 25 #[.slice P v.length p0, .slice (some ⟨b0, 0, none⟩) m.length q0, .bool false] (0, 0) _ rfl (HM.out.F.all _ m0_).1 Try.underlying25 rfl (by kernel_rfl)) rfl ?_
    exact ⟨⟨P, p0, some ⟨b0, 0, none⟩, q0, v, m, false⟩, rfl, (by first | rfl | exact ⟨rfl, rfl, rfl⟩), HM.out.sub (List.Sublist.refl _) (((List.Sublist.refl _).cons _ |>.cons _) |>.cons _)⟩
  ·
   by_cases c3 : b < rd m k1
   ·
    obtain rfl : r = ((m.set k1.toNat b).set k2.toNat b) := by rw [← HR.out]; unfold amL; rw [if_neg c1, if_neg c2, if_pos c3]
    have TM : Aside0 (decide (b > 1099511627776) = false ∧ decide (1099511627776 < b) = false) := ⟨decide_eq_false c1, decide_eq_false c1⟩
    have TC : Aside0 (decide (b < -1099511627776) = false) := ⟨decide_eq_false c2⟩
    have TD : Aside0 (decide (b < rd m k1) = true) := ⟨decide_eq_true c3⟩
    clear c1 c2 c3 HR
    obtain ⟨t2, t2'⟩ := TM.out
    have t3 := TC.out
    go_upto_region 12 with fail
    clear t2 t2' t3
    have t4 : decide (b < rdOf 0 m k1) = true := TD.out; have p1 := eq_true R1.out.1; have p2 := eq_true R1.out.2; obtain ⟨s1, s1', s2, s2'⟩ := WK1.out; obtain ⟨hx0, hfx⟩ := Kd.R_cell 0 (HM.out.S.own _ m0_).r1 k1 R1.out.1 R1.out.2
    go_upto_region 14 with fail
    clear t4 p1 p2 s1 s1' s2 s2' hx0 hfx
    have n_ : Aside0 (MS w (⟨P, p0, some ⟨b0, 0, none⟩, q0, v, (m.set k1.toNat b), false⟩ :: os) ((gr, .cells #[.slice none 0 0, .slice none 0 0, .bool false] 25 (0, 0)) :: (gl, .cells #[.int .i64 lx, .int .i64 sx, .int .i64 y, .int .i64 sy, .int .i64 c] 34 (0, 0)) :: (go, .cells #[.slice P v.length p0, .slice (some ⟨b0, 0, none⟩) m.length q0, .bool false] 25 (0, 0)) :: fs) _) := ⟨HM.out.poke rfl (by simp only [List.length_set]; have := R1.out; omega) k1 b⟩; clear HM; have HM := n_; clear n_
    generalize hW_ : World.setCell _ _ _ = wk at HM ⊢; clear hW_
    clear kgl kgo kgr; have kgr := MS.c3 HM m0_; have kgl := MS.c5 HM m1_; have kgo := MS.c3 HM m2_
    have p1 := eq_true R2.out.1; have p2 := eq_true R2.out.2; obtain ⟨s1, s1', s2, s2'⟩ := WK2.out
    have n_ := Aside0.mk (HM.out.next (below_drew (Below.refl _ _))); clear HM; have HM := n_; clear n_
    clear kgl kgo kgr
    refine start_ (n := 12) (S := fun w' => w'.cell? ⟨go, 1, none⟩ = some (.slice (some ⟨b0, 0, none⟩) m.length q0)) (ds := [11]) (mB 12 0) (by kernel_rfl) rfl (by kernel_rfl) (MS.k HM m2_ 1 rfl) (fun hHeld => ?_)
    refine with_tabW rmost_tab14 rmost_bits14 (fun HT_ HW_ => ?_)
    generalize hWd : World.drew _ = wk at HM hHeld ⊢; clear hWd
    refine pV_ 0 62 (mB 12 1) HT_ ?_
    refine tV_ 1 63 (mB 12 3) HT_ HW_ hHeld ?_
    refine pV_ 2 64 (mB 12 7) HT_ ?_
    refine pV_ 4 66 (mB 12 23) HT_ ?_
    refine pV_ 6 68 (mB 12 87) HT_ ?_
    refine pV_ 9 71 (mB 12 599) HT_ ?_
    refine one_ (i := 3) (N := some 65) (mB 12 607) rfl rfl (one_of HT_.out (by kernel_rfl)) (by decide) (fun K hK => ?_)
    refine goes_ Try.func108 (by kernel_rfl) rfl #[.int .i64 jI] (by rfl) rfl rfl vL ?_
    with_reducible refine (rbar_as HBJ.out).mono ?_
    rintro e wk ⟨rfl, hb⟩; refine ⟨_, rfl, ?_⟩
    have n_ := Aside0.mk (HM.out.next hb); clear HM hb; have HM := n_; clear n_
    refine hK.out _ _ (MS.k HM m2_ 1 rfl) (fun hHeld => ?_)
    clear hK K
    refine nO_ 65 ?_
    refine pV_ 5 67 (mB 12 639) HT_ ?_
    refine one_ (i := 7) (N := some 69) (mB 12 767) rfl rfl (one_of HT_.out (by kernel_rfl)) (by decide) (fun K hK => ?_)
    refine goes_ Try.func108 (by kernel_rfl) rfl #[.int .i64 iI] (by rfl) rfl rfl vL ?_
    with_reducible refine (rbar_as HBI.out).mono ?_
    rintro e wk ⟨rfl, hb⟩; refine ⟨_, rfl, ?_⟩
    have n_ := Aside0.mk (HM.out.next hb); clear HM hb; have HM := n_; clear n_
    refine hK.out _ _ (MS.k HM m2_ 1 rfl) (fun hHeld => ?_)
    clear hK K
    refine nO_ 69 ?_
    refine pV_ 8 70 (mB 12 1023) HT_ ?_
    obtain ⟨hx0, hfx⟩ := Kd.R_cell 0 (HM.out.S.own _ m0_).r1 k2 R2.out.1 (by simp only [List.length_set]; exact R2.out.2)
    refine pV_ 10 72 (mB 12 2047) HT_ ?_
    have kgr := MS.c3 HM m0_; have kgl := MS.c5 HM m1_; have kgo := MS.c3 HM m2_
    refine last_ (i := 11) (N := none) (mB 12 4095) rfl rfl (one_of HT_.out (by kernel_rfl)) (by decide) (fun K hK => ?_)
    refine skip_ (w1 := ?_) (by rfl) rfl ?_ ?_
    rotate_left
    ·
     go_simp
     rfl
    refine hK.out _ _ ?_
    clear hK K
    refine done_ (done_of HT_.out (by kernel_rfl)) ?_
    clear HT_ HW_ hHeld
    clear p1 p2 s1 s1' s2 s2' hx0 hfx
    have n_ : Aside0 (MS w (⟨P, p0, some ⟨b0, 0, none⟩, q0, v, ((m.set k1.toNat b).set k2.toNat b), false⟩ :: os) ((gr, .cells #[.slice none 0 0, .slice none 0 0, .bool false] 25 (0, 0)) :: (gl, .cells #[.int .i64 lx, .int .i64 sx, .int .i64 y, .int .i64 sy, .int .i64 c] 34 (0, 0)) :: (go, .cells #[.slice P v.length p0, .slice (some ⟨b0, 0, none⟩) m.length q0, .bool false] 25 (0, 0)) :: fs) _) := ⟨HM.out.poke rfl (by simp only [List.length_set]; have := R1.out; omega) k2 b⟩; clear HM; have HM := n_; clear n_
    generalize hW_ : World.setCell _ _ _ = wk at HM ⊢; clear hW_
    clear kgl kgo kgr; have kgr := MS.c3 HM m0_; have kgl := MS.c5 HM m1_; have kgo := MS.c3 HM m2_
    go_wp2
    have n_ : Aside0 (MS w (⟨P, p0, some ⟨b0, 0, none⟩, q0, v, ((m.set k1.toNat b).set k2.toNat b), false⟩ :: os) ((gr, .cells #[.slice P v.length p0, .slice (some ⟨b0, 0, none⟩) m.length q0, .bool false] 25 (0, 0)) :: (gl, .cells #[.int .i64 lx, .int .i64 sx, .int .i64 y, .int .i64 sy, .int .i64 c] 34 (0, 0)) :: (go, .cells #[.slice P v.length p0, .slice (some ⟨b0, 0, none⟩) m.length q0, .bool false] 25 (0, 0)) :: fs) _) := ⟨MS.put3 [] HM.out (a' := .slice P v.length p0) (b' := .slice (some ⟨b0, 0, none⟩) m.length q0) (c' := .bool false)⟩; clear HM; have HM := n_; clear n_
    generalize hW_ : World.setCell _ _ _ = wk at HM ⊢; clear hW_
    clear kgl kgo kgr; have kgr := MS.c3 HM m0_; have kgl := MS.c5 HM m1_; have kgo := MS.c3 HM m2_
    refine bodyPost_ret (results_cell_row rfl _ _ gr 25 #[.slice P v.length p0, .slice (some ⟨b0, 0, none⟩) m.length q0, .bool false] (0, 0) _ rfl (HM.out.F.all _ m0_).1 Try.underlying25 rfl (by kernel_rfl)) rfl ?_
    exact ⟨⟨P, p0, some ⟨b0, 0, none⟩, q0, v, ((m.set k1.toNat b).set k2.toNat b), false⟩, by simp [OV.val], (by first | rfl | exact ⟨rfl, rfl, rfl⟩), HM.out.sub (List.Sublist.refl _) (((List.Sublist.refl _).cons _ |>.cons _) |>.cons _)⟩
   ·
    have hr : m = r := by rw [← HR.out]; unfold amL; rw [if_neg c1, if_neg c2, if_neg c3]
    subst hr
    have TM : Aside0 (decide (b > 1099511627776) = false ∧ decide (1099511627776 < b) = false) := ⟨decide_eq_false c1, decide_eq_false c1⟩
    have TC : Aside0 (decide (b < -1099511627776) = false) := ⟨decide_eq_false c2⟩
    have TD : Aside0 (decide (b < rd m k1) = false) := ⟨decide_eq_false c3⟩
    clear c1 c2 c3 HR
    obtain ⟨t2, t2'⟩ := TM.out
    have t3 := TC.out
    go_upto_region 12 with fail
    clear t2 t2' t3
    have t4 : decide (b < rdOf 0 m k1) = false := TD.out; have p1 := eq_true R1.out.1; have p2 := eq_true R1.out.2; obtain ⟨s1, s1', s2, s2'⟩ := WK1.out; obtain ⟨hx0, hfx⟩ := Kd.R_cell 0 (HM.out.S.own _ m0_).r1 k1 R1.out.1 R1.out.2
    go_wp2
    clear t4 p1 p2 s1 s1' s2 s2' hx0 hfx
    have n_ : Aside0 (MS w (⟨P, p0, some ⟨b0, 0, none⟩, q0, v, m, false⟩ :: os) ((gr, .cells #[.slice P v.length p0, .slice (some ⟨b0, 0, none⟩) m.length q0, .bool false] 25 (0, 0)) :: (gl, .cells #[.int .i64 lx, .int .i64 sx, .int .i64 y, .int .i64 sy, .int .i64 c] 34 (0, 0)) :: (go, .cells #[.slice P v.length p0, .slice (some ⟨b0, 0, none⟩) m.length q0, .bool false] 25 (0, 0)) :: fs) _) := ⟨MS.put3 [] HM.out (a' := .slice P v.length p0) (b' := .slice (some ⟨b0, 0, none⟩) m.length q0) (c' := .bool false)⟩; clear HM; have HM := n_; clear n_
    generalize hW_ : World.setCell _ _ _ = wk at HM ⊢; clear hW_
    clear kgl kgo kgr; have kgr := MS.c3 HM m0_; have kgl := MS.c5 HM m1_; have kgo := MS.c3 HM m2_
    refine bodyPost_ret (results_cell_row rfl _ _ gr 25 #[.slice P v.length p0, .slice (some ⟨b0, 0, none⟩) m.length q0, .bool false] (0, 0) _ rfl (HM.out.F.all _ m0_).1 Try.underlying25 rfl (by kernel_rfl)) rfl ?_
    exact ⟨⟨P, p0, some ⟨b0, 0, none⟩, q0, v, m, false⟩, rfl, (by first | rfl | exact ⟨rfl, rfl, rfl⟩), HM.out.sub (List.Sublist.refl _) (((List.Sublist.refl _).cons _ |>.cons _) |>.cons _)⟩
end
end Go.Proofs.Ytphfchbggechhaa.QO
end
end
section
noncomputable section
namespace Go.Proofs.Ytphfchbggechhaa.QO
open Go.RowKit Go.Shelf Go.Proofs.YtphfchbggechhaaW.PrintWords Go.Proofs.YtphfchbggechhaaW.PrintLast Go.Proofs.YtphfchbggechhaaW.PrintMore
open Go.Proofs.Ytphfchbggechhaa.Pure
attribute [local go_sem] Oper.semAt_some
attribute [local go_sem ↓] Go.wp_at_zero Go.wp_at_succ
set_option linter.unusedVariables false
set_option linter.unusedSimpArgs false
theorem wk_am {n i j : Nat} (hn : n ≤ 16) (hi : i ≤ 16) (hj : j ≤ 16) : IntKind.i64.wrap ((i : Int) * (n : Int)) = ((i * n : Nat) : Int) ∧ wrap64 ((i : Int) * (n : Int)) = ((i * n : Nat) : Int) ∧ IntKind.i64.wrap (((i * n : Nat) : Int) + (j : Int)) = ((i * n + j : Nat) : Int) ∧ wrap64 (((i * n : Nat) : Int) + (j : Int)) = ((i * n + j : Nat) : Int) := by
 have m : i * n ≤ 16 * 16 := Nat.mul_le_mul hi hn
 have e : (i : Int) * (n : Int) = ((i * n : Nat) : Int) := by push_cast; rfl
 rw [e]
 generalize i * n = t at m ⊢
 refine ⟨by rw [IntKind.wrap_i64]; omega, by unfold wrap64; omega, by rw [IntKind.wrap_i64]; omega, by unfold wrap64; omega⟩
theorem am_put {n : Nat} {C : Mx} {A B : Nat} {y : Int} (hC : Snd n C) (hA : A < n) (hB : B < n) (hAB : A ≠ B) (h2 : y < C A B) : ((lst n C).set (((A * n + B : Nat) : Int)).toNat y).set (((nb B * n + nb A : Nat) : Int)).toNat y = lst n (upM C A B y) := by
 have hnb := hC.nb
 rw [lst_set hA hB rfl, lst_set (hnb B hB) (hnb A hA) rfl]
 refine lst_ext (fun i j hi hj => ?_)
 unfold upM upG
 by_cases d : i = j
 ·
  rw [if_neg, if_neg, if_pos d]
  ·
   rintro ⟨h, h'⟩; exact hAB (by omega)
  ·
   rintro ⟨h, h'⟩; exact hAB (nb_eq.1 (by omega)).symm
 ·
  rw [if_neg d]
  have hm : mn (C A B) y = y := by unfold mn; rw [if_pos h2]
  by_cases c1 : i = nb B ∧ j = nb A
  ·
   rw [if_pos c1, if_pos (.inr c1), c1.1, c1.2, ← hC.coh A B hA hB, hm]
  ·
   rw [if_neg c1]
   by_cases c2 : i = A ∧ j = B
   ·
    rw [if_pos c2, if_pos (.inl c2), c2.1, c2.2, hm]
   ·
    rw [if_neg c2, if_neg (fun h => h.elim c2 c1)]
theorem am_keep {n : Nat} {C : Mx} {A B : Nat} {y : Int} (hC : Snd n C) (hA : A < n) (hB : B < n) (h2 : ¬ y < C A B) : lst n C = lst n (upM C A B y) := by
 refine lst_ext (fun i j hi hj => ?_)
 have hm : mn (C A B) y = C A B := by unfold mn; rw [if_neg h2]
 unfold upM upG
 by_cases d : i = j
 ·
  rw [if_pos d]
 ·
  rw [if_neg d]
  by_cases c : (i = A ∧ j = B) ∨ (i = nb B ∧ j = nb A)
  ·
   rw [if_pos c]
   rcases c with ⟨rfl, rfl⟩ | ⟨rfl, rfl⟩
   ·
    exact hm.symm
   ·
    rw [← hC.coh A B hA hB]; exact hm.symm
  ·
   rw [if_neg c]
set_option maxHeartbeats 4000000 in
theorem atMost_ms {w W : World} {x : OV} {os : List OV} {fs : List (Nat × Obj)} {v : List Int} {C : Mx} {lx sx y sy c b : Int} {p q : Nat} (h : MS w (x :: os) fs W) (ho : x.o = (v, lst (2 * v.length) C, false)) (hv : v.length ≤ 8) (hC : Snd (2 * v.length) C) (hp : placeF v lx = (p : Int)) (hsx : sx ≠ 0) (hq : sy ≠ 0 → placeF v y = (q : Int)) (hpq : sy ≠ 0 → p ≠ q) (hb : -2199023255552 ≤ b ∧ b ≤ 2199023255552) :
 Calls Try.prog 67 #[x.val, .agg #[.int .i64 lx, .int .i64 sx, .int .i64 y, .int .i64 sy, .int .i64 c], .int .i64 b] W fun e W' => ∃ z : OV, e = .returned z.val ∧ z.o = (v, lst (2 * v.length) (amC C p sx q sy b), false) ∧ MS w (z :: os) fs W' := by
 have hl : v.length ≤ 1000 := by omega
 have pl : p < v.length := by have := placeF_lt v lx; omega
 have hP := nd_lt (n := v.length) (s := sx) pl
 have hnb := hC.nb
 obtain ⟨P, p0, Q, q0, v', m', e'⟩ := x
 have e1 : v' = v := congrArg Prod.fst ho
 have e2 : m' = lst (2 * v.length) C := congrArg (·.2.1) ho
 have e3 : e' = false := congrArg (·.2.2) ho
 subst e1 e2 e3
 have h0 : 0 < (lst (2 * v'.length) C).length := by rw [lst_length]; exact Nat.mul_pos (by omega) (by omega)
 obtain ⟨b0, cap, eQ, _⟩ := h.S.place h0
 cases eQ
 have WN : Aside0 (IntKind.i64.wrap (2 * (v'.length : Int)) = ((2 * v'.length : Nat) : Int) ∧ wrap64 (2 * (v'.length : Int)) = ((2 * v'.length : Nat) : Int)) := ⟨by rw [IntKind.wrap_i64]; omega, by unfold wrap64; omega⟩
 have N1 := rnode_f p sx (by omega) hsx
 have HB1 := bar2_f (i := nd p sx) (by omega)
 have hA := nb_lt hP
 have HBI := bar2_f (i := nb (nd p sx)) (Nat.lt_of_lt_of_le hA (by omega))
 by_cases hs : sy = 0
 ·
  have HJ := hP
  have hne : nb (nd p sx) ≠ nd p sx := nb_ne' _
  have hnbj := nb_lt HJ
  have hnba := nb_lt hA
  have n16 : 2 * v'.length ≤ 16 := by clear WN N1 HB1 HBI; omega
  have a16 : nb (nd p sx) ≤ 16 := Nat.le_trans (Nat.le_of_lt hA) n16
  have a16' : nb (nb (nd p sx)) ≤ 16 := Nat.le_trans (Nat.le_of_lt hnba) n16
  have j15 : (nd p sx) < 16 := Nat.lt_of_lt_of_le HJ n16
  have j16' : nb (nd p sx) ≤ 16 := Nat.le_trans (Nat.le_of_lt hnbj) n16
  have R1 := in_row (d := C) hA HJ
  have R2 := in_row (d := C) hnbj hnba
  have K1 := wk_am (n := 2 * v'.length) (i := nb (nd p sx)) (j := (nd p sx)) n16 a16 (Nat.le_of_lt j15)
  have K2 := wk_am (n := 2 * v'.length) (i := nb (nd p sx)) (j := nb (nb (nd p sx))) n16 j16' a16'
  have HBJ := bar2_f (i := (nd p sx)) j15
  have rk := rd_lst (C := C) hA HJ
  have ea : amC C p sx q sy b = upM C (nb (nd p sx)) (nd p sx) (clipV (2 * b)) := by unfold amC; rw [if_pos hs]
  rw [ea]
  refine am_one (h := ⟨h⟩) (LK := ⟨hl⟩) (HP := ⟨hp⟩) (HN1 := ⟨N1⟩) (HB1 := ⟨HB1⟩) (WN := WN) (R1 := ⟨R1⟩) (R2 := ⟨R2⟩) (B := 2 * b) (TY := ⟨by simpa using hs⟩) (WB := ⟨⟨by rw [IntKind.wrap_i64]; clear WN N1 HB1 HBI R1 R2 K1 K2 HBJ rk ea; omega, by unfold wrap64; clear WN N1 HB1 HBI R1 R2 K1 K2 HBJ rk ea; omega⟩⟩) (WK1 := ⟨K1⟩) (WK2 := ⟨K2⟩) (HBJ := ⟨HBJ⟩) (HBI := ⟨HBI⟩) (HR := ⟨?_⟩)
  clear WN N1 HB1 HBI R1 R2 K1 K2 HBJ ea
  unfold amL clipV
  rw [rk]
  by_cases c1 : (2 * b) > 1099511627776
  ·
   simp only [if_pos c1]; exact (lst_ext (upM_inf hC)).symm
  ·
   simp only [if_neg c1]
   generalize (if (2 * b) < -1099511627776 then -1099511627776 else (2 * b)) = u
   by_cases c3 : u < C (nb (nd p sx)) (nd p sx)
   ·
    rw [if_pos c3]; exact am_put hC hA HJ hne c3
   ·
    rw [if_neg c3]; exact am_keep hC hA HJ c3
 ·
  have ql : q < v'.length := by have := placeF_lt v' y; have := hq hs; omega
  have HJ := nd_lt (n := v'.length) (s := sy) ql
  have N2 := rnode_f q sy (by omega) hs
  have hne : nb (nd p sx) ≠ nd q sy := fun h => hpq hs (by
   have e := congrArg (· / 2) h
   try dsimp only at e
   rw [nb_half, nd_half, nd_half] at e
   exact e)
  have hnbj := nb_lt HJ
  have hnba := nb_lt hA
  have n16 : 2 * v'.length ≤ 16 := by clear WN N1 HB1 HBI; omega
  have a16 : nb (nd p sx) ≤ 16 := Nat.le_trans (Nat.le_of_lt hA) n16
  have a16' : nb (nb (nd p sx)) ≤ 16 := Nat.le_trans (Nat.le_of_lt hnba) n16
  have j15 : (nd q sy) < 16 := Nat.lt_of_lt_of_le HJ n16
  have j16' : nb (nd q sy) ≤ 16 := Nat.le_trans (Nat.le_of_lt hnbj) n16
  have R1 := in_row (d := C) hA HJ
  have R2 := in_row (d := C) hnbj hnba
  have K1 := wk_am (n := 2 * v'.length) (i := nb (nd p sx)) (j := (nd q sy)) n16 a16 (Nat.le_of_lt j15)
  have K2 := wk_am (n := 2 * v'.length) (i := nb (nd q sy)) (j := nb (nb (nd p sx))) n16 j16' a16'
  have HBJ := bar2_f (i := (nd q sy)) j15
  have rk := rd_lst (C := C) hA HJ
  have ea : amC C p sx q sy b = upM C (nb (nd p sx)) (nd q sy) (clipV b) := by unfold amC; rw [if_neg hs]
  rw [ea]
  refine am_two (h := ⟨h⟩) (LK := ⟨hl⟩) (HP := ⟨hp⟩) (HN1 := ⟨N1⟩) (HB1 := ⟨HB1⟩) (WN := WN) (R1 := ⟨R1⟩) (R2 := ⟨R2⟩) (TY := ⟨by simpa using hs⟩) (HQ := ⟨hq hs⟩) (HN2 := ⟨N2⟩) (WK1 := ⟨K1⟩) (WK2 := ⟨K2⟩) (HBJ := ⟨HBJ⟩) (HBI := ⟨HBI⟩) (HR := ⟨?_⟩)
  clear WN N1 HB1 HBI R1 R2 K1 K2 HBJ ea
  unfold amL clipV
  rw [rk]
  by_cases c1 : b > 1099511627776
  ·
   simp only [if_pos c1]; exact (lst_ext (upM_inf hC)).symm
  ·
   simp only [if_neg c1]
   generalize (if b < -1099511627776 then -1099511627776 else b) = u
   by_cases c3 : u < C (nb (nd p sx)) (nd q sy)
   ·
    rw [if_pos c3]; exact am_put hC hA HJ hne c3
   ·
    rw [if_neg c3]; exact am_keep hC hA HJ c3
end Go.Proofs.Ytphfchbggechhaa.QO
end
end
section
noncomputable section
namespace Go.Proofs.Ytphfchbggechhaa.QO
open Go.RowKit Go.Shelf Go.Proofs.YtphfchbggechhaaW.PrintWords Go.Proofs.YtphfchbggechhaaW.PrintLast Go.Proofs.YtphfchbggechhaaW.PrintMore
open Go.Proofs.Ytphfchbggechhaa.Pure
attribute [local go_sem] Oper.semAt_some
attribute [local go_sem ↓] Go.wp_at_zero Go.wp_at_succ
set_option linter.unusedVariables false
set_option linter.unusedSimpArgs false
def rguard_T12 : Bool × List (List Nat × List Nat) := (true, [([], []), ([], []), ([], []), ([2], [2]), ([], []), ([4], [4]), ([3, 5], [3, 5]), ([6], [6]), ([0, 1, 7, 7], [0, 1, 7]), ([8, 8, 0, 1, 2, 3, 4, 5, 6, 7, 8], [8])])
def rguard_B12 : List Nat := [0, 0, 0, 4, 0, 16, 60, 124, 255, 511]
theorem rguard_tab12 : rtab .any (opsOf Try.f20 12) = rguard_T12 := by kernel_rfl
theorem rguard_bits12 : waitsOk rguard_T12.2 rguard_B12 = true := by kernel_rfl
def rguard_T17 : Bool × List (List Nat × List Nat) := (true, [([], []), ([], []), ([], []), ([2], [2]), ([], []), ([4], [4]), ([3, 5], [3, 5]), ([6], [6]), ([0, 1, 7, 7], [0, 1, 7]), ([8, 8, 0, 1, 2, 3, 4, 5, 6, 7, 8], [8])])
def rguard_B17 : List Nat := [0, 0, 0, 4, 0, 16, 60, 124, 255, 511]
theorem rguard_tab17 : rtab .any (opsOf Try.f20 17) = rguard_T17 := by kernel_rfl
theorem rguard_bits17 : waitsOk rguard_T17.2 rguard_B17 = true := by kernel_rfl
theorem among_asE {w W : World} {X : OV} {v m : List Int} {e : Bool} {lx sx y sy c : Int} {t : Bool} (hx : Oc w W X) (hb : Below w.heap.size w W) (ho : X.o = (v, m, e)) (l : v.length ≤ 1000) (h : ofB v lx sx y sy c = t) (he : X.e = e) : Says 62 #[.agg #[.slice X.P X.v.length X.p, .slice X.Q X.m.length X.q, .bool e], .agg #[.int .i64 lx, .int .i64 sx, .int .i64 y, .int .i64 sy, .int .i64 c]] W (.bool t) := by
 subst he
 exact among_as hx hb ho l h
theorem rbottom_as {w W : World} {X : OV} {v m : List Int} {e : Bool} (hx : Oc w W X) (hb : Below w.heap.size w W) (ho : X.o = (v, m, e)) (hv : VarsOk v) :
 Calls Try.prog 65 #[.slice X.P X.v.length X.p] W fun e W' => ∃ z : OV, e = .returned z.val ∧ z.o = (v, [], true) ∧ Own W W' z ∧ Below W.heap.size W W' := by
 have e1 : X.v = v := congrArg Prod.fst ho
 rw [← e1] at hv ⊢
 exact rbottom_own hx.r0 hb hv
theorem atMost_o {w W : World} {x : OV} {os : List OV} {fs : List (Nat × Obj)} {v : List Int} {C : Mx} {lx sx y sy c b : Int} {p q : Nat} (h : MS w (x :: os) fs W) (ho : x.o = (v, lst (2 * v.length) C, false)) (hv : v.length ≤ 8) (hC : Snd (2 * v.length) C) (hp : placeF v lx = (p : Int)) (hsx : sx ≠ 0) (hq : sy ≠ 0 → placeF v y = (q : Int)) (hpq : sy ≠ 0 → p ≠ q) (hb : -2199023255552 ≤ b ∧ b ≤ 2199023255552) :
 Calls Try.prog 67 #[x.val, .agg #[.int .i64 lx, .int .i64 sx, .int .i64 y, .int .i64 sy, .int .i64 c], .int .i64 b] W fun e W' => ∃ z : OV, e = .returned z.val ∧ z.o = (v, lst (2 * v.length) (amC C p sx q sy b), false) ∧ MS w (z :: os) fs W' := atMost_ms h ho hv hC hp hsx hq hpq hb
theorem amC_snd {n p q : Nat} {C : Mx} {sx sy b : Int} (hC : Snd n C) : Snd n (amC C p sx q sy b) := by
 unfold amC; split <;> exact upM_snd hC (clip_bd _)
theorem upC_ext' {n p q : Nat} {A B : Mx} {sx sy h : Int} (e : ∀ i j, i < n → j < n → A i j = B i j) : ∀ i j, i < n → j < n → upC A p sx q sy h i j = upC B p sx q sy h i j := by
 have um : ∀ a b h, ∀ i j, i < n → j < n → upM A a b h i j = upM B a b h i j := fun a b h i j hi hj => by unfold upM; rw [e i j hi hj]
 unfold upC
 split
 ·
  exact e
 ·
  split <;> exact um _ _ _
theorem lst_at_ {n : Nat} {A B : Mx} (h : lst n A = lst n B) (i j : Nat) (hi : i < n) (hj : j < n) : A i j = B i j := by
 have h1 := rd_lst (C := A) hi hj
 have h2 := rd_lst (C := B) hi hj
 rw [← h1, ← h2, h]
set_option maxHeartbeats 16000000 in
set_option maxRecDepth 100000 in
theorem rguard_own (X : OV) (x sx y sy c lo hi : Int) {w0 w : World} (hX : Oc w0 w X) (h0 : Below w0.heap.size w0 w) (fx : OFit X.v X.m X.e) :
 Calls Try.prog 20 #[X.val, .agg #[.int .i64 x, .int .i64 sx, .int .i64 y, .int .i64 sy, .int .i64 c], .agg #[.int .i64 lo, .int .i64 hi]] w fun e W' => ∃ z : OV, e = .returned z.val ∧ z.o = guardF X.v X.m X.e x sx y sy c lo hi ∧ Own w W' z ∧ Below w.heap.size w W' := by
 have hu25 := Try.underlying25
 have hu34 := Try.underlying34
 have hu36 := Try.underlying36
 have HX : Aside0 (Oc w w X) := ⟨⟨⟨hX.r0.le, .inl (hX.r0.reads h0)⟩, ⟨hX.r1.le, .inl (hX.r1.reads h0)⟩⟩⟩
 have FX_ := Aside0.mk fx
 have L8 : Aside0 (X.v.length ≤ 8) := ⟨fx.1.1⟩
 have LK : Aside0 (X.v.length ≤ 1000) := ⟨by have := fx.1.1; omega⟩
 have HV : Aside0 (VarsOk X.v) := ⟨fx.1⟩
 have cases := close_cases fx
 by_cases hof : ofB X.v x sx y sy c = false
 ·
  have hg : guardF X.v X.m X.e x sx y sy c lo hi = closeF X.v X.m X.e := by unfold guardF; rw [if_pos (.inr hof)]
  rw [hg]
  obtain ⟨cm, ce, ha, _⟩ := cl_ex fx
  rw [ha]
  have HC := Aside0.mk ha
  have HOF := Aside0.mk hof
  clear hX h0 fx cases hg ha hof
  go_enter Try.func20, Try.ntmps20
  go_upto_region 1 with fail
  have HM : Aside0 (MS w [] [(w.heap.size + 3, .cells #[.slice none 0 0, .slice none 0 0, .bool false] 25 (0, 0)), (w.heap.size + 2, .cells #[.int .i64 lo, .int .i64 hi] 36 (0, 0)), (w.heap.size + 1, .cells #[.int .i64 x, .int .i64 sx, .int .i64 y, .int .i64 sy, .int .i64 c] 34 (0, 0)), (w.heap.size, .cells #[.slice X.P X.v.length X.p, .slice X.Q X.m.length X.q, .bool X.e] 25 (0, 0))] ((((w.alloc (.cells #[.slice X.P X.v.length X.p, .slice X.Q X.m.length X.q, .bool X.e] 25 (0, 0))).alloc (.cells #[.int .i64 x, .int .i64 sx, .int .i64 y, .int .i64 sy, .int .i64 c] 34 (0, 0))).alloc (.cells #[.int .i64 lo, .int .i64 hi] 36 (0, 0))).alloc (.cells #[.slice none 0 0, .slice none 0 0, .bool false] 25 (0, 0)))) := ⟨(MS.new (MS.new (MS.new (MS.new (MS.nil w) _ rfl) _ (by simp)) _ (by simp)) _ (by simp))⟩
  generalize hW_ : ((((w.alloc (.cells #[.slice X.P X.v.length X.p, .slice X.Q X.m.length X.q, .bool X.e] 25 (0, 0))).alloc (.cells #[.int .i64 x, .int .i64 sx, .int .i64 y, .int .i64 sy, .int .i64 c] 34 (0, 0))).alloc (.cells #[.int .i64 lo, .int .i64 hi] 36 (0, 0))).alloc (.cells #[.slice none 0 0, .slice none 0 0, .bool false] 25 (0, 0))) = wk at HM ⊢; clear hW_
  generalize hg_ : w.heap.size + 3 = gr at HM ⊢; clear hg_
  generalize hg_ : w.heap.size + 2 = gi at HM ⊢; clear hg_
  generalize hg_ : w.heap.size + 1 = gl at HM ⊢; clear hg_
  generalize hg_ : w.heap.size = go at HM ⊢; clear hg_
  have kgr := MS.c3 HM m0_; have kgi := MS.c2 HM m1_; have kgl := MS.c5 HM m2_; have kgo := MS.c3 HM m3_
  go_upto_region 2 with (first | (go_at_call 38; (with_reducible refine (rclose_as (Oc.now HX (MS.bel HM)) (Below.refl _ _) rfl FX_.out HC.out).mono ?_); rintro e wk ⟨cv, rfl, hcv, ho, hb⟩; have n_ := Aside0.mk ((MS.to HM).call hb ho); clear HM ho hb; have HM := n_; clear n_; clear kgi kgl kgo kgr; have kgr := MS.c3 HM m0_; have kgi := MS.c2 HM m1_; have kgl := MS.c5 HM m2_; have kgo := MS.c3 HM m3_) | ((with_reducible refine gate_dst (N := 7) rfl ?_); refine box_event ?hg (N := 7) ?hd (cs := #[.slice none 0 0, .slice none 0 0, .bool false]) (t := 25) ?hr ?_; (case hd => rfl); (case hg => rfl); (case hr => first | (go_simp; done) | (go_simp; rfl)); intro gc hg wk hbox hb; have n_ := Aside0.mk ((MS.to HM).made hg hbox hb); clear HM hg hbox hb; have HM := n_; clear n_; clear kgi kgl kgo kgr; have kgc := MS.c3 HM m0_; have kgr := MS.c3 HM m1_; have kgi := MS.c2 HM m2_; have kgl := MS.c5 HM m3_; have kgo := MS.c3 HM m4_))
  have n_ : Aside0 (MS w [cv] [(gc, .cells #[.slice none 0 0, .slice none 0 0, .bool false] 25 (0, 0)), (gr, .cells #[.slice none 0 0, .slice none 0 0, .bool false] 25 (0, 0)), (gi, .cells #[.int .i64 lo, .int .i64 hi] 36 (0, 0)), (gl, .cells #[.int .i64 x, .int .i64 sx, .int .i64 y, .int .i64 sy, .int .i64 c] 34 (0, 0))] _) := ⟨HM.out.sub (List.Sublist.refl _) (.cons_cons _ (.cons_cons _ (.cons_cons _ (.cons_cons _ (.cons _ .slnil)))))⟩; clear HM; have HM := n_; clear n_
  clear kgc kgi kgl kgo kgr; have kgc := MS.c3 HM m0_; have kgr := MS.c3 HM m1_; have kgi := MS.c2 HM m2_; have kgl := MS.c5 HM m3_
  have n_ : Aside0 (MS w [cv] [(gc, .cells #[.slice cv.P cv.v.length cv.p, .slice cv.Q cv.m.length cv.q, .bool cv.e] 25 (0, 0)), (gr, .cells #[.slice none 0 0, .slice none 0 0, .bool false] 25 (0, 0)), (gi, .cells #[.int .i64 lo, .int .i64 hi] 36 (0, 0)), (gl, .cells #[.int .i64 x, .int .i64 sx, .int .i64 y, .int .i64 sy, .int .i64 c] 34 (0, 0))] _) := ⟨MS.put3 [] HM.out (a' := .slice cv.P cv.v.length cv.p) (b' := .slice cv.Q cv.m.length cv.q) (c' := .bool cv.e)⟩; clear HM; have HM := n_; clear n_
  generalize hW_ : World.setCell _ _ _ = wk at HM ⊢; clear hW_
  clear kgc kgi kgl kgr; have kgc := MS.c3 HM m0_; have kgr := MS.c3 HM m1_; have kgi := MS.c2 HM m2_; have kgl := MS.c5 HM m3_
  have HCV := Aside0.mk hcv; clear hcv
  go_upto_region 3 with (first | (go_at_call 62; (with_reducible refine (among_as (MS.oc HM m0_) (MS.bel HM) HCV.out LK.out HOF.out).mono ?_); rintro e wk ⟨rfl, hb⟩; have n_ := Aside0.mk ((MS.to HM).next hb); clear HM hb; have HM := n_; clear n_; clear kgc kgi kgl kgr; have kgc := MS.c3 HM m0_; have kgr := MS.c3 HM m1_; have kgi := MS.c2 HM m2_; have kgl := MS.c5 HM m3_))
  go_wp2
  have n_ : Aside0 (MS w [cv] [(gc, .cells #[.slice cv.P cv.v.length cv.p, .slice cv.Q cv.m.length cv.q, .bool cv.e] 25 (0, 0)), (gr, .cells #[.slice cv.P cv.v.length cv.p, .slice cv.Q cv.m.length cv.q, .bool cv.e] 25 (0, 0)), (gi, .cells #[.int .i64 lo, .int .i64 hi] 36 (0, 0)), (gl, .cells #[.int .i64 x, .int .i64 sx, .int .i64 y, .int .i64 sy, .int .i64 c] 34 (0, 0))] _) := ⟨MS.put3 [(gc, .cells #[.slice cv.P cv.v.length cv.p, .slice cv.Q cv.m.length cv.q, .bool cv.e] 25 (0, 0))] HM.out (a' := .slice cv.P cv.v.length cv.p) (b' := .slice cv.Q cv.m.length cv.q) (c' := .bool cv.e)⟩; clear HM; have HM := n_; clear n_
  generalize hW_ : World.setCell _ _ _ = wk at HM ⊢; clear hW_
  clear kgc kgi kgl kgr; have kgc := MS.c3 HM m0_; have kgr := MS.c3 HM m1_; have kgi := MS.c2 HM m2_; have kgl := MS.c5 HM m3_
  refine bodyPost_ret (results_cell_row rfl _ _ gr 25 #[.slice cv.P cv.v.length cv.p, .slice cv.Q cv.m.length cv.q, .bool cv.e] (0, 0) _ rfl (HM.out.F.all _ m1_).1 Try.underlying25 rfl (by kernel_rfl)) rfl ?_
  exact ⟨cv, rfl, HCV.out, HM.out.S.own _ m0_, HM.out.S.below⟩
 ·
  have hof' : ofB X.v x sx y sy c = true := by simpa using hof
  have HOF := Aside0.mk hof'
  rcases cases with ⟨hcl, _⟩ | ⟨he, hc, hcl⟩
  ·
   have hg : guardF X.v X.m X.e x sx y sy c lo hi = closeF X.v X.m X.e := by unfold guardF; rw [if_pos (.inl (by rw [hcl]))]
   rw [hg, hcl]
   have HC := Aside0.mk hcl
   clear hX h0 fx hg hcl hof hof'
   go_enter Try.func20, Try.ntmps20
   go_upto_region 1 with fail
   have HM : Aside0 (MS w [] [(w.heap.size + 3, .cells #[.slice none 0 0, .slice none 0 0, .bool false] 25 (0, 0)), (w.heap.size + 2, .cells #[.int .i64 lo, .int .i64 hi] 36 (0, 0)), (w.heap.size + 1, .cells #[.int .i64 x, .int .i64 sx, .int .i64 y, .int .i64 sy, .int .i64 c] 34 (0, 0)), (w.heap.size, .cells #[.slice X.P X.v.length X.p, .slice X.Q X.m.length X.q, .bool X.e] 25 (0, 0))] ((((w.alloc (.cells #[.slice X.P X.v.length X.p, .slice X.Q X.m.length X.q, .bool X.e] 25 (0, 0))).alloc (.cells #[.int .i64 x, .int .i64 sx, .int .i64 y, .int .i64 sy, .int .i64 c] 34 (0, 0))).alloc (.cells #[.int .i64 lo, .int .i64 hi] 36 (0, 0))).alloc (.cells #[.slice none 0 0, .slice none 0 0, .bool false] 25 (0, 0)))) := ⟨(MS.new (MS.new (MS.new (MS.new (MS.nil w) _ rfl) _ (by simp)) _ (by simp)) _ (by simp))⟩
   generalize hW_ : ((((w.alloc (.cells #[.slice X.P X.v.length X.p, .slice X.Q X.m.length X.q, .bool X.e] 25 (0, 0))).alloc (.cells #[.int .i64 x, .int .i64 sx, .int .i64 y, .int .i64 sy, .int .i64 c] 34 (0, 0))).alloc (.cells #[.int .i64 lo, .int .i64 hi] 36 (0, 0))).alloc (.cells #[.slice none 0 0, .slice none 0 0, .bool false] 25 (0, 0))) = wk at HM ⊢; clear hW_
   generalize hg_ : w.heap.size + 3 = gr at HM ⊢; clear hg_
   generalize hg_ : w.heap.size + 2 = gi at HM ⊢; clear hg_
   generalize hg_ : w.heap.size + 1 = gl at HM ⊢; clear hg_
   generalize hg_ : w.heap.size = go at HM ⊢; clear hg_
   have kgr := MS.c3 HM m0_; have kgi := MS.c2 HM m1_; have kgl := MS.c5 HM m2_; have kgo := MS.c3 HM m3_
   go_upto_region 2 with (first | (go_at_call 38; (with_reducible refine (rclose_as (Oc.now HX (MS.bel HM)) (Below.refl _ _) rfl FX_.out HC.out).mono ?_); rintro e wk ⟨cv, rfl, hcv, ho, hb⟩; have n_ := Aside0.mk ((MS.to HM).call hb ho); clear HM ho hb; have HM := n_; clear n_; clear kgi kgl kgo kgr; have kgr := MS.c3 HM m0_; have kgi := MS.c2 HM m1_; have kgl := MS.c5 HM m2_; have kgo := MS.c3 HM m3_) | ((with_reducible refine gate_dst (N := 7) rfl ?_); refine box_event ?hg (N := 7) ?hd (cs := #[.slice none 0 0, .slice none 0 0, .bool false]) (t := 25) ?hr ?_; (case hd => rfl); (case hg => rfl); (case hr => first | (go_simp; done) | (go_simp; rfl)); intro gc hg wk hbox hb; have n_ := Aside0.mk ((MS.to HM).made hg hbox hb); clear HM hg hbox hb; have HM := n_; clear n_; clear kgi kgl kgo kgr; have kgc := MS.c3 HM m0_; have kgr := MS.c3 HM m1_; have kgi := MS.c2 HM m2_; have kgl := MS.c5 HM m3_; have kgo := MS.c3 HM m4_))
   have n_ : Aside0 (MS w [cv] [(gc, .cells #[.slice none 0 0, .slice none 0 0, .bool false] 25 (0, 0)), (gr, .cells #[.slice none 0 0, .slice none 0 0, .bool false] 25 (0, 0)), (gi, .cells #[.int .i64 lo, .int .i64 hi] 36 (0, 0)), (gl, .cells #[.int .i64 x, .int .i64 sx, .int .i64 y, .int .i64 sy, .int .i64 c] 34 (0, 0))] _) := ⟨HM.out.sub (List.Sublist.refl _) (.cons_cons _ (.cons_cons _ (.cons_cons _ (.cons_cons _ (.cons _ .slnil)))))⟩; clear HM; have HM := n_; clear n_
   clear kgc kgi kgl kgo kgr; have kgc := MS.c3 HM m0_; have kgr := MS.c3 HM m1_; have kgi := MS.c2 HM m2_; have kgl := MS.c5 HM m3_
   have n_ : Aside0 (MS w [cv] [(gc, .cells #[.slice cv.P cv.v.length cv.p, .slice cv.Q cv.m.length cv.q, .bool cv.e] 25 (0, 0)), (gr, .cells #[.slice none 0 0, .slice none 0 0, .bool false] 25 (0, 0)), (gi, .cells #[.int .i64 lo, .int .i64 hi] 36 (0, 0)), (gl, .cells #[.int .i64 x, .int .i64 sx, .int .i64 y, .int .i64 sy, .int .i64 c] 34 (0, 0))] _) := ⟨MS.put3 [] HM.out (a' := .slice cv.P cv.v.length cv.p) (b' := .slice cv.Q cv.m.length cv.q) (c' := .bool cv.e)⟩; clear HM; have HM := n_; clear n_
   generalize hW_ : World.setCell _ _ _ = wk at HM ⊢; clear hW_
   clear kgc kgi kgl kgr; have kgc := MS.c3 HM m0_; have kgr := MS.c3 HM m1_; have kgi := MS.c2 HM m2_; have kgl := MS.c5 HM m3_
   have HCV := Aside0.mk hcv; clear hcv
   have hem : cv.e = true := congrArg (·.2.2) HCV.out
   go_upto_region 3 with (first | (go_at_call 62; (with_reducible refine (among_asE (MS.oc HM m0_) (MS.bel HM) HCV.out LK.out HOF.out (congrArg (·.2.2) HCV.out)).mono ?_); rintro e wk ⟨rfl, hb⟩; have n_ := Aside0.mk ((MS.to HM).next hb); clear HM hb; have HM := n_; clear n_; clear kgc kgi kgl kgr; have kgc := MS.c3 HM m0_; have kgr := MS.c3 HM m1_; have kgi := MS.c2 HM m2_; have kgl := MS.c5 HM m3_))
   clear hem
   go_wp2
   have n_ : Aside0 (MS w [cv] [(gc, .cells #[.slice cv.P cv.v.length cv.p, .slice cv.Q cv.m.length cv.q, .bool cv.e] 25 (0, 0)), (gr, .cells #[.slice cv.P cv.v.length cv.p, .slice cv.Q cv.m.length cv.q, .bool cv.e] 25 (0, 0)), (gi, .cells #[.int .i64 lo, .int .i64 hi] 36 (0, 0)), (gl, .cells #[.int .i64 x, .int .i64 sx, .int .i64 y, .int .i64 sy, .int .i64 c] 34 (0, 0))] _) := ⟨MS.put3 [(gc, .cells #[.slice cv.P cv.v.length cv.p, .slice cv.Q cv.m.length cv.q, .bool cv.e] 25 (0, 0))] HM.out (a' := .slice cv.P cv.v.length cv.p) (b' := .slice cv.Q cv.m.length cv.q) (c' := .bool cv.e)⟩; clear HM; have HM := n_; clear n_
   generalize hW_ : World.setCell _ _ _ = wk at HM ⊢; clear hW_
   clear kgc kgi kgl kgr; have kgc := MS.c3 HM m0_; have kgr := MS.c3 HM m1_; have kgi := MS.c2 HM m2_; have kgl := MS.c5 HM m3_
   refine bodyPost_ret (results_cell_row rfl _ _ gr 25 #[.slice cv.P cv.v.length cv.p, .slice cv.Q cv.m.length cv.q, .bool cv.e] (0, 0) _ rfl (HM.out.F.all _ m1_).1 Try.underlying25 rfl (by kernel_rfl)) rfl ?_
   exact ⟨cv, rfl, HCV.out, HM.out.S.own _ m0_, HM.out.S.below⟩
  ·
   obtain ⟨a, b, hab⟩ : ∃ a b, itvOf lo hi = (a, b) := ⟨_, _, rfl⟩
   have HIT := Aside0.mk hab
   have hge : guardF X.v X.m X.e x sx y sy c lo hi = if a > b ∨ (sx = 0 ∧ itvHas a b c = false) then (X.v, [], true) else if sx = 0 then closeF X.v X.m X.e else closeF X.v (lst (2 * X.v.length) (upC (upC (closeM (2 * X.v.length) (lowM X.v.length X.m)) (placeF X.v x).toNat sx (placeF X.v y).toNat sy (bupF b (-c))) (placeF X.v x).toNat (-sx) (placeF X.v y).toNat (-sy) (bupF (bnegF a) c))) false := by
    unfold guardF; rw [if_neg (by rw [hcl, hof']; simp), hab]
   rw [hge]
   have hsc := snd_close (snd_of_fit (by rw [he] at fx; exact fx)) hc
   generalize closeM (2 * X.v.length) (lowM X.v.length X.m) = C at hcl hsc ⊢
   have HC := Aside0.mk hcl
   by_cases hn : a > b
   ·
    rw [if_pos (.inl hn)]
    have HN : Aside0 (decide (a > b) = true) := ⟨decide_eq_true hn⟩
    clear hX h0 fx hcl hof hof' he hc hab hge hn hsc
    go_enter Try.func20, Try.ntmps20
    go_upto_region 1 with fail
    have HM : Aside0 (MS w [] [(w.heap.size + 3, .cells #[.slice none 0 0, .slice none 0 0, .bool false] 25 (0, 0)), (w.heap.size + 2, .cells #[.int .i64 lo, .int .i64 hi] 36 (0, 0)), (w.heap.size + 1, .cells #[.int .i64 x, .int .i64 sx, .int .i64 y, .int .i64 sy, .int .i64 c] 34 (0, 0)), (w.heap.size, .cells #[.slice X.P X.v.length X.p, .slice X.Q X.m.length X.q, .bool X.e] 25 (0, 0))] ((((w.alloc (.cells #[.slice X.P X.v.length X.p, .slice X.Q X.m.length X.q, .bool X.e] 25 (0, 0))).alloc (.cells #[.int .i64 x, .int .i64 sx, .int .i64 y, .int .i64 sy, .int .i64 c] 34 (0, 0))).alloc (.cells #[.int .i64 lo, .int .i64 hi] 36 (0, 0))).alloc (.cells #[.slice none 0 0, .slice none 0 0, .bool false] 25 (0, 0)))) := ⟨(MS.new (MS.new (MS.new (MS.new (MS.nil w) _ rfl) _ (by simp)) _ (by simp)) _ (by simp))⟩
    generalize hW_ : ((((w.alloc (.cells #[.slice X.P X.v.length X.p, .slice X.Q X.m.length X.q, .bool X.e] 25 (0, 0))).alloc (.cells #[.int .i64 x, .int .i64 sx, .int .i64 y, .int .i64 sy, .int .i64 c] 34 (0, 0))).alloc (.cells #[.int .i64 lo, .int .i64 hi] 36 (0, 0))).alloc (.cells #[.slice none 0 0, .slice none 0 0, .bool false] 25 (0, 0))) = wk at HM ⊢; clear hW_
    generalize hg_ : w.heap.size + 3 = gr at HM ⊢; clear hg_
    generalize hg_ : w.heap.size + 2 = gi at HM ⊢; clear hg_
    generalize hg_ : w.heap.size + 1 = gl at HM ⊢; clear hg_
    generalize hg_ : w.heap.size = go at HM ⊢; clear hg_
    have kgr := MS.c3 HM m0_; have kgi := MS.c2 HM m1_; have kgl := MS.c5 HM m2_; have kgo := MS.c3 HM m3_
    go_upto_region 2 with (first | (go_at_call 38; (with_reducible refine (rclose_as (Oc.now HX (MS.bel HM)) (Below.refl _ _) rfl FX_.out HC.out).mono ?_); rintro e wk ⟨cv, rfl, hcv, ho, hb⟩; have n_ := Aside0.mk ((MS.to HM).call hb ho); clear HM ho hb; have HM := n_; clear n_; clear kgi kgl kgo kgr; have kgr := MS.c3 HM m0_; have kgi := MS.c2 HM m1_; have kgl := MS.c5 HM m2_; have kgo := MS.c3 HM m3_) | ((with_reducible refine gate_dst (N := 7) rfl ?_); refine box_event ?hg (N := 7) ?hd (cs := #[.slice none 0 0, .slice none 0 0, .bool false]) (t := 25) ?hr ?_; (case hd => rfl); (case hg => rfl); (case hr => first | (go_simp; done) | (go_simp; rfl)); intro gc hg wk hbox hb; have n_ := Aside0.mk ((MS.to HM).made hg hbox hb); clear HM hg hbox hb; have HM := n_; clear n_; clear kgi kgl kgo kgr; have kgc := MS.c3 HM m0_; have kgr := MS.c3 HM m1_; have kgi := MS.c2 HM m2_; have kgl := MS.c5 HM m3_; have kgo := MS.c3 HM m4_))
    have n_ : Aside0 (MS w [cv] [(gc, .cells #[.slice none 0 0, .slice none 0 0, .bool false] 25 (0, 0)), (gr, .cells #[.slice none 0 0, .slice none 0 0, .bool false] 25 (0, 0)), (gi, .cells #[.int .i64 lo, .int .i64 hi] 36 (0, 0)), (gl, .cells #[.int .i64 x, .int .i64 sx, .int .i64 y, .int .i64 sy, .int .i64 c] 34 (0, 0))] _) := ⟨HM.out.sub (List.Sublist.refl _) (.cons_cons _ (.cons_cons _ (.cons_cons _ (.cons_cons _ (.cons _ .slnil)))))⟩; clear HM; have HM := n_; clear n_
    clear kgc kgi kgl kgo kgr; have kgc := MS.c3 HM m0_; have kgr := MS.c3 HM m1_; have kgi := MS.c2 HM m2_; have kgl := MS.c5 HM m3_
    have n_ : Aside0 (MS w [cv] [(gc, .cells #[.slice cv.P cv.v.length cv.p, .slice cv.Q cv.m.length cv.q, .bool cv.e] 25 (0, 0)), (gr, .cells #[.slice none 0 0, .slice none 0 0, .bool false] 25 (0, 0)), (gi, .cells #[.int .i64 lo, .int .i64 hi] 36 (0, 0)), (gl, .cells #[.int .i64 x, .int .i64 sx, .int .i64 y, .int .i64 sy, .int .i64 c] 34 (0, 0))] _) := ⟨MS.put3 [] HM.out (a' := .slice cv.P cv.v.length cv.p) (b' := .slice cv.Q cv.m.length cv.q) (c' := .bool cv.e)⟩; clear HM; have HM := n_; clear n_
    generalize hW_ : World.setCell _ _ _ = wk at HM ⊢; clear hW_
    clear kgc kgi kgl kgr; have kgc := MS.c3 HM m0_; have kgr := MS.c3 HM m1_; have kgi := MS.c2 HM m2_; have kgl := MS.c5 HM m3_
    have HCV := Aside0.mk hcv; clear hcv
    have hem : cv.e = false := congrArg (·.2.2) HCV.out
    go_upto_region 4 with (first | (go_at_call 62; (with_reducible refine (among_asE (MS.oc HM m0_) (MS.bel HM) HCV.out LK.out HOF.out (congrArg (·.2.2) HCV.out)).mono ?_); rintro e wk ⟨rfl, hb⟩; have n_ := Aside0.mk ((MS.to HM).next hb); clear HM hb; have HM := n_; clear n_; clear kgc kgi kgl kgr; have kgc := MS.c3 HM m0_; have kgr := MS.c3 HM m1_; have kgi := MS.c2 HM m2_; have kgl := MS.c5 HM m3_))
    clear hem
    go_upto_region 5 with (first | (go_at_call 63; (with_reducible refine (ritvOf_as HIT.out).mono ?_); rintro e wk ⟨rfl, hb⟩; have n_ := Aside0.mk ((MS.to HM).next hb); clear HM hb; have HM := n_; clear n_; clear kgc kgi kgl kgr; have kgc := MS.c3 HM m0_; have kgr := MS.c3 HM m1_; have kgi := MS.c2 HM m2_; have kgl := MS.c5 HM m3_))
    have n_ : Aside0 (MS w [cv] [(gc, .cells #[.slice cv.P cv.v.length cv.p, .slice cv.Q cv.m.length cv.q, .bool cv.e] 25 (0, 0)), (gr, .cells #[.slice none 0 0, .slice none 0 0, .bool false] 25 (0, 0)), (gi, .cells #[.int .i64 a, .int .i64 b] 36 (0, 0)), (gl, .cells #[.int .i64 x, .int .i64 sx, .int .i64 y, .int .i64 sy, .int .i64 c] 34 (0, 0))] _) := ⟨MS.put2 [(gc, .cells #[.slice cv.P cv.v.length cv.p, .slice cv.Q cv.m.length cv.q, .bool cv.e] 25 (0, 0)), (gr, .cells #[.slice none 0 0, .slice none 0 0, .bool false] 25 (0, 0))] HM.out (a' := .int .i64 a) (b' := .int .i64 b)⟩; clear HM; have HM := n_; clear n_
    generalize hW_ : World.setCell _ _ _ = wk at HM ⊢; clear hW_
    clear kgc kgi kgl kgr; have kgc := MS.c3 HM m0_; have kgr := MS.c3 HM m1_; have kgi := MS.c2 HM m2_; have kgl := MS.c5 HM m3_
    go_upto_region 6 with (first | (go_at_call 64; (with_reducible refine (rNone_as HN.out).mono ?_); rintro e wk ⟨rfl, hb⟩; have n_ := Aside0.mk ((MS.to HM).next hb); clear HM hb; have HM := n_; clear n_; clear kgc kgi kgl kgr; have kgc := MS.c3 HM m0_; have kgr := MS.c3 HM m1_; have kgi := MS.c2 HM m2_; have kgl := MS.c5 HM m3_))
    go_wp2_with (first | (go_at_call 65; (with_reducible refine (rbottom_as (MS.oc HM m0_) (MS.bel HM) HCV.out HV.out).mono ?_); rintro e wk ⟨zv, rfl, hzv, ho, hb⟩; have n_ := Aside0.mk ((MS.to HM).call hb ho); clear HM ho hb; have HM := n_; clear n_; clear kgc kgi kgl kgr; have kgc := MS.c3 HM m0_; have kgr := MS.c3 HM m1_; have kgi := MS.c2 HM m2_; have kgl := MS.c5 HM m3_))
    have n_ : Aside0 (MS w [zv, cv] [(gc, .cells #[.slice cv.P cv.v.length cv.p, .slice cv.Q cv.m.length cv.q, .bool cv.e] 25 (0, 0)), (gr, .cells #[.slice zv.P zv.v.length zv.p, .slice zv.Q zv.m.length zv.q, .bool zv.e] 25 (0, 0)), (gi, .cells #[.int .i64 a, .int .i64 b] 36 (0, 0)), (gl, .cells #[.int .i64 x, .int .i64 sx, .int .i64 y, .int .i64 sy, .int .i64 c] 34 (0, 0))] _) := ⟨MS.put3 [(gc, .cells #[.slice cv.P cv.v.length cv.p, .slice cv.Q cv.m.length cv.q, .bool cv.e] 25 (0, 0))] HM.out (a' := .slice zv.P zv.v.length zv.p) (b' := .slice zv.Q zv.m.length zv.q) (c' := .bool zv.e)⟩; clear HM; have HM := n_; clear n_
    generalize hW_ : World.setCell _ _ _ = wk at HM ⊢; clear hW_
    clear kgc kgi kgl kgr; have kgc := MS.c3 HM m0_; have kgr := MS.c3 HM m1_; have kgi := MS.c2 HM m2_; have kgl := MS.c5 HM m3_
    refine bodyPost_ret (results_cell_row rfl _ _ gr 25 #[.slice zv.P zv.v.length zv.p, .slice zv.Q zv.m.length zv.q, .bool zv.e] (0, 0) _ rfl (HM.out.F.all _ m1_).1 Try.underlying25 rfl (by kernel_rfl)) rfl ?_
    exact ⟨zv, rfl, hzv, HM.out.S.own _ m0_, HM.out.S.below⟩
   ·
    have HN : Aside0 (decide (a > b) = false) := ⟨decide_eq_false hn⟩
    by_cases hs : sx = 0
    ·
     have HSX : Aside0 ((sx == 0) = true) := ⟨by simpa using hs⟩
     obtain ⟨t, ht⟩ : ∃ t, itvHas a b c = t := ⟨_, rfl⟩
     have HH := Aside0.mk ht
     cases t with
     | false =>
      rw [if_pos (.inr ⟨hs, ht⟩)]
      clear hX h0 fx hcl hof hof' he hc hab hge hn hs ht hsc
      go_enter Try.func20, Try.ntmps20
      go_upto_region 1 with fail
      have HM : Aside0 (MS w [] [(w.heap.size + 3, .cells #[.slice none 0 0, .slice none 0 0, .bool false] 25 (0, 0)), (w.heap.size + 2, .cells #[.int .i64 lo, .int .i64 hi] 36 (0, 0)), (w.heap.size + 1, .cells #[.int .i64 x, .int .i64 sx, .int .i64 y, .int .i64 sy, .int .i64 c] 34 (0, 0)), (w.heap.size, .cells #[.slice X.P X.v.length X.p, .slice X.Q X.m.length X.q, .bool X.e] 25 (0, 0))] ((((w.alloc (.cells #[.slice X.P X.v.length X.p, .slice X.Q X.m.length X.q, .bool X.e] 25 (0, 0))).alloc (.cells #[.int .i64 x, .int .i64 sx, .int .i64 y, .int .i64 sy, .int .i64 c] 34 (0, 0))).alloc (.cells #[.int .i64 lo, .int .i64 hi] 36 (0, 0))).alloc (.cells #[.slice none 0 0, .slice none 0 0, .bool false] 25 (0, 0)))) := ⟨(MS.new (MS.new (MS.new (MS.new (MS.nil w) _ rfl) _ (by simp)) _ (by simp)) _ (by simp))⟩
      generalize hW_ : ((((w.alloc (.cells #[.slice X.P X.v.length X.p, .slice X.Q X.m.length X.q, .bool X.e] 25 (0, 0))).alloc (.cells #[.int .i64 x, .int .i64 sx, .int .i64 y, .int .i64 sy, .int .i64 c] 34 (0, 0))).alloc (.cells #[.int .i64 lo, .int .i64 hi] 36 (0, 0))).alloc (.cells #[.slice none 0 0, .slice none 0 0, .bool false] 25 (0, 0))) = wk at HM ⊢; clear hW_
      generalize hg_ : w.heap.size + 3 = gr at HM ⊢; clear hg_
      generalize hg_ : w.heap.size + 2 = gi at HM ⊢; clear hg_
      generalize hg_ : w.heap.size + 1 = gl at HM ⊢; clear hg_
      generalize hg_ : w.heap.size = go at HM ⊢; clear hg_
      have kgr := MS.c3 HM m0_; have kgi := MS.c2 HM m1_; have kgl := MS.c5 HM m2_; have kgo := MS.c3 HM m3_
      go_upto_region 2 with (first | (go_at_call 38; (with_reducible refine (rclose_as (Oc.now HX (MS.bel HM)) (Below.refl _ _) rfl FX_.out HC.out).mono ?_); rintro e wk ⟨cv, rfl, hcv, ho, hb⟩; have n_ := Aside0.mk ((MS.to HM).call hb ho); clear HM ho hb; have HM := n_; clear n_; clear kgi kgl kgo kgr; have kgr := MS.c3 HM m0_; have kgi := MS.c2 HM m1_; have kgl := MS.c5 HM m2_; have kgo := MS.c3 HM m3_) | ((with_reducible refine gate_dst (N := 7) rfl ?_); refine box_event ?hg (N := 7) ?hd (cs := #[.slice none 0 0, .slice none 0 0, .bool false]) (t := 25) ?hr ?_; (case hd => rfl); (case hg => rfl); (case hr => first | (go_simp; done) | (go_simp; rfl)); intro gc hg wk hbox hb; have n_ := Aside0.mk ((MS.to HM).made hg hbox hb); clear HM hg hbox hb; have HM := n_; clear n_; clear kgi kgl kgo kgr; have kgc := MS.c3 HM m0_; have kgr := MS.c3 HM m1_; have kgi := MS.c2 HM m2_; have kgl := MS.c5 HM m3_; have kgo := MS.c3 HM m4_))
      have n_ : Aside0 (MS w [cv] [(gc, .cells #[.slice none 0 0, .slice none 0 0, .bool false] 25 (0, 0)), (gr, .cells #[.slice none 0 0, .slice none 0 0, .bool false] 25 (0, 0)), (gi, .cells #[.int .i64 lo, .int .i64 hi] 36 (0, 0)), (gl, .cells #[.int .i64 x, .int .i64 sx, .int .i64 y, .int .i64 sy, .int .i64 c] 34 (0, 0))] _) := ⟨HM.out.sub (List.Sublist.refl _) (.cons_cons _ (.cons_cons _ (.cons_cons _ (.cons_cons _ (.cons _ .slnil)))))⟩; clear HM; have HM := n_; clear n_
      clear kgc kgi kgl kgo kgr; have kgc := MS.c3 HM m0_; have kgr := MS.c3 HM m1_; have kgi := MS.c2 HM m2_; have kgl := MS.c5 HM m3_
      have n_ : Aside0 (MS w [cv] [(gc, .cells #[.slice cv.P cv.v.length cv.p, .slice cv.Q cv.m.length cv.q, .bool cv.e] 25 (0, 0)), (gr, .cells #[.slice none 0 0, .slice none 0 0, .bool false] 25 (0, 0)), (gi, .cells #[.int .i64 lo, .int .i64 hi] 36 (0, 0)), (gl, .cells #[.int .i64 x, .int .i64 sx, .int .i64 y, .int .i64 sy, .int .i64 c] 34 (0, 0))] _) := ⟨MS.put3 [] HM.out (a' := .slice cv.P cv.v.length cv.p) (b' := .slice cv.Q cv.m.length cv.q) (c' := .bool cv.e)⟩; clear HM; have HM := n_; clear n_
      generalize hW_ : World.setCell _ _ _ = wk at HM ⊢; clear hW_
      clear kgc kgi kgl kgr; have kgc := MS.c3 HM m0_; have kgr := MS.c3 HM m1_; have kgi := MS.c2 HM m2_; have kgl := MS.c5 HM m3_
      have HCV := Aside0.mk hcv; clear hcv
      have hem : cv.e = false := congrArg (·.2.2) HCV.out
      go_upto_region 4 with (first | (go_at_call 62; (with_reducible refine (among_asE (MS.oc HM m0_) (MS.bel HM) HCV.out LK.out HOF.out (congrArg (·.2.2) HCV.out)).mono ?_); rintro e wk ⟨rfl, hb⟩; have n_ := Aside0.mk ((MS.to HM).next hb); clear HM hb; have HM := n_; clear n_; clear kgc kgi kgl kgr; have kgc := MS.c3 HM m0_; have kgr := MS.c3 HM m1_; have kgi := MS.c2 HM m2_; have kgl := MS.c5 HM m3_))
      clear hem
      go_upto_region 5 with (first | (go_at_call 63; (with_reducible refine (ritvOf_as HIT.out).mono ?_); rintro e wk ⟨rfl, hb⟩; have n_ := Aside0.mk ((MS.to HM).next hb); clear HM hb; have HM := n_; clear n_; clear kgc kgi kgl kgr; have kgc := MS.c3 HM m0_; have kgr := MS.c3 HM m1_; have kgi := MS.c2 HM m2_; have kgl := MS.c5 HM m3_))
      have n_ : Aside0 (MS w [cv] [(gc, .cells #[.slice cv.P cv.v.length cv.p, .slice cv.Q cv.m.length cv.q, .bool cv.e] 25 (0, 0)), (gr, .cells #[.slice none 0 0, .slice none 0 0, .bool false] 25 (0, 0)), (gi, .cells #[.int .i64 a, .int .i64 b] 36 (0, 0)), (gl, .cells #[.int .i64 x, .int .i64 sx, .int .i64 y, .int .i64 sy, .int .i64 c] 34 (0, 0))] _) := ⟨MS.put2 [(gc, .cells #[.slice cv.P cv.v.length cv.p, .slice cv.Q cv.m.length cv.q, .bool cv.e] 25 (0, 0)), (gr, .cells #[.slice none 0 0, .slice none 0 0, .bool false] 25 (0, 0))] HM.out (a' := .int .i64 a) (b' := .int .i64 b)⟩; clear HM; have HM := n_; clear n_
      generalize hW_ : World.setCell _ _ _ = wk at HM ⊢; clear hW_
      clear kgc kgi kgl kgr; have kgc := MS.c3 HM m0_; have kgr := MS.c3 HM m1_; have kgi := MS.c2 HM m2_; have kgl := MS.c5 HM m3_
      have sx0 := HSX.out
      go_upto_region 8 with (first | (go_at_call 64; (with_reducible refine (rNone_as HN.out).mono ?_); rintro e wk ⟨rfl, hb⟩; have n_ := Aside0.mk ((MS.to HM).next hb); clear HM hb; have HM := n_; clear n_; clear kgc kgi kgl kgr; have kgc := MS.c3 HM m0_; have kgr := MS.c3 HM m1_; have kgi := MS.c2 HM m2_; have kgl := MS.c5 HM m3_))
      clear sx0
      go_upto_region 10 with (first | (go_at_call 66; (with_reducible refine (rHas_as HH.out).mono ?_); rintro e wk ⟨rfl, hb⟩; have n_ := Aside0.mk ((MS.to HM).next hb); clear HM hb; have HM := n_; clear n_; clear kgc kgi kgl kgr; have kgc := MS.c3 HM m0_; have kgr := MS.c3 HM m1_; have kgi := MS.c2 HM m2_; have kgl := MS.c5 HM m3_))
      go_wp2_with (first | (go_at_call 65; (with_reducible refine (rbottom_as (MS.oc HM m0_) (MS.bel HM) HCV.out HV.out).mono ?_); rintro e wk ⟨zv, rfl, hzv, ho, hb⟩; have n_ := Aside0.mk ((MS.to HM).call hb ho); clear HM ho hb; have HM := n_; clear n_; clear kgc kgi kgl kgr; have kgc := MS.c3 HM m0_; have kgr := MS.c3 HM m1_; have kgi := MS.c2 HM m2_; have kgl := MS.c5 HM m3_))
      have n_ : Aside0 (MS w [zv, cv] [(gc, .cells #[.slice cv.P cv.v.length cv.p, .slice cv.Q cv.m.length cv.q, .bool cv.e] 25 (0, 0)), (gr, .cells #[.slice zv.P zv.v.length zv.p, .slice zv.Q zv.m.length zv.q, .bool zv.e] 25 (0, 0)), (gi, .cells #[.int .i64 a, .int .i64 b] 36 (0, 0)), (gl, .cells #[.int .i64 x, .int .i64 sx, .int .i64 y, .int .i64 sy, .int .i64 c] 34 (0, 0))] _) := ⟨MS.put3 [(gc, .cells #[.slice cv.P cv.v.length cv.p, .slice cv.Q cv.m.length cv.q, .bool cv.e] 25 (0, 0))] HM.out (a' := .slice zv.P zv.v.length zv.p) (b' := .slice zv.Q zv.m.length zv.q) (c' := .bool zv.e)⟩; clear HM; have HM := n_; clear n_
      generalize hW_ : World.setCell _ _ _ = wk at HM ⊢; clear hW_
      clear kgc kgi kgl kgr; have kgc := MS.c3 HM m0_; have kgr := MS.c3 HM m1_; have kgi := MS.c2 HM m2_; have kgl := MS.c5 HM m3_
      refine bodyPost_ret (results_cell_row rfl _ _ gr 25 #[.slice zv.P zv.v.length zv.p, .slice zv.Q zv.m.length zv.q, .bool zv.e] (0, 0) _ rfl (HM.out.F.all _ m1_).1 Try.underlying25 rfl (by kernel_rfl)) rfl ?_
      exact ⟨zv, rfl, hzv, HM.out.S.own _ m0_, HM.out.S.below⟩
     | true =>
      rw [if_neg (fun h => h.elim hn (fun h => by rw [ht] at h; exact absurd h.2 (by decide))), if_pos hs, hcl]
      clear hX h0 fx hcl hof hof' he hc hab hge hn hs ht hsc
      go_enter Try.func20, Try.ntmps20
      go_upto_region 1 with fail
      have HM : Aside0 (MS w [] [(w.heap.size + 3, .cells #[.slice none 0 0, .slice none 0 0, .bool false] 25 (0, 0)), (w.heap.size + 2, .cells #[.int .i64 lo, .int .i64 hi] 36 (0, 0)), (w.heap.size + 1, .cells #[.int .i64 x, .int .i64 sx, .int .i64 y, .int .i64 sy, .int .i64 c] 34 (0, 0)), (w.heap.size, .cells #[.slice X.P X.v.length X.p, .slice X.Q X.m.length X.q, .bool X.e] 25 (0, 0))] ((((w.alloc (.cells #[.slice X.P X.v.length X.p, .slice X.Q X.m.length X.q, .bool X.e] 25 (0, 0))).alloc (.cells #[.int .i64 x, .int .i64 sx, .int .i64 y, .int .i64 sy, .int .i64 c] 34 (0, 0))).alloc (.cells #[.int .i64 lo, .int .i64 hi] 36 (0, 0))).alloc (.cells #[.slice none 0 0, .slice none 0 0, .bool false] 25 (0, 0)))) := ⟨(MS.new (MS.new (MS.new (MS.new (MS.nil w) _ rfl) _ (by simp)) _ (by simp)) _ (by simp))⟩
      generalize hW_ : ((((w.alloc (.cells #[.slice X.P X.v.length X.p, .slice X.Q X.m.length X.q, .bool X.e] 25 (0, 0))).alloc (.cells #[.int .i64 x, .int .i64 sx, .int .i64 y, .int .i64 sy, .int .i64 c] 34 (0, 0))).alloc (.cells #[.int .i64 lo, .int .i64 hi] 36 (0, 0))).alloc (.cells #[.slice none 0 0, .slice none 0 0, .bool false] 25 (0, 0))) = wk at HM ⊢; clear hW_
      generalize hg_ : w.heap.size + 3 = gr at HM ⊢; clear hg_
      generalize hg_ : w.heap.size + 2 = gi at HM ⊢; clear hg_
      generalize hg_ : w.heap.size + 1 = gl at HM ⊢; clear hg_
      generalize hg_ : w.heap.size = go at HM ⊢; clear hg_
      have kgr := MS.c3 HM m0_; have kgi := MS.c2 HM m1_; have kgl := MS.c5 HM m2_; have kgo := MS.c3 HM m3_
      go_upto_region 2 with (first | (go_at_call 38; (with_reducible refine (rclose_as (Oc.now HX (MS.bel HM)) (Below.refl _ _) rfl FX_.out HC.out).mono ?_); rintro e wk ⟨cv, rfl, hcv, ho, hb⟩; have n_ := Aside0.mk ((MS.to HM).call hb ho); clear HM ho hb; have HM := n_; clear n_; clear kgi kgl kgo kgr; have kgr := MS.c3 HM m0_; have kgi := MS.c2 HM m1_; have kgl := MS.c5 HM m2_; have kgo := MS.c3 HM m3_) | ((with_reducible refine gate_dst (N := 7) rfl ?_); refine box_event ?hg (N := 7) ?hd (cs := #[.slice none 0 0, .slice none 0 0, .bool false]) (t := 25) ?hr ?_; (case hd => rfl); (case hg => rfl); (case hr => first | (go_simp; done) | (go_simp; rfl)); intro gc hg wk hbox hb; have n_ := Aside0.mk ((MS.to HM).made hg hbox hb); clear HM hg hbox hb; have HM := n_; clear n_; clear kgi kgl kgo kgr; have kgc := MS.c3 HM m0_; have kgr := MS.c3 HM m1_; have kgi := MS.c2 HM m2_; have kgl := MS.c5 HM m3_; have kgo := MS.c3 HM m4_))
      have n_ : Aside0 (MS w [cv] [(gc, .cells #[.slice none 0 0, .slice none 0 0, .bool false] 25 (0, 0)), (gr, .cells #[.slice none 0 0, .slice none 0 0, .bool false] 25 (0, 0)), (gi, .cells #[.int .i64 lo, .int .i64 hi] 36 (0, 0)), (gl, .cells #[.int .i64 x, .int .i64 sx, .int .i64 y, .int .i64 sy, .int .i64 c] 34 (0, 0))] _) := ⟨HM.out.sub (List.Sublist.refl _) (.cons_cons _ (.cons_cons _ (.cons_cons _ (.cons_cons _ (.cons _ .slnil)))))⟩; clear HM; have HM := n_; clear n_
      clear kgc kgi kgl kgo kgr; have kgc := MS.c3 HM m0_; have kgr := MS.c3 HM m1_; have kgi := MS.c2 HM m2_; have kgl := MS.c5 HM m3_
      have n_ : Aside0 (MS w [cv] [(gc, .cells #[.slice cv.P cv.v.length cv.p, .slice cv.Q cv.m.length cv.q, .bool cv.e] 25 (0, 0)), (gr, .cells #[.slice none 0 0, .slice none 0 0, .bool false] 25 (0, 0)), (gi, .cells #[.int .i64 lo, .int .i64 hi] 36 (0, 0)), (gl, .cells #[.int .i64 x, .int .i64 sx, .int .i64 y, .int .i64 sy, .int .i64 c] 34 (0, 0))] _) := ⟨MS.put3 [] HM.out (a' := .slice cv.P cv.v.length cv.p) (b' := .slice cv.Q cv.m.length cv.q) (c' := .bool cv.e)⟩; clear HM; have HM := n_; clear n_
      generalize hW_ : World.setCell _ _ _ = wk at HM ⊢; clear hW_
      clear kgc kgi kgl kgr; have kgc := MS.c3 HM m0_; have kgr := MS.c3 HM m1_; have kgi := MS.c2 HM m2_; have kgl := MS.c5 HM m3_
      have HCV := Aside0.mk hcv; clear hcv
      have hem : cv.e = false := congrArg (·.2.2) HCV.out
      go_upto_region 4 with (first | (go_at_call 62; (with_reducible refine (among_asE (MS.oc HM m0_) (MS.bel HM) HCV.out LK.out HOF.out (congrArg (·.2.2) HCV.out)).mono ?_); rintro e wk ⟨rfl, hb⟩; have n_ := Aside0.mk ((MS.to HM).next hb); clear HM hb; have HM := n_; clear n_; clear kgc kgi kgl kgr; have kgc := MS.c3 HM m0_; have kgr := MS.c3 HM m1_; have kgi := MS.c2 HM m2_; have kgl := MS.c5 HM m3_))
      clear hem
      go_upto_region 5 with (first | (go_at_call 63; (with_reducible refine (ritvOf_as HIT.out).mono ?_); rintro e wk ⟨rfl, hb⟩; have n_ := Aside0.mk ((MS.to HM).next hb); clear HM hb; have HM := n_; clear n_; clear kgc kgi kgl kgr; have kgc := MS.c3 HM m0_; have kgr := MS.c3 HM m1_; have kgi := MS.c2 HM m2_; have kgl := MS.c5 HM m3_))
      have n_ : Aside0 (MS w [cv] [(gc, .cells #[.slice cv.P cv.v.length cv.p, .slice cv.Q cv.m.length cv.q, .bool cv.e] 25 (0, 0)), (gr, .cells #[.slice none 0 0, .slice none 0 0, .bool false] 25 (0, 0)), (gi, .cells #[.int .i64 a, .int .i64 b] 36 (0, 0)), (gl, .cells #[.int .i64 x, .int .i64 sx, .int .i64 y, .int .i64 sy, .int .i64 c] 34 (0, 0))] _) := ⟨MS.put2 [(gc, .cells #[.slice cv.P cv.v.length cv.p, .slice cv.Q cv.m.length cv.q, .bool cv.e] 25 (0, 0)), (gr, .cells #[.slice none 0 0, .slice none 0 0, .bool false] 25 (0, 0))] HM.out (a' := .int .i64 a) (b' := .int .i64 b)⟩; clear HM; have HM := n_; clear n_
      generalize hW_ : World.setCell _ _ _ = wk at HM ⊢; clear hW_
      clear kgc kgi kgl kgr; have kgc := MS.c3 HM m0_; have kgr := MS.c3 HM m1_; have kgi := MS.c2 HM m2_; have kgl := MS.c5 HM m3_
      have sx0 := HSX.out
      go_upto_region 8 with (first | (go_at_call 64; (with_reducible refine (rNone_as HN.out).mono ?_); rintro e wk ⟨rfl, hb⟩; have n_ := Aside0.mk ((MS.to HM).next hb); clear HM hb; have HM := n_; clear n_; clear kgc kgi kgl kgr; have kgc := MS.c3 HM m0_; have kgr := MS.c3 HM m1_; have kgi := MS.c2 HM m2_; have kgl := MS.c5 HM m3_))
      clear sx0
      go_upto_region 9 with (first | (go_at_call 66; (with_reducible refine (rHas_as HH.out).mono ?_); rintro e wk ⟨rfl, hb⟩; have n_ := Aside0.mk ((MS.to HM).next hb); clear HM hb; have HM := n_; clear n_; clear kgc kgi kgl kgr; have kgc := MS.c3 HM m0_; have kgr := MS.c3 HM m1_; have kgi := MS.c2 HM m2_; have kgl := MS.c5 HM m3_))
      go_wp2
      have n_ : Aside0 (MS w [cv] [(gc, .cells #[.slice cv.P cv.v.length cv.p, .slice cv.Q cv.m.length cv.q, .bool cv.e] 25 (0, 0)), (gr, .cells #[.slice cv.P cv.v.length cv.p, .slice cv.Q cv.m.length cv.q, .bool cv.e] 25 (0, 0)), (gi, .cells #[.int .i64 a, .int .i64 b] 36 (0, 0)), (gl, .cells #[.int .i64 x, .int .i64 sx, .int .i64 y, .int .i64 sy, .int .i64 c] 34 (0, 0))] _) := ⟨MS.put3 [(gc, .cells #[.slice cv.P cv.v.length cv.p, .slice cv.Q cv.m.length cv.q, .bool cv.e] 25 (0, 0))] HM.out (a' := .slice cv.P cv.v.length cv.p) (b' := .slice cv.Q cv.m.length cv.q) (c' := .bool cv.e)⟩; clear HM; have HM := n_; clear n_
      generalize hW_ : World.setCell _ _ _ = wk at HM ⊢; clear hW_
      clear kgc kgi kgl kgr; have kgc := MS.c3 HM m0_; have kgr := MS.c3 HM m1_; have kgi := MS.c2 HM m2_; have kgl := MS.c5 HM m3_
      refine bodyPost_ret (results_cell_row rfl _ _ gr 25 #[.slice cv.P cv.v.length cv.p, .slice cv.Q cv.m.length cv.q, .bool cv.e] (0, 0) _ rfl (HM.out.F.all _ m1_).1 Try.underlying25 rfl (by kernel_rfl)) rfl ?_
      exact ⟨cv, rfl, HCV.out, HM.out.S.own _ m0_, HM.out.S.below⟩
    ·
     have HSX : Aside0 ((sx == 0) = false) := ⟨by simpa using hs⟩
     rw [if_neg (fun h => h.elim hn (fun h => hs h.1)), if_neg hs]
     have hP := of_decide_eq_true hof'
     have hp : placeF X.v x = ((placeF X.v x).toNat : Int) := by have := hP.2.1; omega
     have hq : sy ≠ 0 → placeF X.v y = ((placeF X.v y).toNat : Int) := fun h => by have := hP.2.2; omega
     have hb : -1099511627776 ≤ c ∧ c ≤ 1099511627776 := ⟨hP.1.1, hP.1.2.1⟩
     have hsx : sx = 1 ∨ sx = -1 := by have := hP.1.2.2.2; omega
     have hsy : sy = 0 ∨ sy = 1 ∨ sy = -1 := by have := hP.1.2.2.2; omega
     have hpq : sy ≠ 0 → (placeF X.v x).toNat ≠ (placeF X.v y).toNat := fun h e => by
      have hxy : x < y := by have := hP.1.2.2.2; omega
      have e2 : placeF X.v x = placeF X.v y := by rw [hp, hq h, e]
      rcases placeF_cases X.v x with ⟨p1, h1, h2, h3, _⟩ | ⟨h2, _⟩
      ·
       rcases placeF_cases X.v y with ⟨p2, h4, h5, h6, _⟩ | ⟨h5, _⟩
       ·
        rw [h2, h5] at e2
        have : p1 = p2 := by omega
        subst this
        rw [h3] at h6
        omega
       ·
        omega
      ·
       omega
     generalize (placeF X.v x).toNat = p at hp hpq ⊢
     generalize (placeF X.v y).toNat = q at hq hpq ⊢
     have ba : -4611686018427387904 ≤ a ∧ a ≤ 4611686018427387903 ∧ -4611686018427387903 ≤ b ∧ b ≤ 4611686018427387904 := by
      have h1 : a = (itvOf lo hi).1 := by rw [hab]
      have h2 : b = (itvOf lo hi).2 := by rw [hab]
      unfold itvOf mx mn at h1 h2
      by_cases hlh : lo > hi
      ·
       rw [if_pos hlh] at h1 h2; dsimp only at h1 h2; omega
      ·
       rw [if_neg hlh] at h1 h2
       dsimp only at h1 h2
       (repeat' split at h1) <;> (repeat' split at h2) <;> omega
     have hna : bnegF a = -a := by
      unfold bnegF; congr 1; unfold bfit; (repeat' split) <;> omega
     rw [hna]
     have HP := Aside0.mk hp
     have HQ := Aside0.mk hq
     have HPQ := Aside0.mk hpq
     have SX0 := Aside0.mk hs
     have SC := Aside0.mk hsc
     obtain ⟨sx', hsx'⟩ : ∃ u, -sx = u := ⟨_, rfl⟩
     obtain ⟨sy', hsy'⟩ : ∃ u, -sy = u := ⟨_, rfl⟩
     have WS : Aside0 (IntKind.i64.wrap (-sx) = sx' ∧ wrap64 (-sx) = sx') := ⟨by rw [IntKind.wrap_i64]; omega, by unfold wrap64; omega⟩
     have WT : Aside0 (IntKind.i64.wrap (-sy) = sy' ∧ wrap64 (-sy) = sy') := ⟨by rw [IntKind.wrap_i64]; omega, by unfold wrap64; omega⟩
     have SX0' : Aside0 (sx' ≠ 0) := ⟨by omega⟩
     have HQ' : Aside0 (sy' ≠ 0 → placeF X.v y = (q : Int)) := ⟨fun h => hq (by omega)⟩
     have HPQ' : Aside0 (sy' ≠ 0 → p ≠ q) := ⟨fun h => hpq (by omega)⟩
     rw [hsx', hsy']
     obtain ⟨z1, hz1⟩ : ∃ u, b - c = u := ⟨_, rfl⟩
     obtain ⟨z2, hz2⟩ : ∃ u, c - a = u := ⟨_, rfl⟩
     have W1 : Aside0 (IntKind.i64.wrap (b - c) = z1 ∧ wrap64 (b - c) = z1) := ⟨by rw [IntKind.wrap_i64]; omega, by unfold wrap64; omega⟩
     have W2 : Aside0 (IntKind.i64.wrap (c - a) = z2 ∧ wrap64 (c - a) = z2) := ⟨by rw [IntKind.wrap_i64]; omega, by unfold wrap64; omega⟩
     obtain ⟨u1, hu1⟩ : ∃ u, cutF z1 = u := ⟨_, rfl⟩
     obtain ⟨u2, hu2⟩ : ∃ u, cutF z2 = u := ⟨_, rfl⟩
     have HC1 := Aside0.mk hu1
     have HC2 := Aside0.mk hu2
     have B1 : Aside0 (-2199023255552 ≤ u1 ∧ u1 ≤ 2199023255552) := ⟨by rw [← hu1]; unfold cutF; (repeat' split) <;> omega⟩
     have B2 : Aside0 (-2199023255552 ≤ u2 ∧ u2 ≤ 2199023255552) := ⟨by rw [← hu2]; unfold cutF; (repeat' split) <;> omega⟩
     have SC1 : Aside0 (Snd (2 * X.v.length) (amC C p sx q sy u1)) := ⟨amC_snd hsc⟩
     have HFT11 : Aside0 (OFit X.v (lst (2 * X.v.length) (amC (amC C p sx q sy u1) p sx' q sy' u2)) false) := ⟨fit_of_snd fx.1 (amC_snd (amC_snd hsc))⟩
     have HFT10 : Aside0 (OFit X.v (lst (2 * X.v.length) (amC C p sx q sy u1)) false) := ⟨fit_of_snd fx.1 (amC_snd hsc)⟩
     have HFT01 : Aside0 (OFit X.v (lst (2 * X.v.length) (amC C p sx' q sy' u2)) false) := ⟨fit_of_snd fx.1 (amC_snd hsc)⟩
     have HFT00 : Aside0 (OFit X.v (lst (2 * X.v.length) C) false) := ⟨fit_of_snd fx.1 hsc⟩
     have e1 : b < 4611686018427387904 → lst (2 * X.v.length) (upC C p sx q sy (bupF b (-c))) = lst (2 * X.v.length) (amC C p sx q sy u1) := fun h => by
      rw [up_is hsc (by omega) (by omega), show b + -c = z1 by omega, hu1]
     have e2 : ∀ D, Snd (2 * X.v.length) D → -4611686018427387904 < a → lst (2 * X.v.length) (upC D p sx' q sy' (bupF (-a) c)) = lst (2 * X.v.length) (amC D p sx' q sy' u2) := fun D hD h => by
      rw [up_is hD (by omega) (by omega), show -a + c = z2 by omega, hu2]
     by_cases tb : b < 4611686018427387904
     ·
      have TB : Aside0 (decide (b < 4611686018427387904) = true) := ⟨decide_eq_true tb⟩
      rw [lst_ext (upC_ext' (lst_at_ (e1 tb)))]
      by_cases ta : -4611686018427387904 < a
      ·
       have TA : Aside0 (decide (-4611686018427387904 < a) = true) := ⟨decide_eq_true ta⟩
       rw [e2 _ SC1.out ta]
       clear hX h0 fx hcl hof hof' he hc hab hge hn hsc hP hp hq hb hsx hsy hpq ba hna hsx' hsy' hz1 hz2 hu1 hu2 e1 e2 hs
       go_enter Try.func20, Try.ntmps20
       go_upto_region 1 with fail
       have HM : Aside0 (MS w [] [(w.heap.size + 3, .cells #[.slice none 0 0, .slice none 0 0, .bool false] 25 (0, 0)), (w.heap.size + 2, .cells #[.int .i64 lo, .int .i64 hi] 36 (0, 0)), (w.heap.size + 1, .cells #[.int .i64 x, .int .i64 sx, .int .i64 y, .int .i64 sy, .int .i64 c] 34 (0, 0)), (w.heap.size, .cells #[.slice X.P X.v.length X.p, .slice X.Q X.m.length X.q, .bool X.e] 25 (0, 0))] ((((w.alloc (.cells #[.slice X.P X.v.length X.p, .slice X.Q X.m.length X.q, .bool X.e] 25 (0, 0))).alloc (.cells #[.int .i64 x, .int .i64 sx, .int .i64 y, .int .i64 sy, .int .i64 c] 34 (0, 0))).alloc (.cells #[.int .i64 lo, .int .i64 hi] 36 (0, 0))).alloc (.cells #[.slice none 0 0, .slice none 0 0, .bool false] 25 (0, 0)))) := ⟨(MS.new (MS.new (MS.new (MS.new (MS.nil w) _ rfl) _ (by simp)) _ (by simp)) _ (by simp))⟩
       generalize hW_ : ((((w.alloc (.cells #[.slice X.P X.v.length X.p, .slice X.Q X.m.length X.q, .bool X.e] 25 (0, 0))).alloc (.cells #[.int .i64 x, .int .i64 sx, .int .i64 y, .int .i64 sy, .int .i64 c] 34 (0, 0))).alloc (.cells #[.int .i64 lo, .int .i64 hi] 36 (0, 0))).alloc (.cells #[.slice none 0 0, .slice none 0 0, .bool false] 25 (0, 0))) = wk at HM ⊢; clear hW_
       generalize hg_ : w.heap.size + 3 = gr at HM ⊢; clear hg_
       generalize hg_ : w.heap.size + 2 = gi at HM ⊢; clear hg_
       generalize hg_ : w.heap.size + 1 = gl at HM ⊢; clear hg_
       generalize hg_ : w.heap.size = go at HM ⊢; clear hg_
       have kgr := MS.c3 HM m0_; have kgi := MS.c2 HM m1_; have kgl := MS.c5 HM m2_; have kgo := MS.c3 HM m3_
       go_upto_region 2 with (first | (go_at_call 38; (with_reducible refine (rclose_as (Oc.now HX (MS.bel HM)) (Below.refl _ _) rfl FX_.out HC.out).mono ?_); rintro e wk ⟨cv, rfl, hcv, ho, hb⟩; have n_ := Aside0.mk ((MS.to HM).call hb ho); clear HM ho hb; have HM := n_; clear n_; clear kgi kgl kgo kgr; have kgr := MS.c3 HM m0_; have kgi := MS.c2 HM m1_; have kgl := MS.c5 HM m2_; have kgo := MS.c3 HM m3_) | ((with_reducible refine gate_dst (N := 7) rfl ?_); refine box_event ?hg (N := 7) ?hd (cs := #[.slice none 0 0, .slice none 0 0, .bool false]) (t := 25) ?hr ?_; (case hd => rfl); (case hg => rfl); (case hr => first | (go_simp; done) | (go_simp; rfl)); intro gc hg wk hbox hb; have n_ := Aside0.mk ((MS.to HM).made hg hbox hb); clear HM hg hbox hb; have HM := n_; clear n_; clear kgi kgl kgo kgr; have kgc := MS.c3 HM m0_; have kgr := MS.c3 HM m1_; have kgi := MS.c2 HM m2_; have kgl := MS.c5 HM m3_; have kgo := MS.c3 HM m4_))
       have n_ : Aside0 (MS w [cv] [(gc, .cells #[.slice none 0 0, .slice none 0 0, .bool false] 25 (0, 0)), (gr, .cells #[.slice none 0 0, .slice none 0 0, .bool false] 25 (0, 0)), (gi, .cells #[.int .i64 lo, .int .i64 hi] 36 (0, 0)), (gl, .cells #[.int .i64 x, .int .i64 sx, .int .i64 y, .int .i64 sy, .int .i64 c] 34 (0, 0))] _) := ⟨HM.out.sub (List.Sublist.refl _) (.cons_cons _ (.cons_cons _ (.cons_cons _ (.cons_cons _ (.cons _ .slnil)))))⟩; clear HM; have HM := n_; clear n_
       clear kgc kgi kgl kgo kgr; have kgc := MS.c3 HM m0_; have kgr := MS.c3 HM m1_; have kgi := MS.c2 HM m2_; have kgl := MS.c5 HM m3_
       have n_ : Aside0 (MS w [cv] [(gc, .cells #[.slice cv.P cv.v.length cv.p, .slice cv.Q cv.m.length cv.q, .bool cv.e] 25 (0, 0)), (gr, .cells #[.slice none 0 0, .slice none 0 0, .bool false] 25 (0, 0)), (gi, .cells #[.int .i64 lo, .int .i64 hi] 36 (0, 0)), (gl, .cells #[.int .i64 x, .int .i64 sx, .int .i64 y, .int .i64 sy, .int .i64 c] 34 (0, 0))] _) := ⟨MS.put3 [] HM.out (a' := .slice cv.P cv.v.length cv.p) (b' := .slice cv.Q cv.m.length cv.q) (c' := .bool cv.e)⟩; clear HM; have HM := n_; clear n_
       generalize hW_ : World.setCell _ _ _ = wk at HM ⊢; clear hW_
       clear kgc kgi kgl kgr; have kgc := MS.c3 HM m0_; have kgr := MS.c3 HM m1_; have kgi := MS.c2 HM m2_; have kgl := MS.c5 HM m3_
       have HCV := Aside0.mk hcv; clear hcv
       have hem : cv.e = false := congrArg (·.2.2) HCV.out
       go_upto_region 4 with (first | (go_at_call 62; (with_reducible refine (among_asE (MS.oc HM m0_) (MS.bel HM) HCV.out LK.out HOF.out (congrArg (·.2.2) HCV.out)).mono ?_); rintro e wk ⟨rfl, hb⟩; have n_ := Aside0.mk ((MS.to HM).next hb); clear HM hb; have HM := n_; clear n_; clear kgc kgi kgl kgr; have kgc := MS.c3 HM m0_; have kgr := MS.c3 HM m1_; have kgi := MS.c2 HM m2_; have kgl := MS.c5 HM m3_))
       clear hem
       go_upto_region 5 with (first | (go_at_call 63; (with_reducible refine (ritvOf_as HIT.out).mono ?_); rintro e wk ⟨rfl, hb⟩; have n_ := Aside0.mk ((MS.to HM).next hb); clear HM hb; have HM := n_; clear n_; clear kgc kgi kgl kgr; have kgc := MS.c3 HM m0_; have kgr := MS.c3 HM m1_; have kgi := MS.c2 HM m2_; have kgl := MS.c5 HM m3_))
       have n_ : Aside0 (MS w [cv] [(gc, .cells #[.slice cv.P cv.v.length cv.p, .slice cv.Q cv.m.length cv.q, .bool cv.e] 25 (0, 0)), (gr, .cells #[.slice none 0 0, .slice none 0 0, .bool false] 25 (0, 0)), (gi, .cells #[.int .i64 a, .int .i64 b] 36 (0, 0)), (gl, .cells #[.int .i64 x, .int .i64 sx, .int .i64 y, .int .i64 sy, .int .i64 c] 34 (0, 0))] _) := ⟨MS.put2 [(gc, .cells #[.slice cv.P cv.v.length cv.p, .slice cv.Q cv.m.length cv.q, .bool cv.e] 25 (0, 0)), (gr, .cells #[.slice none 0 0, .slice none 0 0, .bool false] 25 (0, 0))] HM.out (a' := .int .i64 a) (b' := .int .i64 b)⟩; clear HM; have HM := n_; clear n_
       generalize hW_ : World.setCell _ _ _ = wk at HM ⊢; clear hW_
       clear kgc kgi kgl kgr; have kgc := MS.c3 HM m0_; have kgr := MS.c3 HM m1_; have kgi := MS.c2 HM m2_; have kgl := MS.c5 HM m3_
       have sx0 := HSX.out
       go_upto_region 11 with (first | (go_at_call 64; (with_reducible refine (rNone_as HN.out).mono ?_); rintro e wk ⟨rfl, hb⟩; have n_ := Aside0.mk ((MS.to HM).next hb); clear HM hb; have HM := n_; clear n_; clear kgc kgi kgl kgr; have kgc := MS.c3 HM m0_; have kgr := MS.c3 HM m1_; have kgi := MS.c2 HM m2_; have kgl := MS.c5 HM m3_))
       clear sx0
       have t1 := TB.out
       go_upto_region 12 with fail
       clear t1; obtain ⟨s1, s1'⟩ := W1.out
       have n_ := Aside0.mk (HM.out.next (below_drew (Below.refl _ _))); clear HM; have HM := n_; clear n_
       clear kgc kgi kgl kgr
       refine start_ (n := 10) (S := fun w' => w'.cell? ⟨gc, 0, none⟩ = some (.slice cv.P cv.v.length cv.p) ∧ w'.cell? ⟨gc, 1, none⟩ = some (.slice cv.Q cv.m.length cv.q) ∧ w'.cell? ⟨gc, 2, none⟩ = some (.bool cv.e) ∧ w'.cell? ⟨gl, 0, none⟩ = some (.int .i64 x) ∧ w'.cell? ⟨gl, 1, none⟩ = some (.int .i64 sx) ∧ w'.cell? ⟨gl, 2, none⟩ = some (.int .i64 y) ∧ w'.cell? ⟨gl, 3, none⟩ = some (.int .i64 sy) ∧ w'.cell? ⟨gl, 4, none⟩ = some (.int .i64 c) ∧ w'.cell? ⟨gi, 1, none⟩ = some (.int .i64 b)) (ds := [9]) (mB 10 0) (by kernel_rfl) rfl (by kernel_rfl) ⟨MS.k HM m0_ 0 rfl, MS.k HM m0_ 1 rfl, MS.k HM m0_ 2 rfl, MS.k HM m3_ 0 rfl, MS.k HM m3_ 1 rfl, MS.k HM m3_ 2 rfl, MS.k HM m3_ 3 rfl, MS.k HM m3_ 4 rfl, MS.k HM m2_ 1 rfl⟩ (fun hHeld => ?_)
       refine with_tabW rguard_tab12 rguard_bits12 (fun HT_ HW_ => ?_)
       generalize hWd : World.drew _ = wk at HM hHeld ⊢; clear hWd
       refine tV_ 0 44 (mB 10 1) HT_ HW_ hHeld ?_
       refine tV_ 1 45 (mB 10 3) HT_ HW_ hHeld ?_
       refine pV_ 2 46 (mB 10 7) HT_ ?_
       refine tV_ 3 47 (mB 10 15) HT_ HW_ hHeld ?_
       refine pV_ 4 48 (mB 10 31) HT_ ?_
       refine tV_ 5 49 (mB 10 63) HT_ HW_ hHeld ?_
       refine pV_ 6 50 (mB 10 127) HT_ ?_
       refine one_ (i := 7) (N := some 51) (mB 10 255) rfl rfl (one_of HT_.out (by kernel_rfl)) (by decide) (fun K hK => ?_)
       refine goes_ Try.func68 (by kernel_rfl) rfl #[.int .i64 z1] (by rfl) rfl rfl vL ?_
       with_reducible refine (cut_as HC1.out).mono ?_
       rintro e wk ⟨rfl, hb⟩; refine ⟨_, rfl, ?_⟩
       have n_ := Aside0.mk (HM.out.next hb); clear HM hb; have HM := n_; clear n_
       refine hK.out _ _ ⟨MS.k HM m0_ 0 rfl, MS.k HM m0_ 1 rfl, MS.k HM m0_ 2 rfl, MS.k HM m3_ 0 rfl, MS.k HM m3_ 1 rfl, MS.k HM m3_ 2 rfl, MS.k HM m3_ 3 rfl, MS.k HM m3_ 4 rfl, MS.k HM m2_ 1 rfl⟩ (fun hHeld => ?_)
       clear hK K
       refine nO_ 51 ?_
       refine one_ (i := 8) (N := some 52) (mB 10 511) rfl rfl (one_of HT_.out (by kernel_rfl)) (by decide) (fun K hK => ?_)
       refine goes_ Try.func67 (by kernel_rfl) rfl #[cv.val, .agg #[.int .i64 x, .int .i64 sx, .int .i64 y, .int .i64 sy, .int .i64 c], .int .i64 u1] (by rfl) rfl rfl vL ?_
       with_reducible refine (atMost_o HM.out HCV.out L8.out SC.out HP.out SX0.out HQ.out HPQ.out B1.out).mono ?_
       rintro e wk ⟨c1, rfl, hc1, ho⟩; refine ⟨_, rfl, ?_⟩
       clear HM; have HM := Aside0.mk ho; clear ho
       refine hK.out _ _ ⟨MS.k HM m0_ 0 rfl, MS.k HM m0_ 1 rfl, MS.k HM m0_ 2 rfl, MS.k HM m3_ 0 rfl, MS.k HM m3_ 1 rfl, MS.k HM m3_ 2 rfl, MS.k HM m3_ 3 rfl, MS.k HM m3_ 4 rfl, MS.k HM m2_ 1 rfl⟩ (fun hHeld => ?_)
       clear hK K
       refine nO_ 52 ?_
       have kgc := MS.c3 HM m0_; have kgr := MS.c3 HM m1_; have kgi := MS.c2 HM m2_; have kgl := MS.c5 HM m3_
       refine last_ (i := 9) (N := none) (mB 10 1023) rfl rfl (one_of HT_.out (by kernel_rfl)) (by decide) (fun K hK => ?_)
       refine skip_ (w1 := ?_) (by rfl) rfl ?_ ?_
       rotate_left
       ·
        go_simp
        rfl
       refine hK.out _ _ ?_
       clear hK K
       refine done_ (done_of HT_.out (by kernel_rfl)) ?_
       clear HT_ HW_ hHeld
       have n_ : Aside0 (MS w [c1] [(gc, .cells #[.slice c1.P c1.v.length c1.p, .slice c1.Q c1.m.length c1.q, .bool c1.e] 25 (0, 0)), (gr, .cells #[.slice none 0 0, .slice none 0 0, .bool false] 25 (0, 0)), (gi, .cells #[.int .i64 a, .int .i64 b] 36 (0, 0)), (gl, .cells #[.int .i64 x, .int .i64 sx, .int .i64 y, .int .i64 sy, .int .i64 c] 34 (0, 0))] _) := ⟨MS.put3 [] HM.out (a' := .slice c1.P c1.v.length c1.p) (b' := .slice c1.Q c1.m.length c1.q) (c' := .bool c1.e)⟩; clear HM; have HM := n_; clear n_
       generalize hW_ : World.setCell _ _ _ = wk at HM ⊢; clear hW_
       clear kgc kgi kgl kgr; have kgc := MS.c3 HM m0_; have kgr := MS.c3 HM m1_; have kgi := MS.c2 HM m2_; have kgl := MS.c5 HM m3_
       clear s1 s1'; have H1 := Aside0.mk hc1; clear hc1
       have t2 := TA.out
       go_upto_region 14 with fail
       clear t2
       go_upto_region 15 with (first | ((with_reducible refine gate_dst (N := 8) rfl ?_); refine box_event ?hg (N := 8) ?hd (cs := #[.int .i64 0, .int .i64 0, .int .i64 0, .int .i64 0, .int .i64 0]) (t := 34) ?hr ?_; (case hd => rfl); (case hg => rfl); (case hr => first | (go_simp; done) | (go_simp; rfl)); intro gm hg wk hbox hb; have n_ := Aside0.mk ((MS.to HM).made hg hbox hb); clear HM hg hbox hb; have HM := n_; clear n_; clear kgc kgi kgl kgr; have kgm := MS.c5 HM m0_; have kgc := MS.c3 HM m1_; have kgr := MS.c3 HM m2_; have kgi := MS.c2 HM m3_; have kgl := MS.c5 HM m4_))
       have n_ : Aside0 (MS w [c1] [(gm, .cells #[.int .i64 x, .int .i64 sx, .int .i64 y, .int .i64 sy, .int .i64 c] 34 (0, 0)), (gc, .cells #[.slice c1.P c1.v.length c1.p, .slice c1.Q c1.m.length c1.q, .bool c1.e] 25 (0, 0)), (gr, .cells #[.slice none 0 0, .slice none 0 0, .bool false] 25 (0, 0)), (gi, .cells #[.int .i64 a, .int .i64 b] 36 (0, 0)), (gl, .cells #[.int .i64 x, .int .i64 sx, .int .i64 y, .int .i64 sy, .int .i64 c] 34 (0, 0))] _) := ⟨MS.put5 [] HM.out (a' := .int .i64 x) (b' := .int .i64 sx) (c' := .int .i64 y) (d' := .int .i64 sy) (f' := .int .i64 c)⟩; clear HM; have HM := n_; clear n_
       generalize hW_ : World.setCell _ _ _ = wk at HM ⊢; clear hW_
       clear kgc kgi kgl kgm kgr; have kgm := MS.c5 HM m0_; have kgc := MS.c3 HM m1_; have kgr := MS.c3 HM m2_; have kgi := MS.c2 HM m3_; have kgl := MS.c5 HM m4_
       obtain ⟨s1, s1'⟩ := WS.out; obtain ⟨s2, s2'⟩ := WT.out
       go_upto_region 16 with fail
       have n_ : Aside0 (MS w [c1] [(gm, .cells #[.int .i64 x, .int .i64 sx', .int .i64 y, .int .i64 sy, .int .i64 c] 34 (0, 0)), (gc, .cells #[.slice c1.P c1.v.length c1.p, .slice c1.Q c1.m.length c1.q, .bool c1.e] 25 (0, 0)), (gr, .cells #[.slice none 0 0, .slice none 0 0, .bool false] 25 (0, 0)), (gi, .cells #[.int .i64 a, .int .i64 b] 36 (0, 0)), (gl, .cells #[.int .i64 x, .int .i64 sx, .int .i64 y, .int .i64 sy, .int .i64 c] 34 (0, 0))] _) := ⟨MS.put [] HM.out 1 (.int .i64 sx') rfl⟩; clear HM; have HM := n_; clear n_
       generalize hW_ : World.setCell _ _ _ = wk at HM ⊢; clear hW_
       clear kgc kgi kgl kgm kgr; have kgm := MS.c5 HM m0_; have kgc := MS.c3 HM m1_; have kgr := MS.c3 HM m2_; have kgi := MS.c2 HM m3_; have kgl := MS.c5 HM m4_
       go_upto_region 17 with fail
       have n_ : Aside0 (MS w [c1] [(gm, .cells #[.int .i64 x, .int .i64 sx', .int .i64 y, .int .i64 sy', .int .i64 c] 34 (0, 0)), (gc, .cells #[.slice c1.P c1.v.length c1.p, .slice c1.Q c1.m.length c1.q, .bool c1.e] 25 (0, 0)), (gr, .cells #[.slice none 0 0, .slice none 0 0, .bool false] 25 (0, 0)), (gi, .cells #[.int .i64 a, .int .i64 b] 36 (0, 0)), (gl, .cells #[.int .i64 x, .int .i64 sx, .int .i64 y, .int .i64 sy, .int .i64 c] 34 (0, 0))] _) := ⟨MS.put [] HM.out 3 (.int .i64 sy') rfl⟩; clear HM; have HM := n_; clear n_
       generalize hW_ : World.setCell _ _ _ = wk at HM ⊢; clear hW_
       clear kgc kgi kgl kgm kgr; have kgm := MS.c5 HM m0_; have kgc := MS.c3 HM m1_; have kgr := MS.c3 HM m2_; have kgi := MS.c2 HM m3_; have kgl := MS.c5 HM m4_
       clear s1 s1' s2 s2'; obtain ⟨s1, s1'⟩ := W2.out
       have n_ := Aside0.mk (HM.out.next (below_drew (Below.refl _ _))); clear HM; have HM := n_; clear n_
       clear kgc kgi kgl kgm kgr
       refine start_ (n := 10) (S := fun w' => w'.cell? ⟨gc, 0, none⟩ = some (.slice c1.P c1.v.length c1.p) ∧ w'.cell? ⟨gc, 1, none⟩ = some (.slice c1.Q c1.m.length c1.q) ∧ w'.cell? ⟨gc, 2, none⟩ = some (.bool c1.e) ∧ w'.cell? ⟨gm, 0, none⟩ = some (.int .i64 x) ∧ w'.cell? ⟨gm, 1, none⟩ = some (.int .i64 sx') ∧ w'.cell? ⟨gm, 2, none⟩ = some (.int .i64 y) ∧ w'.cell? ⟨gm, 3, none⟩ = some (.int .i64 sy') ∧ w'.cell? ⟨gm, 4, none⟩ = some (.int .i64 c) ∧ w'.cell? ⟨gl, 4, none⟩ = some (.int .i64 c) ∧ w'.cell? ⟨gi, 0, none⟩ = some (.int .i64 a)) (ds := [9]) (mB 10 0) (by kernel_rfl) rfl (by kernel_rfl) ⟨MS.k HM m1_ 0 rfl, MS.k HM m1_ 1 rfl, MS.k HM m1_ 2 rfl, MS.k HM m0_ 0 rfl, MS.k HM m0_ 1 rfl, MS.k HM m0_ 2 rfl, MS.k HM m0_ 3 rfl, MS.k HM m0_ 4 rfl, MS.k HM m4_ 4 rfl, MS.k HM m3_ 0 rfl⟩ (fun hHeld => ?_)
       refine with_tabW rguard_tab17 rguard_bits17 (fun HT_ HW_ => ?_)
       generalize hWd : World.drew _ = wk at HM hHeld ⊢; clear hWd
       refine tV_ 0 65 (mB 10 1) HT_ HW_ hHeld ?_
       refine tV_ 1 66 (mB 10 3) HT_ HW_ hHeld ?_
       refine pV_ 2 67 (mB 10 7) HT_ ?_
       refine tV_ 3 68 (mB 10 15) HT_ HW_ hHeld ?_
       refine pV_ 4 69 (mB 10 31) HT_ ?_
       refine tV_ 5 70 (mB 10 63) HT_ HW_ hHeld ?_
       refine pV_ 6 71 (mB 10 127) HT_ ?_
       refine one_ (i := 7) (N := some 72) (mB 10 255) rfl rfl (one_of HT_.out (by kernel_rfl)) (by decide) (fun K hK => ?_)
       refine goes_ Try.func68 (by kernel_rfl) rfl #[.int .i64 z2] (by rfl) rfl rfl vL ?_
       with_reducible refine (cut_as HC2.out).mono ?_
       rintro e wk ⟨rfl, hb⟩; refine ⟨_, rfl, ?_⟩
       have n_ := Aside0.mk (HM.out.next hb); clear HM hb; have HM := n_; clear n_
       refine hK.out _ _ ⟨MS.k HM m1_ 0 rfl, MS.k HM m1_ 1 rfl, MS.k HM m1_ 2 rfl, MS.k HM m0_ 0 rfl, MS.k HM m0_ 1 rfl, MS.k HM m0_ 2 rfl, MS.k HM m0_ 3 rfl, MS.k HM m0_ 4 rfl, MS.k HM m4_ 4 rfl, MS.k HM m3_ 0 rfl⟩ (fun hHeld => ?_)
       clear hK K
       refine nO_ 72 ?_
       refine one_ (i := 8) (N := some 73) (mB 10 511) rfl rfl (one_of HT_.out (by kernel_rfl)) (by decide) (fun K hK => ?_)
       refine goes_ Try.func67 (by kernel_rfl) rfl #[c1.val, .agg #[.int .i64 x, .int .i64 sx', .int .i64 y, .int .i64 sy', .int .i64 c], .int .i64 u2] (by rfl) rfl rfl vL ?_
       with_reducible refine (atMost_o HM.out H1.out L8.out SC1.out HP.out SX0'.out HQ'.out HPQ'.out B2.out).mono ?_
       rintro e wk ⟨c2, rfl, hc2, ho⟩; refine ⟨_, rfl, ?_⟩
       clear HM; have HM := Aside0.mk ho; clear ho
       refine hK.out _ _ ⟨MS.k HM m1_ 0 rfl, MS.k HM m1_ 1 rfl, MS.k HM m1_ 2 rfl, MS.k HM m0_ 0 rfl, MS.k HM m0_ 1 rfl, MS.k HM m0_ 2 rfl, MS.k HM m0_ 3 rfl, MS.k HM m0_ 4 rfl, MS.k HM m4_ 4 rfl, MS.k HM m3_ 0 rfl⟩ (fun hHeld => ?_)
       clear hK K
       refine nO_ 73 ?_
       have kgm := MS.c5 HM m0_; have kgc := MS.c3 HM m1_; have kgr := MS.c3 HM m2_; have kgi := MS.c2 HM m3_; have kgl := MS.c5 HM m4_
       refine last_ (i := 9) (N := none) (mB 10 1023) rfl rfl (one_of HT_.out (by kernel_rfl)) (by decide) (fun K hK => ?_)
       refine skip_ (w1 := ?_) (by rfl) rfl ?_ ?_
       rotate_left
       ·
        go_simp
        rfl
       refine hK.out _ _ ?_
       clear hK K
       refine done_ (done_of HT_.out (by kernel_rfl)) ?_
       clear HT_ HW_ hHeld
       have n_ : Aside0 (MS w [c2] [(gm, .cells #[.int .i64 x, .int .i64 sx', .int .i64 y, .int .i64 sy', .int .i64 c] 34 (0, 0)), (gc, .cells #[.slice c2.P c2.v.length c2.p, .slice c2.Q c2.m.length c2.q, .bool c2.e] 25 (0, 0)), (gr, .cells #[.slice none 0 0, .slice none 0 0, .bool false] 25 (0, 0)), (gi, .cells #[.int .i64 a, .int .i64 b] 36 (0, 0)), (gl, .cells #[.int .i64 x, .int .i64 sx, .int .i64 y, .int .i64 sy, .int .i64 c] 34 (0, 0))] _) := ⟨MS.put3 [(gm, .cells #[.int .i64 x, .int .i64 sx', .int .i64 y, .int .i64 sy', .int .i64 c] 34 (0, 0))] HM.out (a' := .slice c2.P c2.v.length c2.p) (b' := .slice c2.Q c2.m.length c2.q) (c' := .bool c2.e)⟩; clear HM; have HM := n_; clear n_
       generalize hW_ : World.setCell _ _ _ = wk at HM ⊢; clear hW_
       clear kgc kgi kgl kgm kgr; have kgm := MS.c5 HM m0_; have kgc := MS.c3 HM m1_; have kgr := MS.c3 HM m2_; have kgi := MS.c2 HM m3_; have kgl := MS.c5 HM m4_
       clear s1 s1'; have H2 := Aside0.mk hc2; clear hc2
       go_wp2_with (first | (go_at_call 38; (with_reducible refine (rclose_as (MS.oc HM m0_) (MS.bel HM) H2.out HFT11.out rfl).mono ?_); rintro e wk ⟨zv, rfl, hzv, ho, hb⟩; have n_ := Aside0.mk ((MS.to HM).call hb ho); clear HM ho hb; have HM := n_; clear n_; clear kgc kgi kgl kgm kgr; have kgm := MS.c5 HM m0_; have kgc := MS.c3 HM m1_; have kgr := MS.c3 HM m2_; have kgi := MS.c2 HM m3_; have kgl := MS.c5 HM m4_))
       have n_ : Aside0 (MS w [zv, c2] [(gm, .cells #[.int .i64 x, .int .i64 sx', .int .i64 y, .int .i64 sy', .int .i64 c] 34 (0, 0)), (gc, .cells #[.slice c2.P c2.v.length c2.p, .slice c2.Q c2.m.length c2.q, .bool c2.e] 25 (0, 0)), (gr, .cells #[.slice zv.P zv.v.length zv.p, .slice zv.Q zv.m.length zv.q, .bool zv.e] 25 (0, 0)), (gi, .cells #[.int .i64 a, .int .i64 b] 36 (0, 0)), (gl, .cells #[.int .i64 x, .int .i64 sx, .int .i64 y, .int .i64 sy, .int .i64 c] 34 (0, 0))] _) := ⟨MS.put3 [(gm, .cells #[.int .i64 x, .int .i64 sx', .int .i64 y, .int .i64 sy', .int .i64 c] 34 (0, 0)), (gc, .cells #[.slice c2.P c2.v.length c2.p, .slice c2.Q c2.m.length c2.q, .bool c2.e] 25 (0, 0))] HM.out (a' := .slice zv.P zv.v.length zv.p) (b' := .slice zv.Q zv.m.length zv.q) (c' := .bool zv.e)⟩; clear HM; have HM := n_; clear n_
       generalize hW_ : World.setCell _ _ _ = wk at HM ⊢; clear hW_
       clear kgc kgi kgl kgm kgr; have kgm := MS.c5 HM m0_; have kgc := MS.c3 HM m1_; have kgr := MS.c3 HM m2_; have kgi := MS.c2 HM m3_; have kgl := MS.c5 HM m4_
       refine bodyPost_ret (results_cell_row rfl _ _ gr 25 #[.slice zv.P zv.v.length zv.p, .slice zv.Q zv.m.length zv.q, .bool zv.e] (0, 0) _ rfl (HM.out.F.all _ m2_).1 Try.underlying25 rfl (by kernel_rfl)) rfl ?_
       exact ⟨zv, rfl, hzv, HM.out.S.own _ m0_, HM.out.S.below⟩
      ·
       have TA : Aside0 (decide (-4611686018427387904 < a) = false) := ⟨decide_eq_false ta⟩
       rw [up_none (hi := -a) (by omega)]
       clear hX h0 fx hcl hof hof' he hc hab hge hn hsc hP hp hq hb hsx hsy hpq ba hna hsx' hsy' hz1 hz2 hu1 hu2 e1 e2 hs
       go_enter Try.func20, Try.ntmps20
       go_upto_region 1 with fail
       have HM : Aside0 (MS w [] [(w.heap.size + 3, .cells #[.slice none 0 0, .slice none 0 0, .bool false] 25 (0, 0)), (w.heap.size + 2, .cells #[.int .i64 lo, .int .i64 hi] 36 (0, 0)), (w.heap.size + 1, .cells #[.int .i64 x, .int .i64 sx, .int .i64 y, .int .i64 sy, .int .i64 c] 34 (0, 0)), (w.heap.size, .cells #[.slice X.P X.v.length X.p, .slice X.Q X.m.length X.q, .bool X.e] 25 (0, 0))] ((((w.alloc (.cells #[.slice X.P X.v.length X.p, .slice X.Q X.m.length X.q, .bool X.e] 25 (0, 0))).alloc (.cells #[.int .i64 x, .int .i64 sx, .int .i64 y, .int .i64 sy, .int .i64 c] 34 (0, 0))).alloc (.cells #[.int .i64 lo, .int .i64 hi] 36 (0, 0))).alloc (.cells #[.slice none 0 0, .slice none 0 0, .bool false] 25 (0, 0)))) := ⟨(MS.new (MS.new (MS.new (MS.new (MS.nil w) _ rfl) _ (by simp)) _ (by simp)) _ (by simp))⟩
       generalize hW_ : ((((w.alloc (.cells #[.slice X.P X.v.length X.p, .slice X.Q X.m.length X.q, .bool X.e] 25 (0, 0))).alloc (.cells #[.int .i64 x, .int .i64 sx, .int .i64 y, .int .i64 sy, .int .i64 c] 34 (0, 0))).alloc (.cells #[.int .i64 lo, .int .i64 hi] 36 (0, 0))).alloc (.cells #[.slice none 0 0, .slice none 0 0, .bool false] 25 (0, 0))) = wk at HM ⊢; clear hW_
       generalize hg_ : w.heap.size + 3 = gr at HM ⊢; clear hg_
       generalize hg_ : w.heap.size + 2 = gi at HM ⊢; clear hg_
       generalize hg_ : w.heap.size + 1 = gl at HM ⊢; clear hg_
       generalize hg_ : w.heap.size = go at HM ⊢; clear hg_
       have kgr := MS.c3 HM m0_; have kgi := MS.c2 HM m1_; have kgl := MS.c5 HM m2_; have kgo := MS.c3 HM m3_
       go_upto_region 2 with (first | (go_at_call 38; (with_reducible refine (rclose_as (Oc.now HX (MS.bel HM)) (Below.refl _ _) rfl FX_.out HC.out).mono ?_); rintro e wk ⟨cv, rfl, hcv, ho, hb⟩; have n_ := Aside0.mk ((MS.to HM).call hb ho); clear HM ho hb; have HM := n_; clear n_; clear kgi kgl kgo kgr; have kgr := MS.c3 HM m0_; have kgi := MS.c2 HM m1_; have kgl := MS.c5 HM m2_; have kgo := MS.c3 HM m3_) | ((with_reducible refine gate_dst (N := 7) rfl ?_); refine box_event ?hg (N := 7) ?hd (cs := #[.slice none 0 0, .slice none 0 0, .bool false]) (t := 25) ?hr ?_; (case hd => rfl); (case hg => rfl); (case hr => first | (go_simp; done) | (go_simp; rfl)); intro gc hg wk hbox hb; have n_ := Aside0.mk ((MS.to HM).made hg hbox hb); clear HM hg hbox hb; have HM := n_; clear n_; clear kgi kgl kgo kgr; have kgc := MS.c3 HM m0_; have kgr := MS.c3 HM m1_; have kgi := MS.c2 HM m2_; have kgl := MS.c5 HM m3_; have kgo := MS.c3 HM m4_))
       have n_ : Aside0 (MS w [cv] [(gc, .cells #[.slice none 0 0, .slice none 0 0, .bool false] 25 (0, 0)), (gr, .cells #[.slice none 0 0, .slice none 0 0, .bool false] 25 (0, 0)), (gi, .cells #[.int .i64 lo, .int .i64 hi] 36 (0, 0)), (gl, .cells #[.int .i64 x, .int .i64 sx, .int .i64 y, .int .i64 sy, .int .i64 c] 34 (0, 0))] _) := ⟨HM.out.sub (List.Sublist.refl _) (.cons_cons _ (.cons_cons _ (.cons_cons _ (.cons_cons _ (.cons _ .slnil)))))⟩; clear HM; have HM := n_; clear n_
       clear kgc kgi kgl kgo kgr; have kgc := MS.c3 HM m0_; have kgr := MS.c3 HM m1_; have kgi := MS.c2 HM m2_; have kgl := MS.c5 HM m3_
       have n_ : Aside0 (MS w [cv] [(gc, .cells #[.slice cv.P cv.v.length cv.p, .slice cv.Q cv.m.length cv.q, .bool cv.e] 25 (0, 0)), (gr, .cells #[.slice none 0 0, .slice none 0 0, .bool false] 25 (0, 0)), (gi, .cells #[.int .i64 lo, .int .i64 hi] 36 (0, 0)), (gl, .cells #[.int .i64 x, .int .i64 sx, .int .i64 y, .int .i64 sy, .int .i64 c] 34 (0, 0))] _) := ⟨MS.put3 [] HM.out (a' := .slice cv.P cv.v.length cv.p) (b' := .slice cv.Q cv.m.length cv.q) (c' := .bool cv.e)⟩; clear HM; have HM := n_; clear n_
       generalize hW_ : World.setCell _ _ _ = wk at HM ⊢; clear hW_
       clear kgc kgi kgl kgr; have kgc := MS.c3 HM m0_; have kgr := MS.c3 HM m1_; have kgi := MS.c2 HM m2_; have kgl := MS.c5 HM m3_
       have HCV := Aside0.mk hcv; clear hcv
       have hem : cv.e = false := congrArg (·.2.2) HCV.out
       go_upto_region 4 with (first | (go_at_call 62; (with_reducible refine (among_asE (MS.oc HM m0_) (MS.bel HM) HCV.out LK.out HOF.out (congrArg (·.2.2) HCV.out)).mono ?_); rintro e wk ⟨rfl, hb⟩; have n_ := Aside0.mk ((MS.to HM).next hb); clear HM hb; have HM := n_; clear n_; clear kgc kgi kgl kgr; have kgc := MS.c3 HM m0_; have kgr := MS.c3 HM m1_; have kgi := MS.c2 HM m2_; have kgl := MS.c5 HM m3_))
       clear hem
       go_upto_region 5 with (first | (go_at_call 63; (with_reducible refine (ritvOf_as HIT.out).mono ?_); rintro e wk ⟨rfl, hb⟩; have n_ := Aside0.mk ((MS.to HM).next hb); clear HM hb; have HM := n_; clear n_; clear kgc kgi kgl kgr; have kgc := MS.c3 HM m0_; have kgr := MS.c3 HM m1_; have kgi := MS.c2 HM m2_; have kgl := MS.c5 HM m3_))
       have n_ : Aside0 (MS w [cv] [(gc, .cells #[.slice cv.P cv.v.length cv.p, .slice cv.Q cv.m.length cv.q, .bool cv.e] 25 (0, 0)), (gr, .cells #[.slice none 0 0, .slice none 0 0, .bool false] 25 (0, 0)), (gi, .cells #[.int .i64 a, .int .i64 b] 36 (0, 0)), (gl, .cells #[.int .i64 x, .int .i64 sx, .int .i64 y, .int .i64 sy, .int .i64 c] 34 (0, 0))] _) := ⟨MS.put2 [(gc, .cells #[.slice cv.P cv.v.length cv.p, .slice cv.Q cv.m.length cv.q, .bool cv.e] 25 (0, 0)), (gr, .cells #[.slice none 0 0, .slice none 0 0, .bool false] 25 (0, 0))] HM.out (a' := .int .i64 a) (b' := .int .i64 b)⟩; clear HM; have HM := n_; clear n_
       generalize hW_ : World.setCell _ _ _ = wk at HM ⊢; clear hW_
       clear kgc kgi kgl kgr; have kgc := MS.c3 HM m0_; have kgr := MS.c3 HM m1_; have kgi := MS.c2 HM m2_; have kgl := MS.c5 HM m3_
       have sx0 := HSX.out
       go_upto_region 11 with (first | (go_at_call 64; (with_reducible refine (rNone_as HN.out).mono ?_); rintro e wk ⟨rfl, hb⟩; have n_ := Aside0.mk ((MS.to HM).next hb); clear HM hb; have HM := n_; clear n_; clear kgc kgi kgl kgr; have kgc := MS.c3 HM m0_; have kgr := MS.c3 HM m1_; have kgi := MS.c2 HM m2_; have kgl := MS.c5 HM m3_))
       clear sx0
       have t1 := TB.out
       go_upto_region 12 with fail
       clear t1; obtain ⟨s1, s1'⟩ := W1.out
       have n_ := Aside0.mk (HM.out.next (below_drew (Below.refl _ _))); clear HM; have HM := n_; clear n_
       clear kgc kgi kgl kgr
       refine start_ (n := 10) (S := fun w' => w'.cell? ⟨gc, 0, none⟩ = some (.slice cv.P cv.v.length cv.p) ∧ w'.cell? ⟨gc, 1, none⟩ = some (.slice cv.Q cv.m.length cv.q) ∧ w'.cell? ⟨gc, 2, none⟩ = some (.bool cv.e) ∧ w'.cell? ⟨gl, 0, none⟩ = some (.int .i64 x) ∧ w'.cell? ⟨gl, 1, none⟩ = some (.int .i64 sx) ∧ w'.cell? ⟨gl, 2, none⟩ = some (.int .i64 y) ∧ w'.cell? ⟨gl, 3, none⟩ = some (.int .i64 sy) ∧ w'.cell? ⟨gl, 4, none⟩ = some (.int .i64 c) ∧ w'.cell? ⟨gi, 1, none⟩ = some (.int .i64 b)) (ds := [9]) (mB 10 0) (by kernel_rfl) rfl (by kernel_rfl) ⟨MS.k HM m0_ 0 rfl, MS.k HM m0_ 1 rfl, MS.k HM m0_ 2 rfl, MS.k HM m3_ 0 rfl, MS.k HM m3_ 1 rfl, MS.k HM m3_ 2 rfl, MS.k HM m3_ 3 rfl, MS.k HM m3_ 4 rfl, MS.k HM m2_ 1 rfl⟩ (fun hHeld => ?_)
       refine with_tabW rguard_tab12 rguard_bits12 (fun HT_ HW_ => ?_)
       generalize hWd : World.drew _ = wk at HM hHeld ⊢; clear hWd
       refine tV_ 0 44 (mB 10 1) HT_ HW_ hHeld ?_
       refine tV_ 1 45 (mB 10 3) HT_ HW_ hHeld ?_
       refine pV_ 2 46 (mB 10 7) HT_ ?_
       refine tV_ 3 47 (mB 10 15) HT_ HW_ hHeld ?_
       refine pV_ 4 48 (mB 10 31) HT_ ?_
       refine tV_ 5 49 (mB 10 63) HT_ HW_ hHeld ?_
       refine pV_ 6 50 (mB 10 127) HT_ ?_
       refine one_ (i := 7) (N := some 51) (mB 10 255) rfl rfl (one_of HT_.out (by kernel_rfl)) (by decide) (fun K hK => ?_)
       refine goes_ Try.func68 (by kernel_rfl) rfl #[.int .i64 z1] (by rfl) rfl rfl vL ?_
       with_reducible refine (cut_as HC1.out).mono ?_
       rintro e wk ⟨rfl, hb⟩; refine ⟨_, rfl, ?_⟩
       have n_ := Aside0.mk (HM.out.next hb); clear HM hb; have HM := n_; clear n_
       refine hK.out _ _ ⟨MS.k HM m0_ 0 rfl, MS.k HM m0_ 1 rfl, MS.k HM m0_ 2 rfl, MS.k HM m3_ 0 rfl, MS.k HM m3_ 1 rfl, MS.k HM m3_ 2 rfl, MS.k HM m3_ 3 rfl, MS.k HM m3_ 4 rfl, MS.k HM m2_ 1 rfl⟩ (fun hHeld => ?_)
       clear hK K
       refine nO_ 51 ?_
       refine one_ (i := 8) (N := some 52) (mB 10 511) rfl rfl (one_of HT_.out (by kernel_rfl)) (by decide) (fun K hK => ?_)
       refine goes_ Try.func67 (by kernel_rfl) rfl #[cv.val, .agg #[.int .i64 x, .int .i64 sx, .int .i64 y, .int .i64 sy, .int .i64 c], .int .i64 u1] (by rfl) rfl rfl vL ?_
       with_reducible refine (atMost_o HM.out HCV.out L8.out SC.out HP.out SX0.out HQ.out HPQ.out B1.out).mono ?_
       rintro e wk ⟨c1, rfl, hc1, ho⟩; refine ⟨_, rfl, ?_⟩
       clear HM; have HM := Aside0.mk ho; clear ho
       refine hK.out _ _ ⟨MS.k HM m0_ 0 rfl, MS.k HM m0_ 1 rfl, MS.k HM m0_ 2 rfl, MS.k HM m3_ 0 rfl, MS.k HM m3_ 1 rfl, MS.k HM m3_ 2 rfl, MS.k HM m3_ 3 rfl, MS.k HM m3_ 4 rfl, MS.k HM m2_ 1 rfl⟩ (fun hHeld => ?_)
       clear hK K
       refine nO_ 52 ?_
       have kgc := MS.c3 HM m0_; have kgr := MS.c3 HM m1_; have kgi := MS.c2 HM m2_; have kgl := MS.c5 HM m3_
       refine last_ (i := 9) (N := none) (mB 10 1023) rfl rfl (one_of HT_.out (by kernel_rfl)) (by decide) (fun K hK => ?_)
       refine skip_ (w1 := ?_) (by rfl) rfl ?_ ?_
       rotate_left
       ·
        go_simp
        rfl
       refine hK.out _ _ ?_
       clear hK K
       refine done_ (done_of HT_.out (by kernel_rfl)) ?_
       clear HT_ HW_ hHeld
       have n_ : Aside0 (MS w [c1] [(gc, .cells #[.slice c1.P c1.v.length c1.p, .slice c1.Q c1.m.length c1.q, .bool c1.e] 25 (0, 0)), (gr, .cells #[.slice none 0 0, .slice none 0 0, .bool false] 25 (0, 0)), (gi, .cells #[.int .i64 a, .int .i64 b] 36 (0, 0)), (gl, .cells #[.int .i64 x, .int .i64 sx, .int .i64 y, .int .i64 sy, .int .i64 c] 34 (0, 0))] _) := ⟨MS.put3 [] HM.out (a' := .slice c1.P c1.v.length c1.p) (b' := .slice c1.Q c1.m.length c1.q) (c' := .bool c1.e)⟩; clear HM; have HM := n_; clear n_
       generalize hW_ : World.setCell _ _ _ = wk at HM ⊢; clear hW_
       clear kgc kgi kgl kgr; have kgc := MS.c3 HM m0_; have kgr := MS.c3 HM m1_; have kgi := MS.c2 HM m2_; have kgl := MS.c5 HM m3_
       clear s1 s1'; have H1 := Aside0.mk hc1; clear hc1
       have t2 := TA.out
       go_upto_region 18 with fail
       clear t2
       go_wp2_with (first | (go_at_call 38; (with_reducible refine (rclose_as (MS.oc HM m0_) (MS.bel HM) H1.out HFT10.out rfl).mono ?_); rintro e wk ⟨zv, rfl, hzv, ho, hb⟩; have n_ := Aside0.mk ((MS.to HM).call hb ho); clear HM ho hb; have HM := n_; clear n_; clear kgc kgi kgl kgr; have kgc := MS.c3 HM m0_; have kgr := MS.c3 HM m1_; have kgi := MS.c2 HM m2_; have kgl := MS.c5 HM m3_))
       have n_ : Aside0 (MS w [zv, c1] [(gc, .cells #[.slice c1.P c1.v.length c1.p, .slice c1.Q c1.m.length c1.q, .bool c1.e] 25 (0, 0)), (gr, .cells #[.slice zv.P zv.v.length zv.p, .slice zv.Q zv.m.length zv.q, .bool zv.e] 25 (0, 0)), (gi, .cells #[.int .i64 a, .int .i64 b] 36 (0, 0)), (gl, .cells #[.int .i64 x, .int .i64 sx, .int .i64 y, .int .i64 sy, .int .i64 c] 34 (0, 0))] _) := ⟨MS.put3 [(gc, .cells #[.slice c1.P c1.v.length c1.p, .slice c1.Q c1.m.length c1.q, .bool c1.e] 25 (0, 0))] HM.out (a' := .slice zv.P zv.v.length zv.p) (b' := .slice zv.Q zv.m.length zv.q) (c' := .bool zv.e)⟩; clear HM; have HM := n_; clear n_
       generalize hW_ : World.setCell _ _ _ = wk at HM ⊢; clear hW_
       clear kgc kgi kgl kgr; have kgc := MS.c3 HM m0_; have kgr := MS.c3 HM m1_; have kgi := MS.c2 HM m2_; have kgl := MS.c5 HM m3_
       refine bodyPost_ret (results_cell_row rfl _ _ gr 25 #[.slice zv.P zv.v.length zv.p, .slice zv.Q zv.m.length zv.q, .bool zv.e] (0, 0) _ rfl (HM.out.F.all _ m1_).1 Try.underlying25 rfl (by kernel_rfl)) rfl ?_
       exact ⟨zv, rfl, hzv, HM.out.S.own _ m0_, HM.out.S.below⟩
     ·
      have TB : Aside0 (decide (b < 4611686018427387904) = false) := ⟨decide_eq_false tb⟩
      rw [up_none (hi := b) (by omega)]
      by_cases ta : -4611686018427387904 < a
      ·
       have TA : Aside0 (decide (-4611686018427387904 < a) = true) := ⟨decide_eq_true ta⟩
       rw [e2 _ hsc ta]
       clear hX h0 fx hcl hof hof' he hc hab hge hn hsc hP hp hq hb hsx hsy hpq ba hna hsx' hsy' hz1 hz2 hu1 hu2 e1 e2 hs
       go_enter Try.func20, Try.ntmps20
       go_upto_region 1 with fail
       have HM : Aside0 (MS w [] [(w.heap.size + 3, .cells #[.slice none 0 0, .slice none 0 0, .bool false] 25 (0, 0)), (w.heap.size + 2, .cells #[.int .i64 lo, .int .i64 hi] 36 (0, 0)), (w.heap.size + 1, .cells #[.int .i64 x, .int .i64 sx, .int .i64 y, .int .i64 sy, .int .i64 c] 34 (0, 0)), (w.heap.size, .cells #[.slice X.P X.v.length X.p, .slice X.Q X.m.length X.q, .bool X.e] 25 (0, 0))] ((((w.alloc (.cells #[.slice X.P X.v.length X.p, .slice X.Q X.m.length X.q, .bool X.e] 25 (0, 0))).alloc (.cells #[.int .i64 x, .int .i64 sx, .int .i64 y, .int .i64 sy, .int .i64 c] 34 (0, 0))).alloc (.cells #[.int .i64 lo, .int .i64 hi] 36 (0, 0))).alloc (.cells #[.slice none 0 0, .slice none 0 0, .bool false] 25 (0, 0)))) := ⟨(MS.new (MS.new (MS.new (MS.new (MS.nil w) _ rfl) _ (by simp)) _ (by simp)) _ (by simp))⟩
       generalize hW_ : ((((w.alloc (.cells #[.slice X.P X.v.length X.p, .slice X.Q X.m.length X.q, .bool X.e] 25 (0, 0))).alloc (.cells #[.int .i64 x, .int .i64 sx, .int .i64 y, .int .i64 sy, .int .i64 c] 34 (0, 0))).alloc (.cells #[.int .i64 lo, .int .i64 hi] 36 (0, 0))).alloc (.cells #[.slice none 0 0, .slice none 0 0, .bool false] 25 (0, 0))) = wk at HM ⊢; clear hW_
       generalize hg_ : w.heap.size + 3 = gr at HM ⊢; clear hg_
       generalize hg_ : w.heap.size + 2 = gi at HM ⊢; clear hg_
       generalize hg_ : w.heap.size + 1 = gl at HM ⊢; clear hg_
       generalize hg_ : w.heap.size = go at HM ⊢; clear hg_
       have kgr := MS.c3 HM m0_; have kgi := MS.c2 HM m1_; have kgl := MS.c5 HM m2_; have kgo := MS.c3 HM m3_
       go_upto_region 2 with (first | (go_at_call 38; (with_reducible refine (rclose_as (Oc.now HX (MS.bel HM)) (Below.refl _ _) rfl FX_.out HC.out).mono ?_); rintro e wk ⟨cv, rfl, hcv, ho, hb⟩; have n_ := Aside0.mk ((MS.to HM).call hb ho); clear HM ho hb; have HM := n_; clear n_; clear kgi kgl kgo kgr; have kgr := MS.c3 HM m0_; have kgi := MS.c2 HM m1_; have kgl := MS.c5 HM m2_; have kgo := MS.c3 HM m3_) | ((with_reducible refine gate_dst (N := 7) rfl ?_); refine box_event ?hg (N := 7) ?hd (cs := #[.slice none 0 0, .slice none 0 0, .bool false]) (t := 25) ?hr ?_; (case hd => rfl); (case hg => rfl); (case hr => first | (go_simp; done) | (go_simp; rfl)); intro gc hg wk hbox hb; have n_ := Aside0.mk ((MS.to HM).made hg hbox hb); clear HM hg hbox hb; have HM := n_; clear n_; clear kgi kgl kgo kgr; have kgc := MS.c3 HM m0_; have kgr := MS.c3 HM m1_; have kgi := MS.c2 HM m2_; have kgl := MS.c5 HM m3_; have kgo := MS.c3 HM m4_))
       have n_ : Aside0 (MS w [cv] [(gc, .cells #[.slice none 0 0, .slice none 0 0, .bool false] 25 (0, 0)), (gr, .cells #[.slice none 0 0, .slice none 0 0, .bool false] 25 (0, 0)), (gi, .cells #[.int .i64 lo, .int .i64 hi] 36 (0, 0)), (gl, .cells #[.int .i64 x, .int .i64 sx, .int .i64 y, .int .i64 sy, .int .i64 c] 34 (0, 0))] _) := ⟨HM.out.sub (List.Sublist.refl _) (.cons_cons _ (.cons_cons _ (.cons_cons _ (.cons_cons _ (.cons _ .slnil)))))⟩; clear HM; have HM := n_; clear n_
       clear kgc kgi kgl kgo kgr; have kgc := MS.c3 HM m0_; have kgr := MS.c3 HM m1_; have kgi := MS.c2 HM m2_; have kgl := MS.c5 HM m3_
       have n_ : Aside0 (MS w [cv] [(gc, .cells #[.slice cv.P cv.v.length cv.p, .slice cv.Q cv.m.length cv.q, .bool cv.e] 25 (0, 0)), (gr, .cells #[.slice none 0 0, .slice none 0 0, .bool false] 25 (0, 0)), (gi, .cells #[.int .i64 lo, .int .i64 hi] 36 (0, 0)), (gl, .cells #[.int .i64 x, .int .i64 sx, .int .i64 y, .int .i64 sy, .int .i64 c] 34 (0, 0))] _) := ⟨MS.put3 [] HM.out (a' := .slice cv.P cv.v.length cv.p) (b' := .slice cv.Q cv.m.length cv.q) (c' := .bool cv.e)⟩; clear HM; have HM := n_; clear n_
       generalize hW_ : World.setCell _ _ _ = wk at HM ⊢; clear hW_
       clear kgc kgi kgl kgr; have kgc := MS.c3 HM m0_; have kgr := MS.c3 HM m1_; have kgi := MS.c2 HM m2_; have kgl := MS.c5 HM m3_
       have HCV := Aside0.mk hcv; clear hcv
       have hem : cv.e = false := congrArg (·.2.2) HCV.out
       go_upto_region 4 with (first | (go_at_call 62; (with_reducible refine (among_asE (MS.oc HM m0_) (MS.bel HM) HCV.out LK.out HOF.out (congrArg (·.2.2) HCV.out)).mono ?_); rintro e wk ⟨rfl, hb⟩; have n_ := Aside0.mk ((MS.to HM).next hb); clear HM hb; have HM := n_; clear n_; clear kgc kgi kgl kgr; have kgc := MS.c3 HM m0_; have kgr := MS.c3 HM m1_; have kgi := MS.c2 HM m2_; have kgl := MS.c5 HM m3_))
       clear hem
       go_upto_region 5 with (first | (go_at_call 63; (with_reducible refine (ritvOf_as HIT.out).mono ?_); rintro e wk ⟨rfl, hb⟩; have n_ := Aside0.mk ((MS.to HM).next hb); clear HM hb; have HM := n_; clear n_; clear kgc kgi kgl kgr; have kgc := MS.c3 HM m0_; have kgr := MS.c3 HM m1_; have kgi := MS.c2 HM m2_; have kgl := MS.c5 HM m3_))
       have n_ : Aside0 (MS w [cv] [(gc, .cells #[.slice cv.P cv.v.length cv.p, .slice cv.Q cv.m.length cv.q, .bool cv.e] 25 (0, 0)), (gr, .cells #[.slice none 0 0, .slice none 0 0, .bool false] 25 (0, 0)), (gi, .cells #[.int .i64 a, .int .i64 b] 36 (0, 0)), (gl, .cells #[.int .i64 x, .int .i64 sx, .int .i64 y, .int .i64 sy, .int .i64 c] 34 (0, 0))] _) := ⟨MS.put2 [(gc, .cells #[.slice cv.P cv.v.length cv.p, .slice cv.Q cv.m.length cv.q, .bool cv.e] 25 (0, 0)), (gr, .cells #[.slice none 0 0, .slice none 0 0, .bool false] 25 (0, 0))] HM.out (a' := .int .i64 a) (b' := .int .i64 b)⟩; clear HM; have HM := n_; clear n_
       generalize hW_ : World.setCell _ _ _ = wk at HM ⊢; clear hW_
       clear kgc kgi kgl kgr; have kgc := MS.c3 HM m0_; have kgr := MS.c3 HM m1_; have kgi := MS.c2 HM m2_; have kgl := MS.c5 HM m3_
       have sx0 := HSX.out
       go_upto_region 11 with (first | (go_at_call 64; (with_reducible refine (rNone_as HN.out).mono ?_); rintro e wk ⟨rfl, hb⟩; have n_ := Aside0.mk ((MS.to HM).next hb); clear HM hb; have HM := n_; clear n_; clear kgc kgi kgl kgr; have kgc := MS.c3 HM m0_; have kgr := MS.c3 HM m1_; have kgi := MS.c2 HM m2_; have kgl := MS.c5 HM m3_))
       clear sx0
       have t1 := TB.out
       have t2 := TA.out
       go_upto_region 14 with fail
       clear t2 t1
       go_upto_region 15 with (first | ((with_reducible refine gate_dst (N := 8) rfl ?_); refine box_event ?hg (N := 8) ?hd (cs := #[.int .i64 0, .int .i64 0, .int .i64 0, .int .i64 0, .int .i64 0]) (t := 34) ?hr ?_; (case hd => rfl); (case hg => rfl); (case hr => first | (go_simp; done) | (go_simp; rfl)); intro gm hg wk hbox hb; have n_ := Aside0.mk ((MS.to HM).made hg hbox hb); clear HM hg hbox hb; have HM := n_; clear n_; clear kgc kgi kgl kgr; have kgm := MS.c5 HM m0_; have kgc := MS.c3 HM m1_; have kgr := MS.c3 HM m2_; have kgi := MS.c2 HM m3_; have kgl := MS.c5 HM m4_))
       have n_ : Aside0 (MS w [cv] [(gm, .cells #[.int .i64 x, .int .i64 sx, .int .i64 y, .int .i64 sy, .int .i64 c] 34 (0, 0)), (gc, .cells #[.slice cv.P cv.v.length cv.p, .slice cv.Q cv.m.length cv.q, .bool cv.e] 25 (0, 0)), (gr, .cells #[.slice none 0 0, .slice none 0 0, .bool false] 25 (0, 0)), (gi, .cells #[.int .i64 a, .int .i64 b] 36 (0, 0)), (gl, .cells #[.int .i64 x, .int .i64 sx, .int .i64 y, .int .i64 sy, .int .i64 c] 34 (0, 0))] _) := ⟨MS.put5 [] HM.out (a' := .int .i64 x) (b' := .int .i64 sx) (c' := .int .i64 y) (d' := .int .i64 sy) (f' := .int .i64 c)⟩; clear HM; have HM := n_; clear n_
       generalize hW_ : World.setCell _ _ _ = wk at HM ⊢; clear hW_
       clear kgc kgi kgl kgm kgr; have kgm := MS.c5 HM m0_; have kgc := MS.c3 HM m1_; have kgr := MS.c3 HM m2_; have kgi := MS.c2 HM m3_; have kgl := MS.c5 HM m4_
       obtain ⟨s1, s1'⟩ := WS.out; obtain ⟨s2, s2'⟩ := WT.out
       go_upto_region 16 with fail
       have n_ : Aside0 (MS w [cv] [(gm, .cells #[.int .i64 x, .int .i64 sx', .int .i64 y, .int .i64 sy, .int .i64 c] 34 (0, 0)), (gc, .cells #[.slice cv.P cv.v.length cv.p, .slice cv.Q cv.m.length cv.q, .bool cv.e] 25 (0, 0)), (gr, .cells #[.slice none 0 0, .slice none 0 0, .bool false] 25 (0, 0)), (gi, .cells #[.int .i64 a, .int .i64 b] 36 (0, 0)), (gl, .cells #[.int .i64 x, .int .i64 sx, .int .i64 y, .int .i64 sy, .int .i64 c] 34 (0, 0))] _) := ⟨MS.put [] HM.out 1 (.int .i64 sx') rfl⟩; clear HM; have HM := n_; clear n_
       generalize hW_ : World.setCell _ _ _ = wk at HM ⊢; clear hW_
       clear kgc kgi kgl kgm kgr; have kgm := MS.c5 HM m0_; have kgc := MS.c3 HM m1_; have kgr := MS.c3 HM m2_; have kgi := MS.c2 HM m3_; have kgl := MS.c5 HM m4_
       go_upto_region 17 with fail
       have n_ : Aside0 (MS w [cv] [(gm, .cells #[.int .i64 x, .int .i64 sx', .int .i64 y, .int .i64 sy', .int .i64 c] 34 (0, 0)), (gc, .cells #[.slice cv.P cv.v.length cv.p, .slice cv.Q cv.m.length cv.q, .bool cv.e] 25 (0, 0)), (gr, .cells #[.slice none 0 0, .slice none 0 0, .bool false] 25 (0, 0)), (gi, .cells #[.int .i64 a, .int .i64 b] 36 (0, 0)), (gl, .cells #[.int .i64 x, .int .i64 sx, .int .i64 y, .int .i64 sy, .int .i64 c] 34 (0, 0))] _) := ⟨MS.put [] HM.out 3 (.int .i64 sy') rfl⟩; clear HM; have HM := n_; clear n_
       generalize hW_ : World.setCell _ _ _ = wk at HM ⊢; clear hW_
       clear kgc kgi kgl kgm kgr; have kgm := MS.c5 HM m0_; have kgc := MS.c3 HM m1_; have kgr := MS.c3 HM m2_; have kgi := MS.c2 HM m3_; have kgl := MS.c5 HM m4_
       clear s1 s1' s2 s2'; obtain ⟨s1, s1'⟩ := W2.out
       have n_ := Aside0.mk (HM.out.next (below_drew (Below.refl _ _))); clear HM; have HM := n_; clear n_
       clear kgc kgi kgl kgm kgr
       refine start_ (n := 10) (S := fun w' => w'.cell? ⟨gc, 0, none⟩ = some (.slice cv.P cv.v.length cv.p) ∧ w'.cell? ⟨gc, 1, none⟩ = some (.slice cv.Q cv.m.length cv.q) ∧ w'.cell? ⟨gc, 2, none⟩ = some (.bool cv.e) ∧ w'.cell? ⟨gm, 0, none⟩ = some (.int .i64 x) ∧ w'.cell? ⟨gm, 1, none⟩ = some (.int .i64 sx') ∧ w'.cell? ⟨gm, 2, none⟩ = some (.int .i64 y) ∧ w'.cell? ⟨gm, 3, none⟩ = some (.int .i64 sy') ∧ w'.cell? ⟨gm, 4, none⟩ = some (.int .i64 c) ∧ w'.cell? ⟨gl, 4, none⟩ = some (.int .i64 c) ∧ w'.cell? ⟨gi, 0, none⟩ = some (.int .i64 a)) (ds := [9]) (mB 10 0) (by kernel_rfl) rfl (by kernel_rfl) ⟨MS.k HM m1_ 0 rfl, MS.k HM m1_ 1 rfl, MS.k HM m1_ 2 rfl, MS.k HM m0_ 0 rfl, MS.k HM m0_ 1 rfl, MS.k HM m0_ 2 rfl, MS.k HM m0_ 3 rfl, MS.k HM m0_ 4 rfl, MS.k HM m4_ 4 rfl, MS.k HM m3_ 0 rfl⟩ (fun hHeld => ?_)
       refine with_tabW rguard_tab17 rguard_bits17 (fun HT_ HW_ => ?_)
       generalize hWd : World.drew _ = wk at HM hHeld ⊢; clear hWd
       refine tV_ 0 65 (mB 10 1) HT_ HW_ hHeld ?_
       refine tV_ 1 66 (mB 10 3) HT_ HW_ hHeld ?_
       refine pV_ 2 67 (mB 10 7) HT_ ?_
       refine tV_ 3 68 (mB 10 15) HT_ HW_ hHeld ?_
       refine pV_ 4 69 (mB 10 31) HT_ ?_
       refine tV_ 5 70 (mB 10 63) HT_ HW_ hHeld ?_
       refine pV_ 6 71 (mB 10 127) HT_ ?_
       refine one_ (i := 7) (N := some 72) (mB 10 255) rfl rfl (one_of HT_.out (by kernel_rfl)) (by decide) (fun K hK => ?_)
       refine goes_ Try.func68 (by kernel_rfl) rfl #[.int .i64 z2] (by rfl) rfl rfl vL ?_
       with_reducible refine (cut_as HC2.out).mono ?_
       rintro e wk ⟨rfl, hb⟩; refine ⟨_, rfl, ?_⟩
       have n_ := Aside0.mk (HM.out.next hb); clear HM hb; have HM := n_; clear n_
       refine hK.out _ _ ⟨MS.k HM m1_ 0 rfl, MS.k HM m1_ 1 rfl, MS.k HM m1_ 2 rfl, MS.k HM m0_ 0 rfl, MS.k HM m0_ 1 rfl, MS.k HM m0_ 2 rfl, MS.k HM m0_ 3 rfl, MS.k HM m0_ 4 rfl, MS.k HM m4_ 4 rfl, MS.k HM m3_ 0 rfl⟩ (fun hHeld => ?_)
       clear hK K
       refine nO_ 72 ?_
       refine one_ (i := 8) (N := some 73) (mB 10 511) rfl rfl (one_of HT_.out (by kernel_rfl)) (by decide) (fun K hK => ?_)
       refine goes_ Try.func67 (by kernel_rfl) rfl #[cv.val, .agg #[.int .i64 x, .int .i64 sx', .int .i64 y, .int .i64 sy', .int .i64 c], .int .i64 u2] (by rfl) rfl rfl vL ?_
       with_reducible refine (atMost_o HM.out HCV.out L8.out SC.out HP.out SX0'.out HQ'.out HPQ'.out B2.out).mono ?_
       rintro e wk ⟨c2, rfl, hc2, ho⟩; refine ⟨_, rfl, ?_⟩
       clear HM; have HM := Aside0.mk ho; clear ho
       refine hK.out _ _ ⟨MS.k HM m1_ 0 rfl, MS.k HM m1_ 1 rfl, MS.k HM m1_ 2 rfl, MS.k HM m0_ 0 rfl, MS.k HM m0_ 1 rfl, MS.k HM m0_ 2 rfl, MS.k HM m0_ 3 rfl, MS.k HM m0_ 4 rfl, MS.k HM m4_ 4 rfl, MS.k HM m3_ 0 rfl⟩ (fun hHeld => ?_)
       clear hK K
       refine nO_ 73 ?_
       have kgm := MS.c5 HM m0_; have kgc := MS.c3 HM m1_; have kgr := MS.c3 HM m2_; have kgi := MS.c2 HM m3_; have kgl := MS.c5 HM m4_
       refine last_ (i := 9) (N := none) (mB 10 1023) rfl rfl (one_of HT_.out (by kernel_rfl)) (by decide) (fun K hK => ?_)
       refine skip_ (w1 := ?_) (by rfl) rfl ?_ ?_
       rotate_left
       ·
        go_simp
        rfl
       refine hK.out _ _ ?_
       clear hK K
       refine done_ (done_of HT_.out (by kernel_rfl)) ?_
       clear HT_ HW_ hHeld
       have n_ : Aside0 (MS w [c2] [(gm, .cells #[.int .i64 x, .int .i64 sx', .int .i64 y, .int .i64 sy', .int .i64 c] 34 (0, 0)), (gc, .cells #[.slice c2.P c2.v.length c2.p, .slice c2.Q c2.m.length c2.q, .bool c2.e] 25 (0, 0)), (gr, .cells #[.slice none 0 0, .slice none 0 0, .bool false] 25 (0, 0)), (gi, .cells #[.int .i64 a, .int .i64 b] 36 (0, 0)), (gl, .cells #[.int .i64 x, .int .i64 sx, .int .i64 y, .int .i64 sy, .int .i64 c] 34 (0, 0))] _) := ⟨MS.put3 [(gm, .cells #[.int .i64 x, .int .i64 sx', .int .i64 y, .int .i64 sy', .int .i64 c] 34 (0, 0))] HM.out (a' := .slice c2.P c2.v.length c2.p) (b' := .slice c2.Q c2.m.length c2.q) (c' := .bool c2.e)⟩; clear HM; have HM := n_; clear n_
       generalize hW_ : World.setCell _ _ _ = wk at HM ⊢; clear hW_
       clear kgc kgi kgl kgm kgr; have kgm := MS.c5 HM m0_; have kgc := MS.c3 HM m1_; have kgr := MS.c3 HM m2_; have kgi := MS.c2 HM m3_; have kgl := MS.c5 HM m4_
       clear s1 s1'; have H2 := Aside0.mk hc2; clear hc2
       go_wp2_with (first | (go_at_call 38; (with_reducible refine (rclose_as (MS.oc HM m0_) (MS.bel HM) H2.out HFT01.out rfl).mono ?_); rintro e wk ⟨zv, rfl, hzv, ho, hb⟩; have n_ := Aside0.mk ((MS.to HM).call hb ho); clear HM ho hb; have HM := n_; clear n_; clear kgc kgi kgl kgm kgr; have kgm := MS.c5 HM m0_; have kgc := MS.c3 HM m1_; have kgr := MS.c3 HM m2_; have kgi := MS.c2 HM m3_; have kgl := MS.c5 HM m4_))
       have n_ : Aside0 (MS w [zv, c2] [(gm, .cells #[.int .i64 x, .int .i64 sx', .int .i64 y, .int .i64 sy', .int .i64 c] 34 (0, 0)), (gc, .cells #[.slice c2.P c2.v.length c2.p, .slice c2.Q c2.m.length c2.q, .bool c2.e] 25 (0, 0)), (gr, .cells #[.slice zv.P zv.v.length zv.p, .slice zv.Q zv.m.length zv.q, .bool zv.e] 25 (0, 0)), (gi, .cells #[.int .i64 a, .int .i64 b] 36 (0, 0)), (gl, .cells #[.int .i64 x, .int .i64 sx, .int .i64 y, .int .i64 sy, .int .i64 c] 34 (0, 0))] _) := ⟨MS.put3 [(gm, .cells #[.int .i64 x, .int .i64 sx', .int .i64 y, .int .i64 sy', .int .i64 c] 34 (0, 0)), (gc, .cells #[.slice c2.P c2.v.length c2.p, .slice c2.Q c2.m.length c2.q, .bool c2.e] 25 (0, 0))] HM.out (a' := .slice zv.P zv.v.length zv.p) (b' := .slice zv.Q zv.m.length zv.q) (c' := .bool zv.e)⟩; clear HM; have HM := n_; clear n_
       generalize hW_ : World.setCell _ _ _ = wk at HM ⊢; clear hW_
       clear kgc kgi kgl kgm kgr; have kgm := MS.c5 HM m0_; have kgc := MS.c3 HM m1_; have kgr := MS.c3 HM m2_; have kgi := MS.c2 HM m3_; have kgl := MS.c5 HM m4_
       refine bodyPost_ret (results_cell_row rfl _ _ gr 25 #[.slice zv.P zv.v.length zv.p, .slice zv.Q zv.m.length zv.q, .bool zv.e] (0, 0) _ rfl (HM.out.F.all _ m2_).1 Try.underlying25 rfl (by kernel_rfl)) rfl ?_
       exact ⟨zv, rfl, hzv, HM.out.S.own _ m0_, HM.out.S.below⟩
      ·
       have TA : Aside0 (decide (-4611686018427387904 < a) = false) := ⟨decide_eq_false ta⟩
       rw [up_none (hi := -a) (by omega)]
       clear hX h0 fx hcl hof hof' he hc hab hge hn hsc hP hp hq hb hsx hsy hpq ba hna hsx' hsy' hz1 hz2 hu1 hu2 e1 e2 hs
       go_enter Try.func20, Try.ntmps20
       go_upto_region 1 with fail
       have HM : Aside0 (MS w [] [(w.heap.size + 3, .cells #[.slice none 0 0, .slice none 0 0, .bool false] 25 (0, 0)), (w.heap.size + 2, .cells #[.int .i64 lo, .int .i64 hi] 36 (0, 0)), (w.heap.size + 1, .cells #[.int .i64 x, .int .i64 sx, .int .i64 y, .int .i64 sy, .int .i64 c] 34 (0, 0)), (w.heap.size, .cells #[.slice X.P X.v.length X.p, .slice X.Q X.m.length X.q, .bool X.e] 25 (0, 0))] ((((w.alloc (.cells #[.slice X.P X.v.length X.p, .slice X.Q X.m.length X.q, .bool X.e] 25 (0, 0))).alloc (.cells #[.int .i64 x, .int .i64 sx, .int .i64 y, .int .i64 sy, .int .i64 c] 34 (0, 0))).alloc (.cells #[.int .i64 lo, .int .i64 hi] 36 (0, 0))).alloc (.cells #[.slice none 0 0, .slice none 0 0, .bool false] 25 (0, 0)))) := ⟨(MS.new (MS.new (MS.new (MS.new (MS.nil w) _ rfl) _ (by simp)) _ (by simp)) _ (by simp))⟩
       generalize hW_ : ((((w.alloc (.cells #[.slice X.P X.v.length X.p, .slice X.Q X.m.length X.q, .bool X.e] 25 (0, 0))).alloc (.cells #[.int .i64 x, .int .i64 sx, .int .i64 y, .int .i64 sy, .int .i64 c] 34 (0, 0))).alloc (.cells #[.int .i64 lo, .int .i64 hi] 36 (0, 0))).alloc (.cells #[.slice none 0 0, .slice none 0 0, .bool false] 25 (0, 0))) = wk at HM ⊢; clear hW_
       generalize hg_ : w.heap.size + 3 = gr at HM ⊢; clear hg_
       generalize hg_ : w.heap.size + 2 = gi at HM ⊢; clear hg_
       generalize hg_ : w.heap.size + 1 = gl at HM ⊢; clear hg_
       generalize hg_ : w.heap.size = go at HM ⊢; clear hg_
       have kgr := MS.c3 HM m0_; have kgi := MS.c2 HM m1_; have kgl := MS.c5 HM m2_; have kgo := MS.c3 HM m3_
       go_upto_region 2 with (first | (go_at_call 38; (with_reducible refine (rclose_as (Oc.now HX (MS.bel HM)) (Below.refl _ _) rfl FX_.out HC.out).mono ?_); rintro e wk ⟨cv, rfl, hcv, ho, hb⟩; have n_ := Aside0.mk ((MS.to HM).call hb ho); clear HM ho hb; have HM := n_; clear n_; clear kgi kgl kgo kgr; have kgr := MS.c3 HM m0_; have kgi := MS.c2 HM m1_; have kgl := MS.c5 HM m2_; have kgo := MS.c3 HM m3_) | ((with_reducible refine gate_dst (N := 7) rfl ?_); refine box_event ?hg (N := 7) ?hd (cs := #[.slice none 0 0, .slice none 0 0, .bool false]) (t := 25) ?hr ?_; (case hd => rfl); (case hg => rfl); (case hr => first | (go_simp; done) | (go_simp; rfl)); intro gc hg wk hbox hb; have n_ := Aside0.mk ((MS.to HM).made hg hbox hb); clear HM hg hbox hb; have HM := n_; clear n_; clear kgi kgl kgo kgr; have kgc := MS.c3 HM m0_; have kgr := MS.c3 HM m1_; have kgi := MS.c2 HM m2_; have kgl := MS.c5 HM m3_; have kgo := MS.c3 HM m4_))
       have n_ : Aside0 (MS w [cv] [(gc, .cells #[.slice none 0 0, .slice none 0 0, .bool false] 25 (0, 0)), (gr, .cells #[.slice none 0 0, .slice none 0 0, .bool false] 25 (0, 0)), (gi, .cells #[.int .i64 lo, .int .i64 hi] 36 (0, 0)), (gl, .cells #[.int .i64 x, .int .i64 sx, .int .i64 y, .int .i64 sy, .int .i64 c] 34 (0, 0))] _) := ⟨HM.out.sub (List.Sublist.refl _) (.cons_cons _ (.cons_cons _ (.cons_cons _ (.cons_cons _ (.cons _ .slnil)))))⟩; clear HM; have HM := n_; clear n_
       clear kgc kgi kgl kgo kgr; have kgc := MS.c3 HM m0_; have kgr := MS.c3 HM m1_; have kgi := MS.c2 HM m2_; have kgl := MS.c5 HM m3_
       have n_ : Aside0 (MS w [cv] [(gc, .cells #[.slice cv.P cv.v.length cv.p, .slice cv.Q cv.m.length cv.q, .bool cv.e] 25 (0, 0)), (gr, .cells #[.slice none 0 0, .slice none 0 0, .bool false] 25 (0, 0)), (gi, .cells #[.int .i64 lo, .int .i64 hi] 36 (0, 0)), (gl, .cells #[.int .i64 x, .int .i64 sx, .int .i64 y, .int .i64 sy, .int .i64 c] 34 (0, 0))] _) := ⟨MS.put3 [] HM.out (a' := .slice cv.P cv.v.length cv.p) (b' := .slice cv.Q cv.m.length cv.q) (c' := .bool cv.e)⟩; clear HM; have HM := n_; clear n_
       generalize hW_ : World.setCell _ _ _ = wk at HM ⊢; clear hW_
       clear kgc kgi kgl kgr; have kgc := MS.c3 HM m0_; have kgr := MS.c3 HM m1_; have kgi := MS.c2 HM m2_; have kgl := MS.c5 HM m3_
       have HCV := Aside0.mk hcv; clear hcv
       have hem : cv.e = false := congrArg (·.2.2) HCV.out
       go_upto_region 4 with (first | (go_at_call 62; (with_reducible refine (among_asE (MS.oc HM m0_) (MS.bel HM) HCV.out LK.out HOF.out (congrArg (·.2.2) HCV.out)).mono ?_); rintro e wk ⟨rfl, hb⟩; have n_ := Aside0.mk ((MS.to HM).next hb); clear HM hb; have HM := n_; clear n_; clear kgc kgi kgl kgr; have kgc := MS.c3 HM m0_; have kgr := MS.c3 HM m1_; have kgi := MS.c2 HM m2_; have kgl := MS.c5 HM m3_))
       clear hem
       go_upto_region 5 with (first | (go_at_call 63; (with_reducible refine (ritvOf_as HIT.out).mono ?_); rintro e wk ⟨rfl, hb⟩; have n_ := Aside0.mk ((MS.to HM).next hb); clear HM hb; have HM := n_; clear n_; clear kgc kgi kgl kgr; have kgc := MS.c3 HM m0_; have kgr := MS.c3 HM m1_; have kgi := MS.c2 HM m2_; have kgl := MS.c5 HM m3_))
       have n_ : Aside0 (MS w [cv] [(gc, .cells #[.slice cv.P cv.v.length cv.p, .slice cv.Q cv.m.length cv.q, .bool cv.e] 25 (0, 0)), (gr, .cells #[.slice none 0 0, .slice none 0 0, .bool false] 25 (0, 0)), (gi, .cells #[.int .i64 a, .int .i64 b] 36 (0, 0)), (gl, .cells #[.int .i64 x, .int .i64 sx, .int .i64 y, .int .i64 sy, .int .i64 c] 34 (0, 0))] _) := ⟨MS.put2 [(gc, .cells #[.slice cv.P cv.v.length cv.p, .slice cv.Q cv.m.length cv.q, .bool cv.e] 25 (0, 0)), (gr, .cells #[.slice none 0 0, .slice none 0 0, .bool false] 25 (0, 0))] HM.out (a' := .int .i64 a) (b' := .int .i64 b)⟩; clear HM; have HM := n_; clear n_
       generalize hW_ : World.setCell _ _ _ = wk at HM ⊢; clear hW_
       clear kgc kgi kgl kgr; have kgc := MS.c3 HM m0_; have kgr := MS.c3 HM m1_; have kgi := MS.c2 HM m2_; have kgl := MS.c5 HM m3_
       have sx0 := HSX.out
       go_upto_region 11 with (first | (go_at_call 64; (with_reducible refine (rNone_as HN.out).mono ?_); rintro e wk ⟨rfl, hb⟩; have n_ := Aside0.mk ((MS.to HM).next hb); clear HM hb; have HM := n_; clear n_; clear kgc kgi kgl kgr; have kgc := MS.c3 HM m0_; have kgr := MS.c3 HM m1_; have kgi := MS.c2 HM m2_; have kgl := MS.c5 HM m3_))
       clear sx0
       have t1 := TB.out
       have t2 := TA.out
       go_upto_region 18 with fail
       clear t2 t1
       go_wp2_with (first | (go_at_call 38; (with_reducible refine (rclose_as (MS.oc HM m0_) (MS.bel HM) HCV.out HFT00.out rfl).mono ?_); rintro e wk ⟨zv, rfl, hzv, ho, hb⟩; have n_ := Aside0.mk ((MS.to HM).call hb ho); clear HM ho hb; have HM := n_; clear n_; clear kgc kgi kgl kgr; have kgc := MS.c3 HM m0_; have kgr := MS.c3 HM m1_; have kgi := MS.c2 HM m2_; have kgl := MS.c5 HM m3_))
       have n_ : Aside0 (MS w [zv, cv] [(gc, .cells #[.slice cv.P cv.v.length cv.p, .slice cv.Q cv.m.length cv.q, .bool cv.e] 25 (0, 0)), (gr, .cells #[.slice zv.P zv.v.length zv.p, .slice zv.Q zv.m.length zv.q, .bool zv.e] 25 (0, 0)), (gi, .cells #[.int .i64 a, .int .i64 b] 36 (0, 0)), (gl, .cells #[.int .i64 x, .int .i64 sx, .int .i64 y, .int .i64 sy, .int .i64 c] 34 (0, 0))] _) := ⟨MS.put3 [(gc, .cells #[.slice cv.P cv.v.length cv.p, .slice cv.Q cv.m.length cv.q, .bool cv.e] 25 (0, 0))] HM.out (a' := .slice zv.P zv.v.length zv.p) (b' := .slice zv.Q zv.m.length zv.q) (c' := .bool zv.e)⟩; clear HM; have HM := n_; clear n_
       generalize hW_ : World.setCell _ _ _ = wk at HM ⊢; clear hW_
       clear kgc kgi kgl kgr; have kgc := MS.c3 HM m0_; have kgr := MS.c3 HM m1_; have kgi := MS.c2 HM m2_; have kgl := MS.c5 HM m3_
       refine bodyPost_ret (results_cell_row rfl _ _ gr 25 #[.slice zv.P zv.v.length zv.p, .slice zv.Q zv.m.length zv.q, .bool zv.e] (0, 0) _ rfl (HM.out.F.all _ m1_).1 Try.underlying25 rfl (by kernel_rfl)) rfl ?_
       exact ⟨zv, rfl, hzv, HM.out.S.own _ m0_, HM.out.S.below⟩
theorem rguard_as {w W : World} {x : OV} {v m : List Int} {e : Bool} {a : Tri} (hx : Oc w W x) (hb : Below w.heap.size w W) (ho : x.o = (v, m, e)) (fx : OFit v m e) (lx sx y sy c lo hi : Int) (ha : guardF v m e lx sx y sy c lo hi = a) :
 Calls Try.prog 20 #[x.val, .agg #[.int .i64 lx, .int .i64 sx, .int .i64 y, .int .i64 sy, .int .i64 c], .agg #[.int .i64 lo, .int .i64 hi]] W fun e W' => ∃ z : OV, e = .returned z.val ∧ z.o = a ∧ Own W W' z ∧ Below W.heap.size W W' := by
 obtain ⟨P, p, Q, q, v', m', e'⟩ := x
 cases ho
 rw [← ha]; exact rguard_own _ lx sx y sy c lo hi hx hb fx
end Go.Proofs.Ytphfchbggechhaa.QO
end
end
section
noncomputable section
namespace Go.Proofs.Ytphfchbggechhaa.QO
open Go.RowKit Go.Shelf Go.Proofs.YtphfchbggechhaaW.PrintWords Go.Proofs.YtphfchbggechhaaW.PrintLast Go.Proofs.YtphfchbggechhaaW.PrintMore
open Go.Proofs.Ytphfchbggechhaa.Pure
attribute [local go_sem] Oper.semAt_some
attribute [local go_sem ↓] Go.wp_at_zero Go.wp_at_succ
set_option linter.unusedVariables false
set_option linter.unusedSimpArgs false
def octopGuards_T8 : Bool × List (List Nat × List Nat) := (true, [([], []), ([], []), ([], []), ([], []), ([1, 2, 3], [1, 2, 3]), ([0, 4, 4], [0, 4]), ([5, 5], [5]), ([6, 6], [6]), ([6, 7], [6, 7]), ([8, 7, 0, 1, 2, 3, 4, 5, 6, 7, 8], [8])])
def octopGuards_B8 : List Nat := [0, 0, 0, 0, 14, 31, 63, 127, 255, 511]
theorem octopGuards_tab8 : rtab .any (opsOf Try.f4 8) = octopGuards_T8 := by kernel_rfl
theorem octopGuards_bits8 : waitsOk octopGuards_T8.2 octopGuards_B8 = true := by kernel_rfl
set_option maxHeartbeats 16000000 in
set_option maxRecDepth 100000 in
theorem octopGuards_w (AW : ∀ W : World, Says 13 #[] W (.bool true)) (X : OV) (lx sx y sy c lo hi : Int) (w : World) (hX : Oc w w X) (lenx : X.v.length ≤ 17592186044416) : Says 4 #[X.val, .agg #[.int .i64 lx, .int .i64 sx, .int .i64 y, .int .i64 sy, .int .i64 c], .agg #[.int .i64 lo, .int .i64 hi]] w (.bool true) := by
 have hu25 := Try.underlying25
 have hu34 := Try.underlying34
 have hu36 := Try.underlying36
 have HX := Aside0.mk hX
 have LX := Aside0.mk lenx
 cases hfit : ofitB X.v X.m X.e with
 | false =>
  have HFT := Aside0.mk hfit
  clear hX lenx hfit
  go_enter Try.func4, Try.ntmps4
  go_upto_region 1 with fail
  have HM : Aside0 (MS w [] [(w.heap.size + 2, .cells #[.int .i64 lo, .int .i64 hi] 36 (0, 0)), (w.heap.size + 1, .cells #[.int .i64 lx, .int .i64 sx, .int .i64 y, .int .i64 sy, .int .i64 c] 34 (0, 0)), (w.heap.size, .cells #[.slice X.P X.v.length X.p, .slice X.Q X.m.length X.q, .bool X.e] 25 (0, 0))] (((w.alloc (.cells #[.slice X.P X.v.length X.p, .slice X.Q X.m.length X.q, .bool X.e] 25 (0, 0))).alloc (.cells #[.int .i64 lx, .int .i64 sx, .int .i64 y, .int .i64 sy, .int .i64 c] 34 (0, 0))).alloc (.cells #[.int .i64 lo, .int .i64 hi] 36 (0, 0)))) := ⟨(MS.new (MS.new (MS.new (MS.nil w) _ rfl) _ (by simp)) _ (by simp))⟩
  generalize hW_ : (((w.alloc (.cells #[.slice X.P X.v.length X.p, .slice X.Q X.m.length X.q, .bool X.e] 25 (0, 0))).alloc (.cells #[.int .i64 lx, .int .i64 sx, .int .i64 y, .int .i64 sy, .int .i64 c] 34 (0, 0))).alloc (.cells #[.int .i64 lo, .int .i64 hi] 36 (0, 0))) = wk at HM ⊢; clear hW_
  generalize hg_ : w.heap.size + 2 = gi at HM ⊢; clear hg_
  generalize hg_ : w.heap.size + 1 = gl at HM ⊢; clear hg_
  generalize hg_ : w.heap.size = go at HM ⊢; clear hg_
  obtain ⟨kgi0, kgi1, fgi0, fgi1⟩ := MS.c2 HM m0_; obtain ⟨kgl0, kgl1, kgl2, kgl3, kgl4, fgl0, fgl1, fgl2, fgl3, fgl4⟩ := MS.c5 HM m1_; obtain ⟨kgo0, kgo1, kgo2, fgo0, fgo1, fgo2⟩ := MS.c3 HM m2_
  go_wp2_with (first | (go_at_call 12; (with_reducible refine (rfit_o (Oc.now HX (MS.bel HM)) (Below.refl _ _) LX.out HFT.out).mono ?_); rintro e wk ⟨rfl, hb⟩; have n_ := Aside0.mk ((MS.to HM).next hb); clear HM hb; have HM := n_; clear n_; clear fgi0 fgi1 fgl0 fgl1 fgl2 fgl3 fgl4 fgo0 fgo1 fgo2 kgi0 kgi1 kgl0 kgl1 kgl2 kgl3 kgl4 kgo0 kgo1 kgo2; obtain ⟨kgi0, kgi1, fgi0, fgi1⟩ := MS.c2 HM m0_; obtain ⟨kgl0, kgl1, kgl2, kgl3, kgl4, fgl0, fgl1, fgl2, fgl3, fgl4⟩ := MS.c5 HM m1_; obtain ⟨kgo0, kgo1, kgo2, fgo0, fgo1, fgo2⟩ := MS.c3 HM m2_) | (go_at_call 13; (with_reducible refine (AW _).mono ?_); rintro e wk ⟨rfl, hb⟩; have n_ := Aside0.mk ((MS.to HM).next hb); clear HM hb; have HM := n_; clear n_; clear fgi0 fgi1 fgl0 fgl1 fgl2 fgl3 fgl4 fgo0 fgo1 fgo2 kgi0 kgi1 kgl0 kgl1 kgl2 kgl3 kgl4 kgo0 kgo1 kgo2; obtain ⟨kgi0, kgi1, fgi0, fgi1⟩ := MS.c2 HM m0_; obtain ⟨kgl0, kgl1, kgl2, kgl3, kgl4, fgl0, fgl1, fgl2, fgl3, fgl4⟩ := MS.c5 HM m1_; obtain ⟨kgo0, kgo1, kgo2, fgo0, fgo1, fgo2⟩ := MS.c3 HM m2_))
  go_ret
  exact ⟨rfl, MS.bel HM⟩
 | true =>
  have HFT := Aside0.mk hfit
  have fx := ofitB_true.1 hfit
  have FX_ := Aside0.mk fx
  obtain ⟨fm, fe, hr, fr⟩ := grd_ex fx lx sx y sy c lo hi
  have HR := Aside0.mk hr
  have FR := Aside0.mk fr
  have HOF : Aside0 (∀ z : OV, z.o = X.o → OFit z.v z.m z.e) := ⟨fun z e => by
   obtain ⟨P, p, Q, q, v, m, b⟩ := X
   obtain ⟨P', p', Q', q', v', m', b'⟩ := z
   cases e; exact fx⟩
  clear hX lenx hfit fx hr fr
  go_enter Try.func4, Try.ntmps4
  go_upto_region 1 with fail
  have HM : Aside0 (MS w [] [(w.heap.size + 2, .cells #[.int .i64 lo, .int .i64 hi] 36 (0, 0)), (w.heap.size + 1, .cells #[.int .i64 lx, .int .i64 sx, .int .i64 y, .int .i64 sy, .int .i64 c] 34 (0, 0)), (w.heap.size, .cells #[.slice X.P X.v.length X.p, .slice X.Q X.m.length X.q, .bool X.e] 25 (0, 0))] (((w.alloc (.cells #[.slice X.P X.v.length X.p, .slice X.Q X.m.length X.q, .bool X.e] 25 (0, 0))).alloc (.cells #[.int .i64 lx, .int .i64 sx, .int .i64 y, .int .i64 sy, .int .i64 c] 34 (0, 0))).alloc (.cells #[.int .i64 lo, .int .i64 hi] 36 (0, 0)))) := ⟨(MS.new (MS.new (MS.new (MS.nil w) _ rfl) _ (by simp)) _ (by simp))⟩
  generalize hW_ : (((w.alloc (.cells #[.slice X.P X.v.length X.p, .slice X.Q X.m.length X.q, .bool X.e] 25 (0, 0))).alloc (.cells #[.int .i64 lx, .int .i64 sx, .int .i64 y, .int .i64 sy, .int .i64 c] 34 (0, 0))).alloc (.cells #[.int .i64 lo, .int .i64 hi] 36 (0, 0))) = wk at HM ⊢; clear hW_
  generalize hg_ : w.heap.size + 2 = gi at HM ⊢; clear hg_
  generalize hg_ : w.heap.size + 1 = gl at HM ⊢; clear hg_
  generalize hg_ : w.heap.size = go at HM ⊢; clear hg_
  obtain ⟨kgi0, kgi1, fgi0, fgi1⟩ := MS.c2 HM m0_; obtain ⟨kgl0, kgl1, kgl2, kgl3, kgl4, fgl0, fgl1, fgl2, fgl3, fgl4⟩ := MS.c5 HM m1_; obtain ⟨kgo0, kgo1, kgo2, fgo0, fgo1, fgo2⟩ := MS.c3 HM m2_
  go_upto_region 3 with (first | (go_at_call 12; (with_reducible refine (rfit_o (Oc.now HX (MS.bel HM)) (Below.refl _ _) LX.out HFT.out).mono ?_); rintro e wk ⟨rfl, hb⟩; have n_ := Aside0.mk ((MS.to HM).next hb); clear HM hb; have HM := n_; clear n_; clear fgi0 fgi1 fgl0 fgl1 fgl2 fgl3 fgl4 fgo0 fgo1 fgo2 kgi0 kgi1 kgl0 kgl1 kgl2 kgl3 kgl4 kgo0 kgo1 kgo2; obtain ⟨kgi0, kgi1, fgi0, fgi1⟩ := MS.c2 HM m0_; obtain ⟨kgl0, kgl1, kgl2, kgl3, kgl4, fgl0, fgl1, fgl2, fgl3, fgl4⟩ := MS.c5 HM m1_; obtain ⟨kgo0, kgo1, kgo2, fgo0, fgo1, fgo2⟩ := MS.c3 HM m2_))
  go_upto_region 4 with (first | (go_at_call 14; (with_reducible refine (deep_own (Oc.now HX (MS.bel HM)) (Below.refl _ _) FX_.out).mono ?_); rintro e wk ⟨ow, rfl, how, ho, hb⟩; have n_ := Aside0.mk ((MS.to HM).call hb ho); clear HM ho hb; have HM := n_; clear n_; clear fgi0 fgi1 fgl0 fgl1 fgl2 fgl3 fgl4 fgo0 fgo1 fgo2 kgi0 kgi1 kgl0 kgl1 kgl2 kgl3 kgl4 kgo0 kgo1 kgo2; obtain ⟨kgi0, kgi1, fgi0, fgi1⟩ := MS.c2 HM m0_; obtain ⟨kgl0, kgl1, kgl2, kgl3, kgl4, fgl0, fgl1, fgl2, fgl3, fgl4⟩ := MS.c5 HM m1_; obtain ⟨kgo0, kgo1, kgo2, fgo0, fgo1, fgo2⟩ := MS.c3 HM m2_) | ((with_reducible refine gate_dst (N := 7) rfl ?_); refine box_event ?hg (N := 7) ?hd (cs := #[.slice none 0 0, .slice none 0 0, .bool false]) (t := 25) ?hr ?_; (case hd => rfl); (case hg => rfl); (case hr => first | (go_simp; done) | (go_simp; rfl)); intro gw hg wk hbox hb; have n_ := Aside0.mk ((MS.to HM).made hg hbox hb); clear HM hg hbox hb; have HM := n_; clear n_; clear fgi0 fgi1 fgl0 fgl1 fgl2 fgl3 fgl4 fgo0 fgo1 fgo2 kgi0 kgi1 kgl0 kgl1 kgl2 kgl3 kgl4 kgo0 kgo1 kgo2; obtain ⟨kgw0, kgw1, kgw2, fgw0, fgw1, fgw2⟩ := MS.c3 HM m0_; obtain ⟨kgi0, kgi1, fgi0, fgi1⟩ := MS.c2 HM m1_; obtain ⟨kgl0, kgl1, kgl2, kgl3, kgl4, fgl0, fgl1, fgl2, fgl3, fgl4⟩ := MS.c5 HM m2_; obtain ⟨kgo0, kgo1, kgo2, fgo0, fgo1, fgo2⟩ := MS.c3 HM m3_))
  have n_ : Aside0 (MS w [ow] [(gw, .cells #[.slice ow.P ow.v.length ow.p, .slice ow.Q ow.m.length ow.q, .bool ow.e] 25 (0, 0)), (gi, .cells #[.int .i64 lo, .int .i64 hi] 36 (0, 0)), (gl, .cells #[.int .i64 lx, .int .i64 sx, .int .i64 y, .int .i64 sy, .int .i64 c] 34 (0, 0)), (go, .cells #[.slice X.P X.v.length X.p, .slice X.Q X.m.length X.q, .bool X.e] 25 (0, 0))] _) := ⟨MS.put3 [] HM.out (a' := .slice ow.P ow.v.length ow.p) (b' := .slice ow.Q ow.m.length ow.q) (c' := .bool ow.e)⟩; clear HM; have HM := n_; clear n_
  generalize hW_ : World.setCell _ _ _ = wk at HM ⊢; clear hW_
  clear fgi0 fgi1 fgl0 fgl1 fgl2 fgl3 fgl4 fgo0 fgo1 fgo2 fgw0 fgw1 fgw2 kgi0 kgi1 kgl0 kgl1 kgl2 kgl3 kgl4 kgo0 kgo1 kgo2 kgw0 kgw1 kgw2; obtain ⟨kgw0, kgw1, kgw2, fgw0, fgw1, fgw2⟩ := MS.c3 HM m0_; obtain ⟨kgi0, kgi1, fgi0, fgi1⟩ := MS.c2 HM m1_; obtain ⟨kgl0, kgl1, kgl2, kgl3, kgl4, fgl0, fgl1, fgl2, fgl3, fgl4⟩ := MS.c5 HM m2_; obtain ⟨kgo0, kgo1, kgo2, fgo0, fgo1, fgo2⟩ := MS.c3 HM m3_
  have HFW := Aside0.mk (HOF.out _ how); have HOW := Aside0.mk how; clear how
  go_upto_region 5 with (first | (go_at_call 19; (with_reducible refine (guard_as (MS.oc HM m0_) (MS.bel HM) HOW.out FX_.out lx sx y sy c lo hi HR.out).mono ?_); rintro e wk ⟨av, rfl, hav, ho, hb⟩; have n_ := Aside0.mk ((MS.to HM).call hb ho); clear HM ho hb; have HM := n_; clear n_; clear fgi0 fgi1 fgl0 fgl1 fgl2 fgl3 fgl4 fgo0 fgo1 fgo2 fgw0 fgw1 fgw2 kgi0 kgi1 kgl0 kgl1 kgl2 kgl3 kgl4 kgo0 kgo1 kgo2 kgw0 kgw1 kgw2; obtain ⟨kgw0, kgw1, kgw2, fgw0, fgw1, fgw2⟩ := MS.c3 HM m0_; obtain ⟨kgi0, kgi1, fgi0, fgi1⟩ := MS.c2 HM m1_; obtain ⟨kgl0, kgl1, kgl2, kgl3, kgl4, fgl0, fgl1, fgl2, fgl3, fgl4⟩ := MS.c5 HM m2_; obtain ⟨kgo0, kgo1, kgo2, fgo0, fgo1, fgo2⟩ := MS.c3 HM m3_) | ((with_reducible refine gate_dst (N := 8) rfl ?_); refine box_event ?hg (N := 8) ?hd (cs := #[.slice none 0 0, .slice none 0 0, .bool false]) (t := 25) ?hr ?_; (case hd => rfl); (case hg => rfl); (case hr => first | (go_simp; done) | (go_simp; rfl)); intro ga hg wk hbox hb; have n_ := Aside0.mk ((MS.to HM).made hg hbox hb); clear HM hg hbox hb; have HM := n_; clear n_; clear fgi0 fgi1 fgl0 fgl1 fgl2 fgl3 fgl4 fgo0 fgo1 fgo2 fgw0 fgw1 fgw2 kgi0 kgi1 kgl0 kgl1 kgl2 kgl3 kgl4 kgo0 kgo1 kgo2 kgw0 kgw1 kgw2; obtain ⟨kga0, kga1, kga2, fga0, fga1, fga2⟩ := MS.c3 HM m0_; obtain ⟨kgw0, kgw1, kgw2, fgw0, fgw1, fgw2⟩ := MS.c3 HM m1_; obtain ⟨kgi0, kgi1, fgi0, fgi1⟩ := MS.c2 HM m2_; obtain ⟨kgl0, kgl1, kgl2, kgl3, kgl4, fgl0, fgl1, fgl2, fgl3, fgl4⟩ := MS.c5 HM m3_; obtain ⟨kgo0, kgo1, kgo2, fgo0, fgo1, fgo2⟩ := MS.c3 HM m4_))
  have n_ : Aside0 (MS w [av, ow] [(ga, .cells #[.slice av.P av.v.length av.p, .slice av.Q av.m.length av.q, .bool av.e] 25 (0, 0)), (gw, .cells #[.slice ow.P ow.v.length ow.p, .slice ow.Q ow.m.length ow.q, .bool ow.e] 25 (0, 0)), (gi, .cells #[.int .i64 lo, .int .i64 hi] 36 (0, 0)), (gl, .cells #[.int .i64 lx, .int .i64 sx, .int .i64 y, .int .i64 sy, .int .i64 c] 34 (0, 0)), (go, .cells #[.slice X.P X.v.length X.p, .slice X.Q X.m.length X.q, .bool X.e] 25 (0, 0))] _) := ⟨MS.put3 [] HM.out (a' := .slice av.P av.v.length av.p) (b' := .slice av.Q av.m.length av.q) (c' := .bool av.e)⟩; clear HM; have HM := n_; clear n_
  generalize hW_ : World.setCell _ _ _ = wk at HM ⊢; clear hW_
  clear fga0 fga1 fga2 fgi0 fgi1 fgl0 fgl1 fgl2 fgl3 fgl4 fgo0 fgo1 fgo2 fgw0 fgw1 fgw2 kga0 kga1 kga2 kgi0 kgi1 kgl0 kgl1 kgl2 kgl3 kgl4 kgo0 kgo1 kgo2 kgw0 kgw1 kgw2; obtain ⟨kga0, kga1, kga2, fga0, fga1, fga2⟩ := MS.c3 HM m0_; obtain ⟨kgw0, kgw1, kgw2, fgw0, fgw1, fgw2⟩ := MS.c3 HM m1_; obtain ⟨kgi0, kgi1, fgi0, fgi1⟩ := MS.c2 HM m2_; obtain ⟨kgl0, kgl1, kgl2, kgl3, kgl4, fgl0, fgl1, fgl2, fgl3, fgl4⟩ := MS.c5 HM m3_; obtain ⟨kgo0, kgo1, kgo2, fgo0, fgo1, fgo2⟩ := MS.c3 HM m4_
  have HAV := Aside0.mk hav; clear hav
  go_upto_region 7 with (first | (go_at_call 16; (with_reducible refine (equal_as (MS.oc HM m1_) (Oc.at_ HX (MS.bel HM)) (MS.bel HM) HOW.out rfl FX_.out).mono ?_); rintro e wk ⟨rfl, hb⟩; have n_ := Aside0.mk ((MS.to HM).next hb); clear HM hb; have HM := n_; clear n_; clear fga0 fga1 fga2 fgi0 fgi1 fgl0 fgl1 fgl2 fgl3 fgl4 fgo0 fgo1 fgo2 fgw0 fgw1 fgw2 kga0 kga1 kga2 kgi0 kgi1 kgl0 kgl1 kgl2 kgl3 kgl4 kgo0 kgo1 kgo2 kgw0 kgw1 kgw2; obtain ⟨kga0, kga1, kga2, fga0, fga1, fga2⟩ := MS.c3 HM m0_; obtain ⟨kgw0, kgw1, kgw2, fgw0, fgw1, fgw2⟩ := MS.c3 HM m1_; obtain ⟨kgi0, kgi1, fgi0, fgi1⟩ := MS.c2 HM m2_; obtain ⟨kgl0, kgl1, kgl2, kgl3, kgl4, fgl0, fgl1, fgl2, fgl3, fgl4⟩ := MS.c5 HM m3_; obtain ⟨kgo0, kgo1, kgo2, fgo0, fgo1, fgo2⟩ := MS.c3 HM m4_))
  have n_ := Aside0.mk (HM.out.swap); clear HM; have HM := n_; clear n_
  clear fga0 fga1 fga2 fgi0 fgi1 fgl0 fgl1 fgl2 fgl3 fgl4 fgo0 fgo1 fgo2 fgw0 fgw1 fgw2 kga0 kga1 kga2 kgi0 kgi1 kgl0 kgl1 kgl2 kgl3 kgl4 kgo0 kgo1 kgo2 kgw0 kgw1 kgw2; obtain ⟨kga0, kga1, kga2, fga0, fga1, fga2⟩ := MS.c3 HM m0_; obtain ⟨kgw0, kgw1, kgw2, fgw0, fgw1, fgw2⟩ := MS.c3 HM m1_; obtain ⟨kgi0, kgi1, fgi0, fgi1⟩ := MS.c2 HM m2_; obtain ⟨kgl0, kgl1, kgl2, kgl3, kgl4, fgl0, fgl1, fgl2, fgl3, fgl4⟩ := MS.c5 HM m3_; obtain ⟨kgo0, kgo1, kgo2, fgo0, fgo1, fgo2⟩ := MS.c3 HM m4_
  go_upto_region 8 with (first | (go_at_call 17; (with_reducible refine (spoil_ms (MS.to HM) HFW.out).mono ?_); rintro e wk ⟨rfl, ho⟩; clear HM; have HM := Aside0.mk ho; clear ho; clear fga0 fga1 fga2 fgi0 fgi1 fgl0 fgl1 fgl2 fgl3 fgl4 fgo0 fgo1 fgo2 fgw0 fgw1 fgw2 kga0 kga1 kga2 kgi0 kgi1 kgl0 kgl1 kgl2 kgl3 kgl4 kgo0 kgo1 kgo2 kgw0 kgw1 kgw2; obtain ⟨kga0, kga1, kga2, fga0, fga1, fga2⟩ := MS.c3 HM m0_; obtain ⟨kgw0, kgw1, kgw2, fgw0, fgw1, fgw2⟩ := MS.c3 HM m1_; obtain ⟨kgi0, kgi1, fgi0, fgi1⟩ := MS.c2 HM m2_; obtain ⟨kgl0, kgl1, kgl2, kgl3, kgl4, fgl0, fgl1, fgl2, fgl3, fgl4⟩ := MS.c5 HM m3_; obtain ⟨kgo0, kgo1, kgo2, fgo0, fgo1, fgo2⟩ := MS.c3 HM m4_))
  have n_ := Aside0.mk (HM.out.next (below_drew (Below.refl _ _))); clear HM; have HM := n_; clear n_
  clear fga0 fga1 fga2 fgi0 fgi1 fgl0 fgl1 fgl2 fgl3 fgl4 fgo0 fgo1 fgo2 fgw0 fgw1 fgw2 kga0 kga1 kga2 kgi0 kgi1 kgl0 kgl1 kgl2 kgl3 kgl4 kgo0 kgo1 kgo2 kgw0 kgw1 kgw2
  refine start_ (n := 10) (S := fun w' => w'.cell? ⟨ga, 0, none⟩ = some (.slice av.P av.v.length av.p) ∧ w'.cell? ⟨ga, 1, none⟩ = some (.slice av.Q av.m.length av.q) ∧ w'.cell? ⟨ga, 2, none⟩ = some (.bool av.e) ∧ w'.cell? ⟨go, 0, none⟩ = some (.slice X.P X.v.length X.p) ∧ w'.cell? ⟨go, 1, none⟩ = some (.slice X.Q X.m.length X.q) ∧ w'.cell? ⟨go, 2, none⟩ = some (.bool X.e) ∧ w'.cell? ⟨gl, 0, none⟩ = some (.int .i64 lx) ∧ w'.cell? ⟨gl, 1, none⟩ = some (.int .i64 sx) ∧ w'.cell? ⟨gl, 2, none⟩ = some (.int .i64 y) ∧ w'.cell? ⟨gl, 3, none⟩ = some (.int .i64 sy) ∧ w'.cell? ⟨gl, 4, none⟩ = some (.int .i64 c) ∧ w'.cell? ⟨gi, 0, none⟩ = some (.int .i64 lo) ∧ w'.cell? ⟨gi, 1, none⟩ = some (.int .i64 hi)) (ds := []) (mB 10 0) (by kernel_rfl) rfl (by kernel_rfl) ⟨MS.k HM m0_ 0 rfl, MS.k HM m0_ 1 rfl, MS.k HM m0_ 2 rfl, MS.k HM m4_ 0 rfl, MS.k HM m4_ 1 rfl, MS.k HM m4_ 2 rfl, MS.k HM m3_ 0 rfl, MS.k HM m3_ 1 rfl, MS.k HM m3_ 2 rfl, MS.k HM m3_ 3 rfl, MS.k HM m3_ 4 rfl, MS.k HM m2_ 0 rfl, MS.k HM m2_ 1 rfl⟩ (fun hHeld => ?_)
  refine with_tabW octopGuards_tab8 octopGuards_bits8 (fun HT_ HW_ => ?_)
  generalize hWd : World.drew _ = wk at HM hHeld ⊢; clear hWd
  refine tV_ 0 25 (mB 10 1) HT_ HW_ hHeld ?_
  refine tV_ 1 26 (mB 10 3) HT_ HW_ hHeld ?_
  refine tV_ 2 27 (mB 10 7) HT_ HW_ hHeld ?_
  refine tV_ 3 28 (mB 10 15) HT_ HW_ hHeld ?_
  refine one_ (i := 4) (N := some 29) (mB 10 31) rfl rfl (one_of HT_.out (by kernel_rfl)) (by decide) (fun K hK => ?_)
  refine goes_ Try.func20 (by kernel_rfl) rfl #[X.val, .agg #[.int .i64 lx, .int .i64 sx, .int .i64 y, .int .i64 sy, .int .i64 c], .agg #[.int .i64 lo, .int .i64 hi]] (by rfl) rfl rfl vL ?_
  with_reducible refine (rguard_as (Oc.now HX HM.out.S.below) (Below.refl _ _) rfl FX_.out lx sx y sy c lo hi HR.out).mono ?_
  rintro e wk ⟨zv, rfl, hzv, ho, hb⟩; refine ⟨_, rfl, ?_⟩
  have n_ := Aside0.mk (HM.out.call hb ho); clear HM hb ho; have HM := n_; clear n_
  refine hK.out _ _ ⟨MS.k HM m0_ 0 rfl, MS.k HM m0_ 1 rfl, MS.k HM m0_ 2 rfl, MS.k HM m4_ 0 rfl, MS.k HM m4_ 1 rfl, MS.k HM m4_ 2 rfl, MS.k HM m3_ 0 rfl, MS.k HM m3_ 1 rfl, MS.k HM m3_ 2 rfl, MS.k HM m3_ 3 rfl, MS.k HM m3_ 4 rfl, MS.k HM m2_ 0 rfl, MS.k HM m2_ 1 rfl⟩ (fun hHeld => ?_)
  clear hK K
  refine nO_ 29 ?_
  refine one_ (i := 5) (N := some 30) (mB 10 63) rfl rfl (one_of HT_.out (by kernel_rfl)) (by decide) (fun K hK => ?_)
  refine goes_ Try.func16 (by kernel_rfl) rfl #[av.val, zv.val] (by rfl) rfl rfl vL ?_
  with_reducible refine (equal_as (MS.oc HM m1_) (MS.oc HM m0_) (MS.bel HM) HAV.out hzv FR.out).mono ?_
  rintro e wk ⟨rfl, hb⟩; refine ⟨_, rfl, ?_⟩
  have n_ := Aside0.mk (HM.out.next hb); clear HM hb; have HM := n_; clear n_
  refine hK.out _ _ ⟨MS.k HM m0_ 0 rfl, MS.k HM m0_ 1 rfl, MS.k HM m0_ 2 rfl, MS.k HM m4_ 0 rfl, MS.k HM m4_ 1 rfl, MS.k HM m4_ 2 rfl, MS.k HM m3_ 0 rfl, MS.k HM m3_ 1 rfl, MS.k HM m3_ 2 rfl, MS.k HM m3_ 3 rfl, MS.k HM m3_ 4 rfl, MS.k HM m2_ 0 rfl, MS.k HM m2_ 1 rfl⟩ (fun hHeld => ?_)
  clear hK K
  refine nO_ 30 ?_
  refine pV_ 6 31 (mB 10 127) HT_ ?_
  refine one_ (i := 7) (N := some 32) (mB 10 255) rfl rfl (one_of HT_.out (by kernel_rfl)) (by decide) (fun K hK => ?_)
  refine goes_ Try.func13 (by kernel_rfl) rfl #[] (by rfl) rfl rfl vL ?_
  with_reducible refine (AW _).mono ?_
  rintro e wk ⟨rfl, hb⟩; refine ⟨_, rfl, ?_⟩
  have n_ := Aside0.mk (HM.out.next hb); clear HM hb; have HM := n_; clear n_
  refine hK.out _ _ ⟨MS.k HM m0_ 0 rfl, MS.k HM m0_ 1 rfl, MS.k HM m0_ 2 rfl, MS.k HM m4_ 0 rfl, MS.k HM m4_ 1 rfl, MS.k HM m4_ 2 rfl, MS.k HM m3_ 0 rfl, MS.k HM m3_ 1 rfl, MS.k HM m3_ 2 rfl, MS.k HM m3_ 3 rfl, MS.k HM m3_ 4 rfl, MS.k HM m2_ 0 rfl, MS.k HM m2_ 1 rfl⟩ (fun hHeld => ?_)
  clear hK K
  refine nO_ 32 ?_
  refine pV_ 8 33 (mB 10 511) HT_ ?_
  refine pV_ 9 6 (mB 10 1023) HT_ ?_
  refine done_ (done_of HT_.out (by kernel_rfl)) ?_
  clear HT_ HW_ hHeld
  go_wp2
  go_ret
  exact ⟨rfl, MS.bel HM⟩
theorem octopGuards_walk (X : OV) (lx sx y sy c lo hi : Int) (w : World) (hX : Oc w w X) (lenx : X.v.length ≤ 17592186044416) : Says 4 #[X.val, .agg #[.int .i64 lx, .int .i64 sx, .int .i64 y, .int .i64 sy, .int .i64 c], .agg #[.int .i64 lo, .int .i64 hi]] w (.bool true) := octopGuards_w awake_o X lx sx y sy c lo hi w hX lenx
end Go.Proofs.Ytphfchbggechhaa.QO
end
end
section
namespace Go.Proofs.Ytphfchbggechhaa.Open
open Go.RowKit Go.ChangeShapes Go.WideShapes Go.Proofs.YtphfchbggechhaaW.PrintWords Go.Proofs.YtphfchbggechhaaW.PrintMore
def Opens {α : Type} (P : Program) (t : TypeId) (R : World → α → List Value → Prop) (Q : α → Prop) : Prop :=
 ∀ (H : Type) (enc : TypeId × Value → H) (w : World) (base : Nat) (spare : Nat → Bool) (held : Bool) (fuel : Nat) (cs : List Value) (x : DataW H × List MemPlace),
  DataW.trod enc P w base spare held fuel t cs = some x → (∀ n ∈ DataW.weights P t x.1, n ≤ 140737488351232) → ∃ a : α, R w a cs ∧ Q a
variable {P : Program} {t e : TypeId}
theorem opens_int {k : IntKind} (ht : P.underlying t = some (.int k)) : Opens P t (Kd.int k).K (fun n => (Lit.int k n).wf = true) := by
 intro H enc w base spare held fuel cs x h _
 obtain ⟨n, rfl, _, hw⟩ := DataW.trod_int ht h
 exact ⟨n, rfl, hw⟩
theorem opens_bool (ht : P.underlying t = some .bool) : Opens P t Kd.bool.K (fun _ => True) := by
 intro H enc w base spare held fuel cs x h _
 obtain ⟨n, rfl, _⟩ := DataW.trod_bool ht h
 exact ⟨n, rfl, trivial⟩
theorem weightsAll_mem {H : Type} {l : List (DataW H)} {d : DataW H} (hd : d ∈ l) {n : Nat} (hn : n ∈ DataW.weights P e d) : n ∈ DataW.weightsAll P e l := by
 induction l with
 | nil => cases hd
 | cons y r ih =>
  unfold DataW.weightsAll
  rcases List.mem_cons.1 hd with rfl | h
  ·
   exact List.mem_append_left _ hn
  ·
   exact List.mem_append_right _ (ih h)
theorem weightsEach_mem {H : Type} : ∀ {ts : List TypeId} {l : List (DataW H)} {i : Nat} {t : TypeId} {d : DataW H}, ts[i]? = some t → l[i]? = some d → ∀ {n : Nat}, n ∈ DataW.weights P t d → n ∈ DataW.weightsEach P ts l
 | [], _, i, _, _, h, _, _, _ => by simp at h
 | _ :: _, [], i, _, _, _, h, _, _ => by simp at h
 | t' :: ts, d' :: l, 0, t, d, h1, h2, n, hn => by
  simp at h1 h2; subst h1; subst h2
  unfold DataW.weightsEach; exact List.mem_append_left _ hn
 | t' :: ts, d' :: l, i + 1, t, d, h1, h2, n, hn => by
  simp at h1 h2
  unfold DataW.weightsEach; exact List.mem_append_right _ (weightsEach_mem h1 h2 hn)
theorem all_some {α β : Type} {Q : Nat → α → β → Prop} : ∀ (xs : List β) (_ : ∀ i y, xs[i]? = some y → ∃ a, Q i a y), ∃ l : List α, l.length = xs.length ∧ ∀ i a, l[i]? = some a → ∃ y, xs[i]? = some y ∧ Q i a y
 | [], _ => ⟨[], rfl, fun i a h => by simp at h⟩
 | y :: r, h => by
  obtain ⟨a0, h0⟩ := h 0 y rfl
  obtain ⟨l, hl, hr⟩ := all_some (Q := fun i a y => Q (i + 1) a y) r (fun i y hy => h (i + 1) y (by simpa using hy))
  refine ⟨a0 :: l, by simp [hl], fun i a hi => ?_⟩
  cases i with
  | zero => simp at hi; subst hi; exact ⟨y, rfl, h0⟩
  | succ i => obtain ⟨z, hz, hq⟩ := hr i a (by simpa using hi); exact ⟨z, by simpa using hz, hq⟩
theorem opens_slice {α : Type} {d : Kd α} {Q : α → Prop} {B : Nat} (ht : P.underlying t = some (.slice e)) (hs : P.cellsOf e = d.sz) (hB : P.bytesOf e = B) (ho : Opens P e d.K Q) :
 Opens P t (Kd.slice e d).K (fun l => l.length * B ≤ 140737488351232 ∧ l.length ≤ maxLen ∧ ∀ x ∈ l, Q x) := by
 intro H enc w base spare held fuel cs x h hw
 rcases DataW.trod_slice ht h with ⟨rfl, _⟩ | ⟨a, len, cap, elems, rest, n, _, rfl, rfl, hb, hl, hc, hlen, hel, _, _⟩
 ·
  exact ⟨[], ⟨none, 0, rfl, Nat.le_refl _, ⟨rfl, by simp, fun h => absurd h (by simp)⟩⟩, by simp, by simp, fun x hx => by cases hx⟩
 ·
  have hwt : ∀ m ∈ DataW.weights P t (.slice (elems.map (·.1)) (rest.map (·.1))), m ≤ 140737488351232 := hw
  have each : ∀ i y, elems[i]? = some y → ∃ a' : α, (∃ c : List Value, c.length = d.sz ∧ d.K w a' c ∧ ∀ j u, c[j]? = some u → w.cell? (a.add (i * d.sz + j)) = some u) ∧ Q a' := by
   intro i y hy
   have hi : i < len := by rw [← hlen]; exact (List.getElem?_eq_some_iff.1 hy).1
   have h1 := hel i hi
   rw [hy] at h1
   obtain ⟨c, hc1, hc2⟩ := Option.bind_eq_some_iff.1 h1
   obtain ⟨a', hk, hq⟩ := ho H enc w base spare held n c y hc2 (fun m hm => hwt m (by
    simp only [DataW.weights, ht]
    exact List.mem_cons_of_mem _ (List.mem_append_left _ (weightsAll_mem (List.mem_map_of_mem (List.mem_of_getElem? hy)) hm))))
   refine ⟨a', ⟨c, d.K_len hk, hk, fun j u hj => ?_⟩, hq⟩
   unfold World.cells? at hc1
   split at hc1
   ·
    have hlc := mapM_some_length hc1
    have hj' : j < P.cellsOf e := by have := (List.getElem?_eq_some_iff.1 hj).1; rw [List.length_range] at hlc; omega
    have := mapM_some_get hc1 j j (by simp [hj'])
    rw [hj] at this
    rw [← hs, ← Addr.add_add]
    exact this
   ·
    cases hc1
  obtain ⟨l, hll, hlr⟩ := all_some elems each
  refine ⟨l, ⟨some a, cap, ?_, by omega, ⟨rfl, ?_, fun _ => ⟨a, rfl, fun j p hj => ?_⟩⟩⟩, ?_, by omega, fun x hx => ?_⟩
  ·
   rw [hll, hlen]
  ·
   unfold maxLen at hc; omega
  ·
   obtain ⟨_, _, ⟨c, h1, h2, h3⟩, _⟩ := hlr j p hj
   exact ⟨c, h1, h2, h3⟩
  ·
   have := hwt (((elems.map (·.1)).length + (rest.map (·.1)).length) * P.bytesOf e) (by simp only [DataW.weights, ht]; exact List.mem_cons_self ..)
   rw [hB] at this
   simp only [List.length_map] at this
   rw [hll]
   exact Nat.le_trans (Nat.mul_le_mul_right _ (by omega)) this
  ·
   obtain ⟨i, hi⟩ := List.getElem?_of_mem hx
   obtain ⟨_, _, _, hq⟩ := hlr i x hi
   exact hq
theorem open_field {H : Type} {enc : TypeId × Value → H} {w : World} {base : Nat} {spare : Nat → Bool} {held : Bool} {fs : Array Field} {xs : List (DataW H × List MemPlace)} {n : Nat} {cs : List Value}
 (ht : P.underlying t = some (.struct fs)) (hw : ∀ m ∈ DataW.weights P t (.agg (xs.map (·.1))), m ≤ 140737488351232) (hx : xs.length = fs.size)
 (hf : ∀ (i : Nat) (f : Field), fs[i]? = some f → DataW.trod enc P w base spare held n f.type ((cs.drop f.offset).take (P.cellsOf f.type)) = xs[i]?)
 (i : Nat) (f : Field) (hi : fs[i]? = some f) (o s : Nat) (eo : f.offset = o) (es : P.cellsOf f.type = s) {α : Type} {R : World → α → List Value → Prop} {Q : α → Prop} (ho : Opens P f.type R Q) : ∃ a : α, R w a ((cs.drop o).take s) ∧ Q a := by
 have h1 := hf i f hi
 rw [eo, es] at h1
 have hlt : i < xs.length := by rw [hx]; exact (Array.getElem?_eq_some_iff.1 hi).1
 rw [List.getElem?_eq_getElem hlt] at h1
 refine ho H enc w base spare held n _ _ h1 (fun m hm => hw m ?_)
 simp only [DataW.weights, ht]
 refine weightsEach_mem (i := i) (t := f.type) (d := xs[i].1) ?_ ?_ hm
 ·
  simp only [List.getElem?_map, Array.getElem?_toList, hi, Option.map_some]
 ·
  simp only [List.getElem?_map, List.getElem?_eq_getElem hlt, Option.map_some]
theorem weights_at {H : Type} {ts : List TypeId} {ds : List (DataW H)} (hsz : (DataW.weightsEach P ts ds).all (· ≤ reachBytes) = true) {j : Nat} {d : DataW H} (h1 : ts[j]? = some t) (h2 : ds[j]? = some d) : ∀ m ∈ DataW.weights P t d, m ≤ 140737488351232 := by
 intro m hm
 exact of_decide_eq_true (List.all_eq_true.1 hsz m (weightsEach_mem h1 h2 hm))
end Go.Proofs.Ytphfchbggechhaa.Open
end
