/- Own texts of this claim, joined: QOx1032, QOx1030, QOx1037, QOx1018, QOx1036, QOx1062, QOx1108, QOx1068, QOx1064, QOx1014, QOx1017, QOx1016, QOx1012, QOx1048, QOx1049 -/
import Derived.Test.YtphfchbggechhaaBOK0
import Derived.Test.YtphfchbggechhaaBOK1
set_option maxRecDepth 100000
set_option maxHeartbeats 16000000
section
noncomputable section
namespace Go.Proofs.Ytphfchbggechhaa.QO
open Go.RowKit YtphfchbggechhaaW.PrintWords YtphfchbggechhaaW.PrintLast
set_option linter.unusedVariables false
set_option linter.unusedSimpArgs false
mutual
def gimbalref11_Has.j0 : Nat → List Int → Bool → List Int → List Int → Bool → Option (Bool)
 | 0, _, _, _, _, _ => none
 | k + 1, x1, x19, x669000, x669001, x669002 => if x19 = true then (some false) else (gimbalref11_Has.l0 k x1 (wrap64 (2 * (x669000.length : Int))) x1 (x1.length : Int) 0 x669000 x669001 x669002)
def gimbalref11_Has.l0 : Nat → List Int → Int → List Int → Int → Int → List Int → List Int → Bool → Option (Bool)
 | 0, _, _, _, _, _, _, _, _ => none
 | k + 1, x1, x5, x24, x25, x26, x669000, x669001, x669002 => if x26 < x25 then (if 0 ≤ x26 then (if x26 < (x24.length : Int) then (if (rd x24 x26) ≤ (-4611686018427387904) then (some false) else (if (rd x24 x26) ≥ 4611686018427387904 then (some false) else (gimbalref11_Has.l0 k x1 x5 x24 x25 (wrap64 (x26 + 1)) x669000 x669001 x669002))) else (none)) else (none)) else (gimbalref11_Has.l1 k x1 x5 0 x669000 x669001 x669002)
def gimbalref11_Has.l1 : Nat → List Int → Int → Int → List Int → List Int → Bool → Option (Bool)
 | 0, _, _, _, _, _, _ => none
 | k + 1, x1, x5, x8, x669000, x669001, x669002 => if x8 < x5 then (gimbalref11_Has.l2 k x1 x5 x8 0 x669000 x669001 x669002) else (some true)
def gimbalref11_Has.l2 : Nat → List Int → Int → Int → Int → List Int → List Int → Bool → Option (Bool)
 | 0, _, _, _, _, _, _, _ => none
 | k + 1, x1, x5, x8, x9, x669000, x669001, x669002 => if x9 < x5 then (if 0 ≤ (wrap64 ((wrap64 (x8 * x5)) + x9)) then (if (wrap64 ((wrap64 (x8 * x5)) + x9)) < (x669001.length : Int) then (if (rd x669001 (wrap64 ((wrap64 (x8 * x5)) + x9))) = 4611686018427387904 then (gimbalref11_Has.l2 k x1 x5 x8 (wrap64 (x9 + 1)) x669000 x669001 x669002) else ((gimbalref11_value.f x1 x8).bind fun t671 => ((gimbalref11_value.f x1 x9).bind fun t672 => ((gimbalref11_beyond.f t671 t672 (rd x669001 (wrap64 ((wrap64 (x8 * x5)) + x9)))).bind fun t674 => (if t674 = true then (some false) else (gimbalref11_Has.l2 k x1 x5 x8 (wrap64 (x9 + 1)) x669000 x669001 x669002)))))) else (none)) else (none)) else (gimbalref11_Has.l1 k x1 x5 (wrap64 (x8 + 1)) x669000 x669001 x669002)
end
def gimbalref11_Has.f (k : Nat) (l0_0 : List Int) (l0_1 : List Int) (a0_2 : Bool) (l1 : List Int) : Option (Bool) := if a0_2 = true then (gimbalref11_Has.j0 k l1 true l0_0 l0_1 a0_2) else (gimbalref11_Has.j0 k l1 ((l1.length : Int) != (l0_0.length : Int)) l0_0 l0_1 a0_2)
theorem gimbalref11_Has.mono_l : ∀ k, (∀ y0 y1 y2 y3 y4, LeO (gimbalref11_Has.j0 k y0 y1 y2 y3 y4) (gimbalref11_Has.j0 (k + 1) y0 y1 y2 y3 y4)) ∧ (∀ y0 y1 y2 y3 y4 y5 y6 y7, LeO (gimbalref11_Has.l0 k y0 y1 y2 y3 y4 y5 y6 y7) (gimbalref11_Has.l0 (k + 1) y0 y1 y2 y3 y4 y5 y6 y7)) ∧ (∀ y0 y1 y2 y3 y4 y5, LeO (gimbalref11_Has.l1 k y0 y1 y2 y3 y4 y5) (gimbalref11_Has.l1 (k + 1) y0 y1 y2 y3 y4 y5)) ∧ (∀ y0 y1 y2 y3 y4 y5 y6, LeO (gimbalref11_Has.l2 k y0 y1 y2 y3 y4 y5 y6) (gimbalref11_Has.l2 (k + 1) y0 y1 y2 y3 y4 y5 y6))
 | 0 => ⟨fun _ _ _ _ _ r h => by simp [gimbalref11_Has.j0] at h, fun _ _ _ _ _ _ _ _ r h => by simp [gimbalref11_Has.l0] at h, fun _ _ _ _ _ _ r h => by simp [gimbalref11_Has.l1] at h, fun _ _ _ _ _ _ _ r h => by simp [gimbalref11_Has.l2] at h⟩
 | k + 1 => by
  obtain ⟨ih0, ih1, ih2, ih3⟩ := gimbalref11_Has.mono_l k
  refine ⟨?_, ?_, ?_, ?_⟩ <;> intros <;> (first | unfold gimbalref11_Has.j0 | unfold gimbalref11_Has.l0 | unfold gimbalref11_Has.l1 | unfold gimbalref11_Has.l2) <;> repeat' first | (with_reducible first | apply ih0 | apply ih1 | apply ih2 | apply ih3 | apply LeO.refl | apply LeO.none | refine LeO.ite ?_ ?_ | refine LeO.bind ?_ (fun _ => ?_)) | apply ih0 | apply ih1 | apply ih2 | apply ih3 | apply LeO.none | refine LeO.ite ?_ ?_ | refine LeO.bind ?_ (fun _ => ?_)
theorem gimbalref11_Has.mono : ∀ a0 a1 a2 a3 k, LeO (gimbalref11_Has.f k a0 a1 a2 a3) (gimbalref11_Has.f (k + 1) a0 a1 a2 a3) := by
 intro a0 a1 a2 a3 k
 obtain ⟨ih0, ih1, ih2, ih3⟩ := gimbalref11_Has.mono_l k
 unfold gimbalref11_Has.f
 repeat' first | (with_reducible first | apply ih0 | apply ih1 | apply ih2 | apply ih3 | apply LeO.refl | apply LeO.none | refine LeO.ite ?_ ?_ | refine LeO.bind ?_ (fun _ => ?_)) | apply ih0 | apply ih1 | apply ih2 | apply ih3 | apply LeO.none | refine LeO.ite ?_ ?_ | refine LeO.bind ?_ (fun _ => ?_)
def gimbalref11_Has.T16 : Bool × List (List Nat × List Nat) := (true, [([], []), ([0], [0]), ([], []), ([], []), ([2, 3], [2, 3]), ([], []), ([4, 5], [4, 5]), ([1, 6], [1, 6]), ([7], [7]), ([8], [8]), ([9], [9]), ([10], [10]), ([10], [10]), ([11, 12, 10, 10], [10, 11, 12]), ([10], [10]), ([10], [10]), ([14, 15, 13, 10], [10, 14, 15]), ([10], [10]), ([17, 10], [10, 17]), ([10], [10]), ([10], [10]), ([19, 20, 10], [10, 19, 20]), ([10], [10]), ([21, 22, 10], [10, 21, 22]), ([18, 23, 10], [10, 18, 23]), ([24, 10], [10, 24]), ([13, 16, 25, 16, 10], [10, 13, 16, 25]), ([10, 26], [10, 26])])
def gimbalref11_Has.B16 : List Nat := [0, 1, 0, 0, 12, 0, 60, 127, 255, 511, 1023, 2047, 2047, 8191, 2047, 2047, 65535, 2047, 133119, 2047, 2047, 1574911, 2047, 7866367, 16648191, 33425407, 67108863, 134217727]
theorem gimbalref11_Has.tab16 : rtab .any (opsOf Try.f32 16) = gimbalref11_Has.T16 := by kernel_rfl
theorem gimbalref11_Has.bits16 : waitsOk gimbalref11_Has.T16.2 gimbalref11_Has.B16 = true := by kernel_rfl
theorem gimbalref11_Has.calls (k : Nat) (A0_0 : Option Addr) (c0_0 : Nat) (l0_0 : List Int) (A0_1 : Option Addr) (c0_1 : Nat) (l0_1 : List Int) (a0_2 : Bool) (A1 : Option Addr) (c1 : Nat) (l1 : List Int) (r : Bool) (w : World) (hr0_0 : Kd.C (Kd.int .i64) w A0_0 l0_0.length l0_0) (hc0_0 : l0_0.length ≤ c0_0) (hr0_1 : Kd.C (Kd.int .i64) w A0_1 l0_1.length l0_1) (hc0_1 : l0_1.length ≤ c0_1) (hr1 : Kd.C (Kd.int .i64) w A1 l1.length l1) (hc1 : l1.length ≤ c1) (h : gimbalref11_Has.f k l0_0 l0_1 a0_2 l1 = some r) :
 Calls Try.prog 32 #[.agg #[.slice A0_0 l0_0.length c0_0, .slice A0_1 l0_1.length c0_1, .bool a0_2], .slice A1 l1.length c1] w fun e w' => e = .returned (.bool r) ∧ Below w.heap.size w w' := by
 have hu25 := Try.underlying25
 have HR0_0 := Aside0.mk hr0_0
 have HC0_0 := Aside0.mk hc0_0
 clear hr0_0 hc0_0
 have HR0_1 := Aside0.mk hr0_1
 have HC0_1 := Aside0.mk hc0_1
 clear hr0_1 hc0_1
 have HR1 := Aside0.mk hr1
 have HC1 := Aside0.mk hc1
 clear hr1 hc1
 have HB := Aside0.mk (Below.refl w.heap.size w)
 have H := h
 unfold gimbalref11_Has.f at H
 clear h
 have HC3 := Aside0.mk H
 clear H
 go_enter Try.func32, Try.ntmps32
 go_upto_region 1 with (first | ((with_reducible refine gate_dst (N := 2) rfl ?_); (try (refine gate_guard (by rfl) ?_; dsimp only)); refine bx_ 2 #[.slice A0_0 l0_0.length c0_0, .slice A0_1 l0_1.length c0_1, .bool a0_2] 25 ?_; intro gb668 hg w4 hbox hb; have BK668 := Aside0.mk (hbox); have GW668 := vS hg HB; have GE668 := vS hg HB; replace HB := vWs HB hb; clear hb hbox hg))
 (try simp only [Act.put, List.setIfInBounds_toArray, List.set_cons_zero, List.set_cons_succ])
 go_cut [19] (fun v19 wc => ∃ (kq : Nat) (x19_2 : Bool), v19 = .bool x19_2 ∧ Aside0 (gimbalref11_Has.j0 kq l1 x19_2 l0_0 l0_1 a0_2 = some r) ∧ Aside0 (kq ≤ k) ∧ Aside0 (wc.heap[gb668]? = some (.cells #[(.slice A0_0 l0_0.length c0_0), (.slice A0_1 l0_1.length c0_1), .bool a0_2] 25 (0, 0))) ∧ Aside0 (Below w.heap.size w wc))
 case first =>
  have H := HC3.out
  clear HC3
  by_cases c5 : a0_2 = true
  ·
   subst c5
   rw [if_pos rfl] at H
   try dsimp only at H
   have H' := Aside0.mk H
   clear H
   obtain ⟨hcz6_0, hcz6_1, hcz6_2, hfz6_0, hfz6_1, hfz6_2⟩ := vF3 BK668.out
   go_wp2
   go_meet
   case rel => exact ⟨_, (true), (by first | rfl | (simp; done) | (simp [*]; done)), H', ⟨by first | omega | exact Nat.le_refl _⟩, ⟨vB BK668.out⟩, ⟨vW HB.out⟩⟩
  ·
   replace c5 := Bool.eq_false_iff.mpr c5
   subst c5
   rw [if_neg (show ¬ (false = true) by decide)] at H
   try dsimp only at H
   have H' := Aside0.mk H
   clear H
   obtain ⟨hcz7_0, hcz7_1, hcz7_2, hfz7_0, hfz7_1, hfz7_2⟩ := vF3 BK668.out
   go_wp2
   go_meet
   case rel => exact ⟨_, (((l1.length : Int) != (l0_0.length : Int))), (by first | rfl | (simp; done) | (simp [*]; done)), H', ⟨by first | omega | exact Nat.le_refl _⟩, ⟨vB BK668.out⟩, ⟨vW HB.out⟩⟩
 case rest =>
  clear HC3
  try clear c1
  try clear p2
  try clear c3
  try clear c5
  try clear hcz6_0
  try clear hcz6_1
  try clear hcz6_2
  try clear hcz7_0
  try clear hcz7_1
  try clear hcz7_2
  try clear hfz6_0
  try clear hfz6_1
  try clear hfz6_2
  try clear hfz7_0
  try clear hfz7_1
  try clear hfz7_2
  obtain ⟨kq, x19_2, rfl, HA, HJ2, BK668, HB⟩ := hcut
  cases kq with
  | zero => exact absurd HA.out (by simp [gimbalref11_Has.j0])
  | succ kj2 =>
   have H := HA.out
   clear HA
   simp only [gimbalref11_Has.j0] at H
   by_cases c8 : x19_2 = true
   ·
    subst c8
    rw [if_pos rfl] at H
    try dsimp only at H
    obtain rfl := Option.some.inj H
    go_wp2
    go_ret
    exact ⟨vE, vW HB.out⟩
   ·
    replace c8 := Bool.eq_false_iff.mpr c8
    subst c8
    rw [if_neg (show ¬ (false = true) by decide)] at H
    try dsimp only at H
    have H' := Aside0.mk H
    clear H
    obtain ⟨hcz9_0, hcz9_1, hcz9_2, hfz9_0, hfz9_1, hfz9_2⟩ := vF3 BK668.out
    go_wp2
    go_loopg [26] kj2 (fun kq v26 w' => ∃ (x26_2 : Int), v26 = .int .i64 x26_2 ∧ Aside0 (gimbalref11_Has.l0 kq l1 (wrap64 (2 * (l0_0.length : Int))) l1 (l1.length : Int) x26_2 l0_0 l0_1 a0_2 = some r) ∧ Aside0 (kq ≤ kj2) ∧ Aside0 (w'.heap[gb668]? = some (.cells #[(.slice A0_0 l0_0.length c0_0), (.slice A0_1 l0_1.length c0_1), .bool a0_2] 25 (0, 0))) ∧ Aside0 (Below w.heap.size w w'))
    case atStart => exact ⟨(0), (by first | rfl | (simp; done) | (simp [*]; done)), H', ⟨Nat.le_refl _⟩, ⟨vB BK668.out⟩, ⟨vW HB.out⟩⟩
    case round =>
     clear H'
     try clear c1
     try clear p2
     try clear c3
     try clear c5
     try clear p6
     try clear c8
     try clear hcz6_0
     try clear hcz6_1
     try clear hcz6_2
     try clear hcz7_0
     try clear hcz7_1
     try clear hcz7_2
     try clear hcz9_0
     try clear hcz9_1
     try clear hcz9_2
     try clear hfz6_0
     try clear hfz6_1
     try clear hfz6_2
     try clear hfz7_0
     try clear hfz7_1
     try clear hfz7_2
     try clear hfz9_0
     try clear hfz9_1
     try clear hfz9_2
     try clear p2
     obtain ⟨x26_2, rfl, HA, HK2, BK668, HB⟩ := hrel
     cases gk with
     | zero => exact absurd HA.out (by simp [gimbalref11_Has.l0])
     | succ k2 =>
      have H := HA.out
      clear HA
      simp only [gimbalref11_Has.l0] at H
      by_cases c10 : x26_2 < (l1.length : Int)
      ·
       rw [if_pos c10] at H
       have c10b0 : decide (x26_2 < (l1.length : Int)) = true := decide_eq_true c10
       clear c10
       by_cases c11 : 0 ≤ x26_2
       ·
        rw [if_pos c11] at H
        have c11b0 : decide (0 ≤ x26_2) = true := decide_eq_true c11
        clear c11
        by_cases c12 : x26_2 < (l1.length : Int)
        ·
         rw [if_pos c12] at H
         have c12b0 : decide (x26_2 < (l1.length : Int)) = true := decide_eq_true c12
         clear c12
         by_cases c13 : (rd l1 x26_2) ≤ (-4611686018427387904)
         ·
          rw [if_pos c13] at H
          have c13b0 : decide ((rd l1 x26_2) ≤ (-4611686018427387904)) = true := decide_eq_true c13
          clear c13
          obtain rfl := Option.some.inj H
          have p669 : 0 ≤ (x26_2 : Int) := of_decide_eq_true (by first | (with_reducible assumption) | assumption)
          have q669 : x26_2 < (l1.length : Int) := of_decide_eq_true (by first | (with_reducible assumption) | assumption)
          obtain ⟨ad669, e669, hx669_0⟩ := Kd.at_int HR1.out x26_2 p669 q669
          cases e669
          replace hx669_0 := (HB.out.cell (World.block_lt_of_cell? w _ hx669_0)).trans hx669_0
          replace p669 := eq_true p669
          replace q669 := eq_true q669
          go_wp2
          go_ret
          exact ⟨vE, vW HB.out⟩
         ·
          rw [if_neg c13] at H
          have c13b0 : decide ((rd l1 x26_2) ≤ (-4611686018427387904)) = false := decide_eq_false c13
          clear c13
          by_cases c14 : (rd l1 x26_2) ≥ 4611686018427387904
          ·
           rw [if_pos c14] at H
           have c14b0 : decide (4611686018427387904 ≤ (rd l1 x26_2)) = true := decide_eq_true c14
           clear c14
           obtain rfl := Option.some.inj H
           have p669 : 0 ≤ (x26_2 : Int) := of_decide_eq_true (by first | (with_reducible assumption) | assumption)
           have q669 : x26_2 < (l1.length : Int) := of_decide_eq_true (by first | (with_reducible assumption) | assumption)
           obtain ⟨ad669, e669, hx669_0⟩ := Kd.at_int HR1.out x26_2 p669 q669
           cases e669
           replace hx669_0 := (HB.out.cell (World.block_lt_of_cell? w _ hx669_0)).trans hx669_0
           replace p669 := eq_true p669
           replace q669 := eq_true q669
           go_wp2
           go_ret
           exact ⟨vE, vW HB.out⟩
          ·
           rw [if_neg c14] at H
           have c14b0 : decide (4611686018427387904 ≤ (rd l1 x26_2)) = false := decide_eq_false c14
           clear c14
           have H' := Aside0.mk H
           clear H
           have p669 : 0 ≤ (x26_2 : Int) := of_decide_eq_true (by first | (with_reducible assumption) | assumption)
           have q669 : x26_2 < (l1.length : Int) := of_decide_eq_true (by first | (with_reducible assumption) | assumption)
           obtain ⟨ad669, e669, hx669_0⟩ := Kd.at_int HR1.out x26_2 p669 q669
           cases e669
           replace hx669_0 := (HB.out.cell (World.block_lt_of_cell? w _ hx669_0)).trans hx669_0
           replace p669 := eq_true p669
           replace q669 := eq_true q669
           go_wp2
           go_roundg k2
           case measure => have := HJ2.out; have := HK2.out; omega
           case rel => exact ⟨(wrap64 (x26_2 + 1)), (by first | rfl | (simp; done) | (simp [*]; done)), H', ⟨by have := HJ2.out; have := HK2.out; omega⟩, ⟨vB BK668.out⟩, ⟨vW HB.out⟩⟩
        ·
         rw [if_neg c12] at H
         exact absurd H (by simp)
       ·
        rw [if_neg c11] at H
        exact absurd H (by simp)
      ·
       rw [if_neg c10] at H
       have c10b0 : decide (x26_2 < (l1.length : Int)) = false := decide_eq_false c10
       clear c10
       have H' := Aside0.mk H
       clear H
       go_wp2
       go_loopg [8] k2 (fun kq v8 w' => ∃ (x8_3 : Int), v8 = .int .i64 x8_3 ∧ Aside0 (gimbalref11_Has.l1 kq l1 (wrap64 (2 * (l0_0.length : Int))) x8_3 l0_0 l0_1 a0_2 = some r) ∧ Aside0 (kq ≤ k2) ∧ Aside0 (w'.heap[gb668]? = some (.cells #[(.slice A0_0 l0_0.length c0_0), (.slice A0_1 l0_1.length c0_1), .bool a0_2] 25 (0, 0))) ∧ Aside0 (Below w.heap.size w w'))
       case atStart => exact ⟨(0), (by first | rfl | (simp; done) | (simp [*]; done)), H', ⟨Nat.le_refl _⟩, ⟨vB BK668.out⟩, ⟨vW HB.out⟩⟩
       case round =>
        clear H'
        try clear c1
        try clear p2
        try clear c3
        try clear c5
        try clear p6
        try clear q6
        try clear hx6
        try clear c8
        try clear c10
        try clear c10b0
        try clear c11
        try clear c11b0
        try clear c12
        try clear c12b0
        try clear c13
        try clear c13b0
        try clear c14
        try clear c14b0
        try clear hcz6_0
        try clear hcz6_1
        try clear hcz6_2
        try clear hcz7_0
        try clear hcz7_1
        try clear hcz7_2
        try clear hcz9_0
        try clear hcz9_1
        try clear hcz9_2
        try clear hfz6_0
        try clear hfz6_1
        try clear hfz6_2
        try clear hfz7_0
        try clear hfz7_1
        try clear hfz7_2
        try clear hfz9_0
        try clear hfz9_1
        try clear hfz9_2
        try clear hx669_0
        try clear p2
        try clear p6
        try clear p669
        try clear q669
        obtain ⟨x8_3, rfl, HA, HK3, BK668, HB⟩ := hrel
        cases gk with
        | zero => exact absurd HA.out (by simp [gimbalref11_Has.l1])
        | succ k3 =>
         have H := HA.out
         clear HA
         simp only [gimbalref11_Has.l1] at H
         by_cases c15 : x8_3 < (wrap64 (2 * (l0_0.length : Int)))
         ·
          rw [if_pos c15] at H
          have c15b0 : decide (x8_3 < (wrap64 (2 * (l0_0.length : Int)))) = true := decide_eq_true c15
          clear c15
          have H' := Aside0.mk H
          clear H
          go_wp2
          go_loopg [9] k3 (fun kq v9 w' => ∃ (x9_4 : Int), v9 = .int .i64 x9_4 ∧ Aside0 (gimbalref11_Has.l2 kq l1 (wrap64 (2 * (l0_0.length : Int))) x8_3 x9_4 l0_0 l0_1 a0_2 = some r) ∧ Aside0 (kq ≤ k3) ∧ Aside0 (w'.heap[gb668]? = some (.cells #[(.slice A0_0 l0_0.length c0_0), (.slice A0_1 l0_1.length c0_1), .bool a0_2] 25 (0, 0))) ∧ Aside0 (Below w.heap.size w w'))
          case atStart => exact ⟨(0), (by first | rfl | (simp; done) | (simp [*]; done)), H', ⟨Nat.le_refl _⟩, ⟨vB BK668.out⟩, ⟨vW HB.out⟩⟩
          case round =>
           clear H'
           try clear c1
           try clear p2
           try clear c3
           try clear c5
           try clear p6
           try clear q6
           try clear hx6
           try clear c8
           try clear c10
           try clear c10b0
           try clear c11
           try clear c11b0
           try clear c12
           try clear c12b0
           try clear c13
           try clear c13b0
           try clear c14
           try clear c14b0
           try clear c15
           try clear c15b0
           try clear hcz6_0
           try clear hcz6_1
           try clear hcz6_2
           try clear hcz7_0
           try clear hcz7_1
           try clear hcz7_2
           try clear hcz9_0
           try clear hcz9_1
           try clear hcz9_2
           try clear hfz6_0
           try clear hfz6_1
           try clear hfz6_2
           try clear hfz7_0
           try clear hfz7_1
           try clear hfz7_2
           try clear hfz9_0
           try clear hfz9_1
           try clear hfz9_2
           try clear hx669_0
           try clear p2
           try clear p6
           try clear p669
           try clear q6
           try clear q669
           obtain ⟨x9_4, rfl, HA, HK4, BK668, HB⟩ := hrel
           cases gk with
           | zero => exact absurd HA.out (by simp [gimbalref11_Has.l2])
           | succ k4 =>
            have H := HA.out
            clear HA
            simp only [gimbalref11_Has.l2] at H
            by_cases c16 : x9_4 < (wrap64 (2 * (l0_0.length : Int)))
            ·
             rw [if_pos c16] at H
             have c16b0 : decide (x9_4 < (wrap64 (2 * (l0_0.length : Int)))) = true := decide_eq_true c16
             clear c16
             obtain ⟨ji17, hji17⟩ : ∃ j_ : Int, (wrap64 ((wrap64 (x8_3 * (wrap64 (2 * (l0_0.length : Int))))) + x9_4)) = j_ := ⟨_, rfl⟩
             first | rw [hji17] at H | simp only [hji17] at H
             have hji17w : (IntKind.i64.wrap ((wrap64 (x8_3 * (wrap64 (2 * (l0_0.length : Int))))) + x9_4)) = ji17 := (i64_w _).trans hji17
             by_cases c18 : 0 ≤ (ji17)
             ·
              rw [if_pos c18] at H
              have c18b0 : decide (0 ≤ (ji17)) = true := decide_eq_true c18
              clear c18
              by_cases c19 : (ji17) < (l0_1.length : Int)
              ·
               rw [if_pos c19] at H
               have c19b0 : decide ((ji17) < (l0_1.length : Int)) = true := decide_eq_true c19
               clear c19
               by_cases c20 : (rd l0_1 (ji17)) = 4611686018427387904
               ·
                rw [if_pos c20] at H
                have c20b0 : ((rd l0_1 (ji17)) == 4611686018427387904) = true := beq_iff_eq.mpr c20
                have c20b1 : ((rd l0_1 (ji17)) != 4611686018427387904) = false := bne_eq_false_iff_eq.mpr c20
                clear c20
                have H' := Aside0.mk H
                clear H
                try go_wp2
                replace BK668 := Aside0.mk (blk_drew BK668.out)
                replace HB := Aside0.mk (below_drew1 HB.out)
                have p670 : 0 ≤ ((ji17) : Int) := of_decide_eq_true (by first | (with_reducible assumption) | assumption)
                have q670 : (ji17) < (l0_1.length : Int) := of_decide_eq_true (by first | (with_reducible assumption) | assumption)
                obtain ⟨ad670, e670, hx670_0⟩ := Kd.at_int HR0_1.out (ji17) p670 q670
                have hw670_0 := hx670_0
                cases e670
                replace hx670_0 := (HB.out.cell (World.block_lt_of_cell? w _ hx670_0)).trans hx670_0
                replace p670 := eq_true p670
                replace q670 := eq_true q670
                refine start_ (n := 28) (S := fun w' => w'.cell? ⟨gb668, 0, none⟩ = some (.slice A0_0 l0_0.length c0_0) ∧ w'.cell? ⟨gb668, 1, none⟩ = some (.slice (some ad670) l0_1.length c0_1) ∧ w'.cell? ⟨gb668, 2, none⟩ = some (.bool a0_2) ∧ w'.cell? (ad670.add ((ji17)).toNat) = some (.int .i64 (rd l0_1 (ji17)))) (ds := []) (mB 28 0) (by kernel_rfl) rfl rfl ⟨(blk_cell BK668.out 0).trans rfl, (blk_cell BK668.out 1).trans rfl, (blk_cell BK668.out 2).trans rfl, ((HB.out.cell (World.block_lt_of_cell? w _ hw670_0)).trans hw670_0)⟩ (fun hHeld => ?_); refine with_tabW gimbalref11_Has.tab16 gimbalref11_Has.bits16 (fun HT_ HW_ => ?_)
                generalize wr.drew = w21 at BK668 HB hx670_0 hHeld ⊢
                refine pV_ 0 47 (mB 28 1) HT_ ?_
                refine pV_ 2 49 (mB 28 5) HT_ ?_
                refine pV_ 3 50 (mB 28 13) HT_ ?_
                refine pV_ 4 51 (mB 28 29) HT_ ?_
                refine pV_ 5 52 (mB 28 61) HT_ ?_
                refine pV_ 6 53 (mB 28 125) HT_ ?_
                refine tV_ 1 48 (mB 28 127) HT_ HW_ hHeld ?_
                refine pV_ 7 54 (mB 28 255) HT_ ?_
                refine tV_ 8 55 (mB 28 511) HT_ HW_ hHeld ?_
                refine pV_ 9 56 (mB 28 1023) HT_ ?_
                refine pV_ 10 57 (mB 28 2047) HT_ ?_
                refine pU_ 11 58 (mB 28 4095) HT_ ?_
                refine pU_ 12 59 (mB 28 8191) HT_ ?_
                refine pU_ 13 60 (mB 28 16383) HT_ ?_
                refine pU_ 14 61 (mB 28 32767) HT_ ?_
                refine pU_ 15 62 (mB 28 65535) HT_ ?_
                refine pU_ 16 63 (mB 28 131071) HT_ ?_
                refine pU_ 17 64 (mB 28 262143) HT_ ?_
                refine pU_ 18 65 (mB 28 524287) HT_ ?_
                refine pU_ 19 66 (mB 28 1048575) HT_ ?_
                refine pU_ 20 67 (mB 28 2097151) HT_ ?_
                refine pU_ 21 68 (mB 28 4194303) HT_ ?_
                refine pU_ 22 69 (mB 28 8388607) HT_ ?_
                refine pU_ 23 70 (mB 28 16777215) HT_ ?_
                refine pU_ 24 71 (mB 28 33554431) HT_ ?_
                refine pU_ 25 72 (mB 28 67108863) HT_ ?_
                refine pU_ 26 73 (mB 28 134217727) HT_ ?_
                refine pV_ 27 74 (mB 28 268435455) HT_ ?_
                refine dn_ HT_ ?_
                try go_wp2
                go_roundg k4
                case measure => have := HJ2.out; have := HK2.out; have := HK3.out; have := HK4.out; omega
                case rel => exact ⟨(wrap64 (x9_4 + 1)), (by first | rfl | (simp; done) | (simp [*]; done)), H', ⟨by have := HJ2.out; have := HK2.out; have := HK3.out; have := HK4.out; omega⟩, ⟨vB BK668.out⟩, ⟨vW HB.out⟩⟩
               ·
                rw [if_neg c20] at H
                have c20b0 : ((rd l0_1 (ji17)) == 4611686018427387904) = false := beq_eq_false_iff_ne.mpr c20
                have c20b1 : ((rd l0_1 (ji17)) != 4611686018427387904) = true := bne_iff_ne.mpr c20
                replace H := Option.bind_eq_some_iff.mp H
                obtain ⟨t671, A220, H⟩ := H
                try dsimp only at H
                have A22 := Aside0.mk A220
                clear A220
                replace H := Option.bind_eq_some_iff.mp H
                obtain ⟨t672, A230, H⟩ := H
                try dsimp only at H
                have A23 := Aside0.mk A230
                clear A230
                replace H := Option.bind_eq_some_iff.mp H
                obtain ⟨t674, A240, H⟩ := H
                try dsimp only at H
                have A24 := Aside0.mk A240
                clear A240
                by_cases c25 : t674 = true
                ·
                 subst c25
                 rw [if_pos rfl] at H
                 try dsimp only at H
                 obtain rfl := Option.some.inj H
                 try go_wp2
                 replace BK668 := Aside0.mk (blk_drew BK668.out)
                 replace HB := Aside0.mk (below_drew1 HB.out)
                 have p670 : 0 ≤ ((ji17) : Int) := of_decide_eq_true (by first | (with_reducible assumption) | assumption)
                 have q670 : (ji17) < (l0_1.length : Int) := of_decide_eq_true (by first | (with_reducible assumption) | assumption)
                 obtain ⟨ad670, e670, hx670_0⟩ := Kd.at_int HR0_1.out (ji17) p670 q670
                 have hw670_0 := hx670_0
                 cases e670
                 replace hx670_0 := (HB.out.cell (World.block_lt_of_cell? w _ hx670_0)).trans hx670_0
                 replace p670 := eq_true p670
                 replace q670 := eq_true q670
                 have p673 : 0 ≤ ((ji17) : Int) := of_decide_eq_true (by first | (with_reducible assumption) | assumption)
                 have q673 : (ji17) < (l0_1.length : Int) := of_decide_eq_true (by first | (with_reducible assumption) | assumption)
                 obtain ⟨ad673, e673, hx673_0⟩ := Kd.at_int HR0_1.out (ji17) p673 q673
                 have hw673_0 := hx673_0
                 obtain rfl : ad670 = ad673 := (by injection e673)
                 replace hx673_0 := (HB.out.cell (World.block_lt_of_cell? w _ hx673_0)).trans hx673_0
                 replace p673 := eq_true p673
                 replace q673 := eq_true q673
                 refine start_ (n := 28) (S := fun w' => w'.cell? ⟨gb668, 0, none⟩ = some (.slice A0_0 l0_0.length c0_0) ∧ w'.cell? ⟨gb668, 1, none⟩ = some (.slice (some ad670) l0_1.length c0_1) ∧ w'.cell? ⟨gb668, 2, none⟩ = some (.bool a0_2) ∧ w'.cell? (ad670.add ((ji17)).toNat) = some (.int .i64 (rd l0_1 (ji17))) ∧ w'.cell? (ad670.add ((ji17)).toNat) = some (.int .i64 (rd l0_1 (ji17)))) (ds := []) (mB 28 0) (by kernel_rfl) rfl rfl ⟨(blk_cell BK668.out 0).trans rfl, (blk_cell BK668.out 1).trans rfl, (blk_cell BK668.out 2).trans rfl, ((HB.out.cell (World.block_lt_of_cell? w _ hw670_0)).trans hw670_0), ((HB.out.cell (World.block_lt_of_cell? w _ hw673_0)).trans hw673_0)⟩ (fun hHeld => ?_); refine with_tabW gimbalref11_Has.tab16 gimbalref11_Has.bits16 (fun HT_ HW_ => ?_)
                 generalize wr.drew = w26 at BK668 HB hx670_0 hx673_0 hHeld ⊢
                 refine pV_ 0 47 (mB 28 1) HT_ ?_
                 refine pV_ 2 49 (mB 28 5) HT_ ?_
                 refine pV_ 3 50 (mB 28 13) HT_ ?_
                 refine pV_ 4 51 (mB 28 29) HT_ ?_
                 refine pV_ 5 52 (mB 28 61) HT_ ?_
                 refine pV_ 6 53 (mB 28 125) HT_ ?_
                 refine tV_ 1 48 (mB 28 127) HT_ HW_ hHeld ?_
                 refine pV_ 7 54 (mB 28 255) HT_ ?_
                 refine tV_ 8 55 (mB 28 511) HT_ HW_ hHeld ?_
                 refine pV_ 9 56 (mB 28 1023) HT_ ?_
                 refine pV_ 10 57 (mB 28 2047) HT_ ?_
                 refine pV_ 11 58 (mB 28 4095) HT_ ?_
                 refine pV_ 12 59 (mB 28 8191) HT_ ?_
                 refine pV_ 14 61 (mB 28 24575) HT_ ?_
                 refine pV_ 15 62 (mB 28 57343) HT_ ?_
                 refine pV_ 17 64 (mB 28 188415) HT_ ?_
                 refine pV_ 19 66 (mB 28 712703) HT_ ?_
                 refine pV_ 20 67 (mB 28 1761279) HT_ ?_
                 refine pV_ 21 68 (mB 28 3858431) HT_ ?_
                 refine pV_ 22 69 (mB 28 8052735) HT_ ?_
                 refine pV_ 23 70 (mB 28 16441343) HT_ ?_
                 refine tV_ 18 65 (mB 28 16703487) HT_ HW_ hHeld ?_
                 refine pV_ 24 71 (mB 28 33480703) HT_ ?_
                 refine tV_ 25 72 (mB 28 67035135) HT_ HW_ hHeld ?_
                 refine on_ 13 (some 60) (mB 28 67043327) HT_ (fun K hK => ?_)
                 refine gs_ Try.func77 #[.slice A1 l1.length c1, .int .i64 x8_3] ?_
                 with_reducible refine (gimbalref11_value.calls _ _ l1 x8_3 t671 _ ?side1 ?side2 A22.out).mono ?_
                 (case side1 => exact vC (Kd.C_below HR1.out HB.out))
                 (case side2 => exact HC1.out)
                 rintro e w' ⟨rfl, ⟨nd, rfl⟩⟩
                 refine ⟨_, rfl, ?_⟩
                 refine hK.out _ _ ⟨(blk_cell BK668.out 0).trans rfl, (blk_cell BK668.out 1).trans rfl, (blk_cell BK668.out 2).trans rfl, ((HB.out.cell (World.block_lt_of_cell? w _ hw670_0)).trans hw670_0), ((HB.out.cell (World.block_lt_of_cell? w _ hw673_0)).trans hw673_0)⟩ (fun hHeld => ?_)
                 clear hK K
                 refine norm_ (a' := ?_) ?_ ?_
                 rotate_left
                 ·
                  show Act.put _ (some 60) _ = _
                  simp only [Act.put, List.setIfInBounds_toArray, List.set_cons_zero, List.set_cons_succ, i64_w, i32_w]
                  rfl
                 refine on_ 16 (some 63) (mB 28 67108863) HT_ (fun K hK => ?_)
                 refine gs_ Try.func77 #[.slice A1 l1.length c1, .int .i64 x9_4] ?_
                 with_reducible refine (gimbalref11_value.calls _ _ l1 x9_4 t672 _ ?side1 ?side2 A23.out).mono ?_
                 (case side1 => repeat (first | exact (Kd.C_below HR1.out (vW HB.out)) | (with_reducible refine Kd.C_alloc ?_ _) | (with_reducible refine Kd.C_drewN ?_ _) | (with_reducible refine Kd.C_drew ?_)))
                 (case side2 => exact HC1.out)
                 rintro e w' ⟨rfl, ⟨nd, rfl⟩⟩
                 refine ⟨_, rfl, ?_⟩
                 refine hK.out _ _ ⟨(blk_cell BK668.out 0).trans rfl, (blk_cell BK668.out 1).trans rfl, (blk_cell BK668.out 2).trans rfl, ((HB.out.cell (World.block_lt_of_cell? w _ hw670_0)).trans hw670_0), ((HB.out.cell (World.block_lt_of_cell? w _ hw673_0)).trans hw673_0)⟩ (fun hHeld => ?_)
                 clear hK K
                 refine norm_ (a' := ?_) ?_ ?_
                 rotate_left
                 ·
                  show Act.put _ (some 63) _ = _
                  simp only [Act.put, List.setIfInBounds_toArray, List.set_cons_zero, List.set_cons_succ, i64_w, i32_w]
                  rfl
                 refine on_ 26 (some 73) (mB 28 134217727) HT_ (fun K hK => ?_)
                 refine goes_ Try.func76 (by kernel_rfl) rfl #[.int .i64 t671, .int .i64 t672, .int .i64 (rd l0_1 (ji17))] (by rfl) rfl rfl (by (try simp only [List.map_toArray, List.map_cons, List.map_nil]); first | done | (simp only [hji17]; rfl) | rfl | (simp only [List.length_drop, List.length_take]; rfl)) ?_
                 with_reducible refine (gimbalref11_beyond.calls t671 t672 (rd l0_1 (ji17)) true _ A24.out).mono ?_
                 rintro e w27 ⟨rfl, hb⟩
                 refine ⟨_, rfl, ?_⟩
                 replace BK668 := vBb BK668 hb
                 replace HB := vWs HB hb
                 (try clear hb)
                 (try clear hb2)
                 (try clear hk)
                 (try clear hi)
                 refine hK.out _ _ ⟨(blk_cell BK668.out 0).trans rfl, (blk_cell BK668.out 1).trans rfl, (blk_cell BK668.out 2).trans rfl, ((HB.out.cell (World.block_lt_of_cell? w _ hw670_0)).trans hw670_0), ((HB.out.cell (World.block_lt_of_cell? w _ hw673_0)).trans hw673_0)⟩ (fun hHeld => ?_)
                 clear hK K
                 refine norm_ (a' := ?_) ?_ ?_
                 rotate_left
                 ·
                  show Act.put _ (some 73) _ = _
                  simp only [Act.put, List.setIfInBounds_toArray, List.set_cons_zero, List.set_cons_succ, i64_w, i32_w]
                  rfl
                 refine pV_ 27 74 (mB 28 268435455) HT_ ?_
                 refine dn_ HT_ ?_
                 try go_wp2
                 go_ret
                 exact ⟨by first | rfl | (simp [errW_none, errW_some] <;> rfl) | (simp only [← hji17]; first | rfl | (simp [errW_none, errW_some] <;> rfl)) | (simp [*, errW_none, errW_some] <;> rfl) | (simp [wrap64]; done), vW HB.out⟩
                ·
                 replace c25 := Bool.eq_false_iff.mpr c25
                 subst c25
                 rw [if_neg (show ¬ (false = true) by decide)] at H
                 try dsimp only at H
                 have H' := Aside0.mk H
                 clear H
                 try go_wp2
                 replace BK668 := Aside0.mk (blk_drew BK668.out)
                 replace HB := Aside0.mk (below_drew1 HB.out)
                 have p670 : 0 ≤ ((ji17) : Int) := of_decide_eq_true (by first | (with_reducible assumption) | assumption)
                 have q670 : (ji17) < (l0_1.length : Int) := of_decide_eq_true (by first | (with_reducible assumption) | assumption)
                 obtain ⟨ad670, e670, hx670_0⟩ := Kd.at_int HR0_1.out (ji17) p670 q670
                 have hw670_0 := hx670_0
                 cases e670
                 replace hx670_0 := (HB.out.cell (World.block_lt_of_cell? w _ hx670_0)).trans hx670_0
                 replace p670 := eq_true p670
                 replace q670 := eq_true q670
                 have p673 : 0 ≤ ((ji17) : Int) := of_decide_eq_true (by first | (with_reducible assumption) | assumption)
                 have q673 : (ji17) < (l0_1.length : Int) := of_decide_eq_true (by first | (with_reducible assumption) | assumption)
                 obtain ⟨ad673, e673, hx673_0⟩ := Kd.at_int HR0_1.out (ji17) p673 q673
                 have hw673_0 := hx673_0
                 obtain rfl : ad670 = ad673 := (by injection e673)
                 replace hx673_0 := (HB.out.cell (World.block_lt_of_cell? w _ hx673_0)).trans hx673_0
                 replace p673 := eq_true p673
                 replace q673 := eq_true q673
                 refine start_ (n := 28) (S := fun w' => w'.cell? ⟨gb668, 0, none⟩ = some (.slice A0_0 l0_0.length c0_0) ∧ w'.cell? ⟨gb668, 1, none⟩ = some (.slice (some ad670) l0_1.length c0_1) ∧ w'.cell? ⟨gb668, 2, none⟩ = some (.bool a0_2) ∧ w'.cell? (ad670.add ((ji17)).toNat) = some (.int .i64 (rd l0_1 (ji17))) ∧ w'.cell? (ad670.add ((ji17)).toNat) = some (.int .i64 (rd l0_1 (ji17)))) (ds := []) (mB 28 0) (by kernel_rfl) rfl rfl ⟨(blk_cell BK668.out 0).trans rfl, (blk_cell BK668.out 1).trans rfl, (blk_cell BK668.out 2).trans rfl, ((HB.out.cell (World.block_lt_of_cell? w _ hw670_0)).trans hw670_0), ((HB.out.cell (World.block_lt_of_cell? w _ hw673_0)).trans hw673_0)⟩ (fun hHeld => ?_); refine with_tabW gimbalref11_Has.tab16 gimbalref11_Has.bits16 (fun HT_ HW_ => ?_)
                 generalize wr.drew = w28 at BK668 HB hx670_0 hx673_0 hHeld ⊢
                 refine pV_ 0 47 (mB 28 1) HT_ ?_
                 refine pV_ 2 49 (mB 28 5) HT_ ?_
                 refine pV_ 3 50 (mB 28 13) HT_ ?_
                 refine pV_ 4 51 (mB 28 29) HT_ ?_
                 refine pV_ 5 52 (mB 28 61) HT_ ?_
                 refine pV_ 6 53 (mB 28 125) HT_ ?_
                 refine tV_ 1 48 (mB 28 127) HT_ HW_ hHeld ?_
                 refine pV_ 7 54 (mB 28 255) HT_ ?_
                 refine tV_ 8 55 (mB 28 511) HT_ HW_ hHeld ?_
                 refine pV_ 9 56 (mB 28 1023) HT_ ?_
                 refine pV_ 10 57 (mB 28 2047) HT_ ?_
                 refine pV_ 11 58 (mB 28 4095) HT_ ?_
                 refine pV_ 12 59 (mB 28 8191) HT_ ?_
                 refine pV_ 14 61 (mB 28 24575) HT_ ?_
                 refine pV_ 15 62 (mB 28 57343) HT_ ?_
                 refine pV_ 17 64 (mB 28 188415) HT_ ?_
                 refine pV_ 19 66 (mB 28 712703) HT_ ?_
                 refine pV_ 20 67 (mB 28 1761279) HT_ ?_
                 refine pV_ 21 68 (mB 28 3858431) HT_ ?_
                 refine pV_ 22 69 (mB 28 8052735) HT_ ?_
                 refine pV_ 23 70 (mB 28 16441343) HT_ ?_
                 refine tV_ 18 65 (mB 28 16703487) HT_ HW_ hHeld ?_
                 refine pV_ 24 71 (mB 28 33480703) HT_ ?_
                 refine tV_ 25 72 (mB 28 67035135) HT_ HW_ hHeld ?_
                 refine on_ 13 (some 60) (mB 28 67043327) HT_ (fun K hK => ?_)
                 refine gs_ Try.func77 #[.slice A1 l1.length c1, .int .i64 x8_3] ?_
                 with_reducible refine (gimbalref11_value.calls _ _ l1 x8_3 t671 _ ?side1 ?side2 A22.out).mono ?_
                 (case side1 => exact vC (Kd.C_below HR1.out HB.out))
                 (case side2 => exact HC1.out)
                 rintro e w' ⟨rfl, ⟨nd, rfl⟩⟩
                 refine ⟨_, rfl, ?_⟩
                 refine hK.out _ _ ⟨(blk_cell BK668.out 0).trans rfl, (blk_cell BK668.out 1).trans rfl, (blk_cell BK668.out 2).trans rfl, ((HB.out.cell (World.block_lt_of_cell? w _ hw670_0)).trans hw670_0), ((HB.out.cell (World.block_lt_of_cell? w _ hw673_0)).trans hw673_0)⟩ (fun hHeld => ?_)
                 clear hK K
                 refine norm_ (a' := ?_) ?_ ?_
                 rotate_left
                 ·
                  show Act.put _ (some 60) _ = _
                  simp only [Act.put, List.setIfInBounds_toArray, List.set_cons_zero, List.set_cons_succ, i64_w, i32_w]
                  rfl
                 refine on_ 16 (some 63) (mB 28 67108863) HT_ (fun K hK => ?_)
                 refine gs_ Try.func77 #[.slice A1 l1.length c1, .int .i64 x9_4] ?_
                 with_reducible refine (gimbalref11_value.calls _ _ l1 x9_4 t672 _ ?side1 ?side2 A23.out).mono ?_
                 (case side1 => repeat (first | exact (Kd.C_below HR1.out (vW HB.out)) | (with_reducible refine Kd.C_alloc ?_ _) | (with_reducible refine Kd.C_drewN ?_ _) | (with_reducible refine Kd.C_drew ?_)))
                 (case side2 => exact HC1.out)
                 rintro e w' ⟨rfl, ⟨nd, rfl⟩⟩
                 refine ⟨_, rfl, ?_⟩
                 refine hK.out _ _ ⟨(blk_cell BK668.out 0).trans rfl, (blk_cell BK668.out 1).trans rfl, (blk_cell BK668.out 2).trans rfl, ((HB.out.cell (World.block_lt_of_cell? w _ hw670_0)).trans hw670_0), ((HB.out.cell (World.block_lt_of_cell? w _ hw673_0)).trans hw673_0)⟩ (fun hHeld => ?_)
                 clear hK K
                 refine norm_ (a' := ?_) ?_ ?_
                 rotate_left
                 ·
                  show Act.put _ (some 63) _ = _
                  simp only [Act.put, List.setIfInBounds_toArray, List.set_cons_zero, List.set_cons_succ, i64_w, i32_w]
                  rfl
                 refine on_ 26 (some 73) (mB 28 134217727) HT_ (fun K hK => ?_)
                 refine goes_ Try.func76 (by kernel_rfl) rfl #[.int .i64 t671, .int .i64 t672, .int .i64 (rd l0_1 (ji17))] (by rfl) rfl rfl (by (try simp only [List.map_toArray, List.map_cons, List.map_nil]); first | done | (simp only [hji17]; rfl) | rfl | (simp only [List.length_drop, List.length_take]; rfl)) ?_
                 with_reducible refine (gimbalref11_beyond.calls t671 t672 (rd l0_1 (ji17)) false _ A24.out).mono ?_
                 rintro e w29 ⟨rfl, hb⟩
                 refine ⟨_, rfl, ?_⟩
                 replace BK668 := vBb BK668 hb
                 replace HB := vWs HB hb
                 (try clear hb)
                 (try clear hb2)
                 (try clear hk)
                 (try clear hi)
                 refine hK.out _ _ ⟨(blk_cell BK668.out 0).trans rfl, (blk_cell BK668.out 1).trans rfl, (blk_cell BK668.out 2).trans rfl, ((HB.out.cell (World.block_lt_of_cell? w _ hw670_0)).trans hw670_0), ((HB.out.cell (World.block_lt_of_cell? w _ hw673_0)).trans hw673_0)⟩ (fun hHeld => ?_)
                 clear hK K
                 refine norm_ (a' := ?_) ?_ ?_
                 rotate_left
                 ·
                  show Act.put _ (some 73) _ = _
                  simp only [Act.put, List.setIfInBounds_toArray, List.set_cons_zero, List.set_cons_succ, i64_w, i32_w]
                  rfl
                 refine pV_ 27 74 (mB 28 268435455) HT_ ?_
                 refine dn_ HT_ ?_
                 try go_wp2
                 go_roundg k4
                 case measure => have := HJ2.out; have := HK2.out; have := HK3.out; have := HK4.out; omega
                 case rel => exact ⟨(wrap64 (x9_4 + 1)), (by first | rfl | (simp; done) | (simp [*]; done)), H', ⟨by have := HJ2.out; have := HK2.out; have := HK3.out; have := HK4.out; omega⟩, ⟨vB BK668.out⟩, ⟨vW HB.out⟩⟩
              ·
               rw [if_neg c19] at H
               exact absurd H (by simp)
             ·
              rw [if_neg c18] at H
              exact absurd H (by simp)
            ·
             rw [if_neg c16] at H
             have c16b0 : decide (x9_4 < (wrap64 (2 * (l0_0.length : Int)))) = false := decide_eq_false c16
             clear c16
             have H' := Aside0.mk H
             clear H
             go_wp2
             go_roundg k4
             case measure => have := HJ2.out; have := HK2.out; have := HK3.out; have := HK4.out; omega
             case rel => exact ⟨(wrap64 (x8_3 + 1)), (by first | rfl | (simp; done) | (simp [*]; done)), H', ⟨by have := HJ2.out; have := HK2.out; have := HK3.out; have := HK4.out; omega⟩, ⟨vB BK668.out⟩, ⟨vW HB.out⟩⟩
         ·
          rw [if_neg c15] at H
          have c15b0 : decide (x8_3 < (wrap64 (2 * (l0_0.length : Int)))) = false := decide_eq_false c15
          clear c15
          obtain rfl := Option.some.inj H
          go_wp2
          go_ret
          exact ⟨vE, vW HB.out⟩
def gimbalref12_FormValue.f (a0_0 : Int) (a0_1 : Int) (a0_2 : Int) (a0_3 : Int) (a0_4 : Int) (l1 : List Int) : Option (Int) := if a0_1 = 0 then (if a0_3 = 0 then (some a0_4) else (if 0 ≤ a0_2 then (if a0_2 < (l1.length : Int) then (some (wrap64 (a0_4 + (wrap64 (a0_3 * (rd l1 a0_2)))))) else (none)) else (none))) else (if 0 ≤ a0_0 then (if a0_0 < (l1.length : Int) then (if a0_3 = 0 then (some (wrap64 (a0_4 + (wrap64 (a0_1 * (rd l1 a0_0)))))) else (if 0 ≤ a0_2 then (if a0_2 < (l1.length : Int) then (some (wrap64 ((wrap64 (a0_4 + (wrap64 (a0_1 * (rd l1 a0_0))))) + (wrap64 (a0_3 * (rd l1 a0_2)))))) else (none)) else (none))) else (none)) else (none))
theorem gimbalref12_FormValue.calls (a0_0 : Int) (a0_1 : Int) (a0_2 : Int) (a0_3 : Int) (a0_4 : Int) (A1 : Option Addr) (c1 : Nat) (l1 : List Int) (r : Int) (w : World) (hr1 : Kd.C (Kd.int .i64) w A1 l1.length l1) (hc1 : l1.length ≤ c1) (h : gimbalref12_FormValue.f a0_0 a0_1 a0_2 a0_3 a0_4 l1 = some r) :
 Calls Try.prog 30 #[.agg #[.int .i64 a0_0, .int .i64 a0_1, .int .i64 a0_2, .int .i64 a0_3, .int .i64 a0_4], .slice A1 l1.length c1] w fun e w' => e = .returned (.int .i64 r) ∧ Below w.heap.size w w' := by
 have hu34 := Try.underlying34
 have HR1 := Aside0.mk hr1
 have HC1 := Aside0.mk hc1
 clear hr1 hc1
 have HB := Aside0.mk (Below.refl w.heap.size w)
 have H := h
 unfold gimbalref12_FormValue.f at H
 clear h
 by_cases c3 : a0_1 = 0
 ·
  rw [if_pos c3] at H
  have c3b0 : (a0_1 == 0) = true := beq_iff_eq.mpr c3
  have c3b1 : (a0_1 != 0) = false := bne_eq_false_iff_eq.mpr c3
  clear c3
  by_cases c4 : a0_3 = 0
  ·
   rw [if_pos c4] at H
   have c4b0 : (a0_3 == 0) = true := beq_iff_eq.mpr c4
   have c4b1 : (a0_3 != 0) = false := bne_eq_false_iff_eq.mpr c4
   clear c4
   obtain rfl := Option.some.inj H
   go_enter Try.func30, Try.ntmps30
   go_wp2_with (first | ((with_reducible refine gate_dst (N := 2) rfl ?_); refine bx_ 2 #[.int .i64 a0_0, .int .i64 a0_1, .int .i64 a0_2, .int .i64 a0_3, .int .i64 a0_4] 34 ?_; intro gb655 hg w5 hbox hb; have BK655 := Aside0.mk (hbox); have GW655 := vS hg HB; have GE655 := vS hg HB; replace HB := vWs HB hb; clear hb hbox hg; obtain ⟨hcz6_0, hcz6_1, hcz6_2, hcz6_3, hcz6_4, hfz6_0, hfz6_1, hfz6_2, hfz6_3, hfz6_4⟩ := vF5 BK655.out))
   repeat (go_quiet (first | ((with_reducible refine gate_dst (N := 2) rfl ?_); refine bx_ 2 #[.int .i64 a0_0, .int .i64 a0_1, .int .i64 a0_2, .int .i64 a0_3, .int .i64 a0_4] 34 ?_; intro gb655 hg w5 hbox hb; have BK655 := Aside0.mk (hbox); have GW655 := vS hg HB; have GE655 := vS hg HB; replace HB := vWs HB hb; clear hb hbox hg; obtain ⟨hcz6_0, hcz6_1, hcz6_2, hcz6_3, hcz6_4, hfz6_0, hfz6_1, hfz6_2, hfz6_3, hfz6_4⟩ := vF5 BK655.out)); try go_wp2_with (first | ((with_reducible refine gate_dst (N := 2) rfl ?_); refine bx_ 2 #[.int .i64 a0_0, .int .i64 a0_1, .int .i64 a0_2, .int .i64 a0_3, .int .i64 a0_4] 34 ?_; intro gb655 hg w5 hbox hb; have BK655 := Aside0.mk (hbox); have GW655 := vS hg HB; have GE655 := vS hg HB; replace HB := vWs HB hb; clear hb hbox hg; obtain ⟨hcz6_0, hcz6_1, hcz6_2, hcz6_3, hcz6_4, hfz6_0, hfz6_1, hfz6_2, hfz6_3, hfz6_4⟩ := vF5 BK655.out)))
   go_ret
   exact ⟨vE, vW HB.out⟩
  ·
   rw [if_neg c4] at H
   have c4b0 : (a0_3 == 0) = false := beq_eq_false_iff_ne.mpr c4
   have c4b1 : (a0_3 != 0) = true := bne_iff_ne.mpr c4
   by_cases c7 : 0 ≤ a0_2
   ·
    rw [if_pos c7] at H
    have c7b0 : decide (0 ≤ a0_2) = true := decide_eq_true c7
    clear c7
    by_cases c8 : a0_2 < (l1.length : Int)
    ·
     rw [if_pos c8] at H
     have c8b0 : decide (a0_2 < (l1.length : Int)) = true := decide_eq_true c8
     clear c8
     obtain rfl := Option.some.inj H
     go_enter Try.func30, Try.ntmps30
     go_wp2_with (first | ((with_reducible refine gate_dst (N := 2) rfl ?_); refine bx_ 2 #[.int .i64 a0_0, .int .i64 a0_1, .int .i64 a0_2, .int .i64 a0_3, .int .i64 a0_4] 34 ?_; intro gb655 hg w9 hbox hb; have BK655 := Aside0.mk (hbox); have GW655 := vS hg HB; have GE655 := vS hg HB; replace HB := vWs HB hb; clear hb hbox hg; obtain ⟨hcz10_0, hcz10_1, hcz10_2, hcz10_3, hcz10_4, hfz10_0, hfz10_1, hfz10_2, hfz10_3, hfz10_4⟩ := vF5 BK655.out; have p656 : 0 ≤ (a0_2 : Int) := of_decide_eq_true (by first | (with_reducible assumption) | assumption); have q656 : a0_2 < (l1.length : Int) := of_decide_eq_true (by first | (with_reducible assumption) | assumption); obtain ⟨ad656, e656, hx656_0⟩ := Kd.at_int HR1.out a0_2 p656 q656; cases e656; replace hx656_0 := (HB.out.cell (World.block_lt_of_cell? w _ hx656_0)).trans hx656_0; replace p656 := eq_true p656; replace q656 := eq_true q656))
     repeat (go_quiet (first | ((with_reducible refine gate_dst (N := 2) rfl ?_); refine bx_ 2 #[.int .i64 a0_0, .int .i64 a0_1, .int .i64 a0_2, .int .i64 a0_3, .int .i64 a0_4] 34 ?_; intro gb655 hg w9 hbox hb; have BK655 := Aside0.mk (hbox); have GW655 := vS hg HB; have GE655 := vS hg HB; replace HB := vWs HB hb; clear hb hbox hg; obtain ⟨hcz10_0, hcz10_1, hcz10_2, hcz10_3, hcz10_4, hfz10_0, hfz10_1, hfz10_2, hfz10_3, hfz10_4⟩ := vF5 BK655.out; have p656 : 0 ≤ (a0_2 : Int) := of_decide_eq_true (by first | (with_reducible assumption) | assumption); have q656 : a0_2 < (l1.length : Int) := of_decide_eq_true (by first | (with_reducible assumption) | assumption); obtain ⟨ad656, e656, hx656_0⟩ := Kd.at_int HR1.out a0_2 p656 q656; cases e656; replace hx656_0 := (HB.out.cell (World.block_lt_of_cell? w _ hx656_0)).trans hx656_0; replace p656 := eq_true p656; replace q656 := eq_true q656)); try go_wp2_with (first | ((with_reducible refine gate_dst (N := 2) rfl ?_); refine bx_ 2 #[.int .i64 a0_0, .int .i64 a0_1, .int .i64 a0_2, .int .i64 a0_3, .int .i64 a0_4] 34 ?_; intro gb655 hg w9 hbox hb; have BK655 := Aside0.mk (hbox); have GW655 := vS hg HB; have GE655 := vS hg HB; replace HB := vWs HB hb; clear hb hbox hg; obtain ⟨hcz10_0, hcz10_1, hcz10_2, hcz10_3, hcz10_4, hfz10_0, hfz10_1, hfz10_2, hfz10_3, hfz10_4⟩ := vF5 BK655.out; have p656 : 0 ≤ (a0_2 : Int) := of_decide_eq_true (by first | (with_reducible assumption) | assumption); have q656 : a0_2 < (l1.length : Int) := of_decide_eq_true (by first | (with_reducible assumption) | assumption); obtain ⟨ad656, e656, hx656_0⟩ := Kd.at_int HR1.out a0_2 p656 q656; cases e656; replace hx656_0 := (HB.out.cell (World.block_lt_of_cell? w _ hx656_0)).trans hx656_0; replace p656 := eq_true p656; replace q656 := eq_true q656)))
     go_ret
     exact ⟨vE, vW HB.out⟩
    ·
     rw [if_neg c8] at H
     exact absurd H (by simp)
   ·
    rw [if_neg c7] at H
    exact absurd H (by simp)
 ·
  rw [if_neg c3] at H
  have c3b0 : (a0_1 == 0) = false := beq_eq_false_iff_ne.mpr c3
  have c3b1 : (a0_1 != 0) = true := bne_iff_ne.mpr c3
  by_cases c11 : 0 ≤ a0_0
  ·
   rw [if_pos c11] at H
   have c11b0 : decide (0 ≤ a0_0) = true := decide_eq_true c11
   clear c11
   by_cases c12 : a0_0 < (l1.length : Int)
   ·
    rw [if_pos c12] at H
    have c12b0 : decide (a0_0 < (l1.length : Int)) = true := decide_eq_true c12
    clear c12
    by_cases c13 : a0_3 = 0
    ·
     rw [if_pos c13] at H
     have c13b0 : (a0_3 == 0) = true := beq_iff_eq.mpr c13
     have c13b1 : (a0_3 != 0) = false := bne_eq_false_iff_eq.mpr c13
     clear c13
     obtain rfl := Option.some.inj H
     go_enter Try.func30, Try.ntmps30
     go_wp2_with (first | ((with_reducible refine gate_dst (N := 2) rfl ?_); refine bx_ 2 #[.int .i64 a0_0, .int .i64 a0_1, .int .i64 a0_2, .int .i64 a0_3, .int .i64 a0_4] 34 ?_; intro gb655 hg w14 hbox hb; have BK655 := Aside0.mk (hbox); have GW655 := vS hg HB; have GE655 := vS hg HB; replace HB := vWs HB hb; clear hb hbox hg; obtain ⟨hcz15_0, hcz15_1, hcz15_2, hcz15_3, hcz15_4, hfz15_0, hfz15_1, hfz15_2, hfz15_3, hfz15_4⟩ := vF5 BK655.out; have p657 : 0 ≤ (a0_0 : Int) := of_decide_eq_true (by first | (with_reducible assumption) | assumption); have q657 : a0_0 < (l1.length : Int) := of_decide_eq_true (by first | (with_reducible assumption) | assumption); obtain ⟨ad657, e657, hx657_0⟩ := Kd.at_int HR1.out a0_0 p657 q657; cases e657; replace hx657_0 := (HB.out.cell (World.block_lt_of_cell? w _ hx657_0)).trans hx657_0; replace p657 := eq_true p657; replace q657 := eq_true q657))
     repeat (go_quiet (first | ((with_reducible refine gate_dst (N := 2) rfl ?_); refine bx_ 2 #[.int .i64 a0_0, .int .i64 a0_1, .int .i64 a0_2, .int .i64 a0_3, .int .i64 a0_4] 34 ?_; intro gb655 hg w14 hbox hb; have BK655 := Aside0.mk (hbox); have GW655 := vS hg HB; have GE655 := vS hg HB; replace HB := vWs HB hb; clear hb hbox hg; obtain ⟨hcz15_0, hcz15_1, hcz15_2, hcz15_3, hcz15_4, hfz15_0, hfz15_1, hfz15_2, hfz15_3, hfz15_4⟩ := vF5 BK655.out; have p657 : 0 ≤ (a0_0 : Int) := of_decide_eq_true (by first | (with_reducible assumption) | assumption); have q657 : a0_0 < (l1.length : Int) := of_decide_eq_true (by first | (with_reducible assumption) | assumption); obtain ⟨ad657, e657, hx657_0⟩ := Kd.at_int HR1.out a0_0 p657 q657; cases e657; replace hx657_0 := (HB.out.cell (World.block_lt_of_cell? w _ hx657_0)).trans hx657_0; replace p657 := eq_true p657; replace q657 := eq_true q657)); try go_wp2_with (first | ((with_reducible refine gate_dst (N := 2) rfl ?_); refine bx_ 2 #[.int .i64 a0_0, .int .i64 a0_1, .int .i64 a0_2, .int .i64 a0_3, .int .i64 a0_4] 34 ?_; intro gb655 hg w14 hbox hb; have BK655 := Aside0.mk (hbox); have GW655 := vS hg HB; have GE655 := vS hg HB; replace HB := vWs HB hb; clear hb hbox hg; obtain ⟨hcz15_0, hcz15_1, hcz15_2, hcz15_3, hcz15_4, hfz15_0, hfz15_1, hfz15_2, hfz15_3, hfz15_4⟩ := vF5 BK655.out; have p657 : 0 ≤ (a0_0 : Int) := of_decide_eq_true (by first | (with_reducible assumption) | assumption); have q657 : a0_0 < (l1.length : Int) := of_decide_eq_true (by first | (with_reducible assumption) | assumption); obtain ⟨ad657, e657, hx657_0⟩ := Kd.at_int HR1.out a0_0 p657 q657; cases e657; replace hx657_0 := (HB.out.cell (World.block_lt_of_cell? w _ hx657_0)).trans hx657_0; replace p657 := eq_true p657; replace q657 := eq_true q657)))
     go_ret
     exact ⟨vE, vW HB.out⟩
    ·
     rw [if_neg c13] at H
     have c13b0 : (a0_3 == 0) = false := beq_eq_false_iff_ne.mpr c13
     have c13b1 : (a0_3 != 0) = true := bne_iff_ne.mpr c13
     by_cases c16 : 0 ≤ a0_2
     ·
      rw [if_pos c16] at H
      have c16b0 : decide (0 ≤ a0_2) = true := decide_eq_true c16
      clear c16
      by_cases c17 : a0_2 < (l1.length : Int)
      ·
       rw [if_pos c17] at H
       have c17b0 : decide (a0_2 < (l1.length : Int)) = true := decide_eq_true c17
       clear c17
       obtain rfl := Option.some.inj H
       go_enter Try.func30, Try.ntmps30
       go_wp2_with (first | ((with_reducible refine gate_dst (N := 2) rfl ?_); refine bx_ 2 #[.int .i64 a0_0, .int .i64 a0_1, .int .i64 a0_2, .int .i64 a0_3, .int .i64 a0_4] 34 ?_; intro gb655 hg w18 hbox hb; have BK655 := Aside0.mk (hbox); have GW655 := vS hg HB; have GE655 := vS hg HB; replace HB := vWs HB hb; clear hb hbox hg; obtain ⟨hcz19_0, hcz19_1, hcz19_2, hcz19_3, hcz19_4, hfz19_0, hfz19_1, hfz19_2, hfz19_3, hfz19_4⟩ := vF5 BK655.out; have p657 : 0 ≤ (a0_0 : Int) := of_decide_eq_true (by first | (with_reducible assumption) | assumption); have q657 : a0_0 < (l1.length : Int) := of_decide_eq_true (by first | (with_reducible assumption) | assumption); obtain ⟨ad657, e657, hx657_0⟩ := Kd.at_int HR1.out a0_0 p657 q657; cases e657; replace hx657_0 := (HB.out.cell (World.block_lt_of_cell? w _ hx657_0)).trans hx657_0; replace p657 := eq_true p657; replace q657 := eq_true q657; have p658 : 0 ≤ (a0_2 : Int) := of_decide_eq_true (by first | (with_reducible assumption) | assumption); have q658 : a0_2 < (l1.length : Int) := of_decide_eq_true (by first | (with_reducible assumption) | assumption); obtain ⟨ad658, e658, hx658_0⟩ := Kd.at_int HR1.out a0_2 p658 q658; obtain rfl : ad657 = ad658 := (by injection e658); replace hx658_0 := (HB.out.cell (World.block_lt_of_cell? w _ hx658_0)).trans hx658_0; replace p658 := eq_true p658; replace q658 := eq_true q658))
       repeat (go_quiet (first | ((with_reducible refine gate_dst (N := 2) rfl ?_); refine bx_ 2 #[.int .i64 a0_0, .int .i64 a0_1, .int .i64 a0_2, .int .i64 a0_3, .int .i64 a0_4] 34 ?_; intro gb655 hg w18 hbox hb; have BK655 := Aside0.mk (hbox); have GW655 := vS hg HB; have GE655 := vS hg HB; replace HB := vWs HB hb; clear hb hbox hg; obtain ⟨hcz19_0, hcz19_1, hcz19_2, hcz19_3, hcz19_4, hfz19_0, hfz19_1, hfz19_2, hfz19_3, hfz19_4⟩ := vF5 BK655.out; have p657 : 0 ≤ (a0_0 : Int) := of_decide_eq_true (by first | (with_reducible assumption) | assumption); have q657 : a0_0 < (l1.length : Int) := of_decide_eq_true (by first | (with_reducible assumption) | assumption); obtain ⟨ad657, e657, hx657_0⟩ := Kd.at_int HR1.out a0_0 p657 q657; cases e657; replace hx657_0 := (HB.out.cell (World.block_lt_of_cell? w _ hx657_0)).trans hx657_0; replace p657 := eq_true p657; replace q657 := eq_true q657; have p658 : 0 ≤ (a0_2 : Int) := of_decide_eq_true (by first | (with_reducible assumption) | assumption); have q658 : a0_2 < (l1.length : Int) := of_decide_eq_true (by first | (with_reducible assumption) | assumption); obtain ⟨ad658, e658, hx658_0⟩ := Kd.at_int HR1.out a0_2 p658 q658; obtain rfl : ad657 = ad658 := (by injection e658); replace hx658_0 := (HB.out.cell (World.block_lt_of_cell? w _ hx658_0)).trans hx658_0; replace p658 := eq_true p658; replace q658 := eq_true q658)); try go_wp2_with (first | ((with_reducible refine gate_dst (N := 2) rfl ?_); refine bx_ 2 #[.int .i64 a0_0, .int .i64 a0_1, .int .i64 a0_2, .int .i64 a0_3, .int .i64 a0_4] 34 ?_; intro gb655 hg w18 hbox hb; have BK655 := Aside0.mk (hbox); have GW655 := vS hg HB; have GE655 := vS hg HB; replace HB := vWs HB hb; clear hb hbox hg; obtain ⟨hcz19_0, hcz19_1, hcz19_2, hcz19_3, hcz19_4, hfz19_0, hfz19_1, hfz19_2, hfz19_3, hfz19_4⟩ := vF5 BK655.out; have p657 : 0 ≤ (a0_0 : Int) := of_decide_eq_true (by first | (with_reducible assumption) | assumption); have q657 : a0_0 < (l1.length : Int) := of_decide_eq_true (by first | (with_reducible assumption) | assumption); obtain ⟨ad657, e657, hx657_0⟩ := Kd.at_int HR1.out a0_0 p657 q657; cases e657; replace hx657_0 := (HB.out.cell (World.block_lt_of_cell? w _ hx657_0)).trans hx657_0; replace p657 := eq_true p657; replace q657 := eq_true q657; have p658 : 0 ≤ (a0_2 : Int) := of_decide_eq_true (by first | (with_reducible assumption) | assumption); have q658 : a0_2 < (l1.length : Int) := of_decide_eq_true (by first | (with_reducible assumption) | assumption); obtain ⟨ad658, e658, hx658_0⟩ := Kd.at_int HR1.out a0_2 p658 q658; obtain rfl : ad657 = ad658 := (by injection e658); replace hx658_0 := (HB.out.cell (World.block_lt_of_cell? w _ hx658_0)).trans hx658_0; replace p658 := eq_true p658; replace q658 := eq_true q658)))
       go_ret
       exact ⟨vE, vW HB.out⟩
      ·
       rw [if_neg c17] at H
       exact absurd H (by simp)
     ·
      rw [if_neg c16] at H
      exact absurd H (by simp)
   ·
    rw [if_neg c12] at H
    exact absurd H (by simp)
  ·
   rw [if_neg c11] at H
   exact absurd H (by simp)
def gimballaw12_near.l0 : Nat → Int → List Int → List Int → Bool → Option (Bool)
 | 0, _, _, _, _ => none
 | k + 1, x3, x685000, x685001, x685002 => if x3 < (x685001.length : Int) then (if 0 ≤ x3 then (if (rd x685001 x3) = 4611686018427387904 then (gimballaw12_near.l0 k (wrap64 (x3 + 1)) x685000 x685001 x685002) else (if (rd x685001 x3) > 274877906944 then (some false) else (if (rd x685001 x3) < (-274877906944) then (some false) else (gimballaw12_near.l0 k (wrap64 (x3 + 1)) x685000 x685001 x685002)))) else (none)) else (some true)
def gimballaw12_near.f (k : Nat) (l0_0 : List Int) (l0_1 : List Int) (a0_2 : Bool) : Option (Bool) := gimballaw12_near.l0 k 0 l0_0 l0_1 a0_2
theorem gimballaw12_near.mono_l : ∀ k, (∀ y0 y1 y2 y3, LeO (gimballaw12_near.l0 k y0 y1 y2 y3) (gimballaw12_near.l0 (k + 1) y0 y1 y2 y3))
 | 0 => fun _ _ _ _ r h => by simp [gimballaw12_near.l0] at h
 | k + 1 => by
  have ih0 := gimballaw12_near.mono_l k
  intros
  unfold gimballaw12_near.l0 <;> repeat' first | (with_reducible first | apply ih0 | apply LeO.refl | apply LeO.none | refine LeO.ite ?_ ?_ | refine LeO.bind ?_ (fun _ => ?_)) | apply ih0 | apply LeO.none | refine LeO.ite ?_ ?_ | refine LeO.bind ?_ (fun _ => ?_)
theorem gimballaw12_near.mono : ∀ a0 a1 a2 k, LeO (gimballaw12_near.f k a0 a1 a2) (gimballaw12_near.f (k + 1) a0 a1 a2) := by
 intro a0 a1 a2 k
 have ih0 := gimballaw12_near.mono_l k
 unfold gimballaw12_near.f
 repeat' first | (with_reducible first | apply ih0 | apply LeO.refl | apply LeO.none | refine LeO.ite ?_ ?_ | refine LeO.bind ?_ (fun _ => ?_)) | apply ih0 | apply LeO.none | refine LeO.ite ?_ ?_ | refine LeO.bind ?_ (fun _ => ?_)
theorem gimballaw12_near.calls (k : Nat) (A0_0 : Option Addr) (c0_0 : Nat) (l0_0 : List Int) (A0_1 : Option Addr) (c0_1 : Nat) (l0_1 : List Int) (a0_2 : Bool) (r : Bool) (w : World) (hr0_0 : Kd.C (Kd.int .i64) w A0_0 l0_0.length l0_0) (hc0_0 : l0_0.length ≤ c0_0) (hr0_1 : Kd.C (Kd.int .i64) w A0_1 l0_1.length l0_1) (hc0_1 : l0_1.length ≤ c0_1) (h : gimballaw12_near.f k l0_0 l0_1 a0_2 = some r) :
 Calls Try.prog 37 #[.agg #[.slice A0_0 l0_0.length c0_0, .slice A0_1 l0_1.length c0_1, .bool a0_2]] w fun e w' => e = .returned (.bool r) ∧ Below w.heap.size w w' := by
 have hu25 := Try.underlying25
 have HR0_0 := Aside0.mk hr0_0
 have HC0_0 := Aside0.mk hc0_0
 clear hr0_0 hc0_0
 have HR0_1 := Aside0.mk hr0_1
 have HC0_1 := Aside0.mk hc0_1
 clear hr0_1 hc0_1
 have HB := Aside0.mk (Below.refl w.heap.size w)
 have H := h
 unfold gimballaw12_near.f at H
 clear h
 have H' := Aside0.mk H
 clear H
 go_enter Try.func37, Try.ntmps37
 go_wp2_with (first | ((with_reducible refine gate_dst (N := 1) rfl ?_); refine bx_ 1 #[.slice A0_0 l0_0.length c0_0, .slice A0_1 l0_1.length c0_1, .bool a0_2] 25 ?_; intro gb684 hg w2 hbox hb; have BK684 := Aside0.mk (hbox); have GW684 := vS hg HB; have GE684 := vS hg HB; replace HB := vWs HB hb; clear hb hbox hg))
 go_loopg [3] k (fun kq v3 w' => ∃ (x3_1 : Int), v3 = .int .i64 x3_1 ∧ Aside0 (gimballaw12_near.l0 kq x3_1 l0_0 l0_1 a0_2 = some r) ∧ Aside0 (kq ≤ k) ∧ Aside0 (w'.heap[gb684]? = some (.cells #[(.slice A0_0 l0_0.length c0_0), (.slice A0_1 l0_1.length c0_1), .bool a0_2] 25 (0, 0))) ∧ Aside0 (Below w.heap.size w w'))
 case atStart => exact ⟨(0), (by first | rfl | (simp; done) | (simp [*]; done)), H', ⟨Nat.le_refl _⟩, ⟨vB BK684.out⟩, ⟨vW HB.out⟩⟩
 case round =>
  clear H'
  try clear p2
  obtain ⟨x3_1, rfl, HA, HK1, BK684, HB⟩ := hrel
  cases gk with
  | zero => exact absurd HA.out (by simp [gimballaw12_near.l0])
  | succ k1 =>
   have H := HA.out
   clear HA
   simp only [gimballaw12_near.l0] at H
   by_cases c3 : x3_1 < (l0_1.length : Int)
   ·
    rw [if_pos c3] at H
    have c3b0 : decide (x3_1 < (l0_1.length : Int)) = true := decide_eq_true c3
    clear c3
    by_cases c4 : 0 ≤ x3_1
    ·
     rw [if_pos c4] at H
     have c4b0 : decide (0 ≤ x3_1) = true := decide_eq_true c4
     clear c4
     by_cases c5 : (rd l0_1 x3_1) = 4611686018427387904
     ·
      rw [if_pos c5] at H
      have c5b0 : ((rd l0_1 x3_1) == 4611686018427387904) = true := beq_iff_eq.mpr c5
      have c5b1 : ((rd l0_1 x3_1) != 4611686018427387904) = false := bne_eq_false_iff_eq.mpr c5
      clear c5
      have H' := Aside0.mk H
      clear H
      obtain ⟨hcz6_0, hcz6_1, hcz6_2, hfz6_0, hfz6_1, hfz6_2⟩ := vF3 BK684.out
      have p685 : 0 ≤ (x3_1 : Int) := of_decide_eq_true (by first | (with_reducible assumption) | assumption)
      have q685 : x3_1 < (l0_1.length : Int) := of_decide_eq_true (by first | (with_reducible assumption) | assumption)
      obtain ⟨ad685, e685, hx685_0⟩ := Kd.at_int HR0_1.out x3_1 p685 q685
      cases e685
      replace hx685_0 := (HB.out.cell (World.block_lt_of_cell? w _ hx685_0)).trans hx685_0
      replace p685 := eq_true p685
      replace q685 := eq_true q685
      go_wp2
      go_roundg k1
      case measure => have := HK1.out; omega
      case rel => exact ⟨(wrap64 (x3_1 + 1)), (by first | rfl | (simp; done) | (simp [*]; done)), H', ⟨by have := HK1.out; omega⟩, ⟨vB BK684.out⟩, ⟨vW HB.out⟩⟩
     ·
      rw [if_neg c5] at H
      have c5b0 : ((rd l0_1 x3_1) == 4611686018427387904) = false := beq_eq_false_iff_ne.mpr c5
      have c5b1 : ((rd l0_1 x3_1) != 4611686018427387904) = true := bne_iff_ne.mpr c5
      by_cases c7 : (rd l0_1 x3_1) > 274877906944
      ·
       rw [if_pos c7] at H
       have c7b0 : decide (274877906944 < (rd l0_1 x3_1)) = true := decide_eq_true c7
       clear c7
       obtain rfl := Option.some.inj H
       obtain ⟨hcz8_0, hcz8_1, hcz8_2, hfz8_0, hfz8_1, hfz8_2⟩ := vF3 BK684.out
       have p685 : 0 ≤ (x3_1 : Int) := of_decide_eq_true (by first | (with_reducible assumption) | assumption)
       have q685 : x3_1 < (l0_1.length : Int) := of_decide_eq_true (by first | (with_reducible assumption) | assumption)
       obtain ⟨ad685, e685, hx685_0⟩ := Kd.at_int HR0_1.out x3_1 p685 q685
       cases e685
       replace hx685_0 := (HB.out.cell (World.block_lt_of_cell? w _ hx685_0)).trans hx685_0
       replace p685 := eq_true p685
       replace q685 := eq_true q685
       have p686 : 0 ≤ (x3_1 : Int) := of_decide_eq_true (by first | (with_reducible assumption) | assumption)
       have q686 : x3_1 < (l0_1.length : Int) := of_decide_eq_true (by first | (with_reducible assumption) | assumption)
       obtain ⟨ad686, e686, hx686_0⟩ := Kd.at_int HR0_1.out x3_1 p686 q686
       obtain rfl : ad685 = ad686 := (by injection e686)
       replace hx686_0 := (HB.out.cell (World.block_lt_of_cell? w _ hx686_0)).trans hx686_0
       replace p686 := eq_true p686
       replace q686 := eq_true q686
       go_wp2
       go_ret
       exact ⟨vE, vW HB.out⟩
      ·
       rw [if_neg c7] at H
       have c7b0 : decide (274877906944 < (rd l0_1 x3_1)) = false := decide_eq_false c7
       clear c7
       by_cases c9 : (rd l0_1 x3_1) < (-274877906944)
       ·
        rw [if_pos c9] at H
        have c9b0 : decide ((rd l0_1 x3_1) < (-274877906944)) = true := decide_eq_true c9
        clear c9
        obtain rfl := Option.some.inj H
        obtain ⟨hcz10_0, hcz10_1, hcz10_2, hfz10_0, hfz10_1, hfz10_2⟩ := vF3 BK684.out
        have p685 : 0 ≤ (x3_1 : Int) := of_decide_eq_true (by first | (with_reducible assumption) | assumption)
        have q685 : x3_1 < (l0_1.length : Int) := of_decide_eq_true (by first | (with_reducible assumption) | assumption)
        obtain ⟨ad685, e685, hx685_0⟩ := Kd.at_int HR0_1.out x3_1 p685 q685
        cases e685
        replace hx685_0 := (HB.out.cell (World.block_lt_of_cell? w _ hx685_0)).trans hx685_0
        replace p685 := eq_true p685
        replace q685 := eq_true q685
        have p686 : 0 ≤ (x3_1 : Int) := of_decide_eq_true (by first | (with_reducible assumption) | assumption)
        have q686 : x3_1 < (l0_1.length : Int) := of_decide_eq_true (by first | (with_reducible assumption) | assumption)
        obtain ⟨ad686, e686, hx686_0⟩ := Kd.at_int HR0_1.out x3_1 p686 q686
        obtain rfl : ad685 = ad686 := (by injection e686)
        replace hx686_0 := (HB.out.cell (World.block_lt_of_cell? w _ hx686_0)).trans hx686_0
        replace p686 := eq_true p686
        replace q686 := eq_true q686
        have p687 : 0 ≤ (x3_1 : Int) := of_decide_eq_true (by first | (with_reducible assumption) | assumption)
        have q687 : x3_1 < (l0_1.length : Int) := of_decide_eq_true (by first | (with_reducible assumption) | assumption)
        obtain ⟨ad687, e687, hx687_0⟩ := Kd.at_int HR0_1.out x3_1 p687 q687
        obtain rfl : ad685 = ad687 := (by injection e687)
        replace hx687_0 := (HB.out.cell (World.block_lt_of_cell? w _ hx687_0)).trans hx687_0
        replace p687 := eq_true p687
        replace q687 := eq_true q687
        go_wp2
        go_ret
        exact ⟨vE, vW HB.out⟩
       ·
        rw [if_neg c9] at H
        have c9b0 : decide ((rd l0_1 x3_1) < (-274877906944)) = false := decide_eq_false c9
        clear c9
        have H' := Aside0.mk H
        clear H
        obtain ⟨hcz11_0, hcz11_1, hcz11_2, hfz11_0, hfz11_1, hfz11_2⟩ := vF3 BK684.out
        have p685 : 0 ≤ (x3_1 : Int) := of_decide_eq_true (by first | (with_reducible assumption) | assumption)
        have q685 : x3_1 < (l0_1.length : Int) := of_decide_eq_true (by first | (with_reducible assumption) | assumption)
        obtain ⟨ad685, e685, hx685_0⟩ := Kd.at_int HR0_1.out x3_1 p685 q685
        cases e685
        replace hx685_0 := (HB.out.cell (World.block_lt_of_cell? w _ hx685_0)).trans hx685_0
        replace p685 := eq_true p685
        replace q685 := eq_true q685
        have p686 : 0 ≤ (x3_1 : Int) := of_decide_eq_true (by first | (with_reducible assumption) | assumption)
        have q686 : x3_1 < (l0_1.length : Int) := of_decide_eq_true (by first | (with_reducible assumption) | assumption)
        obtain ⟨ad686, e686, hx686_0⟩ := Kd.at_int HR0_1.out x3_1 p686 q686
        obtain rfl : ad685 = ad686 := (by injection e686)
        replace hx686_0 := (HB.out.cell (World.block_lt_of_cell? w _ hx686_0)).trans hx686_0
        replace p686 := eq_true p686
        replace q686 := eq_true q686
        have p687 : 0 ≤ (x3_1 : Int) := of_decide_eq_true (by first | (with_reducible assumption) | assumption)
        have q687 : x3_1 < (l0_1.length : Int) := of_decide_eq_true (by first | (with_reducible assumption) | assumption)
        obtain ⟨ad687, e687, hx687_0⟩ := Kd.at_int HR0_1.out x3_1 p687 q687
        obtain rfl : ad685 = ad687 := (by injection e687)
        replace hx687_0 := (HB.out.cell (World.block_lt_of_cell? w _ hx687_0)).trans hx687_0
        replace p687 := eq_true p687
        replace q687 := eq_true q687
        go_wp2
        go_roundg k1
        case measure => have := HK1.out; omega
        case rel => exact ⟨(wrap64 (x3_1 + 1)), (by first | rfl | (simp; done) | (simp [*]; done)), H', ⟨by have := HK1.out; omega⟩, ⟨vB BK684.out⟩, ⟨vW HB.out⟩⟩
    ·
     rw [if_neg c4] at H
     exact absurd H (by simp)
   ·
    rw [if_neg c3] at H
    have c3b0 : decide (x3_1 < (l0_1.length : Int)) = false := decide_eq_false c3
    clear c3
    obtain rfl := Option.some.inj H
    obtain ⟨hcz12_0, hcz12_1, hcz12_2, hfz12_0, hfz12_1, hfz12_2⟩ := vF3 BK684.out
    go_wp2
    go_ret
    exact ⟨vE, vW HB.out⟩
mutual
def gimbalref12_FormFit.j0 : Nat → Bool → Int → Int → Int → Int → Int → Option (Bool)
 | 0, _, _, _, _, _, _ => none
 | k + 1, x10, x358000, x358001, x358002, x358003, x358004 => if x10 = true then (some false) else (if x358001 = 0 then (if x358000 = 0 then (if x358002 = 0 then (some (x358003 == 0)) else (some false)) else (some false)) else (if x358001 = 1 then (gimbalref12_FormFit.j1 k (decide (x358000 < 0)) x358000 x358001 x358002 x358003 x358004) else (if x358001 = (-1) then (gimbalref12_FormFit.j1 k (decide (x358000 < 0)) x358000 x358001 x358002 x358003 x358004) else (gimbalref12_FormFit.j1 k true x358000 x358001 x358002 x358003 x358004))))
def gimbalref12_FormFit.j1 : Nat → Bool → Int → Int → Int → Int → Int → Option (Bool)
 | 0, _, _, _, _, _, _ => none
 | k + 1, x39, x358000, x358001, x358002, x358003, x358004 => if x39 = true then (some false) else (if x358003 = 0 then (some (x358002 == 0)) else (if x358003 = 1 then (some (decide (x358000 < x358002))) else (if x358003 = (-1) then (some (decide (x358000 < x358002))) else (some false))))
end
def gimbalref12_FormFit.f (k : Nat) (a0_0 : Int) (a0_1 : Int) (a0_2 : Int) (a0_3 : Int) (a0_4 : Int) : Option (Bool) := if a0_4 < (-1099511627776) then (gimbalref12_FormFit.j0 k true a0_0 a0_1 a0_2 a0_3 a0_4) else (gimbalref12_FormFit.j0 k (decide (a0_4 > 1099511627776)) a0_0 a0_1 a0_2 a0_3 a0_4)
theorem gimbalref12_FormFit.mono_l : ∀ k, (∀ y0 y1 y2 y3 y4 y5, LeO (gimbalref12_FormFit.j0 k y0 y1 y2 y3 y4 y5) (gimbalref12_FormFit.j0 (k + 1) y0 y1 y2 y3 y4 y5)) ∧ (∀ y0 y1 y2 y3 y4 y5, LeO (gimbalref12_FormFit.j1 k y0 y1 y2 y3 y4 y5) (gimbalref12_FormFit.j1 (k + 1) y0 y1 y2 y3 y4 y5))
 | 0 => ⟨fun _ _ _ _ _ _ r h => by simp [gimbalref12_FormFit.j0] at h, fun _ _ _ _ _ _ r h => by simp [gimbalref12_FormFit.j1] at h⟩
 | k + 1 => by
  obtain ⟨ih0, ih1⟩ := gimbalref12_FormFit.mono_l k
  refine ⟨?_, ?_⟩ <;> intros <;> (first | unfold gimbalref12_FormFit.j0 | unfold gimbalref12_FormFit.j1) <;> repeat' first | (with_reducible first | apply ih0 | apply ih1 | apply LeO.refl | apply LeO.none | refine LeO.ite ?_ ?_ | refine LeO.bind ?_ (fun _ => ?_)) | apply ih0 | apply ih1 | apply LeO.none | refine LeO.ite ?_ ?_ | refine LeO.bind ?_ (fun _ => ?_)
theorem gimbalref12_FormFit.mono : ∀ a0 a1 a2 a3 a4 k, LeO (gimbalref12_FormFit.f k a0 a1 a2 a3 a4) (gimbalref12_FormFit.f (k + 1) a0 a1 a2 a3 a4) := by
 intro a0 a1 a2 a3 a4 k
 obtain ⟨ih0, ih1⟩ := gimbalref12_FormFit.mono_l k
 unfold gimbalref12_FormFit.f
 repeat' first | (with_reducible first | apply ih0 | apply ih1 | apply LeO.refl | apply LeO.none | refine LeO.ite ?_ ?_ | refine LeO.bind ?_ (fun _ => ?_)) | apply ih0 | apply ih1 | apply LeO.none | refine LeO.ite ?_ ?_ | refine LeO.bind ?_ (fun _ => ?_)
theorem gimbalref12_FormFit.calls (k : Nat) (a0_0 : Int) (a0_1 : Int) (a0_2 : Int) (a0_3 : Int) (a0_4 : Int) (r : Bool) (w : World) (h : gimbalref12_FormFit.f k a0_0 a0_1 a0_2 a0_3 a0_4 = some r) :
 Calls Try.prog 36 #[.agg #[.int .i64 a0_0, .int .i64 a0_1, .int .i64 a0_2, .int .i64 a0_3, .int .i64 a0_4]] w fun e w' => e = .returned (.bool r) ∧ Below w.heap.size w w' := by
 have hu34 := Try.underlying34
 have HB := Aside0.mk (Below.refl w.heap.size w)
 have H := h
 unfold gimbalref12_FormFit.f at H
 clear h
 have HC2 := Aside0.mk H
 clear H
 go_enter Try.func36, Try.ntmps36
 go_upto_region 1 with (first | ((with_reducible refine gate_dst (N := 1) rfl ?_); refine bx_ 1 #[.int .i64 a0_0, .int .i64 a0_1, .int .i64 a0_2, .int .i64 a0_3, .int .i64 a0_4] 34 ?_; intro gb357 hg w3 hbox hb; have BK357 := Aside0.mk (hbox); have GW357 := vS hg HB; have GE357 := vS hg HB; replace HB := vWs HB hb; clear hb hbox hg))
 (try simp only [Act.put, List.setIfInBounds_toArray, List.set_cons_zero, List.set_cons_succ])
 go_cut [10] (fun v10 wc => ∃ (kq : Nat) (x10_1 : Bool), v10 = .bool x10_1 ∧ Aside0 (gimbalref12_FormFit.j0 kq x10_1 a0_0 a0_1 a0_2 a0_3 a0_4 = some r) ∧ Aside0 (kq ≤ k) ∧ Aside0 (wc.heap[gb357]? = some (.cells #[.int .i64 a0_0, .int .i64 a0_1, .int .i64 a0_2, .int .i64 a0_3, .int .i64 a0_4] 34 (0, 0))) ∧ Aside0 (Below w.heap.size w wc))
 case first =>
  have H := HC2.out
  clear HC2
  by_cases c4 : a0_4 < (-1099511627776)
  ·
   rw [if_pos c4] at H
   have c4b0 : decide (a0_4 < (-1099511627776)) = true := decide_eq_true c4
   clear c4
   (first | rw [c4b0] | (simp only [i64_w, i32_w]; rw [c4b0]) | skip)
   have H' := Aside0.mk H
   clear H
   obtain ⟨hcz5_0, hcz5_1, hcz5_2, hcz5_3, hcz5_4, hfz5_0, hfz5_1, hfz5_2, hfz5_3, hfz5_4⟩ := vF5 BK357.out
   go_wp2
   go_meet
   case rel => exact ⟨_, (true), (by first | rfl | (simp; done) | (simp [*]; done)), H', ⟨by first | omega | exact Nat.le_refl _⟩, ⟨vB BK357.out⟩, ⟨vW HB.out⟩⟩
  ·
   rw [if_neg c4] at H
   have c4b0 : decide (a0_4 < (-1099511627776)) = false := decide_eq_false c4
   clear c4
   (first | rw [c4b0] | (simp only [i64_w, i32_w]; rw [c4b0]) | skip)
   have H' := Aside0.mk H
   clear H
   obtain ⟨hcz6_0, hcz6_1, hcz6_2, hcz6_3, hcz6_4, hfz6_0, hfz6_1, hfz6_2, hfz6_3, hfz6_4⟩ := vF5 BK357.out
   go_wp2
   go_meet
   case rel => exact ⟨_, (decide (a0_4 > 1099511627776)), (by first | rfl | (simp; done) | (simp [*]; done)), H', ⟨by first | omega | exact Nat.le_refl _⟩, ⟨vB BK357.out⟩, ⟨vW HB.out⟩⟩
 case rest =>
  clear HC2
  try clear p2
  try clear c3
  try clear c4
  try clear c4b0
  try clear hcz5_0
  try clear hcz5_1
  try clear hcz5_2
  try clear hcz5_3
  try clear hcz5_4
  try clear hcz6_0
  try clear hcz6_1
  try clear hcz6_2
  try clear hcz6_3
  try clear hcz6_4
  try clear hfz5_0
  try clear hfz5_1
  try clear hfz5_2
  try clear hfz5_3
  try clear hfz5_4
  try clear hfz6_0
  try clear hfz6_1
  try clear hfz6_2
  try clear hfz6_3
  try clear hfz6_4
  obtain ⟨kq, x10_1, rfl, HA, HJ1, BK357, HB⟩ := hcut
  cases kq with
  | zero => exact absurd HA.out (by simp [gimbalref12_FormFit.j0])
  | succ kj1 =>
   have H := HA.out
   clear HA
   simp only [gimbalref12_FormFit.j0] at H
   by_cases c7 : x10_1 = true
   ·
    subst c7
    rw [if_pos rfl] at H
    try dsimp only at H
    obtain rfl := Option.some.inj H
    go_wp2
    go_ret
    exact ⟨vE, vW HB.out⟩
   ·
    replace c7 := Bool.eq_false_iff.mpr c7
    subst c7
    rw [if_neg (show ¬ (false = true) by decide)] at H
    try dsimp only at H
    by_cases c8 : a0_1 = 0
    ·
     rw [if_pos c8] at H
     have c8b0 : (a0_1 == 0) = true := beq_iff_eq.mpr c8
     have c8b1 : (a0_1 != 0) = false := bne_eq_false_iff_eq.mpr c8
     clear c8
     by_cases c9 : a0_0 = 0
     ·
      rw [if_pos c9] at H
      have c9b0 : (a0_0 == 0) = true := beq_iff_eq.mpr c9
      have c9b1 : (a0_0 != 0) = false := bne_eq_false_iff_eq.mpr c9
      clear c9
      by_cases c10 : a0_2 = 0
      ·
       rw [if_pos c10] at H
       have c10b0 : (a0_2 == 0) = true := beq_iff_eq.mpr c10
       have c10b1 : (a0_2 != 0) = false := bne_eq_false_iff_eq.mpr c10
       clear c10
       obtain rfl := Option.some.inj H
       obtain ⟨hcz11_0, hcz11_1, hcz11_2, hcz11_3, hcz11_4, hfz11_0, hfz11_1, hfz11_2, hfz11_3, hfz11_4⟩ := vF5 BK357.out
       go_wp2
       go_ret
       exact ⟨vE, vW HB.out⟩
      ·
       rw [if_neg c10] at H
       have c10b0 : (a0_2 == 0) = false := beq_eq_false_iff_ne.mpr c10
       have c10b1 : (a0_2 != 0) = true := bne_iff_ne.mpr c10
       obtain rfl := Option.some.inj H
       obtain ⟨hcz12_0, hcz12_1, hcz12_2, hcz12_3, hcz12_4, hfz12_0, hfz12_1, hfz12_2, hfz12_3, hfz12_4⟩ := vF5 BK357.out
       go_wp2
       go_ret
       exact ⟨vE, vW HB.out⟩
     ·
      rw [if_neg c9] at H
      have c9b0 : (a0_0 == 0) = false := beq_eq_false_iff_ne.mpr c9
      have c9b1 : (a0_0 != 0) = true := bne_iff_ne.mpr c9
      obtain rfl := Option.some.inj H
      obtain ⟨hcz13_0, hcz13_1, hcz13_2, hcz13_3, hcz13_4, hfz13_0, hfz13_1, hfz13_2, hfz13_3, hfz13_4⟩ := vF5 BK357.out
      go_wp2
      go_ret
      exact ⟨vE, vW HB.out⟩
    ·
     rw [if_neg c8] at H
     have c8b0 : (a0_1 == 0) = false := beq_eq_false_iff_ne.mpr c8
     have c8b1 : (a0_1 != 0) = true := bne_iff_ne.mpr c8
     have HC14 := Aside0.mk H
     clear H
     obtain ⟨hcz15_0, hcz15_1, hcz15_2, hcz15_3, hcz15_4, hfz15_0, hfz15_1, hfz15_2, hfz15_3, hfz15_4⟩ := vF5 BK357.out
     go_upto_region 5 with (fail)
     go_cut [39] (fun v39 wc => ∃ (kq : Nat) (x39_13 : Bool), v39 = .bool x39_13 ∧ Aside0 (gimbalref12_FormFit.j1 kq x39_13 a0_0 a0_1 a0_2 a0_3 a0_4 = some r) ∧ Aside0 (kq ≤ kj1) ∧ Aside0 (wc.heap[gb357]? = some (.cells #[.int .i64 a0_0, .int .i64 a0_1, .int .i64 a0_2, .int .i64 a0_3, .int .i64 a0_4] 34 (0, 0))) ∧ Aside0 (Below w.heap.size w wc))
     case first =>
      have H := HC14.out
      clear HC14
      by_cases c16 : a0_1 = 1
      ·
       rw [if_pos c16] at H
       have c16b0 : (a0_1 == 1) = true := beq_iff_eq.mpr c16
       have c16b1 : (a0_1 != 1) = false := bne_eq_false_iff_eq.mpr c16
       clear c16
       (first | rw [c16b0] | (simp only [i64_w, i32_w]; rw [c16b0]) | skip)
       have H' := Aside0.mk H
       clear H
       obtain ⟨hcz17_0, hcz17_1, hcz17_2, hcz17_3, hcz17_4, hfz17_0, hfz17_1, hfz17_2, hfz17_3, hfz17_4⟩ := vF5 BK357.out
       go_wp2
       go_meet
       case rel => exact ⟨_, (decide (a0_0 < 0)), (by first | rfl | (simp; done) | (simp [*]; done)), H', ⟨by have := HJ1.out; first | omega | exact Nat.le_refl _⟩, ⟨vB BK357.out⟩, ⟨vW HB.out⟩⟩
      ·
       rw [if_neg c16] at H
       have c16b0 : (a0_1 == 1) = false := beq_eq_false_iff_ne.mpr c16
       have c16b1 : (a0_1 != 1) = true := bne_iff_ne.mpr c16
       (first | rw [c16b0] | (simp only [i64_w, i32_w]; rw [c16b0]) | skip)
       by_cases c18 : a0_1 = (-1)
       ·
        rw [if_pos c18] at H
        have c18b0 : (a0_1 == (-1)) = true := beq_iff_eq.mpr c18
        have c18b1 : (a0_1 != (-1)) = false := bne_eq_false_iff_eq.mpr c18
        clear c18
        have H' := Aside0.mk H
        clear H
        obtain ⟨hcz19_0, hcz19_1, hcz19_2, hcz19_3, hcz19_4, hfz19_0, hfz19_1, hfz19_2, hfz19_3, hfz19_4⟩ := vF5 BK357.out
        go_wp2
        go_meet
        case rel => exact ⟨_, (decide (a0_0 < 0)), (by first | rfl | (simp; done) | (simp [*]; done)), H', ⟨by have := HJ1.out; first | omega | exact Nat.le_refl _⟩, ⟨vB BK357.out⟩, ⟨vW HB.out⟩⟩
       ·
        rw [if_neg c18] at H
        have c18b0 : (a0_1 == (-1)) = false := beq_eq_false_iff_ne.mpr c18
        have c18b1 : (a0_1 != (-1)) = true := bne_iff_ne.mpr c18
        have H' := Aside0.mk H
        clear H
        obtain ⟨hcz20_0, hcz20_1, hcz20_2, hcz20_3, hcz20_4, hfz20_0, hfz20_1, hfz20_2, hfz20_3, hfz20_4⟩ := vF5 BK357.out
        go_wp2
        go_meet
        case rel => exact ⟨_, (true), (by first | rfl | (simp; done) | (simp [*]; done)), H', ⟨by have := HJ1.out; first | omega | exact Nat.le_refl _⟩, ⟨vB BK357.out⟩, ⟨vW HB.out⟩⟩
     case rest =>
      clear HC14
      try clear c1
      try clear p2
      try clear c3
      try clear c4
      try clear c4b0
      try clear p6
      try clear c7
      try clear c8
      try clear c8b0
      try clear c8b1
      try clear c9
      try clear c9b0
      try clear c9b1
      try clear c10
      try clear c10b0
      try clear c10b1
      try clear c16
      try clear c16b0
      try clear c16b1
      try clear c18
      try clear c18b0
      try clear c18b1
      try clear hcz11_0
      try clear hcz11_1
      try clear hcz11_2
      try clear hcz11_3
      try clear hcz11_4
      try clear hcz12_0
      try clear hcz12_1
      try clear hcz12_2
      try clear hcz12_3
      try clear hcz12_4
      try clear hcz13_0
      try clear hcz13_1
      try clear hcz13_2
      try clear hcz13_3
      try clear hcz13_4
      try clear hcz15_0
      try clear hcz15_1
      try clear hcz15_2
      try clear hcz15_3
      try clear hcz15_4
      try clear hcz17_0
      try clear hcz17_1
      try clear hcz17_2
      try clear hcz17_3
      try clear hcz17_4
      try clear hcz19_0
      try clear hcz19_1
      try clear hcz19_2
      try clear hcz19_3
      try clear hcz19_4
      try clear hcz20_0
      try clear hcz20_1
      try clear hcz20_2
      try clear hcz20_3
      try clear hcz20_4
      try clear hcz5_0
      try clear hcz5_1
      try clear hcz5_2
      try clear hcz5_3
      try clear hcz5_4
      try clear hcz6_0
      try clear hcz6_1
      try clear hcz6_2
      try clear hcz6_3
      try clear hcz6_4
      try clear hfz11_0
      try clear hfz11_1
      try clear hfz11_2
      try clear hfz11_3
      try clear hfz11_4
      try clear hfz12_0
      try clear hfz12_1
      try clear hfz12_2
      try clear hfz12_3
      try clear hfz12_4
      try clear hfz13_0
      try clear hfz13_1
      try clear hfz13_2
      try clear hfz13_3
      try clear hfz13_4
      try clear hfz15_0
      try clear hfz15_1
      try clear hfz15_2
      try clear hfz15_3
      try clear hfz15_4
      try clear hfz17_0
      try clear hfz17_1
      try clear hfz17_2
      try clear hfz17_3
      try clear hfz17_4
      try clear hfz19_0
      try clear hfz19_1
      try clear hfz19_2
      try clear hfz19_3
      try clear hfz19_4
      try clear hfz20_0
      try clear hfz20_1
      try clear hfz20_2
      try clear hfz20_3
      try clear hfz20_4
      try clear hfz5_0
      try clear hfz5_1
      try clear hfz5_2
      try clear hfz5_3
      try clear hfz5_4
      try clear hfz6_0
      try clear hfz6_1
      try clear hfz6_2
      try clear hfz6_3
      try clear hfz6_4
      try clear p2
      obtain ⟨kq, x39_13, rfl, HA, HJ13, BK357, HB⟩ := hcut
      cases kq with
      | zero => exact absurd HA.out (by simp [gimbalref12_FormFit.j1])
      | succ kj13 =>
       have H := HA.out
       clear HA
       simp only [gimbalref12_FormFit.j1] at H
       by_cases c21 : x39_13 = true
       ·
        subst c21
        rw [if_pos rfl] at H
        try dsimp only at H
        obtain rfl := Option.some.inj H
        go_wp2
        go_ret
        exact ⟨vE, vW HB.out⟩
       ·
        replace c21 := Bool.eq_false_iff.mpr c21
        subst c21
        rw [if_neg (show ¬ (false = true) by decide)] at H
        try dsimp only at H
        by_cases c22 : a0_3 = 0
        ·
         rw [if_pos c22] at H
         have c22b0 : (a0_3 == 0) = true := beq_iff_eq.mpr c22
         have c22b1 : (a0_3 != 0) = false := bne_eq_false_iff_eq.mpr c22
         clear c22
         obtain rfl := Option.some.inj H
         obtain ⟨hcz23_0, hcz23_1, hcz23_2, hcz23_3, hcz23_4, hfz23_0, hfz23_1, hfz23_2, hfz23_3, hfz23_4⟩ := vF5 BK357.out
         go_wp2
         go_ret
         exact ⟨vE, vW HB.out⟩
        ·
         rw [if_neg c22] at H
         have c22b0 : (a0_3 == 0) = false := beq_eq_false_iff_ne.mpr c22
         have c22b1 : (a0_3 != 0) = true := bne_iff_ne.mpr c22
         by_cases c24 : a0_3 = 1
         ·
          rw [if_pos c24] at H
          have c24b0 : (a0_3 == 1) = true := beq_iff_eq.mpr c24
          have c24b1 : (a0_3 != 1) = false := bne_eq_false_iff_eq.mpr c24
          clear c24
          obtain rfl := Option.some.inj H
          obtain ⟨hcz25_0, hcz25_1, hcz25_2, hcz25_3, hcz25_4, hfz25_0, hfz25_1, hfz25_2, hfz25_3, hfz25_4⟩ := vF5 BK357.out
          go_wp2
          go_ret
          exact ⟨vE, vW HB.out⟩
         ·
          rw [if_neg c24] at H
          have c24b0 : (a0_3 == 1) = false := beq_eq_false_iff_ne.mpr c24
          have c24b1 : (a0_3 != 1) = true := bne_iff_ne.mpr c24
          by_cases c26 : a0_3 = (-1)
          ·
           rw [if_pos c26] at H
           have c26b0 : (a0_3 == (-1)) = true := beq_iff_eq.mpr c26
           have c26b1 : (a0_3 != (-1)) = false := bne_eq_false_iff_eq.mpr c26
           clear c26
           obtain rfl := Option.some.inj H
           obtain ⟨hcz27_0, hcz27_1, hcz27_2, hcz27_3, hcz27_4, hfz27_0, hfz27_1, hfz27_2, hfz27_3, hfz27_4⟩ := vF5 BK357.out
           go_wp2
           go_ret
           exact ⟨vE, vW HB.out⟩
          ·
           rw [if_neg c26] at H
           have c26b0 : (a0_3 == (-1)) = false := beq_eq_false_iff_ne.mpr c26
           have c26b1 : (a0_3 != (-1)) = true := bne_iff_ne.mpr c26
           obtain rfl := Option.some.inj H
           obtain ⟨hcz28_0, hcz28_1, hcz28_2, hcz28_3, hcz28_4, hfz28_0, hfz28_1, hfz28_2, hfz28_3, hfz28_4⟩ := vF5 BK357.out
           go_wp2
           go_ret
           exact ⟨vE, vW HB.out⟩
end Go.Proofs.Ytphfchbggechhaa.QO
end
end
section
namespace Go.Proofs.Ytphfchbggechhaa.QO
open Go.RowKit YtphfchbggechhaaW.PrintWords YtphfchbggechhaaW.PrintLast
set_option linter.unusedVariables false
set_option linter.unusedSimpArgs false
noncomputable def gimbalref11_Fit.f (l0_0 : List Int) (l0_1 : List Int) (a0_2 : Bool) : Option Bool := if l0_0.length ≤ 17592186044416 then some (ofitB l0_0 l0_1 a0_2) else none
theorem Box1.three {w W : World} {g : Nat} {a b c : Value} {t : Nat} (h : Box1 w g #[a, b, c] t W) : W.cell? ⟨g, 0, none⟩ = some a ∧ W.cell? ⟨g, 1, none⟩ = some b ∧ W.cell? ⟨g, 2, none⟩ = some c := ⟨(blk_cell h.box 0).trans rfl, (blk_cell h.box 1).trans rfl, (blk_cell h.box 2).trans rfl⟩
theorem gimbalref11_Fit.calls (A0_0 : Option Addr) (c0_0 : Nat) (l0_0 : List Int) (A0_1 : Option Addr) (c0_1 : Nat) (l0_1 : List Int) (a0_2 : Bool) (r : Bool) (w : World) (hr0_0 : Kd.C (Kd.int .i64) w A0_0 l0_0.length l0_0) (hc0_0 : l0_0.length ≤ c0_0) (hr0_1 : Kd.C (Kd.int .i64) w A0_1 l0_1.length l0_1) (hc0_1 : l0_1.length ≤ c0_1) (h : gimbalref11_Fit.f l0_0 l0_1 a0_2 = some r) :
 Calls Try.prog 12 #[.agg #[.slice A0_0 l0_0.length c0_0, .slice A0_1 l0_1.length c0_1, .bool a0_2]] w fun e w' => e = .returned (.bool r) ∧ Below w.heap.size w w' := by
 have hu25 := Try.underlying25
 have HR0 := Aside0.mk hr0_0
 have HR1 := Aside0.mk hr0_1
 have HC0 := Aside0.mk hc0_0
 have HC1 := Aside0.mk hc0_1
 clear hr0_0 hr0_1 hc0_0 hc0_1
 unfold gimbalref11_Fit.f at h
 by_cases hlen : l0_0.length ≤ 17592186044416
 ·
  rw [if_pos hlen] at h
  have HV := Aside0.mk (Option.some.inj h)
  clear h
  have e1 : wrap64 (2 * (l0_0.length : Int)) = 2 * (l0_0.length : Int) := by unfold wrap64; omega
  have e2 : IntKind.i64.wrap (2 * (l0_0.length : Int)) = 2 * (l0_0.length : Int) := by rw [IntKind.wrap_i64]; omega
  cases hv : varsB l0_0 with
  | false =>
   have HM := fun W (hW : Kd.C (Kd.int .i64) W A0_0 l0_0.length l0_0) => gimbalref11_VarsFit.calls A0_0 c0_0 l0_0 false W hW HC0.out (by unfold gimbalref11_VarsFit.f; rw [hv])
   replace HM := Aside0.mk HM
   have HF := Aside0.mk (varsB_false.1 hv)
   clear hv hlen
   go_enter Try.func12, Try.ntmps12
   go_wp2_with (go_at_call 46; (with_reducible refine (HM.out _ ?side1).mono ?_); (case side1 => repeat (first | exact HR0.out | (with_reducible refine Kd.C_alloc ?_ _) | (with_reducible refine Kd.C_drewN ?_ _) | (with_reducible refine Kd.C_drew ?_))); rintro e w1 ⟨rfl, ⟨nd, rfl⟩⟩)
   go_ret
   refine ⟨?_, by repeat (first | exact Below.refl _ _ | (with_reducible apply below_alloc) | (with_reducible apply pw_below_drewN) | (with_reducible apply below_drew))⟩
   rw [← HV.out, ofitB_false.2 (fun h => HF.out h.1)]
   rfl
  | true =>
   have HM := fun W (hW : Kd.C (Kd.int .i64) W A0_0 l0_0.length l0_0) => gimbalref11_VarsFit.calls A0_0 c0_0 l0_0 true W hW HC0.out (by unfold gimbalref11_VarsFit.f; rw [hv])
   replace HM := Aside0.mk HM
   have HT := Aside0.mk (varsB_true.1 hv)
   clear hv hlen
   cases a0_2 with
   | true =>
    by_cases hz : l0_1.length = 0
    ·
     have f1 : ((l0_1.length : Int) == 0) = true := by rw [hz]; rfl
     have f2 : (l0_1.length == 0) = true := by rw [hz]; rfl
     have HZ := Aside0.mk hz
     clear hz
     go_enter Try.func12, Try.ntmps12
     go_wp2_with (go_at_call 46; (with_reducible refine (HM.out _ ?side1).mono ?_); (case side1 => repeat (first | exact HR0.out | (with_reducible refine Kd.C_alloc ?_ _) | (with_reducible refine Kd.C_drewN ?_ _) | (with_reducible refine Kd.C_drew ?_))); rintro e w1 ⟨rfl, ⟨nd, rfl⟩⟩)
     go_ret
     refine ⟨?_, by repeat (first | exact Below.refl _ _ | (with_reducible apply below_alloc) | (with_reducible apply pw_below_drewN) | (with_reducible apply below_drew))⟩
     rw [← HV.out, ofitB_true.2 ⟨HT.out, fun _ => List.eq_nil_of_length_eq_zero HZ.out, fun h => by cases h⟩]
     rfl
    ·
     have f1 : ((l0_1.length : Int) == 0) = false := by simpa using (by omega : ¬ ((l0_1.length : Int) = 0))
     have f2 : (l0_1.length == 0) = false := by simpa using hz
     have HZ := Aside0.mk hz
     clear hz
     go_enter Try.func12, Try.ntmps12
     go_wp2_with (go_at_call 46; (with_reducible refine (HM.out _ ?side1).mono ?_); (case side1 => repeat (first | exact HR0.out | (with_reducible refine Kd.C_alloc ?_ _) | (with_reducible refine Kd.C_drewN ?_ _) | (with_reducible refine Kd.C_drew ?_))); rintro e w1 ⟨rfl, ⟨nd, rfl⟩⟩)
     go_ret
     refine ⟨?_, by repeat (first | exact Below.refl _ _ | (with_reducible apply below_alloc) | (with_reducible apply pw_below_drewN) | (with_reducible apply below_drew))⟩
     rw [← HV.out, ofitB_false.2 (fun h => HZ.out (by rw [h.2.1 rfl]; rfl))]
     rfl
   | false =>
    obtain ⟨n2, hn2⟩ : ∃ n2 : Int, 2 * (l0_0.length : Int) = n2 := ⟨_, rfl⟩
    replace e1 : wrap64 (2 * (l0_0.length : Int)) = n2 := e1.trans hn2
    replace e2 : IntKind.i64.wrap (2 * (l0_0.length : Int)) = n2 := e2.trans hn2
    have hl8 := HT.out.1
    obtain ⟨nn, hnn⟩ : ∃ nn : Int, n2 * n2 = nn := ⟨_, rfl⟩
    have hnn2 : 0 ≤ nn ∧ nn ≤ 256 := by rw [← hnn]; exact mul_in (a := n2) (b := n2) (by omega) (by omega) (by omega) (by omega)
    have e3 : wrap64 (n2 * n2) = nn := by rw [hnn]; unfold wrap64; omega
    have e4 : IntKind.i64.wrap (n2 * n2) = nn := by rw [hnn, IntKind.wrap_i64]; omega
    by_cases hz : (l0_1.length : Int) = nn
    ·
     have f1 : ((l0_1.length : Int) != nn) = false := by rw [hz]; simp
     have HZ := Aside0.mk hz
     have HN := Aside0.mk hn2
     have HNN := Aside0.mk hnn
     clear hz hn2 hnn hnn2 hl8
     go_enter Try.func12, Try.ntmps12
     go_wp2_with (go_at_call 46; (with_reducible refine (HM.out _ ?side1).mono ?_); (case side1 => repeat (first | exact HR0.out | (with_reducible refine Kd.C_alloc ?_ _) | (with_reducible refine Kd.C_drewN ?_ _) | (with_reducible refine Kd.C_drew ?_))); rintro e w1 ⟨rfl, ⟨nd, rfl⟩⟩)
     go_loopg [4, 5, 6] n2.toNat (fun gg s4 _ _ wr => ∃ i : Int, s4 = .int .i64 i ∧ Aside0 (0 ≤ i ∧ i ≤ n2 ∧ n2.toNat - i.toNat ≤ gg) ∧ Aside0 (Box1 w w.heap.size #[.slice A0_0 l0_0.length c0_0, .slice A0_1 l0_1.length c0_1, .bool false] 25 wr) ∧ Aside0 (∀ a b : Int, 0 ≤ a → a < i → 0 ≤ b → b < n2 → EntryOk n2 l0_1 a b))
     case atStart => exact ⟨0, rfl, ⟨by have := HN.out; omega, by have := HN.out; omega, by omega⟩, ⟨by repeat (first | exact box1_new (Below.refl _ _) rfl | (with_reducible apply Box1.drewN) | (with_reducible apply Box1.drew))⟩, ⟨fun a b h0 h1 => absurd h1 (by omega)⟩⟩
     case round =>
      obtain ⟨i, rfl, HI, HX, HA⟩ := hrel
      by_cases hlt : i < n2
      ·
       have f2 : decide (i < n2) = true := decide_eq_true hlt
       have HL := Aside0.mk hlt
       clear hlt
       go_wp2
       obtain ⟨wo, rfl⟩ : ∃ wo : World, wo = wr := ⟨_, rfl⟩
       go_loopg [5, 6] n2.toNat (fun hh s5 _ wr => ∃ j : Int, s5 = .int .i64 j ∧ Aside0 (0 ≤ j ∧ j ≤ n2 ∧ n2.toNat - j.toNat ≤ hh) ∧ Aside0 (Box1 w w.heap.size #[.slice A0_0 l0_0.length c0_0, .slice A0_1 l0_1.length c0_1, .bool false] 25 wr) ∧ Aside0 (∀ b : Int, 0 ≤ b → b < j → EntryOk n2 l0_1 i b))
       case atStart => exact ⟨0, rfl, ⟨by have := HN.out; omega, by have := HN.out; omega, by omega⟩, ⟨HX.out⟩, ⟨fun b h0 h1 => absurd h1 (by omega)⟩⟩
       case round =>
        clear HX
        obtain ⟨j, rfl, HJ, HX, HE⟩ := hrel
        by_cases hlt : j < n2
        ·
         have f3 : decide (j < n2) = true := decide_eq_true hlt
         have HK := Aside0.mk hlt
         clear hlt
         have hi := HI.out; have hj := HJ.out; have hil := HL.out; have hjl := HK.out
         have h8 := HT.out.1
         have hm : (l0_1.length : Int) = n2 * n2 := by rw [HNN.out]; exact HZ.out
         have nj := nbar_in (i := j) (n := l0_0.length) hj.1 (by rw [HN.out]; exact hjl)
         have ni := nbar_in (i := i) (n := l0_0.length) hi.1 (by rw [HN.out]; exact hil)
         rw [HN.out] at nj ni
         have hn16 : n2 ≤ 16 := by have := HN.out; omega
         have b1 : gimbalref11_bar.f j = some (nbar j) := by unfold gimbalref11_bar.f; rw [if_pos ⟨hj.1, by have := HN.out; omega⟩]
         have b2 : gimbalref11_bar.f i = some (nbar i) := by unfold gimbalref11_bar.f; rw [if_pos ⟨hi.1, by have := HN.out; omega⟩]
         have pl1 := place_in (n := n2) hi.1 hil hj.1 hjl
         have pl2 := place_in (n := n2) nj.1 nj.2 ni.1 ni.2
         obtain ⟨p, hp⟩ : ∃ p, nbar j = p := ⟨_, rfl⟩
         obtain ⟨q, hq⟩ : ∃ q, nbar i = q := ⟨_, rfl⟩
         rw [hp] at nj pl2 b1
         rw [hq] at ni pl2 b2
         have mi1 := mul_in (a := n2) (b := i) (by omega) (by have := HN.out; omega) (by omega) (by have := HN.out; omega)
         have mi2 := mul_in (a := n2) (b := p) (by omega) (by have := HN.out; omega) (by omega) (by have := HN.out; omega)
         obtain ⟨s, hs⟩ : ∃ s, i * n2 = s := ⟨_, rfl⟩
         obtain ⟨u, hu⟩ : ∃ u, s + j = u := ⟨_, rfl⟩
         obtain ⟨v, hv⟩ : ∃ v, p * n2 = v := ⟨_, rfl⟩
         obtain ⟨z, hz⟩ : ∃ z, v + q = z := ⟨_, rfl⟩
         rw [hs] at pl1 mi1
         rw [hu] at pl1
         rw [hv] at pl2 mi2
         rw [hz] at pl2
         rw [← hm] at pl1 pl2
         obtain ⟨ad, e0, hx⟩ := Kd.at_int (Kd.C_below HR1.out HX.out.below) u pl1.1 pl1.2
         obtain ⟨ad', e9, hy⟩ := Kd.at_int (Kd.C_below HR1.out HX.out.below) z pl2.1 pl2.2
         cases e0
         cases e9
         obtain ⟨x, hxx⟩ : ∃ x, rd l0_1 u = x := ⟨_, rfl⟩
         obtain ⟨y, hyy⟩ : ∃ y, rd l0_1 z = y := ⟨_, rfl⟩
         rw [hxx] at hx
         rw [hyy] at hy
         have g1 : wrap64 (i * n2) = s := by rw [hs]; unfold wrap64; omega
         have g2 : IntKind.i64.wrap (i * n2) = s := by rw [hs, IntKind.wrap_i64]; omega
         have g3 : wrap64 (s + j) = u := by rw [hu]; unfold wrap64; omega
         have g4 : IntKind.i64.wrap (s + j) = u := by rw [hu, IntKind.wrap_i64]; omega
         have g5 : wrap64 (p * n2) = v := by rw [hv]; unfold wrap64; omega
         have g6 : IntKind.i64.wrap (p * n2) = v := by rw [hv, IntKind.wrap_i64]; omega
         have g7 : wrap64 (v + q) = z := by rw [hz]; unfold wrap64; omega
         have g8 : IntKind.i64.wrap (v + q) = z := by rw [hz, IntKind.wrap_i64]; omega
         have k1 := eq_true pl1.1
         have k2 := eq_true pl1.2
         have k3 := eq_true pl2.1
         have k4 := eq_true pl2.2
         have B1 := Aside0.mk (fun W => gimbalref11_bar_still j p W b1)
         have B2 := Aside0.mk (fun W => gimbalref11_bar_still i q W b2)
         have HXY : Aside0 (EntryOk n2 l0_1 i j ↔ (x = 4611686018427387904 ∨ (-1099511627776 ≤ x ∧ x ≤ 1099511627776)) ∧ (i = j → x = 0) ∧ x = y) := ⟨by unfold EntryOk; rw [hp, hq, hs, hu, hv, hz, hxx, hyy]⟩
         clear hi hj hil hjl h8 hn16 hm nj ni b1 b2 hp hq hs hu hv hz hxx hyy pl1 pl2 mi1 mi2
         obtain ⟨hx0, hx1, hx2⟩ := HX.out.three
         go_upto_region 15 with fail
         go_cut [80] (fun s80 wx => ∃ b : Bool, s80 = .bool b ∧ (b = false ↔ (x = 4611686018427387904 ∨ (-1099511627776 ≤ x ∧ x ≤ 1099511627776)) ∧ (i = j → x = 0) ∧ x = y) ∧ Box1 w w.heap.size #[.slice A0_0 l0_0.length c0_0, .slice (some ad) l0_1.length c0_1, .bool false] 25 wx)
         case first =>
          by_cases c1 : x = 4611686018427387904
          ·
           have f1 : (x != 4611686018427387904) = false := by rw [c1]; rfl
           by_cases c4 : i = j
           ·
            have f4 : (i == j) = true := by simpa using c4
            by_cases c5 : x = 0
            ·
             have f5 : (x != 0) = false := by rw [c5]; rfl
             by_cases c6 : x = y
             ·
              have f6 : (x != y) = false := by rw [c6]; simp
              have HB : Aside0 (false = false ↔ (x = 4611686018427387904 ∨ (-1099511627776 ≤ x ∧ x ≤ 1099511627776)) ∧ (i = j → x = 0) ∧ x = y) := ⟨by constructor; (intro _; exact ⟨by omega, by omega, by omega⟩); intro _; rfl⟩
              clear c1 c4 c5 c6
              go_quiet ((first | (go_at_call 47; exact Calls.quiet_of_same (B1.out _)) | (go_at_call 47; exact Calls.quiet_of_same (B2.out _))))
              go_wp2_with fail
              go_meet
              exact ⟨false, rfl, (by have h := HB.out; first | exact h | simpa using h), (by repeat (first | exact HX.out | (with_reducible apply Box1.drewN) | (with_reducible apply Box1.drew)))⟩
             ·
              have f6 : (x != y) = true := by simpa using c6
              have HB : Aside0 (true = false ↔ (x = 4611686018427387904 ∨ (-1099511627776 ≤ x ∧ x ≤ 1099511627776)) ∧ (i = j → x = 0) ∧ x = y) := ⟨by constructor; (intro h; cases h); intro h; exfalso; omega⟩
              clear c1 c4 c5 c6
              go_quiet ((first | (go_at_call 47; exact Calls.quiet_of_same (B1.out _)) | (go_at_call 47; exact Calls.quiet_of_same (B2.out _))))
              go_wp2_with fail
              go_meet
              exact ⟨true, rfl, (by have h := HB.out; first | exact h | simpa using h), (by repeat (first | exact HX.out | (with_reducible apply Box1.drewN) | (with_reducible apply Box1.drew)))⟩
            ·
             have f5 : (x != 0) = true := by simpa using c5
             have HB : Aside0 (true = false ↔ (x = 4611686018427387904 ∨ (-1099511627776 ≤ x ∧ x ≤ 1099511627776)) ∧ (i = j → x = 0) ∧ x = y) := ⟨by constructor; (intro h; cases h); intro h; exfalso; omega⟩
             clear c1 c4 c5
             go_quiet ((first | (go_at_call 47; exact Calls.quiet_of_same (B1.out _)) | (go_at_call 47; exact Calls.quiet_of_same (B2.out _))))
             go_wp2_with fail
             go_meet
             exact ⟨true, rfl, (by have h := HB.out; first | exact h | simpa using h), (by repeat (first | exact HX.out | (with_reducible apply Box1.drewN) | (with_reducible apply Box1.drew)))⟩
           ·
            have f4 : (i == j) = false := by simpa using c4
            by_cases c6 : x = y
            ·
             have f6 : (x != y) = false := by rw [c6]; simp
             have HB : Aside0 (false = false ↔ (x = 4611686018427387904 ∨ (-1099511627776 ≤ x ∧ x ≤ 1099511627776)) ∧ (i = j → x = 0) ∧ x = y) := ⟨by constructor; (intro _; exact ⟨by omega, by omega, by omega⟩); intro _; rfl⟩
             clear c1 c4 c6
             go_quiet ((first | (go_at_call 47; exact Calls.quiet_of_same (B1.out _)) | (go_at_call 47; exact Calls.quiet_of_same (B2.out _))))
             go_wp2_with fail
             go_meet
             exact ⟨false, rfl, (by have h := HB.out; first | exact h | simpa using h), (by repeat (first | exact HX.out | (with_reducible apply Box1.drewN) | (with_reducible apply Box1.drew)))⟩
            ·
             have f6 : (x != y) = true := by simpa using c6
             have HB : Aside0 (true = false ↔ (x = 4611686018427387904 ∨ (-1099511627776 ≤ x ∧ x ≤ 1099511627776)) ∧ (i = j → x = 0) ∧ x = y) := ⟨by constructor; (intro h; cases h); intro h; exfalso; omega⟩
             clear c1 c4 c6
             go_quiet ((first | (go_at_call 47; exact Calls.quiet_of_same (B1.out _)) | (go_at_call 47; exact Calls.quiet_of_same (B2.out _))))
             go_wp2_with fail
             go_meet
             exact ⟨true, rfl, (by have h := HB.out; first | exact h | simpa using h), (by repeat (first | exact HX.out | (with_reducible apply Box1.drewN) | (with_reducible apply Box1.drew)))⟩
          ·
           have f1 : (x != 4611686018427387904) = true := by simpa using c1
           by_cases c2 : x < -1099511627776
           ·
            have f2 : decide (x < -1099511627776) = true := decide_eq_true c2
            have HB : Aside0 (true = false ↔ (x = 4611686018427387904 ∨ (-1099511627776 ≤ x ∧ x ≤ 1099511627776)) ∧ (i = j → x = 0) ∧ x = y) := ⟨by constructor; (intro h; cases h); intro h; exfalso; omega⟩
            clear c1 c2
            go_quiet ((first | (go_at_call 47; exact Calls.quiet_of_same (B1.out _)) | (go_at_call 47; exact Calls.quiet_of_same (B2.out _))))
            go_wp2_with fail
            go_meet
            exact ⟨true, rfl, (by have h := HB.out; first | exact h | simpa using h), (by repeat (first | exact HX.out | (with_reducible apply Box1.drewN) | (with_reducible apply Box1.drew)))⟩
           ·
            have f2 : decide (x < -1099511627776) = false := decide_eq_false c2
            by_cases c3 : 1099511627776 < x
            ·
             have f3 : decide (1099511627776 < x) = true := decide_eq_true c3
             have HB : Aside0 (true = false ↔ (x = 4611686018427387904 ∨ (-1099511627776 ≤ x ∧ x ≤ 1099511627776)) ∧ (i = j → x = 0) ∧ x = y) := ⟨by constructor; (intro h; cases h); intro h; exfalso; omega⟩
             clear c1 c2 c3
             go_quiet ((first | (go_at_call 47; exact Calls.quiet_of_same (B1.out _)) | (go_at_call 47; exact Calls.quiet_of_same (B2.out _))))
             go_wp2_with fail
             go_meet
             exact ⟨true, rfl, (by have h := HB.out; first | exact h | simpa using h), (by repeat (first | exact HX.out | (with_reducible apply Box1.drewN) | (with_reducible apply Box1.drew)))⟩
            ·
             have f3 : decide (1099511627776 < x) = false := decide_eq_false c3
             by_cases c4 : i = j
             ·
              have f4 : (i == j) = true := by simpa using c4
              by_cases c5 : x = 0
              ·
               have f5 : (x != 0) = false := by rw [c5]; rfl
               by_cases c6 : x = y
               ·
                have f6 : (x != y) = false := by rw [c6]; simp
                have HB : Aside0 (false = false ↔ (x = 4611686018427387904 ∨ (-1099511627776 ≤ x ∧ x ≤ 1099511627776)) ∧ (i = j → x = 0) ∧ x = y) := ⟨by constructor; (intro _; exact ⟨by omega, by omega, by omega⟩); intro _; rfl⟩
                clear c1 c2 c3 c4 c5 c6
                go_quiet ((first | (go_at_call 47; exact Calls.quiet_of_same (B1.out _)) | (go_at_call 47; exact Calls.quiet_of_same (B2.out _))))
                go_wp2_with fail
                go_meet
                exact ⟨false, rfl, (by have h := HB.out; first | exact h | simpa using h), (by repeat (first | exact HX.out | (with_reducible apply Box1.drewN) | (with_reducible apply Box1.drew)))⟩
               ·
                have f6 : (x != y) = true := by simpa using c6
                have HB : Aside0 (true = false ↔ (x = 4611686018427387904 ∨ (-1099511627776 ≤ x ∧ x ≤ 1099511627776)) ∧ (i = j → x = 0) ∧ x = y) := ⟨by constructor; (intro h; cases h); intro h; exfalso; omega⟩
                clear c1 c2 c3 c4 c5 c6
                go_quiet ((first | (go_at_call 47; exact Calls.quiet_of_same (B1.out _)) | (go_at_call 47; exact Calls.quiet_of_same (B2.out _))))
                go_wp2_with fail
                go_meet
                exact ⟨true, rfl, (by have h := HB.out; first | exact h | simpa using h), (by repeat (first | exact HX.out | (with_reducible apply Box1.drewN) | (with_reducible apply Box1.drew)))⟩
              ·
               have f5 : (x != 0) = true := by simpa using c5
               have HB : Aside0 (true = false ↔ (x = 4611686018427387904 ∨ (-1099511627776 ≤ x ∧ x ≤ 1099511627776)) ∧ (i = j → x = 0) ∧ x = y) := ⟨by constructor; (intro h; cases h); intro h; exfalso; omega⟩
               clear c1 c2 c3 c4 c5
               go_quiet ((first | (go_at_call 47; exact Calls.quiet_of_same (B1.out _)) | (go_at_call 47; exact Calls.quiet_of_same (B2.out _))))
               go_wp2_with fail
               go_meet
               exact ⟨true, rfl, (by have h := HB.out; first | exact h | simpa using h), (by repeat (first | exact HX.out | (with_reducible apply Box1.drewN) | (with_reducible apply Box1.drew)))⟩
             ·
              have f4 : (i == j) = false := by simpa using c4
              by_cases c6 : x = y
              ·
               have f6 : (x != y) = false := by rw [c6]; simp
               have HB : Aside0 (false = false ↔ (x = 4611686018427387904 ∨ (-1099511627776 ≤ x ∧ x ≤ 1099511627776)) ∧ (i = j → x = 0) ∧ x = y) := ⟨by constructor; (intro _; exact ⟨by omega, by omega, by omega⟩); intro _; rfl⟩
               clear c1 c2 c3 c4 c6
               go_quiet ((first | (go_at_call 47; exact Calls.quiet_of_same (B1.out _)) | (go_at_call 47; exact Calls.quiet_of_same (B2.out _))))
               go_wp2_with fail
               go_meet
               exact ⟨false, rfl, (by have h := HB.out; first | exact h | simpa using h), (by repeat (first | exact HX.out | (with_reducible apply Box1.drewN) | (with_reducible apply Box1.drew)))⟩
              ·
               have f6 : (x != y) = true := by simpa using c6
               have HB : Aside0 (true = false ↔ (x = 4611686018427387904 ∨ (-1099511627776 ≤ x ∧ x ≤ 1099511627776)) ∧ (i = j → x = 0) ∧ x = y) := ⟨by constructor; (intro h; cases h); intro h; exfalso; omega⟩
               clear c1 c2 c3 c4 c6
               go_quiet ((first | (go_at_call 47; exact Calls.quiet_of_same (B1.out _)) | (go_at_call 47; exact Calls.quiet_of_same (B2.out _))))
               go_wp2_with fail
               go_meet
               exact ⟨true, rfl, (by have h := HB.out; first | exact h | simpa using h), (by repeat (first | exact HX.out | (with_reducible apply Box1.drewN) | (with_reducible apply Box1.drew)))⟩
         case rest =>
          obtain ⟨b, rfl, hb, hX⟩ := hcut
          clear HX hx0 hx1 hx2 hx hy B1 B2 g1 g2 g3 g4 g5 g6 g7 g8 k1 k2 k3 k4
          have HX := Aside0.mk hX
          have HB := Aside0.mk (hb.trans HXY.out.symm)
          clear hX hb HXY
          cases b with
          | true =>
           go_wp2
           go_ret
           refine ⟨?_, HX.out.below⟩
           have h1 := HI.out; have h2 := HL.out; have h3 := HJ.out; have h4 := HK.out
           rw [← HV.out, ofitB_false.2 (fun h => by have := (h.2.2 rfl).2 i j h1.1 (by rw [HN.out]; exact h2) h3.1 (by rw [HN.out]; exact h4); rw [HN.out] at this; exact absurd (HB.out.2 this) (by simp))]
           rfl
          | false =>
           go_wp2
           go_roundg (n2.toNat - (j.toNat + 1))
           case measure => have h1 := HJ.out; have h2 := HK.out; omega
           case rel =>
            have h1 := HJ.out; have h2 := HK.out; have h3 := HT.out.1; have h4 := HN.out
            have hw : wrap64 (j + 1) = j + 1 := by unfold wrap64; omega
            refine ⟨wrap64 (j + 1), rfl, ⟨by omega, by omega, by omega⟩, ⟨HX.out⟩, ⟨fun b b0 b1 => ?_⟩⟩
            by_cases e : b = j
            ·
             subst e; exact HB.out.1 (by first | rfl | trivial)
            ·
             exact HE.out b b0 (by omega)
        ·
         have f3 : decide (j < n2) = false := decide_eq_false hlt
         have HK := Aside0.mk hlt
         clear hlt
         go_wp2
         go_roundg (n2.toNat - (i.toNat + 1))
         case measure => have h1 := HI.out; have h2 := HL.out; omega
         case rel =>
          have h1 := HI.out; have h2 := HL.out; have h3 := HT.out.1; have h4 := HN.out; have h5 := HK.out; have h6 := HJ.out
          have hw : wrap64 (i + 1) = i + 1 := by unfold wrap64; omega
          refine ⟨wrap64 (i + 1), rfl, ⟨by omega, by omega, by omega⟩, ⟨HX.out⟩, ⟨fun a b a0 a1 b0 b1 => ?_⟩⟩
          by_cases e : a = i
          ·
           subst e; exact HE.out b b0 (by omega)
          ·
           exact HA.out a b a0 (by omega) b0 b1
      ·
       have f2 : decide (i < n2) = false := decide_eq_false hlt
       have HL := Aside0.mk hlt
       clear hlt
       go_wp2
       go_ret
       have h1 := HI.out; have h2 := HL.out
       refine ⟨?_, HX.out.below⟩
       rw [← HV.out, ofitB_true.2 ⟨HT.out, fun h => (by cases h), fun _ => ⟨by rw [HN.out, HNN.out]; exact HZ.out, fun a b a0 a1 b0 b1 => by rw [HN.out] at a1 b1 ⊢; exact HA.out a b a0 (by omega) b0 b1⟩⟩]
       rfl
    ·
     have f1 : ((l0_1.length : Int) != nn) = true := by simpa using hz
     have HZ := Aside0.mk hz
     have HN := Aside0.mk hn2
     have HNN := Aside0.mk hnn
     clear hz hn2 hnn hnn2 hl8
     go_enter Try.func12, Try.ntmps12
     go_wp2_with (go_at_call 46; (with_reducible refine (HM.out _ ?side1).mono ?_); (case side1 => repeat (first | exact HR0.out | (with_reducible refine Kd.C_alloc ?_ _) | (with_reducible refine Kd.C_drewN ?_ _) | (with_reducible refine Kd.C_drew ?_))); rintro e w1 ⟨rfl, ⟨nd, rfl⟩⟩)
     go_ret
     refine ⟨?_, by repeat (first | exact Below.refl _ _ | (with_reducible apply below_alloc) | (with_reducible apply pw_below_drewN) | (with_reducible apply below_drew))⟩
     rw [← HV.out, ofitB_false.2 (fun h => HZ.out (by rw [(h.2.2 rfl).1, HN.out, HNN.out]))]
     rfl
 ·
  rw [if_neg hlen] at h
  cases h
end Go.Proofs.Ytphfchbggechhaa.QO
end
section
noncomputable section
namespace Go.Proofs.Ytphfchbggechhaa.QO
open Go.RowKit YtphfchbggechhaaW.PrintWords YtphfchbggechhaaW.PrintLast
set_option linter.unusedVariables false
set_option linter.unusedSimpArgs false
mutual
def gimbalref11_Top.l0 : Nat → Int → Int → List Int → List Int → Bool → Option (List Int × List Int × Bool)
 | 0, _, _, _, _, _ => none
 | k + 1, x3, x5, x199000, x199001, x199002 => if x5 < x3 then (gimbalref11_Top.l1 k x3 x5 0 x199000 x199001 x199002) else (some (x199000, x199001, x199002))
def gimbalref11_Top.l1 : Nat → Int → Int → Int → List Int → List Int → Bool → Option (List Int × List Int × Bool)
 | 0, _, _, _, _, _, _ => none
 | k + 1, x3, x5, x6, x199000, x199001, x199002 => if x6 < x3 then (if x5 = x6 then (if x199001.length < 17592186044416 then (gimbalref11_Top.l1 k x3 x5 (wrap64 (x6 + 1)) x199000 (x199001 ++ [0]) x199002) else (none)) else (if x199001.length < 17592186044416 then (gimbalref11_Top.l1 k x3 x5 (wrap64 (x6 + 1)) x199000 (x199001 ++ [4611686018427387904]) x199002) else (none))) else (gimbalref11_Top.l0 k x3 (wrap64 (x5 + 1)) x199000 x199001 x199002)
end
def gimbalref11_Top.f (k : Nat) (l0 : List Int) : Option (List Int × List Int × Bool) := (gimbalref11_VarsFit.f l0).bind fun t194 => (if t194 = true then ((gimbalref11_copied.f l0).bind fun t195 => (gimbalref11_Top.l0 k (wrap64 (2 * (l0.length : Int))) 0 t195 ([] : List Int) false)) else (some (([] : List Int), ([] : List Int), false)))
theorem gimbalref11_Top.mono_l : ∀ k, (∀ y0 y1 y2 y3 y4, LeO (gimbalref11_Top.l0 k y0 y1 y2 y3 y4) (gimbalref11_Top.l0 (k + 1) y0 y1 y2 y3 y4)) ∧ (∀ y0 y1 y2 y3 y4 y5, LeO (gimbalref11_Top.l1 k y0 y1 y2 y3 y4 y5) (gimbalref11_Top.l1 (k + 1) y0 y1 y2 y3 y4 y5))
 | 0 => ⟨fun _ _ _ _ _ r h => by simp [gimbalref11_Top.l0] at h, fun _ _ _ _ _ _ r h => by simp [gimbalref11_Top.l1] at h⟩
 | k + 1 => by
  obtain ⟨ih0, ih1⟩ := gimbalref11_Top.mono_l k
  refine ⟨?_, ?_⟩ <;> intros <;> (first | unfold gimbalref11_Top.l0 | unfold gimbalref11_Top.l1) <;> repeat' first | (with_reducible first | apply ih0 | apply ih1 | apply LeO.refl | apply LeO.none | refine LeO.ite ?_ ?_ | refine LeO.bind ?_ (fun _ => ?_)) | apply ih0 | apply ih1 | apply LeO.none | refine LeO.ite ?_ ?_ | refine LeO.bind ?_ (fun _ => ?_)
theorem gimbalref11_Top.mono : ∀ a0 k, LeO (gimbalref11_Top.f k a0) (gimbalref11_Top.f (k + 1) a0) := by
 intro a0 k
 obtain ⟨ih0, ih1⟩ := gimbalref11_Top.mono_l k
 unfold gimbalref11_Top.f
 repeat' first | (with_reducible first | apply ih0 | apply ih1 | apply LeO.refl | apply LeO.none | refine LeO.ite ?_ ?_ | refine LeO.bind ?_ (fun _ => ?_)) | apply ih0 | apply ih1 | apply LeO.none | refine LeO.ite ?_ ?_ | refine LeO.bind ?_ (fun _ => ?_)
theorem gimbalref11_Top.calls (k : Nat) (A0 : Option Addr) (c0 : Nat) (l0 : List Int) (r1 : List Int) (r2 : List Int) (r3 : Bool) (w : World) (hr0 : Kd.C (Kd.int .i64) w A0 l0.length l0) (hc0 : l0.length ≤ c0) (h : gimbalref11_Top.f k l0 = some (r1, r2, r3)) :
 Calls Try.prog 48 #[.slice A0 l0.length c0] w fun e w' => ∃ v0_ v1_ : Value, e = .returned (.agg #[v0_, v1_, .bool r3]) ∧ Kd.R (Kd.int .i64) 3 w' w.heap.size (fun _ => True) v0_ r1 ∧ Kd.R (Kd.int .i64) 2 w' w.heap.size (fun _ => True) v1_ r2 ∧ Below w.heap.size w w' := by
 have hu25 := Try.underlying25
 have HR0 := Aside0.mk hr0
 have HC0 := Aside0.mk hc0
 clear hr0 hc0
 have HB := Aside0.mk (Below.refl w.heap.size w)
 have H := h
 unfold gimbalref11_Top.f at H
 clear h
 replace H := Option.bind_eq_some_iff.mp H
 obtain ⟨t194, A20, H⟩ := H
 try dsimp only at H
 have A2 := Aside0.mk A20
 clear A20
 by_cases c3 : t194 = true
 ·
  subst c3
  rw [if_pos rfl] at H
  try dsimp only at H
  replace H := Option.bind_eq_some_iff.mp H
  obtain ⟨t195, A40, H⟩ := H
  try dsimp only at H
  have A4 := Aside0.mk A40
  clear A40
  have H' := Aside0.mk H
  clear H
  go_enter Try.func48, Try.ntmps48
  go_wp2_with (first | ((with_reducible refine gate_dst (N := 2) rfl ?_); refine bx_ 2 #[.slice none 0 0, .slice none 0 0, .bool false] 25 ?_; intro gb193 hg w5 hbox hb; have BK193 := Aside0.mk (hbox); have GW193 := vS hg HB; have GE193 := vS hg HB; replace HB := vWs HB hb; clear hb hbox hg) | ((with_reducible refine gate_callee (f := 46) rfl ?_); refine gl_ (some 8) Try.func46 #[.slice A0 l0.length c0] ?_; (with_reducible refine (gimbalref11_VarsFit.calls _ _ l0 true _ ?side1 ?side2 A2.out).mono ?_); (case side1 => exact vC (Kd.C_below HR0.out HB.out)); (case side2 => exact HC0.out); rintro e w' ⟨rfl, ⟨nd, rfl⟩⟩; refine ⟨_, rfl, ?_⟩; (try (rw [drewN_self w5]; generalize hq_ : World.drewN w5 _ = w5; have n0_ : Aside0 (w5.heap[gb193]? = some (.cells #[.slice none 0 0, .slice none 0 0, .bool false] 25 (0, 0))) := ⟨by rw [← hq_]; exact (vB BK193.out)⟩; have n1_ : Aside0 (Below w.heap.size w w5) := ⟨by rw [← hq_]; exact (vW HB.out)⟩; clear BK193 HB hq_; have BK193 := n0_; have HB := n1_; clear n0_ n1_))) | ((with_reducible refine gate_callee (f := 83) rfl ?_); refine gl_ (some 15) Try.func83 #[.slice A0 l0.length c0] ?_; (with_reducible refine (gimbalref11_copied.calls _ _ l0 t195 _ ?side1 ?side2 A4.out).mono ?_); (case side1 => exact vC (Kd.C_below HR0.out HB.out)); (case side2 => exact HC0.out); rintro e w6 ⟨v196, rfl, ho0, hb⟩; refine ⟨_, rfl, ?_⟩; have HO197 := Aside0.mk (Kd.R_lower ho0 (below_size (vW HB.out))); replace BK193 := vBb BK193 hb; replace HB := vWs HB hb; (try clear hb); (try clear hb2); (try clear hk); (try clear hi); (try clear ho0); obtain ⟨Ao7, co7, eo7⟩ := Kd.R_slice HO197.out; subst eo7) | ((with_reducible refine gate_dst (N := 4) rfl ?_); refine bx_ 4 #[.slice none 0 0, .slice none 0 0, .bool false] 25 ?_; intro gb198 hg w8 hbox hb; replace HO197 := vRb HO197 hb; have BK198 := Aside0.mk (hbox); have GW198 := vS hg HB; have GE198 := vS hg HB; replace HB := vWs HB hb; have NB193_198 := vNl hg BK193; have NB198_193 := vNg hg BK193; replace BK193 := vBb BK193 hb; clear hb hbox hg; have hnb9 := NB198_193.out; have hnc9 := NB193_198.out; obtain ⟨hcz10_0, hcz10_1, hcz10_2, hfz10_0, hfz10_1, hfz10_2⟩ := vF3 BK198.out))
  go_loopg [5] k (fun kq v5 w' => ∃ (x5_1 : Int) (x199001_1 : List Int) (u199001 : Value), v5 = .int .i64 x5_1 ∧ Aside0 (gimbalref11_Top.l0 kq (wrap64 (2 * (l0.length : Int))) x5_1 t195 x199001_1 false = some (r1, r2, r3)) ∧ Aside0 (kq ≤ k) ∧ Aside0 (Kd.R (Kd.int .i64) 3 w' w.heap.size (fun _ => True) (.slice Ao7 t195.length co7) t195) ∧ Aside0 (Kd.R (Kd.int .i64) 2 w' w.heap.size (fun _ => True) u199001 x199001_1) ∧ Aside0 (w'.heap[gb193]? = some (.cells #[(.slice none 0 0), (.slice none 0 0), .bool false] 25 (0, 0))) ∧ Aside0 (w'.heap[gb198]? = some (.cells #[(.slice Ao7 t195.length co7), u199001, .bool false] 25 (0, 0))) ∧ Aside0 (Below w.heap.size w w'))
  case atStart => exact ⟨(0), (([] : List Int)), (.slice none 0 0), (by first | rfl | (simp; done) | (simp [*]; done)), H', ⟨Nat.le_refl _⟩, ⟨vTt HO197.out BK198.out⟩, ⟨by first | exact Kd.R_nil _ _ _ _ _ | exact Kd.N_nil _ _ _ _ _ | exact Kd.V_nil _ _ _ _ _ | exact Kd.Q_nil _ _ _ _ _ | exact Kd.S_nil _ _ _ _ _⟩, ⟨vB BK193.out⟩, ⟨vP3 BK198.out⟩, ⟨vW HB.out⟩⟩
  case round =>
   clear H'
   try clear p2
   try clear c3
   try clear c4
   try clear p6
   try clear c8
   try clear c9
   try clear hcz10_0
   try clear hcz10_1
   try clear hcz10_2
   try clear hfz10_0
   try clear hfz10_1
   try clear hfz10_2
   obtain ⟨x5_1, x199001_1, u199001, rfl, HA, HK1, HO_199000, HO_199001, BK193, BK198, HB⟩ := hrel
   cases gk with
   | zero => exact absurd HA.out (by simp [gimbalref11_Top.l0])
   | succ k1 =>
    have H := HA.out
    clear HA
    simp only [gimbalref11_Top.l0] at H
    by_cases c11 : x5_1 < (wrap64 (2 * (l0.length : Int)))
    ·
     rw [if_pos c11] at H
     have c11b0 : decide (x5_1 < (wrap64 (2 * (l0.length : Int)))) = true := decide_eq_true c11
     clear c11
     have H' := Aside0.mk H
     clear H
     go_wp2
     go_loopg [6] k1 (fun kq v6 w' => ∃ (x6_2 : Int) (x199001_2 : List Int) (u199001 : Value), v6 = .int .i64 x6_2 ∧ Aside0 (gimbalref11_Top.l1 kq (wrap64 (2 * (l0.length : Int))) x5_1 x6_2 t195 x199001_2 false = some (r1, r2, r3)) ∧ Aside0 (kq ≤ k1) ∧ Aside0 (Kd.R (Kd.int .i64) 3 w' w.heap.size (fun _ => True) (.slice Ao7 t195.length co7) t195) ∧ Aside0 (Kd.R (Kd.int .i64) 2 w' w.heap.size (fun _ => True) u199001 x199001_2) ∧ Aside0 (w'.heap[gb193]? = some (.cells #[(.slice none 0 0), (.slice none 0 0), .bool false] 25 (0, 0))) ∧ Aside0 (w'.heap[gb198]? = some (.cells #[(.slice Ao7 t195.length co7), u199001, .bool false] 25 (0, 0))) ∧ Aside0 (Below w.heap.size w w'))
     case atStart => exact ⟨(0), (x199001_1), (u199001), (by first | rfl | (simp; done) | (simp [*]; done)), H', ⟨Nat.le_refl _⟩, ⟨vR HO_199000.out⟩, ⟨vR HO_199001.out⟩, ⟨vB BK193.out⟩, ⟨vB BK198.out⟩, ⟨vW HB.out⟩⟩
     case round =>
      clear H'
      try clear c1
      try clear p2
      try clear c3
      try clear c4
      try clear p6
      try clear c8
      try clear c9
      try clear c11
      try clear c11b0
      try clear hcz10_0
      try clear hcz10_1
      try clear hcz10_2
      try clear hfz10_0
      try clear hfz10_1
      try clear hfz10_2
      try clear p2
      try clear p6
      obtain ⟨x6_2, x199001_2, u199001, rfl, HA, HK2, HO_199000, HO_199001, BK193, BK198, HB⟩ := hrel
      cases gk with
      | zero => exact absurd HA.out (by simp [gimbalref11_Top.l1])
      | succ k2 =>
       have H := HA.out
       clear HA
       simp only [gimbalref11_Top.l1] at H
       by_cases c12 : x6_2 < (wrap64 (2 * (l0.length : Int)))
       ·
        rw [if_pos c12] at H
        have c12b0 : decide (x6_2 < (wrap64 (2 * (l0.length : Int)))) = true := decide_eq_true c12
        clear c12
        by_cases c13 : x5_1 = x6_2
        ·
         rw [if_pos c13] at H
         have c13b0 : (x5_1 == x6_2) = true := beq_iff_eq.mpr c13
         have c13b1 : (x5_1 != x6_2) = false := bne_eq_false_iff_eq.mpr c13
         clear c13
         by_cases c14 : x199001_2.length < 17592186044416
         ·
          rw [if_pos c14] at H
          have LMc14 := Aside0.mk c14
          clear c14
          obtain ⟨y199, hy199⟩ : ∃ y_ : List Int, y_ = (x199001_2 ++ [0]) := ⟨_, rfl⟩
          replace H : (gimbalref11_Top.l1 k2 (wrap64 (2 * (l0.length : Int))) x5_1 (wrap64 (x6_2 + 1)) t195 y199 false) = some (r1, r2, r3) := by first | (rw [hy199]; with_reducible exact H) | (have H2_ := (Option.bind_some _ _).symm.trans H; rw [hy199]; with_reducible exact H2_) | (have H2_ := (Option.bind_some _ _).symm.trans H; with_reducible exact H2_) | with_reducible exact H | (rw [hy199]; exact H) | exact H
          have Ny199 := Aside0.mk hy199
          clear hy199
          have H' := Aside0.mk H
          clear H
          have hnb15 := NB198_193.out
          have hnc15 := NB193_198.out
          obtain ⟨hcz16_0, hcz16_1, hcz16_2, hfz16_0, hfz16_1, hfz16_2⟩ := vF3 BK198.out
          go_wp2_with (first | ((with_reducible refine gate_builtin (b := .append) (xs := #[.tmp 31, .tmp 32]) rfl ?_); at_builtin; refine Kd.R_append (Kd.int .i64) (w0 := w) w.heap.size rfl (.tmp 31) (.tmp 32) 23 2 (.int .i64 0) 8 rfl Try.underlying23 info2 rfl (by decide) (by omega) u199001 x199001_2 0 [.int .i64 0] (fun _ => True) (fun _ => False) rfl rfl ?aP (fun _ hk => hk.elim) ?aF ?aO ?aB ?aS ?aL ?_; (case aP => exact rfl); (case aB => exact (vW HB.out)); (case aF => exact (fun _ _ => trivial)); (case aO => exact (vR HO_199001.out)); (case aS => exact (below_size (vW HB.out))); (case aL => have := LMc14.out; omega); intro v200 w17 ho hb hg hat; rw [← Ny199.out] at ho; replace HO_199000 := Aside0.mk (Kd.R_over' (vR HO_199000.out) (Kd.R_typed (vR HO_199001.out)) (by decide) hg); replace BK193 := Aside0.mk (blk_grown (g := gb193) (o := .cells #[.slice none 0 0, .slice none 0 0, .bool false] 25 (0, 0)) (vB BK193.out) hg (Kd.R_ne HO_199001.out BK193.out (by decide))); replace BK198 := Aside0.mk (blk_grown (g := gb198) (o := .cells #[.slice Ao7 t195.length co7, u199001, .bool false] 25 (0, 0)) (vB BK198.out) hg (Kd.R_ne HO_199001.out BK198.out (by decide))); replace HB := Aside0.mk (hb); have HO201 := Aside0.mk (ho); clear HO_199001; clear ho hb hg hat; obtain ⟨Ao18, co18, eo18⟩ := Kd.R_slice HO201.out; subst eo18; obtain ⟨hcz19_0, hcz19_1, hcz19_2, hfz19_0, hfz19_1, hfz19_2⟩ := vF3 BK198.out))
          go_roundg k2
          case measure => have := HK1.out; have := HK2.out; omega
          case rel => exact ⟨(wrap64 (x6_2 + 1)), (y199), (.slice Ao18 y199.length co18), (by first | rfl | (simp; done) | (simp [*]; done)), H', ⟨by have := HK1.out; have := HK2.out; omega⟩, ⟨vTt HO_199000.out BK198.out⟩, ⟨vTt HO201.out BK198.out⟩, ⟨vB BK193.out⟩, ⟨vP1 BK198.out⟩, ⟨vW HB.out⟩⟩
         ·
          rw [if_neg c14] at H
          exact absurd H (by simp)
        ·
         rw [if_neg c13] at H
         have c13b0 : (x5_1 == x6_2) = false := beq_eq_false_iff_ne.mpr c13
         have c13b1 : (x5_1 != x6_2) = true := bne_iff_ne.mpr c13
         by_cases c20 : x199001_2.length < 17592186044416
         ·
          rw [if_pos c20] at H
          have LMc20 := Aside0.mk c20
          clear c20
          obtain ⟨y202, hy202⟩ : ∃ y_ : List Int, y_ = (x199001_2 ++ [4611686018427387904]) := ⟨_, rfl⟩
          replace H : (gimbalref11_Top.l1 k2 (wrap64 (2 * (l0.length : Int))) x5_1 (wrap64 (x6_2 + 1)) t195 y202 false) = some (r1, r2, r3) := by first | (rw [hy202]; with_reducible exact H) | (have H2_ := (Option.bind_some _ _).symm.trans H; rw [hy202]; with_reducible exact H2_) | (have H2_ := (Option.bind_some _ _).symm.trans H; with_reducible exact H2_) | with_reducible exact H | (rw [hy202]; exact H) | exact H
          have Ny202 := Aside0.mk hy202
          clear hy202
          have H' := Aside0.mk H
          clear H
          have hnb21 := NB198_193.out
          have hnc21 := NB193_198.out
          obtain ⟨hcz22_0, hcz22_1, hcz22_2, hfz22_0, hfz22_1, hfz22_2⟩ := vF3 BK198.out
          go_wp2_with (first | ((with_reducible refine gate_builtin (b := .append) (xs := #[.tmp 36, .tmp 37]) rfl ?_); at_builtin; refine Kd.R_append (Kd.int .i64) (w0 := w) w.heap.size rfl (.tmp 36) (.tmp 37) 23 2 (.int .i64 0) 8 rfl Try.underlying23 info2 rfl (by decide) (by omega) u199001 x199001_2 4611686018427387904 [.int .i64 4611686018427387904] (fun _ => True) (fun _ => False) rfl rfl ?aP (fun _ hk => hk.elim) ?aF ?aO ?aB ?aS ?aL ?_; (case aP => exact rfl); (case aB => exact (vW HB.out)); (case aF => exact (fun _ _ => trivial)); (case aO => exact (vR HO_199001.out)); (case aS => exact (below_size (vW HB.out))); (case aL => have := LMc20.out; omega); intro v203 w23 ho hb hg hat; rw [← Ny202.out] at ho; replace HO_199000 := Aside0.mk (Kd.R_over' (vR HO_199000.out) (Kd.R_typed (vR HO_199001.out)) (by decide) hg); replace BK193 := Aside0.mk (blk_grown (g := gb193) (o := .cells #[.slice none 0 0, .slice none 0 0, .bool false] 25 (0, 0)) (vB BK193.out) hg (Kd.R_ne HO_199001.out BK193.out (by decide))); replace BK198 := Aside0.mk (blk_grown (g := gb198) (o := .cells #[.slice Ao7 t195.length co7, u199001, .bool false] 25 (0, 0)) (vB BK198.out) hg (Kd.R_ne HO_199001.out BK198.out (by decide))); replace HB := Aside0.mk (hb); have HO204 := Aside0.mk (ho); clear HO_199001; clear ho hb hg hat; obtain ⟨Ao24, co24, eo24⟩ := Kd.R_slice HO204.out; subst eo24; obtain ⟨hcz25_0, hcz25_1, hcz25_2, hfz25_0, hfz25_1, hfz25_2⟩ := vF3 BK198.out))
          go_roundg k2
          case measure => have := HK1.out; have := HK2.out; omega
          case rel => exact ⟨(wrap64 (x6_2 + 1)), (y202), (.slice Ao24 y202.length co24), (by first | rfl | (simp; done) | (simp [*]; done)), H', ⟨by have := HK1.out; have := HK2.out; omega⟩, ⟨vTt HO_199000.out BK198.out⟩, ⟨vTt HO204.out BK198.out⟩, ⟨vB BK193.out⟩, ⟨vP1 BK198.out⟩, ⟨vW HB.out⟩⟩
         ·
          rw [if_neg c20] at H
          exact absurd H (by simp)
       ·
        rw [if_neg c12] at H
        have c12b0 : decide (x6_2 < (wrap64 (2 * (l0.length : Int)))) = false := decide_eq_false c12
        clear c12
        have H' := Aside0.mk H
        clear H
        go_wp2
        go_roundg k2
        case measure => have := HK1.out; have := HK2.out; omega
        case rel => exact ⟨(wrap64 (x5_1 + 1)), (x199001_2), (u199001), (by first | rfl | (simp; done) | (simp [*]; done)), H', ⟨by have := HK1.out; have := HK2.out; omega⟩, ⟨vR HO_199000.out⟩, ⟨vR HO_199001.out⟩, ⟨vB BK193.out⟩, ⟨vB BK198.out⟩, ⟨vW HB.out⟩⟩
    ·
     rw [if_neg c11] at H
     have c11b0 : decide (x5_1 < (wrap64 (2 * (l0.length : Int)))) = false := decide_eq_false c11
     clear c11
     simp only [Option.some.injEq, Prod.mk.injEq] at H
     obtain ⟨rfl, rfl, rfl⟩ := H
     have hnb26 := NB198_193.out
     have hnc26 := NB193_198.out
     obtain ⟨hcz27_0, hcz27_1, hcz27_2, hfz27_0, hfz27_1, hfz27_2⟩ := vF3 BK198.out
     obtain ⟨hcz28_0, hcz28_1, hcz28_2, hfz28_0, hfz28_1, hfz28_2⟩ := vF3 BK193.out
     obtain ⟨Ao29, co29, eo29⟩ := Kd.R_slice HO_199001.out
     subst eo29
     go_wp2
     refine bodyPost_ret (results_cell_row rfl _ _ gb193 25 #[.slice Ao7 t195.length co7, .slice Ao29 x199001_1.length co29, .bool false] (0, 0) _ rfl (vP3 BK193.out) Try.underlying25 rfl (by kernel_rfl)) rfl ?_
     exact ⟨_, _, vE, vTt HO_199000.out BK193.out, vTt HO_199001.out BK193.out, vW HB.out⟩
 ·
  replace c3 := Bool.eq_false_iff.mpr c3
  subst c3
  rw [if_neg (show ¬ (false = true) by decide)] at H
  try dsimp only at H
  simp only [Option.some.injEq, Prod.mk.injEq] at H
  obtain ⟨rfl, rfl, rfl⟩ := H
  go_enter Try.func48, Try.ntmps48
  go_wp2_with (first | ((with_reducible refine gate_dst (N := 2) rfl ?_); refine bx_ 2 #[.slice none 0 0, .slice none 0 0, .bool false] 25 ?_; intro gb193 hg w30 hbox hb; have BK193 := Aside0.mk (hbox); have GW193 := vS hg HB; have GE193 := vS hg HB; replace HB := vWs HB hb; clear hb hbox hg) | ((with_reducible refine gate_callee (f := 46) rfl ?_); refine gl_ (some 8) Try.func46 #[.slice A0 l0.length c0] ?_; (with_reducible refine (gimbalref11_VarsFit.calls _ _ l0 false _ ?side1 ?side2 A2.out).mono ?_); (case side1 => exact vC (Kd.C_below HR0.out HB.out)); (case side2 => exact HC0.out); rintro e w' ⟨rfl, ⟨nd, rfl⟩⟩; refine ⟨_, rfl, ?_⟩; (try (rw [drewN_self w30]; generalize hq_ : World.drewN w30 _ = w30; have n0_ : Aside0 (w30.heap[gb193]? = some (.cells #[.slice none 0 0, .slice none 0 0, .bool false] 25 (0, 0))) := ⟨by rw [← hq_]; exact (vB BK193.out)⟩; have n1_ : Aside0 (Below w.heap.size w w30) := ⟨by rw [← hq_]; exact (vW HB.out)⟩; clear BK193 HB hq_; have BK193 := n0_; have HB := n1_; clear n0_ n1_)); obtain ⟨hcz31_0, hcz31_1, hcz31_2, hfz31_0, hfz31_1, hfz31_2⟩ := vF3 BK193.out))
  refine bodyPost_ret (results_cell_row rfl _ _ gb193 25 #[.slice none 0 0, .slice none 0 0, .bool false] (0, 0) _ rfl (vP3 BK193.out) Try.underlying25 rfl (by kernel_rfl)) rfl ?_
  exact ⟨_, _, vE, by first | exact Kd.R_nil _ _ _ _ _ | exact Kd.N_nil _ _ _ _ _ | exact Kd.V_nil _ _ _ _ _ | exact Kd.Q_nil _ _ _ _ _ | exact Kd.S_nil _ _ _ _ _, by first | exact Kd.R_nil _ _ _ _ _ | exact Kd.N_nil _ _ _ _ _ | exact Kd.V_nil _ _ _ _ _ | exact Kd.Q_nil _ _ _ _ _ | exact Kd.S_nil _ _ _ _ _, vW HB.out⟩
def gimballaw12_one.f (a0 : Int) : Option (Int × Int × Int × Int × Int) := some (a0, 1, 0, 0, 0)
theorem gimballaw12_one.calls (a0 : Int) (r1 : Int) (r2 : Int) (r3 : Int) (r4 : Int) (r5 : Int) (w : World) (h : gimballaw12_one.f a0 = some (r1, r2, r3, r4, r5)) :
 Calls Try.prog 49 #[.int .i64 a0] w fun e w' => e = .returned (.agg #[.int .i64 r1, .int .i64 r2, .int .i64 r3, .int .i64 r4, .int .i64 r5]) ∧ Below w.heap.size w w' := by
 have hu34 := Try.underlying34
 have HB := Aside0.mk (Below.refl w.heap.size w)
 have H : (some (a0, 1, 0, 0, 0)) = some (r1, r2, r3, r4, r5) := h
 clear h
 simp only [Option.some.injEq, Prod.mk.injEq] at H
 obtain ⟨rfl, rfl, rfl, rfl, rfl⟩ := H
 go_enter Try.func49, Try.ntmps49
 go_wp2_with (first | ((with_reducible refine gate_dst (N := 2) rfl ?_); refine bx_ 2 #[.int .i64 0, .int .i64 0, .int .i64 0, .int .i64 0, .int .i64 0] 34 ?_; intro gb205 hg w2 hbox hb; have n0_ := Aside0.mk (below_step (by repeat (first | (with_reducible first | exact HB.out | apply below_alloc | apply pw_below_drewN | apply below_drew1) | exact HB.out)) hb); have n1_ := Aside0.mk (hbox); have n2_ := Aside0.mk ((by rw [hg]; exact (below_size (by repeat (first | (with_reducible first | exact HB.out | apply below_alloc | apply pw_below_drewN | apply below_drew1) | exact HB.out))) : w.heap.size ≤ gb205)); have n3_ := Aside0.mk ((by rw [hg]; exact (below_size (by repeat (first | (with_reducible first | exact HB.out | apply below_alloc | apply pw_below_drewN | apply below_drew1) | exact HB.out))) : w.heap.size ≤ gb205)); clear HB; have HB := n0_; have BK205 := n1_; have GW205 := n2_; have GE205 := n3_; clear n0_ n1_ n2_ n3_; clear hb hbox hg; have hcz3_0 : w2.cell? ⟨gb205, 0, none⟩ = some (.int .i64 0) := (blk_cell BK205.out 0).trans rfl; have hcz3_1 : w2.cell? ⟨gb205, 1, none⟩ = some (.int .i64 0) := (blk_cell BK205.out 1).trans rfl; have hcz3_2 : w2.cell? ⟨gb205, 2, none⟩ = some (.int .i64 0) := (blk_cell BK205.out 2).trans rfl; have hcz3_3 : w2.cell? ⟨gb205, 3, none⟩ = some (.int .i64 0) := (blk_cell BK205.out 3).trans rfl; have hcz3_4 : w2.cell? ⟨gb205, 4, none⟩ = some (.int .i64 0) := (blk_cell BK205.out 4).trans rfl; have hfz3_0 := blk_frozen BK205.out 0; have hfz3_1 := blk_frozen BK205.out 1; have hfz3_2 := blk_frozen BK205.out 2; have hfz3_3 := blk_frozen BK205.out 3; have hfz3_4 := blk_frozen BK205.out 4))
 refine bodyPost_ret (results_cell_row rfl _ _ gb205 34 #[.int .i64 a0, .int .i64 1, .int .i64 0, .int .i64 0, .int .i64 0] (0, 0) _ rfl (by (with_reducible repeat (first | refine blk_drewN ?_ _ | refine blk_drew ?_ | refine blk_alloc ?_ _)); refine blk_put (cs := #[.int .i64 a0, .int .i64 1, .int .i64 0, .int .i64 0, .int .i64 0]) ?_ 4 _ rfl; (with_reducible repeat (first | refine blk_drewN ?_ _ | refine blk_drew ?_ | refine blk_alloc ?_ _)); refine blk_put (cs := #[.int .i64 a0, .int .i64 1, .int .i64 0, .int .i64 0, .int .i64 0]) ?_ 3 _ rfl; (with_reducible repeat (first | refine blk_drewN ?_ _ | refine blk_drew ?_ | refine blk_alloc ?_ _)); refine blk_put (cs := #[.int .i64 a0, .int .i64 1, .int .i64 0, .int .i64 0, .int .i64 0]) ?_ 2 _ rfl; (with_reducible repeat (first | refine blk_drewN ?_ _ | refine blk_drew ?_ | refine blk_alloc ?_ _)); refine blk_put (cs := #[.int .i64 a0, .int .i64 0, .int .i64 0, .int .i64 0, .int .i64 0]) ?_ 1 _ rfl; (with_reducible repeat (first | refine blk_drewN ?_ _ | refine blk_drew ?_ | refine blk_alloc ?_ _)); refine blk_put (cs := #[.int .i64 0, .int .i64 0, .int .i64 0, .int .i64 0, .int .i64 0]) ?_ 0 _ rfl; (with_reducible repeat (first | refine blk_drewN ?_ _ | refine blk_drew ?_ | refine blk_alloc ?_ _)); exact BK205.out) Try.underlying34 rfl (by kernel_rfl)) rfl ?_
 exact ⟨vE, by repeat (first | (with_reducible first | exact HB.out | apply below_alloc | apply pw_below_drewN | apply below_drew1 | refine below_set ?_ GE205.out) | exact HB.out)⟩
end Go.Proofs.Ytphfchbggechhaa.QO
end
end
