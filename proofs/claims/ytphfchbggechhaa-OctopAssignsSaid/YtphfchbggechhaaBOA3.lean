/- Own texts of this claim, joined: QOx1072, QOx1073 -/
import Derived.Test.YtphfchbggechhaaBOA0
import Derived.Test.YtphfchbggechhaaBOA1
import Derived.Test.YtphfchbggechhaaBOA2
set_option maxRecDepth 100000
set_option maxHeartbeats 16000000
section
noncomputable section
namespace Go.Proofs.Ytphfchbggechhaa.QO
open Go.RowKit YtphfchbggechhaaW.PrintWords YtphfchbggechhaaW.PrintLast
set_option linter.unusedVariables false
set_option linter.unusedSimpArgs false
mutual
def gimbalref12_shift.l0 : Nat → Int → Int → Int → Int → Int → List Int → List Int → Bool → List Int → List Int → Bool → Option (List Int × List Int × Bool)
 | 0, _, _, _, _, _, _, _, _, _, _, _ => none
 | k + 1, x1, x2, x3, x9, x11, x453000, x453001, x453002, x458000, x458001, x458002 => if x11 < x9 then (gimbalref12_shift.l1 k x1 x2 x3 x9 x11 0 x453000 x453001 x453002 x458000 x458001 x458002) else ((gimbalref11_Close.f k x458000 x458001 x458002).bind fun bt458 => (some (bt458.1, bt458.2.1, bt458.2.2)))
def gimbalref12_shift.l1 : Nat → Int → Int → Int → Int → Int → Int → List Int → List Int → Bool → List Int → List Int → Bool → Option (List Int × List Int × Bool)
 | 0, _, _, _, _, _, _, _, _, _, _, _, _ => none
 | k + 1, x1, x2, x3, x9, x11, x12, x453000, x453001, x453002, x458000, x458001, x458002 => if x12 < x9 then (if x2 < 0 then (gimbalref12_shift.j2 k x1 x2 x3 x9 x11 x12 x11 x12 ((wrap64 (Int.tdiv x11 2)) == x1) x453000 x453001 x453002 x458000 x458001 x458002) else (gimbalref12_shift.j2 k x1 x2 x3 x9 x11 x12 x11 x12 false x453000 x453001 x453002 x458000 x458001 x458002)) else (gimbalref12_shift.l0 k x1 x2 x3 x9 (wrap64 (x11 + 1)) x453000 x453001 x453002 x458000 x458001 x458002)
def gimbalref12_shift.j2 : Nat → Int → Int → Int → Int → Int → Int → Int → Int → Bool → List Int → List Int → Bool → List Int → List Int → Bool → Option (List Int × List Int × Bool)
 | 0, _, _, _, _, _, _, _, _, _, _, _, _, _, _, _ => none
 | k + 1, x1, x2, x3, x9, x11, x12, x13, x14, x45, x453000, x453001, x453002, x458000, x458001, x458002 => if x45 = true then ((gimbalref12_bar.f x11).bind fun t465 => (gimbalref12_shift.j3 k x1 x2 x3 x9 x11 x12 t465 x14 x453000 x453001 x453002 x458000 x458001 x458002)) else (gimbalref12_shift.j3 k x1 x2 x3 x9 x11 x12 x13 x14 x453000 x453001 x453002 x458000 x458001 x458002)
def gimbalref12_shift.j3 : Nat → Int → Int → Int → Int → Int → Int → Int → Int → List Int → List Int → Bool → List Int → List Int → Bool → Option (List Int × List Int × Bool)
 | 0, _, _, _, _, _, _, _, _, _, _, _, _, _, _ => none
 | k + 1, x1, x2, x3, x9, x11, x12, x13, x14, x453000, x453001, x453002, x458000, x458001, x458002 => if x2 < 0 then (gimbalref12_shift.j4 k x1 x2 x3 x9 x11 x12 x13 x14 ((wrap64 (Int.tdiv x12 2)) == x1) x453000 x453001 x453002 x458000 x458001 x458002) else (gimbalref12_shift.j4 k x1 x2 x3 x9 x11 x12 x13 x14 false x453000 x453001 x453002 x458000 x458001 x458002)
def gimbalref12_shift.j4 : Nat → Int → Int → Int → Int → Int → Int → Int → Int → Bool → List Int → List Int → Bool → List Int → List Int → Bool → Option (List Int × List Int × Bool)
 | 0, _, _, _, _, _, _, _, _, _, _, _, _, _, _, _ => none
 | k + 1, x1, x2, x3, x9, x11, x12, x13, x14, x55, x453000, x453001, x453002, x458000, x458001, x458002 => if x55 = true then ((gimbalref12_bar.f x12).bind fun t466 => (if 0 ≤ (wrap64 ((wrap64 (x13 * x9)) + t466)) then (if (wrap64 ((wrap64 (x13 * x9)) + t466)) < (x453001.length : Int) then ((gimbalref12_add.f x12 x1 x3).bind fun t468 => ((gimbalref12_add.f x11 x1 x3).bind fun t469 => ((gimbalref12_moved.f k (rd x453001 (wrap64 ((wrap64 (x13 * x9)) + t466))) (wrap64 (t468 - t469))).bind fun t470 => (if 0 ≤ (wrap64 ((wrap64 (x11 * x9)) + x12)) then (if (wrap64 ((wrap64 (x11 * x9)) + x12)) < (x458001.length : Int) then (gimbalref12_shift.l1 k x1 x2 x3 x9 x11 (wrap64 (x12 + 1)) x453000 x453001 x453002 x458000 (x458001.set ((wrap64 ((wrap64 (x11 * x9)) + x12)) : Int).toNat t470) x458002) else (none)) else (none))))) else (none)) else (none))) else (if 0 ≤ (wrap64 ((wrap64 (x13 * x9)) + x14)) then (if (wrap64 ((wrap64 (x13 * x9)) + x14)) < (x453001.length : Int) then ((gimbalref12_add.f x12 x1 x3).bind fun t473 => ((gimbalref12_add.f x11 x1 x3).bind fun t474 => ((gimbalref12_moved.f k (rd x453001 (wrap64 ((wrap64 (x13 * x9)) + x14))) (wrap64 (t473 - t474))).bind fun t475 => (if 0 ≤ (wrap64 ((wrap64 (x11 * x9)) + x12)) then (if (wrap64 ((wrap64 (x11 * x9)) + x12)) < (x458001.length : Int) then (gimbalref12_shift.l1 k x1 x2 x3 x9 x11 (wrap64 (x12 + 1)) x453000 x453001 x453002 x458000 (x458001.set ((wrap64 ((wrap64 (x11 * x9)) + x12)) : Int).toNat t475) x458002) else (none)) else (none))))) else (none)) else (none))
end
def gimbalref12_shift.f (k : Nat) (l0_0 : List Int) (l0_1 : List Int) (a0_2 : Bool) (a1 : Int) (a2 : Int) (a3 : Int) : Option (List Int × List Int × Bool) := if 0 ≤ (wrap64 ((wrap64 (2 * (l0_0.length : Int))) * (wrap64 (2 * (l0_0.length : Int))))) then (if (wrap64 ((wrap64 (2 * (l0_0.length : Int))) * (wrap64 (2 * (l0_0.length : Int)))) : Int).toNat ≤ 35184372088832 then (gimbalref12_shift.l0 k a1 a2 a3 (wrap64 (2 * (l0_0.length : Int))) 0 l0_0 l0_1 a0_2 l0_0 (List.replicate (wrap64 ((wrap64 (2 * (l0_0.length : Int))) * (wrap64 (2 * (l0_0.length : Int)))) : Int).toNat 0) false) else (none)) else (none)
theorem gimbalref12_shift.mono_l : ∀ k, (∀ y0 y1 y2 y3 y4 y5 y6 y7 y8 y9 y10, LeO (gimbalref12_shift.l0 k y0 y1 y2 y3 y4 y5 y6 y7 y8 y9 y10) (gimbalref12_shift.l0 (k + 1) y0 y1 y2 y3 y4 y5 y6 y7 y8 y9 y10)) ∧ (∀ y0 y1 y2 y3 y4 y5 y6 y7 y8 y9 y10 y11, LeO (gimbalref12_shift.l1 k y0 y1 y2 y3 y4 y5 y6 y7 y8 y9 y10 y11) (gimbalref12_shift.l1 (k + 1) y0 y1 y2 y3 y4 y5 y6 y7 y8 y9 y10 y11)) ∧ (∀ y0 y1 y2 y3 y4 y5 y6 y7 y8 y9 y10 y11 y12 y13 y14, LeO (gimbalref12_shift.j2 k y0 y1 y2 y3 y4 y5 y6 y7 y8 y9 y10 y11 y12 y13 y14) (gimbalref12_shift.j2 (k + 1) y0 y1 y2 y3 y4 y5 y6 y7 y8 y9 y10 y11 y12 y13 y14)) ∧ (∀ y0 y1 y2 y3 y4 y5 y6 y7 y8 y9 y10 y11 y12 y13, LeO (gimbalref12_shift.j3 k y0 y1 y2 y3 y4 y5 y6 y7 y8 y9 y10 y11 y12 y13) (gimbalref12_shift.j3 (k + 1) y0 y1 y2 y3 y4 y5 y6 y7 y8 y9 y10 y11 y12 y13)) ∧ (∀ y0 y1 y2 y3 y4 y5 y6 y7 y8 y9 y10 y11 y12 y13 y14, LeO (gimbalref12_shift.j4 k y0 y1 y2 y3 y4 y5 y6 y7 y8 y9 y10 y11 y12 y13 y14) (gimbalref12_shift.j4 (k + 1) y0 y1 y2 y3 y4 y5 y6 y7 y8 y9 y10 y11 y12 y13 y14))
 | 0 => ⟨fun _ _ _ _ _ _ _ _ _ _ _ r h => by simp [gimbalref12_shift.l0] at h, fun _ _ _ _ _ _ _ _ _ _ _ _ r h => by simp [gimbalref12_shift.l1] at h, fun _ _ _ _ _ _ _ _ _ _ _ _ _ _ _ r h => by simp [gimbalref12_shift.j2] at h, fun _ _ _ _ _ _ _ _ _ _ _ _ _ _ r h => by simp [gimbalref12_shift.j3] at h, fun _ _ _ _ _ _ _ _ _ _ _ _ _ _ _ r h => by simp [gimbalref12_shift.j4] at h⟩
 | k + 1 => by
  obtain ⟨ih0, ih1, ih2, ih3, ih4⟩ := gimbalref12_shift.mono_l k
  refine ⟨?_, ?_, ?_, ?_, ?_⟩ <;> intros <;> (first | unfold gimbalref12_shift.l0 | unfold gimbalref12_shift.l1 | unfold gimbalref12_shift.j2 | unfold gimbalref12_shift.j3 | unfold gimbalref12_shift.j4) <;> repeat' first | (with_reducible first | apply ih0 | apply ih1 | apply ih2 | apply ih3 | apply ih4 | apply gimbalref11_Close.mono | apply gimbalref12_moved.mono | apply LeO.refl | apply LeO.none | refine LeO.ite ?_ ?_ | refine LeO.bind ?_ (fun _ => ?_)) | apply ih0 | apply ih1 | apply ih2 | apply ih3 | apply ih4 | apply gimbalref11_Close.mono | apply gimbalref12_moved.mono | apply LeO.none | refine LeO.ite ?_ ?_ | refine LeO.bind ?_ (fun _ => ?_)
theorem gimbalref12_shift.mono : ∀ a0 a1 a2 a3 a4 a5 k, LeO (gimbalref12_shift.f k a0 a1 a2 a3 a4 a5) (gimbalref12_shift.f (k + 1) a0 a1 a2 a3 a4 a5) := by
 intro a0 a1 a2 a3 a4 a5 k
 obtain ⟨ih0, ih1, ih2, ih3, ih4⟩ := gimbalref12_shift.mono_l k
 unfold gimbalref12_shift.f
 repeat' first | (with_reducible first | apply ih0 | apply ih1 | apply ih2 | apply ih3 | apply ih4 | apply gimbalref11_Close.mono | apply gimbalref12_moved.mono | apply LeO.refl | apply LeO.none | refine LeO.ite ?_ ?_ | refine LeO.bind ?_ (fun _ => ?_)) | apply ih0 | apply ih1 | apply ih2 | apply ih3 | apply ih4 | apply gimbalref11_Close.mono | apply gimbalref12_moved.mono | apply LeO.none | refine LeO.ite ?_ ?_ | refine LeO.bind ?_ (fun _ => ?_)
def gimbalref12_shift.T2 : Bool × List (List Nat × List Nat) := (true, [([], []), ([0], [0]), ([], []), ([], []), ([2, 3], [2, 3]), ([4, 4], [4]), ([1, 5], [1, 5]), ([], []), ([7, 6, 0, 1, 2, 3, 4, 5, 6, 7], [6, 7])])
def gimbalref12_shift.B2 : List Nat := [0, 1, 0, 0, 12, 28, 63, 0, 255]
theorem gimbalref12_shift.tab2 : rtab .any (opsOf Try.f72 2) = gimbalref12_shift.T2 := by kernel_rfl
theorem gimbalref12_shift.bits2 : waitsOk gimbalref12_shift.T2.2 gimbalref12_shift.B2 = true := by kernel_rfl
def gimbalref12_shift.T15 : Bool × List (List Nat × List Nat) := (true, [([], []), ([0], [0]), ([], []), ([], []), ([2, 3], [2, 3]), ([], []), ([4, 5], [4, 5]), ([], []), ([7], [7]), ([], []), ([], []), ([9, 10], [9, 10]), ([], []), ([11, 12], [11, 12]), ([8, 13], [8, 13]), ([14], [14]), ([], []), ([], []), ([], []), ([16, 17, 18], [16, 17, 18]), ([], []), ([], []), ([], []), ([20, 21, 22, 19], [20, 21, 22]), ([19, 23], [19, 23]), ([15, 24, 23], [15, 24]), ([1, 6, 0, 1, 2, 3, 4, 5, 6, 7, 8, 9, 10, 11, 12, 13, 14, 15, 16, 17, 18, 19, 20, 21, 22, 23, 24, 25], [1, 6]), ([26, 25, 25, 0, 1, 2, 3, 4, 5, 6, 7, 8, 9, 10, 11, 12, 13, 14, 15, 16, 17, 18, 19, 20, 21, 22, 23, 24, 25], [25, 26])])
def gimbalref12_shift.B15 : List Nat := [0, 1, 0, 0, 12, 0, 60, 0, 128, 0, 0, 1536, 0, 7680, 16256, 32640, 0, 0, 0, 458752, 0, 0, 0, 8323072, 16711680, 33554304, 67108863, 134217727]
theorem gimbalref12_shift.tab15 : rtab .any (opsOf Try.f72 15) = gimbalref12_shift.T15 := by kernel_rfl
theorem gimbalref12_shift.bits15 : waitsOk gimbalref12_shift.T15.2 gimbalref12_shift.B15 = true := by kernel_rfl
theorem gimbalref12_shift.calls (k : Nat) (A0_0 : Option Addr) (c0_0 : Nat) (l0_0 : List Int) (A0_1 : Option Addr) (c0_1 : Nat) (l0_1 : List Int) (a0_2 : Bool) (a1 : Int) (a2 : Int) (a3 : Int) (r1 : List Int) (r2 : List Int) (r3 : Bool) (w : World) (hr0_0 : Kd.C (Kd.int .i64) w A0_0 l0_0.length l0_0) (hc0_0 : l0_0.length ≤ c0_0) (hr0_1 : Kd.C (Kd.int .i64) w A0_1 l0_1.length l0_1) (hc0_1 : l0_1.length ≤ c0_1) (h : gimbalref12_shift.f k l0_0 l0_1 a0_2 a1 a2 a3 = some (r1, r2, r3)) :
 Calls Try.prog 72 #[.agg #[.slice A0_0 l0_0.length c0_0, .slice A0_1 l0_1.length c0_1, .bool a0_2], .int .i64 a1, .int .i64 a2, .int .i64 a3] w fun e w' => ∃ v0_ v1_ : Value, e = .returned (.agg #[v0_, v1_, .bool r3]) ∧ Kd.R (Kd.int .i64) 3 w' w.heap.size (fun _ => True) v0_ r1 ∧ Kd.R (Kd.int .i64) 2 w' w.heap.size (fun _ => True) v1_ r2 ∧ Below w.heap.size w w' := by
 have hu25 := Try.underlying25
 have HR0_0 := Aside0.mk hr0_0
 have HC0_0 := Aside0.mk hc0_0
 clear hr0_0 hc0_0
 have HR0_1 := Aside0.mk hr0_1
 have HC0_1 := Aside0.mk hc0_1
 clear hr0_1 hc0_1
 have HB := Aside0.mk (Below.refl w.heap.size w)
 have H := h
 unfold gimbalref12_shift.f at H
 clear h
 obtain ⟨ji5, hji5⟩ : ∃ j_ : Int, (wrap64 ((wrap64 (2 * (l0_0.length : Int))) * (wrap64 (2 * (l0_0.length : Int))))) = j_ := ⟨_, rfl⟩
 first | rw [hji5] at H | simp only [hji5] at H
 have hji5w : (IntKind.i64.wrap ((wrap64 (2 * (l0_0.length : Int))) * (wrap64 (2 * (l0_0.length : Int))))) = ji5 := (i64_w _).trans hji5
 by_cases c6 : 0 ≤ (ji5)
 ·
  rw [if_pos c6] at H
  have c6b0 := eq_true c6
  have c6b1 : decide (0 ≤ (ji5)) = true := decide_eq_true c6
  clear c6
  by_cases c7 : (ji5 : Int).toNat ≤ 35184372088832
  ·
   rw [if_pos c7] at H
   have c7b0 := eq_true c7
   have c7b1 : decide ((ji5 : Int).toNat ≤ 35184372088832) = true := decide_eq_true c7
   clear c7
   obtain ⟨y454, hy454⟩ : ∃ y_ : List Int, y_ = (List.replicate (ji5 : Int).toNat 0) := ⟨_, rfl⟩
   replace H : (gimbalref12_shift.l0 k a1 a2 a3 (wrap64 (2 * (l0_0.length : Int))) 0 l0_0 l0_1 a0_2 l0_0 y454 false) = some (r1, r2, r3) := by first | (rw [hy454]; with_reducible exact H) | (have H2_ := (Option.bind_some _ _).symm.trans H; rw [hy454]; with_reducible exact H2_) | (have H2_ := (Option.bind_some _ _).symm.trans H; with_reducible exact H2_) | with_reducible exact H | (rw [hy454]; exact H) | exact H
   have Ny454 := Aside0.mk hy454
   clear hy454
   have H' := Aside0.mk H
   clear H
   go_enter Try.func72, Try.ntmps72
   try go_wp2_with (first | ((with_reducible refine gate_dst (N := 4) rfl ?_); refine bx_ 4 #[.slice A0_0 l0_0.length c0_0, .slice A0_1 l0_1.length c0_1, .bool a0_2] 25 ?_; intro gb452 hg w8 hbox hb; have BK452 := Aside0.mk (hbox); have GW452 := vS hg HB; have GE452 := vS hg HB; replace HB := vWs HB hb; clear hb hbox hg) | ((with_reducible refine gate_dst (N := 8) rfl ?_); refine bx_ 8 #[.slice none 0 0, .slice none 0 0, .bool false] 25 ?_; intro gb453 hg w9 hbox hb; have BK453 := Aside0.mk (hbox); have GW453 := vS hg HB; have GE453 := vS hg HB; replace HB := vWs HB hb; have NB452_453 := vNl hg BK452; have NB453_452 := vNg hg BK452; replace BK452 := vBb BK452 hb; clear hb hbox hg; have hnb10 := NB452_453.out; have hnc10 := NB453_452.out; obtain ⟨hcz11_0, hcz11_1, hcz11_2, hfz11_0, hfz11_1, hfz11_2⟩ := vF3 BK452.out))
   replace BK452 := Aside0.mk (blk_drew BK452.out)
   replace BK453 := Aside0.mk (blk_drew BK453.out)
   replace HB := Aside0.mk (below_drew1 HB.out)
   refine start_ (n := 9) (S := fun w' => w'.cell? ⟨gb452, 0, none⟩ = some (.slice A0_0 l0_0.length c0_0) ∧ w'.cell? ⟨gb452, 1, none⟩ = some (.slice A0_1 l0_1.length c0_1) ∧ w'.cell? ⟨gb452, 2, none⟩ = some (.bool a0_2)) (ds := []) (mB 9 0) (by kernel_rfl) rfl rfl ⟨(blk_cell BK452.out 0).trans rfl, (blk_cell BK452.out 1).trans rfl, (blk_cell BK452.out 2).trans rfl⟩ (fun hHeld => ?_); refine with_tabW gimbalref12_shift.tab2 gimbalref12_shift.bits2 (fun HT_ HW_ => ?_)
   generalize w9.drew = w12 at BK452 BK453 HB hHeld ⊢
   refine pV_ 0 19 (mB 9 1) HT_ ?_
   refine pV_ 2 21 (mB 9 5) HT_ ?_
   refine pV_ 3 22 (mB 9 13) HT_ ?_
   refine pV_ 4 23 (mB 9 29) HT_ ?_
   refine tV_ 1 20 (mB 9 31) HT_ HW_ hHeld ?_
   refine join_ (σ := Value × Nat) 1 (mB 9 255) (fun s_ => [(24, s_.1), (10, .pointer (some ⟨s_.2, 0, none⟩)), (25, .agg #[.slice A0_0 l0_0.length c0_0, s_.1, .bool false])]) (fun s_ w' => (w'.cell? ⟨gb452, 0, none⟩ = some (.slice A0_0 l0_0.length c0_0) ∧ w'.cell? ⟨gb452, 1, none⟩ = some (.slice A0_1 l0_1.length c0_1) ∧ w'.cell? ⟨gb452, 2, none⟩ = some (.bool a0_2)) ∧ (Kd.R (Kd.int .i64) 2 w' w.heap.size (fun _ => True) s_.1 y454) ∧ (w'.heap[gb452]? = some (.cells #[.slice A0_0 l0_0.length c0_0, .slice A0_1 l0_1.length c0_1, .bool a0_2] 25 (0, 0))) ∧ (w'.heap[gb453]? = some (.cells #[.slice none 0 0, .slice none 0 0, .bool false] 25 (0, 0))) ∧ (w'.heap[s_.2]? = some (.cells #[.slice none 0 0, .slice none 0 0, .bool false] 25 (0, 0))) ∧ (w.heap.size ≤ s_.2) ∧ (w.heap.size ≤ s_.2) ∧ (gb452 ≠ s_.2) ∧ (s_.2 ≠ gb452) ∧ (gb453 ≠ s_.2) ∧ (s_.2 ≠ gb453) ∧ (Below w.heap.size w w')) ?_ ?_
   rotate_left
   ·
    intro hCont
    refine two_ (i := 5) (j := 7) (Ni := some 24) (Nj := some 10) (mB 9 63) (mB 9 159) rfl rfl rfl rfl (two_of HT_.out (by kernel_rfl)) (by decide) (by decide) (fun K hK => ?_) (fun K hK => ?_)
    ·
     skip
     refine Kd.R_make_step (Kd.int .i64) _ 2 (by rfl) (N := 24) rfl 23 _ _ rfl ji5 rfl rfl Try.underlying23 (.int .i64 0) 8 info2 rfl (by decide) (by omega) 0 (ok := fun _ => True) (okp := fun _ => True) rfl (fun _ hk => hk) trivial (of_decide_eq_true (by first | (with_reducible assumption) | assumption)) (Nat.le_trans (Nat.mul_le_mul_right _ (of_decide_eq_true (by first | (with_reducible assumption) | assumption) : ji5.toNat ≤ 35184372088832)) (by omega)) (Below.refl _ _) (Nat.le_refl _) ?_
     intro v455 w13 ho14 hb hg_ hnew_
     clear hg_ hnew_
     (first | rw [← Ny454.out] at ho14 | (simp only [Int.reduceToNat] at ho14; rw [← Ny454.out] at ho14))
     have HO456 := Aside0.mk (Kd.R_lower ho14 (below_size (vW HB.out)))
     replace BK452 := vBb BK452 hb
     replace BK453 := vBb BK453 hb
     replace HB := vWs HB hb
     clear hb ho14
     obtain ⟨Ao15, co15, eo15⟩ := Kd.R_slice HO456.out
     (first | subst eo15 | (injection eo15 with f1_ f2_ f3_; have f4_ := f1_.symm; have f5_ := f3_.symm; clear f1_ f2_ f3_; subst f4_; subst f5_))
     refine hK.out _ _ ⟨(blk_cell BK452.out 0).trans rfl, (blk_cell BK452.out 1).trans rfl, (blk_cell BK452.out 2).trans rfl⟩ (fun hHeld => ?_)
     clear hK K
     refine norm_ (a' := ?_) ?_ ?_
     rotate_left
     ·
      show Act.put _ (some 24) _ = _
      simp only [Act.put, List.setIfInBounds_toArray, List.set_cons_zero, List.set_cons_succ, i64_w, i32_w]
      rfl
     refine pV_ 6 25 (mB 9 127) HT_ ?_
     refine on_ 7 (some 10) (mB 9 255) HT_ (fun K hK => ?_)
     refine box_step ?hg (N := 10) ?hd (cs := #[.slice none 0 0, .slice none 0 0, .bool false]) (t := 25) ?hr ?_; (case hd => rfl); (case hg => rfl); (case hr => first | (go_simp; done) | (go_simp; rfl))
     intro gb457 hg w16 hbox hb
     replace HO456 := vRb HO456 hb
     have BK457 := Aside0.mk (hbox)
     have GW457 := vS hg HB
     have GE457 := vS hg HB
     replace HB := vWs HB hb
     have NB452_457 := vNl hg BK452
     have NB457_452 := vNg hg BK452
     replace BK452 := vBb BK452 hb
     have NB453_457 := vNl hg BK453
     have NB457_453 := vNg hg BK453
     replace BK453 := vBb BK453 hb
     clear hb hbox hg
     refine hK.out _ _ ⟨(blk_cell BK452.out 0).trans rfl, (blk_cell BK452.out 1).trans rfl, (blk_cell BK452.out 2).trans rfl⟩ (fun hHeld => ?_)
     clear hK K
     refine norm_ (a' := ?_) ?_ ?_
     rotate_left
     ·
      show Act.put _ (some 10) _ = _
      simp only [Act.put, List.setIfInBounds_toArray, List.set_cons_zero, List.set_cons_succ, i64_w, i32_w]
      rfl
     exact norm_ (by simp only [putAll, Act.put, List.setIfInBounds_toArray, List.set_cons_zero, List.set_cons_succ]) (hCont (.slice Ao15 y454.length co15, gb457) _ ⟨hHeld, (vR HO456.out), (vB BK452.out), (vB BK453.out), (vB BK457.out), GW457.out, GE457.out, NB452_457.out, NB457_452.out, NB453_457.out, NB457_453.out, (vW HB.out)⟩)
    ·
     skip
     refine box_step ?hg (N := 10) ?hd (cs := #[.slice none 0 0, .slice none 0 0, .bool false]) (t := 25) ?hr ?_; (case hd => rfl); (case hg => rfl); (case hr => first | (go_simp; done) | (go_simp; rfl))
     intro gb457 hg w13 hbox hb
     have BK457 := Aside0.mk (hbox)
     have GW457 := vS hg HB
     have GE457 := vS hg HB
     replace HB := vWs HB hb
     have NB452_457 := vNl hg BK452
     have NB457_452 := vNg hg BK452
     replace BK452 := vBb BK452 hb
     have NB453_457 := vNl hg BK453
     have NB457_453 := vNg hg BK453
     replace BK453 := vBb BK453 hb
     clear hb hbox hg
     refine hK.out _ _ ⟨(blk_cell BK452.out 0).trans rfl, (blk_cell BK452.out 1).trans rfl, (blk_cell BK452.out 2).trans rfl⟩ (fun hHeld => ?_)
     clear hK K
     refine norm_ (a' := ?_) ?_ ?_
     rotate_left
     ·
      show Act.put _ (some 10) _ = _
      simp only [Act.put, List.setIfInBounds_toArray, List.set_cons_zero, List.set_cons_succ, i64_w, i32_w]
      rfl
     refine on_ 5 (some 24) (mB 9 191) HT_ (fun K hK => ?_)
     refine Kd.R_make_step (Kd.int .i64) _ 2 (by rfl) (N := 24) rfl 23 _ _ rfl ji5 rfl rfl Try.underlying23 (.int .i64 0) 8 info2 rfl (by decide) (by omega) 0 (ok := fun _ => True) (okp := fun _ => True) rfl (fun _ hk => hk) trivial (of_decide_eq_true (by first | (with_reducible assumption) | assumption)) (Nat.le_trans (Nat.mul_le_mul_right _ (of_decide_eq_true (by first | (with_reducible assumption) | assumption) : ji5.toNat ≤ 35184372088832)) (by omega)) (Below.refl _ _) (Nat.le_refl _) ?_
     intro v455 w14 ho15 hb hg_ hnew_
     clear hg_ hnew_
     (first | rw [← Ny454.out] at ho15 | (simp only [Int.reduceToNat] at ho15; rw [← Ny454.out] at ho15))
     have HO456 := Aside0.mk (Kd.R_lower ho15 (below_size (vW HB.out)))
     replace BK452 := vBb BK452 hb
     replace BK453 := vBb BK453 hb
     replace BK457 := vBb BK457 hb
     replace HB := vWs HB hb
     clear hb ho15
     obtain ⟨Ao16, co16, eo16⟩ := Kd.R_slice HO456.out
     (first | subst eo16 | (injection eo16 with f1_ f2_ f3_; have f4_ := f1_.symm; have f5_ := f3_.symm; clear f1_ f2_ f3_; subst f4_; subst f5_))
     refine hK.out _ _ ⟨(blk_cell BK452.out 0).trans rfl, (blk_cell BK452.out 1).trans rfl, (blk_cell BK452.out 2).trans rfl⟩ (fun hHeld => ?_)
     clear hK K
     refine norm_ (a' := ?_) ?_ ?_
     rotate_left
     ·
      show Act.put _ (some 24) _ = _
      simp only [Act.put, List.setIfInBounds_toArray, List.set_cons_zero, List.set_cons_succ, i64_w, i32_w]
      rfl
     refine pV_ 6 25 (mB 9 255) HT_ ?_
     exact norm_ (by simp only [putAll, Act.put, List.setIfInBounds_toArray, List.set_cons_zero, List.set_cons_succ]) (hCont (.slice Ao16 y454.length co16, gb457) _ ⟨hHeld, (vR HO456.out), (vB BK452.out), (vB BK453.out), (vB BK457.out), GW457.out, GE457.out, NB452_457.out, NB457_452.out, NB453_457.out, NB457_453.out, (vW HB.out)⟩)
   rintro ⟨v455, gb457⟩ w17 ⟨hS_, h0_, h1_, h2_, h3_, h4_, h5_, h6_, h7_, h8_, h9_, h10_⟩
   have n0_ : Aside0 (Kd.R (Kd.int .i64) 2 w17 w.heap.size (fun _ => True) v455 y454) := ⟨h0_⟩
   have n1_ : Aside0 (w17.heap[gb452]? = some (.cells #[.slice A0_0 l0_0.length c0_0, .slice A0_1 l0_1.length c0_1, .bool a0_2] 25 (0, 0))) := ⟨h1_⟩
   have n2_ : Aside0 (w17.heap[gb453]? = some (.cells #[.slice none 0 0, .slice none 0 0, .bool false] 25 (0, 0))) := ⟨h2_⟩
   have n3_ : Aside0 (w17.heap[gb457]? = some (.cells #[.slice none 0 0, .slice none 0 0, .bool false] 25 (0, 0))) := ⟨h3_⟩
   have n4_ : Aside0 (w.heap.size ≤ gb457) := ⟨h4_⟩
   have n5_ : Aside0 (w.heap.size ≤ gb457) := ⟨h5_⟩
   have n6_ : Aside0 (gb452 ≠ gb457) := ⟨h6_⟩
   have n7_ : Aside0 (gb457 ≠ gb452) := ⟨h7_⟩
   have n8_ : Aside0 (gb453 ≠ gb457) := ⟨h8_⟩
   have n9_ : Aside0 (gb457 ≠ gb453) := ⟨h9_⟩
   have n10_ : Aside0 (Below w.heap.size w w17) := ⟨h10_⟩
   clear BK452
   clear BK453
   clear HB
   clear h0_ h1_ h2_ h3_ h4_ h5_ h6_ h7_ h8_ h9_ h10_
   have HO456 := n0_
   have BK452 := n1_
   have BK453 := n2_
   have BK457 := n3_
   have GW457 := n4_
   have GE457 := n5_
   have NB452_457 := n6_
   have NB457_452 := n7_
   have NB453_457 := n8_
   have NB457_453 := n9_
   have HB := n10_
   clear n0_ n1_ n2_ n3_ n4_ n5_ n6_ n7_ n8_ n9_ n10_
   have hHeld : w17.cell? ⟨gb452, 0, none⟩ = some (.slice A0_0 l0_0.length c0_0) ∧ w17.cell? ⟨gb452, 1, none⟩ = some (.slice A0_1 l0_1.length c0_1) ∧ w17.cell? ⟨gb452, 2, none⟩ = some (.bool a0_2) := hS_
   obtain ⟨Ao18, co18, eo18⟩ := Kd.R_slice HO456.out
   (first | subst eo18 | (injection eo18 with f1_ f2_ f3_; have f4_ := f1_.symm; have f5_ := f3_.symm; clear f1_ f2_ f3_; subst f4_; subst f5_))
   refine norm_ (a' := ?_) ?_ ?_
   rotate_left
   ·
    simp only [putAll, Act.put, List.setIfInBounds_toArray, List.set_cons_zero, List.set_cons_succ]
    rfl
   refine on_ 8 none (mB 9 511) HT_ (fun K hK => ?_)
   have hs19 : w17.cell? ⟨gb457, 0, none⟩ = some (.slice none 0 0) := (blk_cell BK457.out 0).trans rfl
   have hfs19 := blk_frozen BK457.out 0
   have hns19_0 := NB452_457.out
   have hns19_1 := NB453_457.out
   have hms19_0 := NB457_452.out
   have hms19_1 := NB457_453.out
   have hs20 : w17.cell? ⟨gb457, 1, none⟩ = some (.slice none 0 0) := (blk_cell BK457.out 1).trans rfl
   have hfs20 := blk_frozen BK457.out 1
   have hns20_0 := NB452_457.out
   have hns20_1 := NB453_457.out
   have hms20_0 := NB457_452.out
   have hms20_1 := NB457_453.out
   have hs21 : w17.cell? ⟨gb457, 2, none⟩ = some (.bool false) := (blk_cell BK457.out 2).trans rfl
   have hfs21 := blk_frozen BK457.out 2
   have hns21_0 := NB452_457.out
   have hns21_1 := NB453_457.out
   have hms21_0 := NB457_452.out
   have hms21_1 := NB457_453.out
   refine skip_ (w1 := ?_) (by rfl) rfl ?_ ?_
   rotate_left
   ·
    go_simp
    rfl
   refine hK.out _ _ ⟨((cell_far (p := ⟨gb457, _, none⟩) NB452_457.out _).trans (((cell_far (p := ⟨gb457, _, none⟩) NB452_457.out _).trans (((cell_far (p := ⟨gb457, _, none⟩) NB452_457.out _).trans (hHeld.1)))))), ((cell_far (p := ⟨gb457, _, none⟩) NB452_457.out _).trans (((cell_far (p := ⟨gb457, _, none⟩) NB452_457.out _).trans (((cell_far (p := ⟨gb457, _, none⟩) NB452_457.out _).trans (hHeld.2.1)))))), ((cell_far (p := ⟨gb457, _, none⟩) NB452_457.out _).trans (((cell_far (p := ⟨gb457, _, none⟩) NB452_457.out _).trans (((cell_far (p := ⟨gb457, _, none⟩) NB452_457.out _).trans (hHeld.2.2))))))⟩ (fun hHeld => ?_)
   clear hK K
   refine dn_ HT_ ?_
   try go_wp2
   go_loopg [11] k (fun kq v11 w' => ∃ (x11_1 : Int) (x458001_1 : List Int) (u458001 : Value), v11 = .int .i64 x11_1 ∧ Aside0 (gimbalref12_shift.l0 kq a1 a2 a3 (wrap64 (2 * (l0_0.length : Int))) x11_1 l0_0 l0_1 a0_2 l0_0 x458001_1 false = some (r1, r2, r3)) ∧ Aside0 (kq ≤ k) ∧ Aside0 (Kd.R (Kd.int .i64) 2 w' w.heap.size (fun _ => True) u458001 x458001_1) ∧ Aside0 (w'.heap[gb452]? = some (.cells #[(.slice A0_0 l0_0.length c0_0), (.slice A0_1 l0_1.length c0_1), .bool a0_2] 25 (0, 0))) ∧ Aside0 (w'.heap[gb453]? = some (.cells #[(.slice none 0 0), (.slice none 0 0), .bool false] 25 (0, 0))) ∧ Aside0 (w'.heap[gb457]? = some (.cells #[(.slice A0_0 l0_0.length c0_0), u458001, .bool false] 25 (0, 0))) ∧ Aside0 (Below w.heap.size w w'))
   case atStart => exact ⟨(0), (y454), (.slice Ao18 y454.length co18), (by first | rfl | (simp; done) | (simp [*]; done)), H', ⟨Nat.le_refl _⟩, ⟨vTt HO456.out BK457.out⟩, ⟨vB BK452.out⟩, ⟨vB BK453.out⟩, ⟨vP3 BK457.out⟩, ⟨vW HB.out⟩⟩
   case round =>
    clear H'
    try clear c6b0
    try clear c6b1
    try clear c7b0
    try clear c7b1
    try clear hcz11_0
    try clear hcz11_1
    try clear hcz11_2
    try clear hfz11_0
    try clear hfz11_1
    try clear hfz11_2
    obtain ⟨x11_1, x458001_1, u458001, rfl, HA, HK1, HO_458001, BK452, BK453, BK457, HB⟩ := hrel
    cases gk with
    | zero => exact absurd HA.out (by simp [gimbalref12_shift.l0])
    | succ k1 =>
     have H := HA.out
     clear HA
     simp only [gimbalref12_shift.l0] at H
     by_cases c22 : x11_1 < (wrap64 (2 * (l0_0.length : Int)))
     ·
      rw [if_pos c22] at H
      have c22b0 : decide (x11_1 < (wrap64 (2 * (l0_0.length : Int)))) = true := decide_eq_true c22
      clear c22
      have H' := Aside0.mk H
      clear H
      go_wp2
      go_loopg [12] k1 (fun kq v12 w' => ∃ (x12_2 : Int) (x458001_2 : List Int) (u458001 : Value), v12 = .int .i64 x12_2 ∧ Aside0 (gimbalref12_shift.l1 kq a1 a2 a3 (wrap64 (2 * (l0_0.length : Int))) x11_1 x12_2 l0_0 l0_1 a0_2 l0_0 x458001_2 false = some (r1, r2, r3)) ∧ Aside0 (kq ≤ k1) ∧ Aside0 (Kd.R (Kd.int .i64) 2 w' w.heap.size (fun _ => True) u458001 x458001_2) ∧ Aside0 (w'.heap[gb452]? = some (.cells #[(.slice A0_0 l0_0.length c0_0), (.slice A0_1 l0_1.length c0_1), .bool a0_2] 25 (0, 0))) ∧ Aside0 (w'.heap[gb453]? = some (.cells #[(.slice none 0 0), (.slice none 0 0), .bool false] 25 (0, 0))) ∧ Aside0 (w'.heap[gb457]? = some (.cells #[(.slice A0_0 l0_0.length c0_0), u458001, .bool false] 25 (0, 0))) ∧ Aside0 (Below w.heap.size w w'))
      case atStart => exact ⟨(0), (x458001_1), (u458001), (by first | rfl | (simp; done) | (simp [*]; done)), H', ⟨Nat.le_refl _⟩, ⟨vR HO_458001.out⟩, ⟨vB BK452.out⟩, ⟨vB BK453.out⟩, ⟨vB BK457.out⟩, ⟨vW HB.out⟩⟩
      case round =>
       clear H'
       try clear c22b0
       obtain ⟨x12_2, x458001_2, u458001, rfl, HA, HK2, HO_458001, BK452, BK453, BK457, HB⟩ := hrel
       cases gk with
       | zero => exact absurd HA.out (by simp [gimbalref12_shift.l1])
       | succ k2 =>
        have H := HA.out
        clear HA
        simp only [gimbalref12_shift.l1] at H
        by_cases c23 : x12_2 < (wrap64 (2 * (l0_0.length : Int)))
        ·
         rw [if_pos c23] at H
         have c23b0 : decide (x12_2 < (wrap64 (2 * (l0_0.length : Int)))) = true := decide_eq_true c23
         clear c23
         have HC24 := Aside0.mk H
         clear H
         go_upto_region 11 with (fail)
         go_cut [45] (fun v45 wc => ∃ (kq : Nat) (x45_23 : Bool), v45 = .bool x45_23 ∧ Aside0 (gimbalref12_shift.j2 kq a1 a2 a3 (wrap64 (2 * (l0_0.length : Int))) x11_1 x12_2 x11_1 x12_2 x45_23 l0_0 l0_1 a0_2 l0_0 x458001_2 false = some (r1, r2, r3)) ∧ Aside0 (kq ≤ k2) ∧ Aside0 (Kd.R (Kd.int .i64) 2 wc w.heap.size (fun _ => True) u458001 x458001_2) ∧ Aside0 (wc.heap[gb452]? = some (.cells #[(.slice A0_0 l0_0.length c0_0), (.slice A0_1 l0_1.length c0_1), .bool a0_2] 25 (0, 0))) ∧ Aside0 (wc.heap[gb453]? = some (.cells #[(.slice none 0 0), (.slice none 0 0), .bool false] 25 (0, 0))) ∧ Aside0 (wc.heap[gb457]? = some (.cells #[(.slice A0_0 l0_0.length c0_0), u458001, .bool false] 25 (0, 0))) ∧ Aside0 (Below w.heap.size w wc))
         case first =>
          have H := HC24.out
          clear HC24
          by_cases c25 : a2 < 0
          ·
           rw [if_pos c25] at H
           have c25b0 : decide (a2 < 0) = true := decide_eq_true c25
           clear c25
           (first | rw [c25b0] | (simp only [i64_w, i32_w]; rw [c25b0]) | skip)
           have H' := Aside0.mk H
           clear H
           go_wp2
           go_meet
           case rel => exact ⟨_, (((wrap64 (Int.tdiv x11_1 2)) == a1)), (by first | rfl | (simp; done) | (simp [*]; done)), H', ⟨by have := HK1.out; have := HK2.out; first | omega | exact Nat.le_refl _⟩, ⟨vR HO_458001.out⟩, ⟨vB BK452.out⟩, ⟨vB BK453.out⟩, ⟨vB BK457.out⟩, ⟨vW HB.out⟩⟩
          ·
           rw [if_neg c25] at H
           have c25b0 : decide (a2 < 0) = false := decide_eq_false c25
           clear c25
           (first | rw [c25b0] | (simp only [i64_w, i32_w]; rw [c25b0]) | skip)
           have H' := Aside0.mk H
           clear H
           go_wp2
           go_meet
           case rel => exact ⟨_, (false), (by first | rfl | (simp; done) | (simp [*]; done)), H', ⟨by have := HK1.out; have := HK2.out; first | omega | exact Nat.le_refl _⟩, ⟨vR HO_458001.out⟩, ⟨vB BK452.out⟩, ⟨vB BK453.out⟩, ⟨vB BK457.out⟩, ⟨vW HB.out⟩⟩
         case rest =>
          clear HC24
          try clear c23b0
          obtain ⟨kq, x45_23, rfl, HA, HJ23, HO_458001, BK452, BK453, BK457, HB⟩ := hcut
          cases kq with
          | zero => exact absurd HA.out (by simp [gimbalref12_shift.j2])
          | succ kj23 =>
           have H := HA.out
           clear HA
           simp only [gimbalref12_shift.j2] at H
           have HC26 := Aside0.mk H
           clear H
           go_upto_if 45 with (fail)
           go_cut [13] (fun v13 wc => ∃ (kq : Nat) (x13_25 : Int), v13 = .int .i64 x13_25 ∧ Aside0 (gimbalref12_shift.j3 kq a1 a2 a3 (wrap64 (2 * (l0_0.length : Int))) x11_1 x12_2 x13_25 x12_2 l0_0 l0_1 a0_2 l0_0 x458001_2 false = some (r1, r2, r3)) ∧ Aside0 (kq ≤ kj23) ∧ Aside0 (Kd.R (Kd.int .i64) 2 wc w.heap.size (fun _ => True) u458001 x458001_2) ∧ Aside0 (wc.heap[gb452]? = some (.cells #[(.slice A0_0 l0_0.length c0_0), (.slice A0_1 l0_1.length c0_1), .bool a0_2] 25 (0, 0))) ∧ Aside0 (wc.heap[gb453]? = some (.cells #[(.slice none 0 0), (.slice none 0 0), .bool false] 25 (0, 0))) ∧ Aside0 (wc.heap[gb457]? = some (.cells #[(.slice A0_0 l0_0.length c0_0), u458001, .bool false] 25 (0, 0))) ∧ Aside0 (Below w.heap.size w wc))
           case first =>
            have H := HC26.out
            clear HC26
            by_cases c27 : x45_23 = true
            ·
             subst c27
             rw [if_pos rfl] at H
             try dsimp only at H
             replace H := Option.bind_eq_some_iff.mp H
             obtain ⟨t465, A280, H⟩ := H
             try dsimp only at H
             have A28 := Aside0.mk A280
             clear A280
             have H' := Aside0.mk H
             clear H
             go_wp2_with ((with_reducible refine gate_callee (f := 108) rfl ?_); refine gl_ (some 47) Try.func108 #[.int .i64 x11_1] ?_; (with_reducible refine (gimbalref12_bar.calls x11_1 t465 _ A28.out).mono ?_); rintro e w' ⟨rfl, ⟨nd, rfl⟩⟩; refine ⟨_, rfl, ?_⟩)
             go_meet
             case rel => exact ⟨_, (t465), (by first | rfl | (simp; done) | (simp [*]; done)), H', ⟨by have := HK1.out; have := HK2.out; have := HJ23.out; first | omega | exact Nat.le_refl _⟩, ⟨vR HO_458001.out⟩, ⟨vB BK452.out⟩, ⟨vB BK453.out⟩, ⟨vB BK457.out⟩, ⟨vW HB.out⟩⟩
            ·
             replace c27 := Bool.eq_false_iff.mpr c27
             subst c27
             rw [if_neg (show ¬ (false = true) by decide)] at H
             try dsimp only at H
             have H' := Aside0.mk H
             clear H
             go_wp2
             go_meet
             case rel => exact ⟨_, (x11_1), (by first | rfl | (simp; done) | (simp [*]; done)), H', ⟨by have := HK1.out; have := HK2.out; have := HJ23.out; first | omega | exact Nat.le_refl _⟩, ⟨vR HO_458001.out⟩, ⟨vB BK452.out⟩, ⟨vB BK453.out⟩, ⟨vB BK457.out⟩, ⟨vW HB.out⟩⟩
           case rest =>
            clear HC26
            obtain ⟨kq, x13_25, rfl, HA, HJ25, HO_458001, BK452, BK453, BK457, HB⟩ := hcut
            cases kq with
            | zero => exact absurd HA.out (by simp [gimbalref12_shift.j3])
            | succ kj25 =>
             have H := HA.out
             clear HA
             simp only [gimbalref12_shift.j3] at H
             have HC29 := Aside0.mk H
             clear H
             go_upto_region 13 with (fail)
             go_cut [55] (fun v55 wc => ∃ (kq : Nat) (x55_28 : Bool), v55 = .bool x55_28 ∧ Aside0 (gimbalref12_shift.j4 kq a1 a2 a3 (wrap64 (2 * (l0_0.length : Int))) x11_1 x12_2 x13_25 x12_2 x55_28 l0_0 l0_1 a0_2 l0_0 x458001_2 false = some (r1, r2, r3)) ∧ Aside0 (kq ≤ kj25) ∧ Aside0 (Kd.R (Kd.int .i64) 2 wc w.heap.size (fun _ => True) u458001 x458001_2) ∧ Aside0 (wc.heap[gb452]? = some (.cells #[(.slice A0_0 l0_0.length c0_0), (.slice A0_1 l0_1.length c0_1), .bool a0_2] 25 (0, 0))) ∧ Aside0 (wc.heap[gb453]? = some (.cells #[(.slice none 0 0), (.slice none 0 0), .bool false] 25 (0, 0))) ∧ Aside0 (wc.heap[gb457]? = some (.cells #[(.slice A0_0 l0_0.length c0_0), u458001, .bool false] 25 (0, 0))) ∧ Aside0 (Below w.heap.size w wc))
             case first =>
              have H := HC29.out
              clear HC29
              by_cases c30 : a2 < 0
              ·
               rw [if_pos c30] at H
               have c30b0 : decide (a2 < 0) = true := decide_eq_true c30
               clear c30
               (first | rw [c30b0] | (simp only [i64_w, i32_w]; rw [c30b0]) | skip)
               have H' := Aside0.mk H
               clear H
               go_wp2
               go_meet
               case rel => exact ⟨_, (((wrap64 (Int.tdiv x12_2 2)) == a1)), (by first | rfl | (simp; done) | (simp [*]; done)), H', ⟨by have := HK1.out; have := HK2.out; have := HJ23.out; have := HJ25.out; first | omega | exact Nat.le_refl _⟩, ⟨vR HO_458001.out⟩, ⟨vB BK452.out⟩, ⟨vB BK453.out⟩, ⟨vB BK457.out⟩, ⟨vW HB.out⟩⟩
              ·
               rw [if_neg c30] at H
               have c30b0 : decide (a2 < 0) = false := decide_eq_false c30
               clear c30
               (first | rw [c30b0] | (simp only [i64_w, i32_w]; rw [c30b0]) | skip)
               have H' := Aside0.mk H
               clear H
               go_wp2
               go_meet
               case rel => exact ⟨_, (false), (by first | rfl | (simp; done) | (simp [*]; done)), H', ⟨by have := HK1.out; have := HK2.out; have := HJ23.out; have := HJ25.out; first | omega | exact Nat.le_refl _⟩, ⟨vR HO_458001.out⟩, ⟨vB BK452.out⟩, ⟨vB BK453.out⟩, ⟨vB BK457.out⟩, ⟨vW HB.out⟩⟩
             case rest =>
              clear HC29
              obtain ⟨kq, x55_28, rfl, HA, HJ28, HO_458001, BK452, BK453, BK457, HB⟩ := hcut
              cases kq with
              | zero => exact absurd HA.out (by simp [gimbalref12_shift.j4])
              | succ kj28 =>
               have H := HA.out
               clear HA
               simp only [gimbalref12_shift.j4] at H
               by_cases c31 : x55_28 = true
               ·
                subst c31
                rw [if_pos rfl] at H
                try dsimp only at H
                replace H := Option.bind_eq_some_iff.mp H
                obtain ⟨t466, A320, H⟩ := H
                try dsimp only at H
                have A32 := Aside0.mk A320
                clear A320
                obtain ⟨ji33, hji33⟩ : ∃ j_ : Int, (wrap64 ((wrap64 (x13_25 * (wrap64 (2 * (l0_0.length : Int))))) + t466)) = j_ := ⟨_, rfl⟩
                first | rw [hji33] at H | simp only [hji33] at H
                (try rw [hji33] at A32)
                have hji33w : (IntKind.i64.wrap ((wrap64 (x13_25 * (wrap64 (2 * (l0_0.length : Int))))) + t466)) = ji33 := (i64_w _).trans hji33
                by_cases c34 : 0 ≤ (ji33)
                ·
                 rw [if_pos c34] at H
                 have c34b0 : decide (0 ≤ (ji33)) = true := decide_eq_true c34
                 clear c34
                 by_cases c35 : (ji33) < (l0_1.length : Int)
                 ·
                  rw [if_pos c35] at H
                  have c35b0 : decide ((ji33) < (l0_1.length : Int)) = true := decide_eq_true c35
                  clear c35
                  replace H := Option.bind_eq_some_iff.mp H
                  obtain ⟨t468, A360, H⟩ := H
                  try dsimp only at H
                  have A36 := Aside0.mk A360
                  clear A360
                  replace H := Option.bind_eq_some_iff.mp H
                  obtain ⟨t469, A370, H⟩ := H
                  try dsimp only at H
                  have A37 := Aside0.mk A370
                  clear A370
                  replace H := Option.bind_eq_some_iff.mp H
                  obtain ⟨t470, A380, H⟩ := H
                  try dsimp only at H
                  have A38 := Aside0.mk A380
                  clear A380
                  obtain ⟨ji39, hji39⟩ : ∃ j_ : Int, (wrap64 ((wrap64 (x11_1 * (wrap64 (2 * (l0_0.length : Int))))) + x12_2)) = j_ := ⟨_, rfl⟩
                  first | rw [hji39] at H | simp only [hji39] at H
                  (try rw [hji39] at A32)
                  (try rw [hji39] at A36)
                  (try rw [hji39] at A37)
                  (try rw [hji39] at A38)
                  have hji39w : (IntKind.i64.wrap ((wrap64 (x11_1 * (wrap64 (2 * (l0_0.length : Int))))) + x12_2)) = ji39 := (i64_w _).trans hji39
                  by_cases c40 : 0 ≤ (ji39)
                  ·
                   rw [if_pos c40] at H
                   have c40b0 : decide (0 ≤ (ji39)) = true := decide_eq_true c40
                   clear c40
                   by_cases c41 : (ji39) < (x458001_2.length : Int)
                   ·
                    rw [if_pos c41] at H
                    have c41b0 : decide ((ji39) < (x458001_2.length : Int)) = true := decide_eq_true c41
                    clear c41
                    obtain ⟨y471, hy471⟩ : ∃ y_ : List Int, y_ = (x458001_2.set ((ji39) : Int).toNat t470) := ⟨_, rfl⟩
                    replace H : (gimbalref12_shift.l1 kj28 a1 a2 a3 (wrap64 (2 * (l0_0.length : Int))) x11_1 (wrap64 (x12_2 + 1)) l0_0 l0_1 a0_2 l0_0 y471 false) = some (r1, r2, r3) := by first | (rw [hy471]; with_reducible exact H) | (have H2_ := (Option.bind_some _ _).symm.trans H; rw [hy471]; with_reducible exact H2_) | (have H2_ := (Option.bind_some _ _).symm.trans H; with_reducible exact H2_) | with_reducible exact H | (rw [hy471]; exact H) | exact H
                    have Ny471 := Aside0.mk hy471
                    clear hy471
                    have H' := Aside0.mk H
                    clear H
                    try go_wp2_with ((with_reducible refine gate_callee (f := 108) rfl ?_); refine gl_ (some 57) Try.func108 #[.int .i64 x12_2] ?_; (with_reducible refine (gimbalref12_bar.calls x12_2 t466 _ A32.out).mono ?_); rintro e w' ⟨rfl, ⟨nd, rfl⟩⟩; refine ⟨_, rfl, ?_⟩; (try (rw [drewN_self wc]; generalize hq_ : World.drewN wc _ = wc; have n0_ : Aside0 (Kd.R (Kd.int .i64) 2 wc w.heap.size (fun _ => True) u458001 x458001_2) := ⟨by rw [← hq_]; exact (vR HO_458001.out)⟩; have n1_ : Aside0 (wc.heap[gb452]? = some (.cells #[.slice A0_0 l0_0.length c0_0, .slice A0_1 l0_1.length c0_1, .bool a0_2] 25 (0, 0))) := ⟨by rw [← hq_]; exact (vB BK452.out)⟩; have n2_ : Aside0 (wc.heap[gb453]? = some (.cells #[.slice none 0 0, .slice none 0 0, .bool false] 25 (0, 0))) := ⟨by rw [← hq_]; exact (vB BK453.out)⟩; have n3_ : Aside0 (wc.heap[gb457]? = some (.cells #[.slice A0_0 l0_0.length c0_0, u458001, .bool false] 25 (0, 0))) := ⟨by rw [← hq_]; exact (vB BK457.out)⟩; have n4_ : Aside0 (Below w.heap.size w wc) := ⟨by rw [← hq_]; exact (vW HB.out)⟩; clear HO_458001 BK452 BK453 BK457 HB hq_; have HO_458001 := n0_; have BK452 := n1_; have BK453 := n2_; have BK457 := n3_; have HB := n4_; clear n0_ n1_ n2_ n3_ n4_)))
                    replace HO_458001 := Aside0.mk (Kd.R_drew HO_458001.out)
                    replace BK452 := Aside0.mk (blk_drew BK452.out)
                    replace BK453 := Aside0.mk (blk_drew BK453.out)
                    replace BK457 := Aside0.mk (blk_drew BK457.out)
                    replace HB := Aside0.mk (below_drew1 HB.out)
                    have p467 : 0 ≤ ((ji33) : Int) := of_decide_eq_true (by first | (with_reducible assumption) | assumption)
                    have q467 : (ji33) < (l0_1.length : Int) := of_decide_eq_true (by first | (with_reducible assumption) | assumption)
                    obtain ⟨ad467, e467, hx467_0⟩ := Kd.at_int HR0_1.out (ji33) p467 q467
                    have hw467_0 := hx467_0
                    cases e467
                    replace hx467_0 := (HB.out.cell (World.block_lt_of_cell? w _ hx467_0)).trans hx467_0
                    replace p467 := eq_true p467
                    replace q467 := eq_true q467
                    refine start_ (n := 28) (S := fun w' => w'.cell? ⟨gb457, 0, none⟩ = some (.slice A0_0 l0_0.length c0_0) ∧ w'.cell? ⟨gb457, 1, none⟩ = some (u458001) ∧ w'.cell? ⟨gb457, 2, none⟩ = some (.bool false) ∧ w'.cell? ⟨gb452, 0, none⟩ = some (.slice A0_0 l0_0.length c0_0) ∧ w'.cell? ⟨gb452, 1, none⟩ = some (.slice (some ad467) l0_1.length c0_1) ∧ w'.cell? ⟨gb452, 2, none⟩ = some (.bool a0_2) ∧ w'.cell? (ad467.add ((ji33)).toNat) = some (.int .i64 (rd l0_1 (ji33)))) (ds := [27]) (mB 28 0) (by kernel_rfl) rfl rfl ⟨(blk_cell BK457.out 0).trans rfl, (blk_cell BK457.out 1).trans rfl, (blk_cell BK457.out 2).trans rfl, (blk_cell BK452.out 0).trans rfl, (blk_cell BK452.out 1).trans rfl, (blk_cell BK452.out 2).trans rfl, ((HB.out.cell (World.block_lt_of_cell? w _ hw467_0)).trans hw467_0)⟩ (fun hHeld => ?_); refine with_tabW gimbalref12_shift.tab15 gimbalref12_shift.bits15 (fun HT_ HW_ => ?_)
                    generalize wc.drew = w43 at HO_458001 BK452 BK453 BK457 HB hx467_0 hHeld ⊢
                    refine pV_ 0 58 (mB 28 1) HT_ ?_
                    refine pV_ 2 60 (mB 28 5) HT_ ?_
                    refine pV_ 3 61 (mB 28 13) HT_ ?_
                    refine pV_ 4 62 (mB 28 29) HT_ ?_
                    refine pV_ 5 63 (mB 28 61) HT_ ?_
                    refine pV_ 6 64 (mB 28 125) HT_ ?_
                    refine pV_ 7 65 (mB 28 253) HT_ ?_
                    refine pV_ 9 67 (mB 28 765) HT_ ?_
                    refine pV_ 10 68 (mB 28 1789) HT_ ?_
                    refine pV_ 11 69 (mB 28 3837) HT_ ?_
                    refine pV_ 12 70 (mB 28 7933) HT_ ?_
                    refine pV_ 13 71 (mB 28 16125) HT_ ?_
                    refine pV_ 16 74 (mB 28 81661) HT_ ?_
                    refine pV_ 17 75 (mB 28 212733) HT_ ?_
                    refine pV_ 18 76 (mB 28 474877) HT_ ?_
                    refine pV_ 20 78 (mB 28 1523453) HT_ ?_
                    refine pV_ 21 79 (mB 28 3620605) HT_ ?_
                    refine pV_ 22 80 (mB 28 7814909) HT_ ?_
                    refine tV_ 1 59 (mB 28 7814911) HT_ HW_ hHeld ?_
                    refine tV_ 8 66 (mB 28 7815167) HT_ HW_ hHeld ?_
                    refine pV_ 14 72 (mB 28 7831551) HT_ ?_
                    refine tV_ 15 73 (mB 28 7864319) HT_ HW_ hHeld ?_
                    refine on_ 19 (some 77) (mB 28 8388607) HT_ (fun K hK => ?_)
                    refine gs_ Try.func116 #[.int .i64 x12_2, .int .i64 a1, .int .i64 a3] ?_
                    with_reducible refine (gimbalref12_add.calls x12_2 a1 a3 t468 _ A36.out).mono ?_
                    rintro e w' ⟨rfl, ⟨nd, rfl⟩⟩
                    refine ⟨_, rfl, ?_⟩
                    refine hK.out _ _ ⟨(blk_cell BK457.out 0).trans rfl, (blk_cell BK457.out 1).trans rfl, (blk_cell BK457.out 2).trans rfl, (blk_cell BK452.out 0).trans rfl, (blk_cell BK452.out 1).trans rfl, (blk_cell BK452.out 2).trans rfl, ((HB.out.cell (World.block_lt_of_cell? w _ hw467_0)).trans hw467_0)⟩ (fun hHeld => ?_)
                    clear hK K
                    refine norm_ (a' := ?_) ?_ ?_
                    rotate_left
                    ·
                     show Act.put _ (some 77) _ = _
                     simp only [Act.put, List.setIfInBounds_toArray, List.set_cons_zero, List.set_cons_succ, i64_w, i32_w]
                     rfl
                    refine on_ 23 (some 81) (mB 28 16777215) HT_ (fun K hK => ?_)
                    refine gs_ Try.func116 #[.int .i64 x11_1, .int .i64 a1, .int .i64 a3] ?_
                    with_reducible refine (gimbalref12_add.calls x11_1 a1 a3 t469 _ A37.out).mono ?_
                    rintro e w' ⟨rfl, ⟨nd, rfl⟩⟩
                    refine ⟨_, rfl, ?_⟩
                    refine hK.out _ _ ⟨(blk_cell BK457.out 0).trans rfl, (blk_cell BK457.out 1).trans rfl, (blk_cell BK457.out 2).trans rfl, (blk_cell BK452.out 0).trans rfl, (blk_cell BK452.out 1).trans rfl, (blk_cell BK452.out 2).trans rfl, ((HB.out.cell (World.block_lt_of_cell? w _ hw467_0)).trans hw467_0)⟩ (fun hHeld => ?_)
                    clear hK K
                    refine norm_ (a' := ?_) ?_ ?_
                    rotate_left
                    ·
                     show Act.put _ (some 81) _ = _
                     simp only [Act.put, List.setIfInBounds_toArray, List.set_cons_zero, List.set_cons_succ, i64_w, i32_w]
                     rfl
                    refine pV_ 24 82 (mB 28 33554431) HT_ ?_
                    refine on_ 25 (some 83) (mB 28 67108863) HT_ (fun K hK => ?_)
                    refine goes_ Try.func115 (by kernel_rfl) rfl #[.int .i64 (rd l0_1 (ji33)), .int .i64 (wrap64 (t468 - t469))] (by rfl) rfl rfl (by (try simp only [List.map_toArray, List.map_cons, List.map_nil]); first | done | (simp only [hji33]; rfl) | rfl | (simp only [List.length_drop, List.length_take]; rfl)) ?_
                    with_reducible refine (gimbalref12_moved.calls kj28 (rd l0_1 (ji33)) (wrap64 (t468 - t469)) t470 _ A38.out).mono ?_
                    rintro e w' ⟨rfl, ⟨nd, rfl⟩⟩
                    refine ⟨_, rfl, ?_⟩
                    have p42 : 0 ≤ ((ji39) : Int) := of_decide_eq_true (by first | (with_reducible assumption) | assumption)
                    have q42 : ((ji39) : Int) < ((x458001_2.length : Int) : Int) := of_decide_eq_true (by first | (with_reducible assumption) | assumption)
                    obtain ⟨go42, co42, eo42, gb42, gl42, cl42, HG42⟩ := Kd.R_form HO_458001.out (by omega)
                    (first | cases eo42 | (injection eo42 with ea_ en_ ec_; (first | subst ea_ | (injection ea_ with ea_; subst ea_)); subst ec_; clear en_))
                    have GB42 := Aside0.mk gb42
                    have GG42 := Aside0.mk HG42
                    clear gb42 gl42 HG42
                    obtain ⟨hx42_0, hf42_0⟩ := Kd.R_celln 0 HO_458001.out ((ji39) : Int) p42 q42
                    replace p42 := eq_true p42
                    replace q42 := eq_true q42
                    have HP44 := Kd.R_putn HO_458001.out ((ji39) : Int) t470
                    rw [← Ny471.out] at HP44
                    have HQ44 := Aside0.mk HP44
                    clear HP44
                    refine hK.out _ _ ⟨(blk_cell BK457.out 0).trans rfl, (blk_cell BK457.out 1).trans rfl, (blk_cell BK457.out 2).trans rfl, (blk_cell BK452.out 0).trans rfl, (blk_cell BK452.out 1).trans rfl, (blk_cell BK452.out 2).trans rfl, ((HB.out.cell (World.block_lt_of_cell? w _ hw467_0)).trans hw467_0)⟩ (fun hHeld => ?_)
                    clear hK K
                    refine norm_ (a' := ?_) ?_ ?_
                    rotate_left
                    ·
                     show Act.put _ (some 83) _ = _
                     simp only [Act.put, List.setIfInBounds_toArray, List.set_cons_zero, List.set_cons_succ, i64_w, i32_w]
                     rfl
                    refine pV_ 26 84 (mB 28 134217727) HT_ ?_
                    refine la_ 27 (mB 28 268435455) HT_ (fun K hK => ?_)
                    refine skip_ (w1 := ?_) (by rfl) rfl ?_ ?_
                    rotate_left
                    ·
                     go_simp
                     rfl
                    refine hK.out _ _ ?_
                    clear hK K
                    refine dn_ HT_ ?_
                    try go_wp2
                    go_roundg kj28
                    case measure => have := HK1.out; have := HK2.out; have := HJ23.out; have := HJ25.out; have := HJ28.out; omega
                    case rel => exact ⟨(wrap64 (x12_2 + 1)), (y471), (.slice (some ⟨go42, 0, none⟩) x458001_2.length co42), (by first | rfl | (simp; done) | (simp [*]; done)), H', ⟨by have := HK1.out; have := HK2.out; have := HJ23.out; have := HJ25.out; have := HJ28.out; omega⟩, ⟨vR HQ44.out⟩, ⟨by (with_reducible repeat (first | refine blk_drewN ?_ _ | refine blk_drew ?_ | refine blk_alloc ?_ _)); refine blk_far ?_ (by have h_ := Kd.R_ne HO_458001.out BK452.out (by decide); intro e_; exact h_ (by rw [e_]; rfl)) _; (with_reducible repeat (first | refine blk_drewN ?_ _ | refine blk_drew ?_ | refine blk_alloc ?_ _)); exact BK452.out⟩, ⟨by (with_reducible repeat (first | refine blk_drewN ?_ _ | refine blk_drew ?_ | refine blk_alloc ?_ _)); refine blk_far ?_ (by have h_ := Kd.R_ne HO_458001.out BK453.out (by decide); intro e_; exact h_ (by rw [e_]; rfl)) _; (with_reducible repeat (first | refine blk_drewN ?_ _ | refine blk_drew ?_ | refine blk_alloc ?_ _)); exact BK453.out⟩, ⟨by (with_reducible repeat (first | refine blk_drewN ?_ _ | refine blk_drew ?_ | refine blk_alloc ?_ _)); refine blk_far ?_ (by have h_ := Kd.R_ne HO_458001.out BK457.out (by decide); intro e_; exact h_ (by rw [e_]; rfl)) _; (with_reducible repeat (first | refine blk_drewN ?_ _ | refine blk_drew ?_ | refine blk_alloc ?_ _)); exact BK457.out⟩, ⟨vW HB.out⟩⟩
                   ·
                    rw [if_neg c41] at H
                    exact absurd H (by simp)
                  ·
                   rw [if_neg c40] at H
                   exact absurd H (by simp)
                 ·
                  rw [if_neg c35] at H
                  exact absurd H (by simp)
                ·
                 rw [if_neg c34] at H
                 exact absurd H (by simp)
               ·
                replace c31 := Bool.eq_false_iff.mpr c31
                subst c31
                rw [if_neg (show ¬ (false = true) by decide)] at H
                try dsimp only at H
                obtain ⟨ji45, hji45⟩ : ∃ j_ : Int, (wrap64 ((wrap64 (x13_25 * (wrap64 (2 * (l0_0.length : Int))))) + x12_2)) = j_ := ⟨_, rfl⟩
                first | rw [hji45] at H | simp only [hji45] at H
                have hji45w : (IntKind.i64.wrap ((wrap64 (x13_25 * (wrap64 (2 * (l0_0.length : Int))))) + x12_2)) = ji45 := (i64_w _).trans hji45
                by_cases c46 : 0 ≤ (ji45)
                ·
                 rw [if_pos c46] at H
                 have c46b0 : decide (0 ≤ (ji45)) = true := decide_eq_true c46
                 clear c46
                 by_cases c47 : (ji45) < (l0_1.length : Int)
                 ·
                  rw [if_pos c47] at H
                  have c47b0 : decide ((ji45) < (l0_1.length : Int)) = true := decide_eq_true c47
                  clear c47
                  replace H := Option.bind_eq_some_iff.mp H
                  obtain ⟨t473, A480, H⟩ := H
                  try dsimp only at H
                  have A48 := Aside0.mk A480
                  clear A480
                  replace H := Option.bind_eq_some_iff.mp H
                  obtain ⟨t474, A490, H⟩ := H
                  try dsimp only at H
                  have A49 := Aside0.mk A490
                  clear A490
                  replace H := Option.bind_eq_some_iff.mp H
                  obtain ⟨t475, A500, H⟩ := H
                  try dsimp only at H
                  have A50 := Aside0.mk A500
                  clear A500
                  obtain ⟨ji51, hji51⟩ : ∃ j_ : Int, (wrap64 ((wrap64 (x11_1 * (wrap64 (2 * (l0_0.length : Int))))) + x12_2)) = j_ := ⟨_, rfl⟩
                  first | rw [hji51] at H | simp only [hji51] at H
                  (try rw [hji51] at A48)
                  (try rw [hji51] at A49)
                  (try rw [hji51] at A50)
                  have hji51w : (IntKind.i64.wrap ((wrap64 (x11_1 * (wrap64 (2 * (l0_0.length : Int))))) + x12_2)) = ji51 := (i64_w _).trans hji51
                  by_cases c52 : 0 ≤ (ji51)
                  ·
                   rw [if_pos c52] at H
                   have c52b0 : decide (0 ≤ (ji51)) = true := decide_eq_true c52
                   clear c52
                   by_cases c53 : (ji51) < (x458001_2.length : Int)
                   ·
                    rw [if_pos c53] at H
                    have c53b0 : decide ((ji51) < (x458001_2.length : Int)) = true := decide_eq_true c53
                    clear c53
                    obtain ⟨y476, hy476⟩ : ∃ y_ : List Int, y_ = (x458001_2.set ((ji51) : Int).toNat t475) := ⟨_, rfl⟩
                    replace H : (gimbalref12_shift.l1 kj28 a1 a2 a3 (wrap64 (2 * (l0_0.length : Int))) x11_1 (wrap64 (x12_2 + 1)) l0_0 l0_1 a0_2 l0_0 y476 false) = some (r1, r2, r3) := by first | (rw [hy476]; with_reducible exact H) | (have H2_ := (Option.bind_some _ _).symm.trans H; rw [hy476]; with_reducible exact H2_) | (have H2_ := (Option.bind_some _ _).symm.trans H; with_reducible exact H2_) | with_reducible exact H | (rw [hy476]; exact H) | exact H
                    have Ny476 := Aside0.mk hy476
                    clear hy476
                    have H' := Aside0.mk H
                    clear H
                    try go_wp2
                    replace HO_458001 := Aside0.mk (Kd.R_drew HO_458001.out)
                    replace BK452 := Aside0.mk (blk_drew BK452.out)
                    replace BK453 := Aside0.mk (blk_drew BK453.out)
                    replace BK457 := Aside0.mk (blk_drew BK457.out)
                    replace HB := Aside0.mk (below_drew1 HB.out)
                    have p472 : 0 ≤ ((ji45) : Int) := of_decide_eq_true (by first | (with_reducible assumption) | assumption)
                    have q472 : (ji45) < (l0_1.length : Int) := of_decide_eq_true (by first | (with_reducible assumption) | assumption)
                    obtain ⟨ad472, e472, hx472_0⟩ := Kd.at_int HR0_1.out (ji45) p472 q472
                    have hw472_0 := hx472_0
                    cases e472
                    replace hx472_0 := (HB.out.cell (World.block_lt_of_cell? w _ hx472_0)).trans hx472_0
                    replace p472 := eq_true p472
                    replace q472 := eq_true q472
                    refine start_ (n := 28) (S := fun w' => w'.cell? ⟨gb457, 0, none⟩ = some (.slice A0_0 l0_0.length c0_0) ∧ w'.cell? ⟨gb457, 1, none⟩ = some (u458001) ∧ w'.cell? ⟨gb457, 2, none⟩ = some (.bool false) ∧ w'.cell? ⟨gb452, 0, none⟩ = some (.slice A0_0 l0_0.length c0_0) ∧ w'.cell? ⟨gb452, 1, none⟩ = some (.slice (some ad472) l0_1.length c0_1) ∧ w'.cell? ⟨gb452, 2, none⟩ = some (.bool a0_2) ∧ w'.cell? (ad472.add ((ji45)).toNat) = some (.int .i64 (rd l0_1 (ji45)))) (ds := [27]) (mB 28 0) (by kernel_rfl) rfl rfl ⟨(blk_cell BK457.out 0).trans rfl, (blk_cell BK457.out 1).trans rfl, (blk_cell BK457.out 2).trans rfl, (blk_cell BK452.out 0).trans rfl, (blk_cell BK452.out 1).trans rfl, (blk_cell BK452.out 2).trans rfl, ((HB.out.cell (World.block_lt_of_cell? w _ hw472_0)).trans hw472_0)⟩ (fun hHeld => ?_); refine with_tabW gimbalref12_shift.tab15 gimbalref12_shift.bits15 (fun HT_ HW_ => ?_)
                    generalize wc.drew = w55 at HO_458001 BK452 BK453 BK457 HB hx472_0 hHeld ⊢
                    refine pV_ 0 58 (mB 28 1) HT_ ?_
                    refine pV_ 2 60 (mB 28 5) HT_ ?_
                    refine pV_ 3 61 (mB 28 13) HT_ ?_
                    refine pV_ 4 62 (mB 28 29) HT_ ?_
                    refine pV_ 5 63 (mB 28 61) HT_ ?_
                    refine pV_ 6 64 (mB 28 125) HT_ ?_
                    refine pV_ 7 65 (mB 28 253) HT_ ?_
                    refine pV_ 9 67 (mB 28 765) HT_ ?_
                    refine pV_ 10 68 (mB 28 1789) HT_ ?_
                    refine pV_ 11 69 (mB 28 3837) HT_ ?_
                    refine pV_ 12 70 (mB 28 7933) HT_ ?_
                    refine pV_ 13 71 (mB 28 16125) HT_ ?_
                    refine pV_ 16 74 (mB 28 81661) HT_ ?_
                    refine pV_ 17 75 (mB 28 212733) HT_ ?_
                    refine pV_ 18 76 (mB 28 474877) HT_ ?_
                    refine pV_ 20 78 (mB 28 1523453) HT_ ?_
                    refine pV_ 21 79 (mB 28 3620605) HT_ ?_
                    refine pV_ 22 80 (mB 28 7814909) HT_ ?_
                    refine tV_ 1 59 (mB 28 7814911) HT_ HW_ hHeld ?_
                    refine tV_ 8 66 (mB 28 7815167) HT_ HW_ hHeld ?_
                    refine pV_ 14 72 (mB 28 7831551) HT_ ?_
                    refine tV_ 15 73 (mB 28 7864319) HT_ HW_ hHeld ?_
                    refine on_ 19 (some 77) (mB 28 8388607) HT_ (fun K hK => ?_)
                    refine gs_ Try.func116 #[.int .i64 x12_2, .int .i64 a1, .int .i64 a3] ?_
                    with_reducible refine (gimbalref12_add.calls x12_2 a1 a3 t473 _ A48.out).mono ?_
                    rintro e w' ⟨rfl, ⟨nd, rfl⟩⟩
                    refine ⟨_, rfl, ?_⟩
                    refine hK.out _ _ ⟨(blk_cell BK457.out 0).trans rfl, (blk_cell BK457.out 1).trans rfl, (blk_cell BK457.out 2).trans rfl, (blk_cell BK452.out 0).trans rfl, (blk_cell BK452.out 1).trans rfl, (blk_cell BK452.out 2).trans rfl, ((HB.out.cell (World.block_lt_of_cell? w _ hw472_0)).trans hw472_0)⟩ (fun hHeld => ?_)
                    clear hK K
                    refine norm_ (a' := ?_) ?_ ?_
                    rotate_left
                    ·
                     show Act.put _ (some 77) _ = _
                     simp only [Act.put, List.setIfInBounds_toArray, List.set_cons_zero, List.set_cons_succ, i64_w, i32_w]
                     rfl
                    refine on_ 23 (some 81) (mB 28 16777215) HT_ (fun K hK => ?_)
                    refine gs_ Try.func116 #[.int .i64 x11_1, .int .i64 a1, .int .i64 a3] ?_
                    with_reducible refine (gimbalref12_add.calls x11_1 a1 a3 t474 _ A49.out).mono ?_
                    rintro e w' ⟨rfl, ⟨nd, rfl⟩⟩
                    refine ⟨_, rfl, ?_⟩
                    refine hK.out _ _ ⟨(blk_cell BK457.out 0).trans rfl, (blk_cell BK457.out 1).trans rfl, (blk_cell BK457.out 2).trans rfl, (blk_cell BK452.out 0).trans rfl, (blk_cell BK452.out 1).trans rfl, (blk_cell BK452.out 2).trans rfl, ((HB.out.cell (World.block_lt_of_cell? w _ hw472_0)).trans hw472_0)⟩ (fun hHeld => ?_)
                    clear hK K
                    refine norm_ (a' := ?_) ?_ ?_
                    rotate_left
                    ·
                     show Act.put _ (some 81) _ = _
                     simp only [Act.put, List.setIfInBounds_toArray, List.set_cons_zero, List.set_cons_succ, i64_w, i32_w]
                     rfl
                    refine pV_ 24 82 (mB 28 33554431) HT_ ?_
                    refine on_ 25 (some 83) (mB 28 67108863) HT_ (fun K hK => ?_)
                    refine goes_ Try.func115 (by kernel_rfl) rfl #[.int .i64 (rd l0_1 (ji45)), .int .i64 (wrap64 (t473 - t474))] (by rfl) rfl rfl (by (try simp only [List.map_toArray, List.map_cons, List.map_nil]); first | done | (simp only [hji45]; rfl) | rfl | (simp only [List.length_drop, List.length_take]; rfl)) ?_
                    with_reducible refine (gimbalref12_moved.calls kj28 (rd l0_1 (ji45)) (wrap64 (t473 - t474)) t475 _ A50.out).mono ?_
                    rintro e w' ⟨rfl, ⟨nd, rfl⟩⟩
                    refine ⟨_, rfl, ?_⟩
                    have p54 : 0 ≤ ((ji51) : Int) := of_decide_eq_true (by first | (with_reducible assumption) | assumption)
                    have q54 : ((ji51) : Int) < ((x458001_2.length : Int) : Int) := of_decide_eq_true (by first | (with_reducible assumption) | assumption)
                    obtain ⟨go54, co54, eo54, gb54, gl54, cl54, HG54⟩ := Kd.R_form HO_458001.out (by omega)
                    (first | cases eo54 | (injection eo54 with ea_ en_ ec_; (first | subst ea_ | (injection ea_ with ea_; subst ea_)); subst ec_; clear en_))
                    have GB54 := Aside0.mk gb54
                    have GG54 := Aside0.mk HG54
                    clear gb54 gl54 HG54
                    obtain ⟨hx54_0, hf54_0⟩ := Kd.R_celln 0 HO_458001.out ((ji51) : Int) p54 q54
                    replace p54 := eq_true p54
                    replace q54 := eq_true q54
                    have HP56 := Kd.R_putn HO_458001.out ((ji51) : Int) t475
                    rw [← Ny476.out] at HP56
                    have HQ56 := Aside0.mk HP56
                    clear HP56
                    refine hK.out _ _ ⟨(blk_cell BK457.out 0).trans rfl, (blk_cell BK457.out 1).trans rfl, (blk_cell BK457.out 2).trans rfl, (blk_cell BK452.out 0).trans rfl, (blk_cell BK452.out 1).trans rfl, (blk_cell BK452.out 2).trans rfl, ((HB.out.cell (World.block_lt_of_cell? w _ hw472_0)).trans hw472_0)⟩ (fun hHeld => ?_)
                    clear hK K
                    refine norm_ (a' := ?_) ?_ ?_
                    rotate_left
                    ·
                     show Act.put _ (some 83) _ = _
                     simp only [Act.put, List.setIfInBounds_toArray, List.set_cons_zero, List.set_cons_succ, i64_w, i32_w]
                     rfl
                    refine pV_ 26 84 (mB 28 134217727) HT_ ?_
                    refine la_ 27 (mB 28 268435455) HT_ (fun K hK => ?_)
                    refine skip_ (w1 := ?_) (by rfl) rfl ?_ ?_
                    rotate_left
                    ·
                     go_simp
                     rfl
                    refine hK.out _ _ ?_
                    clear hK K
                    refine dn_ HT_ ?_
                    try go_wp2
                    go_roundg kj28
                    case measure => have := HK1.out; have := HK2.out; have := HJ23.out; have := HJ25.out; have := HJ28.out; omega
                    case rel => exact ⟨(wrap64 (x12_2 + 1)), (y476), (.slice (some ⟨go54, 0, none⟩) x458001_2.length co54), (by first | rfl | (simp; done) | (simp [*]; done)), H', ⟨by have := HK1.out; have := HK2.out; have := HJ23.out; have := HJ25.out; have := HJ28.out; omega⟩, ⟨vR HQ56.out⟩, ⟨by (with_reducible repeat (first | refine blk_drewN ?_ _ | refine blk_drew ?_ | refine blk_alloc ?_ _)); refine blk_far ?_ (by have h_ := Kd.R_ne HO_458001.out BK452.out (by decide); intro e_; exact h_ (by rw [e_]; rfl)) _; (with_reducible repeat (first | refine blk_drewN ?_ _ | refine blk_drew ?_ | refine blk_alloc ?_ _)); exact BK452.out⟩, ⟨by (with_reducible repeat (first | refine blk_drewN ?_ _ | refine blk_drew ?_ | refine blk_alloc ?_ _)); refine blk_far ?_ (by have h_ := Kd.R_ne HO_458001.out BK453.out (by decide); intro e_; exact h_ (by rw [e_]; rfl)) _; (with_reducible repeat (first | refine blk_drewN ?_ _ | refine blk_drew ?_ | refine blk_alloc ?_ _)); exact BK453.out⟩, ⟨by (with_reducible repeat (first | refine blk_drewN ?_ _ | refine blk_drew ?_ | refine blk_alloc ?_ _)); refine blk_far ?_ (by have h_ := Kd.R_ne HO_458001.out BK457.out (by decide); intro e_; exact h_ (by rw [e_]; rfl)) _; (with_reducible repeat (first | refine blk_drewN ?_ _ | refine blk_drew ?_ | refine blk_alloc ?_ _)); exact BK457.out⟩, ⟨vW HB.out⟩⟩
                   ·
                    rw [if_neg c53] at H
                    exact absurd H (by simp)
                  ·
                   rw [if_neg c52] at H
                   exact absurd H (by simp)
                 ·
                  rw [if_neg c47] at H
                  exact absurd H (by simp)
                ·
                 rw [if_neg c46] at H
                 exact absurd H (by simp)
        ·
         rw [if_neg c23] at H
         have c23b0 : decide (x12_2 < (wrap64 (2 * (l0_0.length : Int)))) = false := decide_eq_false c23
         clear c23
         have H' := Aside0.mk H
         clear H
         go_wp2
         go_roundg k2
         case measure => have := HK1.out; have := HK2.out; omega
         case rel => exact ⟨(wrap64 (x11_1 + 1)), (x458001_2), (u458001), (by first | rfl | (simp; done) | (simp [*]; done)), H', ⟨by have := HK1.out; have := HK2.out; omega⟩, ⟨vR HO_458001.out⟩, ⟨vB BK452.out⟩, ⟨vB BK453.out⟩, ⟨vB BK457.out⟩, ⟨vW HB.out⟩⟩
     ·
      rw [if_neg c22] at H
      have c22b0 : decide (x11_1 < (wrap64 (2 * (l0_0.length : Int)))) = false := decide_eq_false c22
      clear c22
      replace H := Option.bind_eq_some_iff.mp H
      obtain ⟨⟨t458, t461, t464⟩, A570, H⟩ := H
      try dsimp only at H
      have A57 := Aside0.mk A570
      clear A570
      simp only [Option.some.injEq, Prod.mk.injEq] at H
      obtain ⟨rfl, rfl, rfl⟩ := H
      have hnb58 := NB457_452.out
      have hnc58 := NB452_457.out
      have hnb59 := NB457_453.out
      have hnc59 := NB453_457.out
      obtain ⟨hcz60_0, hcz60_1, hcz60_2, hfz60_0, hfz60_1, hfz60_2⟩ := vF3 BK457.out
      obtain ⟨Ao61, co61, eo61⟩ := Kd.R_slice HO_458001.out
      subst eo61
      go_wp2_with ((with_reducible refine gate_callee (f := 38) rfl ?_); refine gl_ (some 86) Try.func38 #[.agg #[.slice A0_0 l0_0.length c0_0, .slice Ao61 x458001_1.length co61, .bool false]] ?_; (with_reducible refine (gimbalref11_Close.calls k1 _ _ l0_0 _ _ x458001_1 false t458 t461 t464 _ ?side1 ?side2 ?side3 ?side4 A57.out).mono ?_); (case side1 => exact vC (Kd.C_below HR0_0.out HB.out)); (case side2 => exact HC0_0.out); (case side3 => repeat (first | exact (Kd.R_reads' HO_458001.out).2.2 | (with_reducible refine Kd.C_alloc ?_ _) | (with_reducible refine Kd.C_drewN ?_ _) | (with_reducible refine Kd.C_drew ?_))); (case side4 => exact (Kd.R_reads' HO_458001.out).2.1); rintro e w62 ⟨v459, v462, rfl, ho0, ho1, hb⟩; refine ⟨_, rfl, ?_⟩; have HO460 := Aside0.mk (Kd.R_lower ho0 (below_size (vW HB.out))); have HO463 := Aside0.mk (Kd.R_lower (Kd.R_new' ho1 (Kd.R_lt (vR HO_458001.out))) (below_size (vW HB.out))); replace HO_458001 := Aside0.mk (Kd.R_elder' (vR HO_458001.out) (Kd.R_base ho1) hb); replace BK452 := vBb BK452 hb; replace BK453 := vBb BK453 hb; replace BK457 := vBb BK457 hb; replace HB := vWs HB hb; (try clear hb); (try clear hb2); (try clear hk); (try clear hi); (try clear ho0); (try clear ho1); obtain ⟨Ao63, co63, eo63⟩ := Kd.R_slice HO460.out; subst eo63; have hnb64 := NB453_452.out; have hnc64 := NB452_453.out; obtain ⟨hcz65_0, hcz65_1, hcz65_2, hfz65_0, hfz65_1, hfz65_2⟩ := vF3 BK453.out; obtain ⟨Ao66, co66, eo66⟩ := Kd.R_slice HO463.out; subst eo66)
      refine bodyPost_ret (results_cell_row rfl _ _ gb453 25 #[.slice Ao63 t458.length co63, .slice Ao66 t461.length co66, .bool t464] (0, 0) _ rfl (vP3 BK453.out) Try.underlying25 rfl (by kernel_rfl)) rfl ?_
      exact ⟨_, _, by first | rfl | (simp [errW_none, errW_some] <;> rfl) | (simp only [← hji5]; first | rfl | (simp [errW_none, errW_some] <;> rfl)) | (simp [*, errW_none, errW_some] <;> rfl) | (simp [wrap64]; done), vTt HO460.out BK453.out, vTt HO463.out BK453.out, vW HB.out⟩
  ·
   rw [if_neg c7] at H
   exact absurd H (by simp)
 ·
  rw [if_neg c6] at H
  exact absurd H (by simp)
def gimbalref12_less.f (a0 : Int) (a1 : Int) (a2 : Int) : Option (Int × Int × Int × Int × Int) := if a0 < a1 then (some (a0, 1, a1, wrap64 (-a2), 0)) else (some (a1, wrap64 (-a2), a0, 1, 0))
theorem gimbalref12_less.calls (a0 : Int) (a1 : Int) (a2 : Int) (r1 : Int) (r2 : Int) (r3 : Int) (r4 : Int) (r5 : Int) (w : World) (h : gimbalref12_less.f a0 a1 a2 = some (r1, r2, r3, r4, r5)) :
 Calls Try.prog 73 #[.int .i64 a0, .int .i64 a1, .int .i64 a2] w fun e w' => e = .returned (.agg #[.int .i64 r1, .int .i64 r2, .int .i64 r3, .int .i64 r4, .int .i64 r5]) ∧ Below w.heap.size w w' := by
 have hu34 := Try.underlying34
 have HB := Aside0.mk (Below.refl w.heap.size w)
 have H := h
 unfold gimbalref12_less.f at H
 clear h
 by_cases c4 : a0 < a1
 ·
  rw [if_pos c4] at H
  have c4b0 : decide (a0 < a1) = true := decide_eq_true c4
  clear c4
  simp only [Option.some.injEq, Prod.mk.injEq] at H
  obtain ⟨rfl, rfl, rfl, rfl, rfl⟩ := H
  go_enter Try.func73, Try.ntmps73
  go_wp2_with (first | ((with_reducible refine gate_dst (N := 6) rfl ?_); refine bx_ 6 #[.int .i64 0, .int .i64 0, .int .i64 0, .int .i64 0, .int .i64 0] 34 ?_; intro gb477 hg w5 hbox hb; have BK477 := Aside0.mk (hbox); have GW477 := vS hg HB; have GE477 := vS hg HB; replace HB := vWs HB hb; clear hb hbox hg; obtain ⟨hcz6_0, hcz6_1, hcz6_2, hcz6_3, hcz6_4, hfz6_0, hfz6_1, hfz6_2, hfz6_3, hfz6_4⟩ := vF5 BK477.out))
  refine bodyPost_ret (results_cell_row rfl _ _ gb477 34 #[.int .i64 a0, .int .i64 1, .int .i64 a1, .int .i64 (wrap64 (-a2)), .int .i64 0] (0, 0) _ rfl (by (with_reducible repeat (first | refine blk_drewN ?_ _ | refine blk_drew ?_ | refine blk_alloc ?_ _)); refine blk_put (cs := #[.int .i64 a0, .int .i64 1, .int .i64 a1, .int .i64 (wrap64 (-a2)), .int .i64 0]) ?_ 4 _ rfl; (with_reducible repeat (first | refine blk_drewN ?_ _ | refine blk_drew ?_ | refine blk_alloc ?_ _)); refine blk_put (cs := #[.int .i64 a0, .int .i64 1, .int .i64 a1, .int .i64 0, .int .i64 0]) ?_ 3 _ rfl; (with_reducible repeat (first | refine blk_drewN ?_ _ | refine blk_drew ?_ | refine blk_alloc ?_ _)); refine blk_put (cs := #[.int .i64 a0, .int .i64 1, .int .i64 0, .int .i64 0, .int .i64 0]) ?_ 2 _ rfl; (with_reducible repeat (first | refine blk_drewN ?_ _ | refine blk_drew ?_ | refine blk_alloc ?_ _)); refine blk_put (cs := #[.int .i64 a0, .int .i64 0, .int .i64 0, .int .i64 0, .int .i64 0]) ?_ 1 _ rfl; (with_reducible repeat (first | refine blk_drewN ?_ _ | refine blk_drew ?_ | refine blk_alloc ?_ _)); refine blk_put (cs := #[.int .i64 0, .int .i64 0, .int .i64 0, .int .i64 0, .int .i64 0]) ?_ 0 _ rfl; (with_reducible repeat (first | refine blk_drewN ?_ _ | refine blk_drew ?_ | refine blk_alloc ?_ _)); exact BK477.out) Try.underlying34 rfl (by kernel_rfl)) rfl ?_
  exact ⟨vE, vW HB.out⟩
 ·
  rw [if_neg c4] at H
  have c4b0 : decide (a0 < a1) = false := decide_eq_false c4
  clear c4
  simp only [Option.some.injEq, Prod.mk.injEq] at H
  obtain ⟨rfl, rfl, rfl, rfl, rfl⟩ := H
  go_enter Try.func73, Try.ntmps73
  go_wp2_with (first | ((with_reducible refine gate_dst (N := 6) rfl ?_); refine bx_ 6 #[.int .i64 0, .int .i64 0, .int .i64 0, .int .i64 0, .int .i64 0] 34 ?_; intro gb477 hg w7 hbox hb; have BK477 := Aside0.mk (hbox); have GW477 := vS hg HB; have GE477 := vS hg HB; replace HB := vWs HB hb; clear hb hbox hg; obtain ⟨hcz8_0, hcz8_1, hcz8_2, hcz8_3, hcz8_4, hfz8_0, hfz8_1, hfz8_2, hfz8_3, hfz8_4⟩ := vF5 BK477.out))
  refine bodyPost_ret (results_cell_row rfl _ _ gb477 34 #[.int .i64 a1, .int .i64 (wrap64 (-a2)), .int .i64 a0, .int .i64 1, .int .i64 0] (0, 0) _ rfl (by (with_reducible repeat (first | refine blk_drewN ?_ _ | refine blk_drew ?_ | refine blk_alloc ?_ _)); refine blk_put (cs := #[.int .i64 a1, .int .i64 (wrap64 (-a2)), .int .i64 a0, .int .i64 1, .int .i64 0]) ?_ 4 _ rfl; (with_reducible repeat (first | refine blk_drewN ?_ _ | refine blk_drew ?_ | refine blk_alloc ?_ _)); refine blk_put (cs := #[.int .i64 a1, .int .i64 (wrap64 (-a2)), .int .i64 a0, .int .i64 0, .int .i64 0]) ?_ 3 _ rfl; (with_reducible repeat (first | refine blk_drewN ?_ _ | refine blk_drew ?_ | refine blk_alloc ?_ _)); refine blk_put (cs := #[.int .i64 a1, .int .i64 (wrap64 (-a2)), .int .i64 0, .int .i64 0, .int .i64 0]) ?_ 2 _ rfl; (with_reducible repeat (first | refine blk_drewN ?_ _ | refine blk_drew ?_ | refine blk_alloc ?_ _)); refine blk_put (cs := #[.int .i64 a1, .int .i64 0, .int .i64 0, .int .i64 0, .int .i64 0]) ?_ 1 _ rfl; (with_reducible repeat (first | refine blk_drewN ?_ _ | refine blk_drew ?_ | refine blk_alloc ?_ _)); refine blk_put (cs := #[.int .i64 0, .int .i64 0, .int .i64 0, .int .i64 0, .int .i64 0]) ?_ 0 _ rfl; (with_reducible repeat (first | refine blk_drewN ?_ _ | refine blk_drew ?_ | refine blk_alloc ?_ _)); exact BK477.out) Try.underlying34 rfl (by kernel_rfl)) rfl ?_
  exact ⟨vE, vW HB.out⟩
end Go.Proofs.Ytphfchbggechhaa.QO
end
end
