/- Own texts of this claim, joined: QOx1014, QOx1017, QOx1016, QOx1012, QOx1125, QOx1112, QOx1107, QOx1113, QOx1061, QOx1114, QOx1091, QOx1101, QOx1102, QOx1057, QOx1070, QOx1048, QOx1049, QOx1036, QOx1062, QOx1108, QOx1068, QOx1064, QOx1115, QOx1116 -/
import Derived.Test.YtphfchbggechhaaBOA0
import Derived.Test.YtphfchbggechhaaBOA1
set_option maxRecDepth 100000
set_option maxHeartbeats 16000000
section
noncomputable section
namespace Go.Proofs.Ytphfchbggechhaa.QO
open Go.RowKit YtphfchbggechhaaW.PrintWords YtphfchbggechhaaW.PrintLast
set_option linter.unusedVariables false
set_option linter.unusedSimpArgs false
def gimballaw12_deep.f (l0_0 : List Int) (l0_1 : List Int) (a0_2 : Bool) : Option (List Int × List Int × Bool) := if ([] : List Int).length + l0_0.length < 17592186044416 then (if ([] : List Int).length + l0_1.length < 17592186044416 then (some ((([] : List Int) ++ l0_0), (([] : List Int) ++ l0_1), a0_2)) else (none)) else (none)
theorem gimballaw12_deep.calls (A0_0 : Option Addr) (c0_0 : Nat) (l0_0 : List Int) (A0_1 : Option Addr) (c0_1 : Nat) (l0_1 : List Int) (a0_2 : Bool) (r1 : List Int) (r2 : List Int) (r3 : Bool) (w : World) (hr0_0 : Kd.C (Kd.int .i64) w A0_0 l0_0.length l0_0) (hc0_0 : l0_0.length ≤ c0_0) (hr0_1 : Kd.C (Kd.int .i64) w A0_1 l0_1.length l0_1) (hc0_1 : l0_1.length ≤ c0_1) (h : gimballaw12_deep.f l0_0 l0_1 a0_2 = some (r1, r2, r3)) :
 Calls Try.prog 14 #[.agg #[.slice A0_0 l0_0.length c0_0, .slice A0_1 l0_1.length c0_1, .bool a0_2]] w fun e w' => ∃ v0_ v1_ : Value, e = .returned (.agg #[v0_, v1_, .bool r3]) ∧ Kd.R (Kd.int .i64) 3 w' w.heap.size (fun _ => True) v0_ r1 ∧ Kd.R (Kd.int .i64) 2 w' w.heap.size (fun _ => True) v1_ r2 ∧ Below w.heap.size w w' := by
 have hu25 := Try.underlying25
 have HR0_0 := Aside0.mk hr0_0
 have HC0_0 := Aside0.mk hc0_0
 clear hr0_0 hc0_0
 have HR0_1 := Aside0.mk hr0_1
 have HC0_1 := Aside0.mk hc0_1
 clear hr0_1 hc0_1
 have HB := Aside0.mk (Below.refl w.heap.size w)
 have H := h
 unfold gimballaw12_deep.f at H
 clear h
 by_cases c2 : ([] : List Int).length + l0_0.length < 17592186044416
 ·
  rw [if_pos c2] at H
  have LMc2 := Aside0.mk c2
  clear c2
  obtain ⟨y327, hy327⟩ : ∃ y_ : List Int, y_ = (([] : List Int) ++ l0_0) := ⟨_, rfl⟩
  replace H : (if ([] : List Int).length + l0_1.length < 17592186044416 then (some (y327, (([] : List Int) ++ l0_1), a0_2)) else (none)) = some (r1, r2, r3) := by first | (rw [hy327]; with_reducible exact H) | (have H2_ := (Option.bind_some _ _).symm.trans H; rw [hy327]; with_reducible exact H2_) | (have H2_ := (Option.bind_some _ _).symm.trans H; with_reducible exact H2_) | with_reducible exact H | (rw [hy327]; exact H) | exact H
  have Ny327 := Aside0.mk hy327
  clear hy327
  by_cases c3 : ([] : List Int).length + l0_1.length < 17592186044416
  ·
   rw [if_pos c3] at H
   have LMc3 := Aside0.mk c3
   clear c3
   obtain ⟨y330, hy330⟩ : ∃ y_ : List Int, y_ = (([] : List Int) ++ l0_1) := ⟨_, rfl⟩
   replace H : (some (y327, y330, a0_2)) = some (r1, r2, r3) := by first | (rw [hy330]; with_reducible exact H) | (have H2_ := (Option.bind_some _ _).symm.trans H; rw [hy330]; with_reducible exact H2_) | (have H2_ := (Option.bind_some _ _).symm.trans H; with_reducible exact H2_) | with_reducible exact H | (rw [hy330]; exact H) | exact H
   have Ny330 := Aside0.mk hy330
   clear hy330
   simp only [Option.some.injEq, Prod.mk.injEq] at H
   obtain ⟨rfl, rfl, rfl⟩ := H
   go_enter Try.func14, Try.ntmps14
   go_wp2_with (first | ((with_reducible refine gate_dst (N := 1) rfl ?_); refine bx_ 1 #[.slice A0_0 l0_0.length c0_0, .slice A0_1 l0_1.length c0_1, .bool a0_2] 25 ?_; intro gb324 hg w4 hbox hb; have BK324 := Aside0.mk (hbox); have GW324 := vS hg HB; have GE324 := vS hg HB; replace HB := vWs HB hb; clear hb hbox hg) | ((with_reducible refine gate_dst (N := 2) rfl ?_); refine bx_ 2 #[.slice none 0 0, .slice none 0 0, .bool false] 25 ?_; intro gb325 hg w5 hbox hb; have BK325 := Aside0.mk (hbox); have GW325 := vS hg HB; have GE325 := vS hg HB; replace HB := vWs HB hb; have NB324_325 := vNl hg BK324; have NB325_324 := vNg hg BK324; replace BK324 := vBb BK324 hb; clear hb hbox hg; have hnb6 := NB324_325.out; have hnc6 := NB325_324.out; obtain ⟨hcz7_0, hcz7_1, hcz7_2, hfz7_0, hfz7_1, hfz7_2⟩ := vF3 BK324.out) | ((with_reducible refine gate_dst (N := 3) rfl ?_); refine bx_ 3 #[.slice none 0 0, .slice none 0 0, .bool false] 25 ?_; intro gb326 hg w8 hbox hb; have BK326 := Aside0.mk (hbox); have GW326 := vS hg HB; have GE326 := vS hg HB; replace HB := vWs HB hb; have NB324_326 := vNl hg BK324; have NB326_324 := vNg hg BK324; replace BK324 := vBb BK324 hb; have NB325_326 := vNl hg BK325; have NB326_325 := vNg hg BK325; replace BK325 := vBb BK325 hb; clear hb hbox hg; have hnb9 := NB326_324.out; have hnc9 := NB324_326.out; have hnb10 := NB326_325.out; have hnc10 := NB325_326.out; obtain ⟨hcz11_0, hcz11_1, hcz11_2, hfz11_0, hfz11_1, hfz11_2⟩ := vF3 BK326.out; obtain ⟨hcz12_0, hcz12_1, hcz12_2, hfz12_0, hfz12_1, hfz12_2⟩ := vF3 BK324.out) | ((with_reducible refine gate_builtin (b := .append) (xs := #[.tmp 8, .tmp 10]) rfl ?_); at_builtin; refine Kd.R_append_rows (Kd.int .i64) (w0 := w) w.heap.size rfl (.tmp 8) (.tmp 10) 22 3 (.int .i64 0) 8 rfl Try.underlying22 info3 rfl (by decide) (by omega) (.slice none 0 0) ([] : List Int) l0_0 _ _ _ (fun _ => True) (fun _ => False) rfl rfl ?aO ?aR (fun _ _ h => h) (fun _ h => h.elim) ?aF ?aB ?aS ?aL ?_; (case aR => exact Kd.C_below HR0_0.out (vW HB.out)); (case aB => exact (vW HB.out)); (case aF => exact (fun _ _ => trivial)); (case aO => exact ((Kd.R_nil _ _ _ _ (fun _ => True)))); (case aS => exact (below_size (vW HB.out))); (case aL => have := LMc2.out; omega); intro v328 w13 ho hb hg hat; rw [← Ny327.out] at ho; replace BK324 := Aside0.mk (blk_grown (g := gb324) (o := .cells #[.slice A0_0 l0_0.length c0_0, .slice A0_1 l0_1.length c0_1, .bool a0_2] 25 (0, 0)) (vB BK324.out) hg (by simp [Value.ownBlock])); replace BK325 := Aside0.mk (blk_grown (g := gb325) (o := .cells #[.slice none 0 0, .slice none 0 0, .bool false] 25 (0, 0)) (vB BK325.out) hg (by simp [Value.ownBlock])); replace BK326 := Aside0.mk (blk_grown (g := gb326) (o := .cells #[.slice none 0 0, .slice none 0 0, .bool a0_2] 25 (0, 0)) (vP3 BK326.out) hg (by simp [Value.ownBlock])); replace HB := Aside0.mk (hb); have HO329 := Aside0.mk (ho); clear ho hb hg hat; obtain ⟨Ao14, co14, eo14⟩ := Kd.R_slice HO329.out; subst eo14; obtain ⟨hcz15_0, hcz15_1, hcz15_2, hfz15_0, hfz15_1, hfz15_2⟩ := vF3 BK326.out; obtain ⟨hcz16_0, hcz16_1, hcz16_2, hfz16_0, hfz16_1, hfz16_2⟩ := vF3 BK324.out) | ((with_reducible refine gate_builtin (b := .append) (xs := #[.tmp 14, .tmp 16]) rfl ?_); at_builtin; refine Kd.R_append_rows (Kd.int .i64) (w0 := w) w.heap.size rfl (.tmp 14) (.tmp 16) 23 2 (.int .i64 0) 8 rfl Try.underlying23 info2 rfl (by decide) (by omega) (.slice none 0 0) ([] : List Int) l0_1 _ _ _ (fun _ => True) (fun _ => False) rfl rfl ?aO ?aR (fun _ _ h => h) (fun _ h => h.elim) ?aF ?aB ?aS ?aL ?_; (case aR => exact Kd.C_below HR0_1.out (vW HB.out)); (case aB => exact (vW HB.out)); (case aF => exact (fun _ _ => trivial)); (case aO => exact ((Kd.R_nil _ _ _ _ (fun _ => True)))); (case aS => exact (below_size (vW HB.out))); (case aL => have := LMc3.out; omega); intro v331 w17 ho hb hg hat; rw [← Ny330.out] at ho; replace BK324 := Aside0.mk (blk_grown (g := gb324) (o := .cells #[.slice A0_0 l0_0.length c0_0, .slice A0_1 l0_1.length c0_1, .bool a0_2] 25 (0, 0)) (vB BK324.out) hg (by simp [Value.ownBlock])); replace BK325 := Aside0.mk (blk_grown (g := gb325) (o := .cells #[.slice none 0 0, .slice none 0 0, .bool false] 25 (0, 0)) (vB BK325.out) hg (by simp [Value.ownBlock])); replace HO329 := Aside0.mk (Kd.R_grown (vT HO329.out BK326.out) hg (fun _ _ => by simp [Value.ownBlock])); replace BK326 := Aside0.mk (blk_grown (g := gb326) (o := .cells #[.slice Ao14 y327.length co14, .slice none 0 0, .bool a0_2] 25 (0, 0)) (vP1 BK326.out) hg (by simp [Value.ownBlock])); replace HB := Aside0.mk (hb); have HO332 := Aside0.mk (ho); clear ho hb hg hat; obtain ⟨Ao18, co18, eo18⟩ := Kd.R_slice HO332.out; subst eo18; obtain ⟨hcz19_0, hcz19_1, hcz19_2, hfz19_0, hfz19_1, hfz19_2⟩ := vF3 BK326.out; obtain ⟨hcz20_0, hcz20_1, hcz20_2, hfz20_0, hfz20_1, hfz20_2⟩ := vF3 BK325.out))
   refine bodyPost_ret (results_cell_row rfl _ _ gb325 25 #[.slice Ao14 y327.length co14, .slice Ao18 y330.length co18, .bool a0_2] (0, 0) _ rfl (by (with_reducible repeat (first | refine blk_drewN ?_ _ | refine blk_drew ?_ | refine blk_alloc ?_ _)); refine blk_put (cs := #[.slice Ao14 y327.length co14, .slice Ao18 y330.length co18, .bool false]) ?_ 2 _ rfl; (with_reducible repeat (first | refine blk_drewN ?_ _ | refine blk_drew ?_ | refine blk_alloc ?_ _)); refine blk_put (cs := #[.slice Ao14 y327.length co14, .slice none 0 0, .bool false]) ?_ 1 _ rfl; (with_reducible repeat (first | refine blk_drewN ?_ _ | refine blk_drew ?_ | refine blk_alloc ?_ _)); refine blk_put (cs := #[.slice none 0 0, .slice none 0 0, .bool false]) ?_ 0 _ rfl; (with_reducible repeat (first | refine blk_drewN ?_ _ | refine blk_drew ?_ | refine blk_alloc ?_ _)); refine blk_far ?_ NB325_326.out _; (with_reducible repeat (first | refine blk_drewN ?_ _ | refine blk_drew ?_ | refine blk_alloc ?_ _)); exact BK325.out) Try.underlying25 rfl (by kernel_rfl)) rfl ?_
   exact ⟨_, _, vE, by (with_reducible repeat (first | apply Kd.R_alloc | apply Kd.R_drewN | apply Kd.R_drew)); exact Kd.R_mono (Kd.R_far (p := ⟨gb325, 2, none⟩) (Kd.R_far (p := ⟨gb325, 1, none⟩) (Kd.R_far (p := ⟨gb325, 0, none⟩) (Kd.R_far (p := ⟨gb326, 1, none⟩) (Kd.R_types (Kd.R_types HO329.out BK326.out (by decide)) BK325.out (by decide)) (fun _ hk => hk.1.2) (.slice Ao18 y330.length co18)) (fun _ hk => hk.2) (.slice Ao14 y327.length co14)) (fun _ hk => hk.2) (.slice Ao18 y330.length co18)) (fun _ hk => hk.2) (.bool a0_2)) (fun _ hk => trivial), by (with_reducible repeat (first | apply Kd.R_alloc | apply Kd.R_drewN | apply Kd.R_drew)); exact Kd.R_mono (Kd.R_far (p := ⟨gb325, 2, none⟩) (Kd.R_far (p := ⟨gb325, 1, none⟩) (Kd.R_far (p := ⟨gb325, 0, none⟩) (Kd.R_far (p := ⟨gb326, 1, none⟩) (Kd.R_types (Kd.R_types HO332.out BK326.out (by decide)) BK325.out (by decide)) (fun _ hk => hk.1.2) (.slice Ao18 y330.length co18)) (fun _ hk => hk.2) (.slice Ao14 y327.length co14)) (fun _ hk => hk.2) (.slice Ao18 y330.length co18)) (fun _ hk => hk.2) (.bool a0_2)) (fun _ hk => trivial), vW HB.out⟩
  ·
   rw [if_neg c3] at H
   exact absurd H (by simp)
 ·
  rw [if_neg c2] at H
  exact absurd H (by simp)
mutual
def gimballaw12_spoil.l0 : Nat → Int → List Int → List Int → Bool → Option (List Int × List Int)
 | 0, _, _, _, _ => none
 | k + 1, x2, x340000, x340001, x340002 => if x2 < (x340000.length : Int) then (if 0 ≤ x2 then (gimballaw12_spoil.l0 k (wrap64 (x2 + 1)) (x340000.set (x2 : Int).toNat 55) x340001 x340002) else (none)) else (gimballaw12_spoil.l1 k 0 x340000 x340001 x340002)
def gimballaw12_spoil.l1 : Nat → Int → List Int → List Int → Bool → Option (List Int × List Int)
 | 0, _, _, _, _ => none
 | k + 1, x3, x340000, x340001, x340002 => if x3 < (x340001.length : Int) then (if 0 ≤ x3 then (gimballaw12_spoil.l1 k (wrap64 (x3 + 1)) x340000 (x340001.set (x3 : Int).toNat 4321) x340002) else (none)) else (some (x340000, x340001))
end
def gimballaw12_spoil.f (k : Nat) (l0_0 : List Int) (l0_1 : List Int) (a0_2 : Bool) : Option (List Int × List Int) := gimballaw12_spoil.l0 k 0 l0_0 l0_1 a0_2
theorem gimballaw12_spoil.mono_l : ∀ k, (∀ y0 y1 y2 y3, LeO (gimballaw12_spoil.l0 k y0 y1 y2 y3) (gimballaw12_spoil.l0 (k + 1) y0 y1 y2 y3)) ∧ (∀ y0 y1 y2 y3, LeO (gimballaw12_spoil.l1 k y0 y1 y2 y3) (gimballaw12_spoil.l1 (k + 1) y0 y1 y2 y3))
 | 0 => ⟨fun _ _ _ _ r h => by simp [gimballaw12_spoil.l0] at h, fun _ _ _ _ r h => by simp [gimballaw12_spoil.l1] at h⟩
 | k + 1 => by
  obtain ⟨ih0, ih1⟩ := gimballaw12_spoil.mono_l k
  refine ⟨?_, ?_⟩ <;> intros <;> (first | unfold gimballaw12_spoil.l0 | unfold gimballaw12_spoil.l1) <;> repeat' first | (with_reducible first | apply ih0 | apply ih1 | apply LeO.refl | apply LeO.none | refine LeO.ite ?_ ?_ | refine LeO.bind ?_ (fun _ => ?_)) | apply ih0 | apply ih1 | apply LeO.none | refine LeO.ite ?_ ?_ | refine LeO.bind ?_ (fun _ => ?_)
theorem gimballaw12_spoil.mono : ∀ a0 a1 a2 k, LeO (gimballaw12_spoil.f k a0 a1 a2) (gimballaw12_spoil.f (k + 1) a0 a1 a2) := by
 intro a0 a1 a2 k
 obtain ⟨ih0, ih1⟩ := gimballaw12_spoil.mono_l k
 unfold gimballaw12_spoil.f
 repeat' first | (with_reducible first | apply ih0 | apply ih1 | apply LeO.refl | apply LeO.none | refine LeO.ite ?_ ?_ | refine LeO.bind ?_ (fun _ => ?_)) | apply ih0 | apply ih1 | apply LeO.none | refine LeO.ite ?_ ?_ | refine LeO.bind ?_ (fun _ => ?_)
theorem gimballaw12_spoil.calls (k : Nat) (P0_0_ : Nat → Prop) (u9000_ : Value) (l0_0 : List Int) (P0_1_ : Nat → Prop) (u9001_ : Value) (l0_1 : List Int) (a0_2 : Bool) (r1 : List Int) (r2 : List Int) (w0 w : World) (hB : Below w0.heap.size w0 w) (ho0_0 : Kd.R (Kd.int .i64) 3 w w0.heap.size P0_0_ u9000_ l0_0) (ho0_1 : Kd.R (Kd.int .i64) 2 w w0.heap.size P0_1_ u9001_ l0_1) (h : gimballaw12_spoil.f k l0_0 l0_1 a0_2 = some (r1, r2)) :
 Calls Try.prog 17 #[.agg #[u9000_, u9001_, .bool a0_2]] w fun e w' => e = .returned (.tuple #[]) ∧ Kd.R (Kd.int .i64) 3 w' w0.heap.size (fun k_ => ((P0_0_ k_ ∨ P0_1_ k_) ∨ w.heap.size ≤ k_)) u9000_ r1 ∧ Kd.R (Kd.int .i64) 2 w' w0.heap.size (fun k_ => ((P0_0_ k_ ∨ P0_1_ k_) ∨ w.heap.size ≤ k_)) u9001_ r2 ∧ Below w0.heap.size w0 w' ∧ Kept w w' (fun k_ => P0_0_ k_ ∨ P0_1_ k_) := by
 have hu25 := Try.underlying25
 have HO0_0 := Aside0.mk (show Kd.R (Kd.int .i64) 3 w w0.heap.size (fun k_ => ((P0_0_ k_ ∨ P0_1_ k_) ∨ w.heap.size ≤ k_)) u9000_ l0_0 from Kd.R_mono ho0_0 (fun k_ hk => (.inl (.inl hk))))
 have HO0_1 := Aside0.mk (show Kd.R (Kd.int .i64) 2 w w0.heap.size (fun k_ => ((P0_0_ k_ ∨ P0_1_ k_) ∨ w.heap.size ≤ k_)) u9001_ l0_1 from Kd.R_mono ho0_1 (fun k_ hk => (.inl (.inr hk))))
 have HK := Aside0.mk (Kept.refl w (fun k_ => P0_0_ k_ ∨ P0_1_ k_))
 have HW0 := Aside0.mk hB.size
 have HB := Aside0.mk hB
 clear hB
 have H := h
 unfold gimballaw12_spoil.f at H
 clear h
 have H' := Aside0.mk H
 clear H
 obtain ⟨Ao2, co2, eo2⟩ := Kd.R_slice HO0_0.out
 subst eo2
 obtain ⟨Ao3, co3, eo3⟩ := Kd.R_slice HO0_1.out
 subst eo3
 go_enter Try.func17, Try.ntmps17
 go_wp2_with ((with_reducible refine gate_dst (N := 1) rfl ?_); refine bx_ 1 #[.slice Ao2 l0_0.length co2, .slice Ao3 l0_1.length co3, .bool a0_2] 25 ?_; intro gb339 hg w4 hbox hb; replace HO0_0 := vRb HO0_0 hb; replace HO0_1 := vRb HO0_1 hb; have BK339 := Aside0.mk (hbox); have GW339 := Aside0.mk ((by rw [hg]; exact (by first | exact HK.out.1 | exact (show Kept w _ (fun k_ => P0_0_ k_ ∨ P0_1_ k_) from by repeat (first | (with_reducible first | exact HK.out | apply Kept.alloc | apply Kept.drewN | apply Kept.drew) | exact HK.out)).1) : w.heap.size ≤ gb339)); replace HK := Aside0.mk (Kept.below (S := (fun k_ => P0_0_ k_ ∨ P0_1_ k_)) (by repeat (first | (with_reducible first | exact HK.out | apply Kept.alloc | apply Kept.drewN | apply Kept.drew) | exact HK.out)) hb); have GE339 := vS hg HB; replace HB := vWs HB hb; clear hb hbox hg)
 go_loopg [2] k (fun kq v2 w' => ∃ (x2_1 : Int) (x340000_1 : List Int), v2 = .int .i64 x2_1 ∧ Aside0 (gimballaw12_spoil.l0 kq x2_1 x340000_1 l0_1 a0_2 = some (r1, r2)) ∧ Aside0 (kq ≤ k) ∧ Aside0 (Kd.R (Kd.int .i64) 3 w' w0.heap.size (fun k_ => ((P0_0_ k_ ∨ P0_1_ k_) ∨ w.heap.size ≤ k_)) (.slice Ao2 l0_0.length co2) x340000_1) ∧ Aside0 (Kd.R (Kd.int .i64) 2 w' w0.heap.size (fun k_ => ((P0_0_ k_ ∨ P0_1_ k_) ∨ w.heap.size ≤ k_)) (.slice Ao3 l0_1.length co3) l0_1) ∧ Aside0 (w'.heap[gb339]? = some (.cells #[(.slice Ao2 l0_0.length co2), (.slice Ao3 l0_1.length co3), .bool a0_2] 25 (0, 0))) ∧ Aside0 (Kept w w' (fun k_ => P0_0_ k_ ∨ P0_1_ k_)) ∧ Aside0 (Below w0.heap.size w0 w'))
 case atStart => exact ⟨(0), (l0_0), (by first | rfl | (simp; done) | (simp [*]; done)), H', ⟨Nat.le_refl _⟩, ⟨vR HO0_0.out⟩, ⟨vR HO0_1.out⟩, ⟨vB BK339.out⟩, ⟨by repeat (first | (with_reducible first | exact HK.out | apply Kept.alloc | apply Kept.drewN | apply Kept.drew | refine Kept.setCell ?_ (.inr GW339.out) _) | exact HK.out)⟩, ⟨vW HB.out⟩⟩
 case round =>
  clear H'
  obtain ⟨x2_1, x340000_1, rfl, HA, HK1, HO_340000, HO_340001, BK339, HK, HB⟩ := hrel
  have hl340000_1 := (Kd.R_reads' HO_340000.out).1
  rw [hl340000_1] at HO_340000
  (try simp only [hl340000_1])
  (try simp only [hl340000_1] at BK339)
  (try simp only [hl340000_1] at HO_340001)
  cases gk with
  | zero => exact absurd HA.out (by simp [gimballaw12_spoil.l0])
  | succ k1 =>
   have H := HA.out
   clear HA
   simp only [gimballaw12_spoil.l0] at H
   by_cases c5 : x2_1 < (x340000_1.length : Int)
   ·
    rw [if_pos c5] at H
    have c5b0 : decide (x2_1 < (x340000_1.length : Int)) = true := decide_eq_true c5
    clear c5
    by_cases c6 : 0 ≤ x2_1
    ·
     rw [if_pos c6] at H
     have c6b0 : decide (0 ≤ x2_1) = true := decide_eq_true c6
     clear c6
     obtain ⟨y340, hy340⟩ : ∃ y_ : List Int, y_ = (x340000_1.set (x2_1 : Int).toNat 55) := ⟨_, rfl⟩
     replace H : (gimballaw12_spoil.l0 k1 (wrap64 (x2_1 + 1)) y340 l0_1 a0_2) = some (r1, r2) := by first | (rw [hy340]; with_reducible exact H) | (have H2_ := (Option.bind_some _ _).symm.trans H; rw [hy340]; with_reducible exact H2_) | (have H2_ := (Option.bind_some _ _).symm.trans H; with_reducible exact H2_) | with_reducible exact H | (rw [hy340]; exact H) | exact H
     have Ny340 := Aside0.mk hy340
     clear hy340
     have H' := Aside0.mk H
     clear H
     obtain ⟨hcz8_0, hcz8_1, hcz8_2, hfz8_0, hfz8_1, hfz8_2⟩ := vF3 BK339.out
     have p7 : 0 ≤ (x2_1 : Int) := of_decide_eq_true (by first | (with_reducible assumption) | assumption)
     have q7 : (x2_1 : Int) < ((x340000_1.length : Int) : Int) := of_decide_eq_true (by first | (with_reducible assumption) | assumption)
     obtain ⟨go7, co7, eo7, gb7, gl7, cl7, HG7⟩ := Kd.R_form HO_340000.out (by omega)
     (first | cases eo7 | (injection eo7 with ea_ en_ ec_; (first | subst ea_ | (injection ea_ with ea_; subst ea_)); subst ec_; clear en_))
     have GB7 := Aside0.mk gb7
     have GG7 := Aside0.mk HG7
     clear gb7 gl7 HG7
     have HMgo7 := Aside0.mk (show ((P0_0_ go7 ∨ P0_1_ go7) ∨ w.heap.size ≤ go7) from (HO_340000.out.1 _ rfl))
     obtain ⟨hx7_0, hf7_0⟩ := Kd.R_celln 0 HO_340000.out (x2_1 : Int) p7 q7
     replace p7 := eq_true p7
     replace q7 := eq_true q7
     have HP9 := Kd.R_putg HO_340000.out (x2_1 : Int) 55
     go_wp2_with ((with_reducible refine gate_store (t := 3) (p := 14) rfl ?_); refine store_event (t := 3) (p := 14) (v := ?vo_w10) (w1 := (wr.setCell ⟨go7, (x2_1 : Int).toNat, none⟩ (.int .i64 55))) ?hg ?ho ?hn ?hr ?_; (case ho => rfl); (case hg => rfl); (case hn => rfl); (case hr => first | (go_simp; done) | (go_simp; rfl)); intro w10 hw; have hg : wr.grownBy w10 (some go7) := (by rw [hw]; exact HP9.2); have hp_ : Kd.R (Kd.int .i64) 3 w10 w0.heap.size (fun k_ => ((P0_0_ k_ ∨ P0_1_ k_) ∨ w.heap.size ≤ k_)) (.slice (some ⟨go7, 0, none⟩) x340000_1.length co2) y340 := (by rw [hw, Ny340.out]; exact HP9.1); clear HP9; replace HO_340001 := Aside0.mk (Kd.R_over' (v := (.slice (some ⟨go7, 0, none⟩) x340000_1.length co2)) (vR HO_340001.out) (Kd.R_typed HO_340000.out) (by decide) hg); replace BK339 := Aside0.mk (blk_grown (g := gb339) (o := .cells #[.slice (some ⟨go7, 0, none⟩) x340000_1.length co2, .slice Ao3 l0_1.length co3, .bool a0_2] 25 (0, 0)) (vB BK339.out) hg (Kd.R_ne HO_340000.out BK339.out (by decide))); replace HB := Aside0.mk ((by rw [hw]; exact below_set (HB.out) GB7.out : Below w0.heap.size w0 w10)); replace HK := Aside0.mk (Kept.of_grown (S := (fun k_ => P0_0_ k_ ∨ P0_1_ k_)) hg (by repeat (first | (with_reducible first | exact HK.out | apply Kept.alloc | apply Kept.drewN | apply Kept.drew | refine Kept.setCell ?_ (.inr GW339.out) _) | exact HK.out)) (fun k_ e_ => (HO_340000.out.1 k_ e_))); replace HO_340000 := Aside0.mk (hp_); clear hg hw hp_)
     (try simp only [← hl340000_1])
     go_roundg k1
     case measure => have := HK1.out; omega
     case rel => exact ⟨(wrap64 (x2_1 + 1)), (y340), (by first | rfl | (simp; done) | (simp [*]; done)), H', ⟨by have := HK1.out; omega⟩, ⟨by (try simp only [hl340000_1]); (with_reducible repeat (first | apply Kd.R_alloc | apply Kd.R_drewN | apply Kd.R_drew)); exact HO_340000.out⟩, ⟨by (try simp only [hl340000_1]); (with_reducible repeat (first | apply Kd.R_alloc | apply Kd.R_drewN | apply Kd.R_drew)); exact HO_340001.out⟩, ⟨by (try simp only [hl340000_1]); (with_reducible repeat (first | refine blk_drewN ?_ _ | refine blk_drew ?_ | refine blk_alloc ?_ _)); exact BK339.out⟩, ⟨by repeat (first | (with_reducible first | exact HK.out | apply Kept.alloc | apply Kept.drewN | apply Kept.drew | refine Kept.setCell ?_ (.inr GW339.out) _) | exact HK.out)⟩, ⟨vW HB.out⟩⟩
    ·
     rw [if_neg c6] at H
     exact absurd H (by simp)
   ·
    rw [if_neg c5] at H
    have c5b0 : decide (x2_1 < (x340000_1.length : Int)) = false := decide_eq_false c5
    try (have c5b1 := c5b0; simp only [hl340000_1] at c5b1)
    clear c5
    have H' := Aside0.mk H
    clear H
    obtain ⟨hcz11_0, hcz11_1, hcz11_2, hfz11_0, hfz11_1, hfz11_2⟩ := vF3 BK339.out
    go_wp2
    go_loopg [3] k1 (fun kq v3 w' => ∃ (x3_2 : Int) (x340001_2 : List Int), v3 = .int .i64 x3_2 ∧ Aside0 (gimballaw12_spoil.l1 kq x3_2 x340000_1 x340001_2 a0_2 = some (r1, r2)) ∧ Aside0 (kq ≤ k1) ∧ Aside0 (Kd.R (Kd.int .i64) 3 w' w0.heap.size (fun k_ => ((P0_0_ k_ ∨ P0_1_ k_) ∨ w.heap.size ≤ k_)) (.slice Ao2 x340000_1.length co2) x340000_1) ∧ Aside0 (Kd.R (Kd.int .i64) 2 w' w0.heap.size (fun k_ => ((P0_0_ k_ ∨ P0_1_ k_) ∨ w.heap.size ≤ k_)) (.slice Ao3 l0_1.length co3) x340001_2) ∧ Aside0 (w'.heap[gb339]? = some (.cells #[(.slice Ao2 x340000_1.length co2), (.slice Ao3 l0_1.length co3), .bool a0_2] 25 (0, 0))) ∧ Aside0 (Kept w w' (fun k_ => P0_0_ k_ ∨ P0_1_ k_)) ∧ Aside0 (Below w0.heap.size w0 w'))
    case atStart => exact ⟨(0), (l0_1), (by first | rfl | (simp; done) | (simp [*]; done)), H', ⟨Nat.le_refl _⟩, ⟨by (try simp only [hl340000_1]); (with_reducible repeat (first | apply Kd.R_alloc | apply Kd.R_drewN | apply Kd.R_drew)); exact HO_340000.out⟩, ⟨by (try simp only [hl340000_1]); (with_reducible repeat (first | apply Kd.R_alloc | apply Kd.R_drewN | apply Kd.R_drew)); exact HO_340001.out⟩, ⟨by (try simp only [hl340000_1]); (with_reducible repeat (first | refine blk_drewN ?_ _ | refine blk_drew ?_ | refine blk_alloc ?_ _)); exact BK339.out⟩, ⟨by repeat (first | (with_reducible first | exact HK.out | apply Kept.alloc | apply Kept.drewN | apply Kept.drew | refine Kept.setCell ?_ (.inr GW339.out) _) | exact HK.out)⟩, ⟨vW HB.out⟩⟩
    case round =>
     clear H'
     try clear c5b0
     try clear hcz11_0
     try clear hcz11_1
     try clear hcz11_2
     try clear hfz11_0
     try clear hfz11_1
     try clear hfz11_2
     obtain ⟨x3_2, x340001_2, rfl, HA, HK2, HO_340000, HO_340001, BK339, HK, HB⟩ := hrel
     have hl340001_2 := (Kd.R_reads' HO_340001.out).1
     rw [hl340001_2] at HO_340001
     (try simp only [hl340001_2])
     (try simp only [hl340001_2] at BK339)
     (try simp only [hl340001_2] at HO_340000)
     cases gk with
     | zero => exact absurd HA.out (by simp [gimballaw12_spoil.l1])
     | succ k2 =>
      have H := HA.out
      clear HA
      simp only [gimballaw12_spoil.l1] at H
      by_cases c12 : x3_2 < (x340001_2.length : Int)
      ·
       rw [if_pos c12] at H
       have c12b0 : decide (x3_2 < (x340001_2.length : Int)) = true := decide_eq_true c12
       clear c12
       by_cases c13 : 0 ≤ x3_2
       ·
        rw [if_pos c13] at H
        have c13b0 : decide (0 ≤ x3_2) = true := decide_eq_true c13
        clear c13
        obtain ⟨y341, hy341⟩ : ∃ y_ : List Int, y_ = (x340001_2.set (x3_2 : Int).toNat 4321) := ⟨_, rfl⟩
        replace H : (gimballaw12_spoil.l1 k2 (wrap64 (x3_2 + 1)) x340000_1 y341 a0_2) = some (r1, r2) := by first | (rw [hy341]; with_reducible exact H) | (have H2_ := (Option.bind_some _ _).symm.trans H; rw [hy341]; with_reducible exact H2_) | (have H2_ := (Option.bind_some _ _).symm.trans H; with_reducible exact H2_) | with_reducible exact H | (rw [hy341]; exact H) | exact H
        have Ny341 := Aside0.mk hy341
        clear hy341
        have H' := Aside0.mk H
        clear H
        obtain ⟨hcz15_0, hcz15_1, hcz15_2, hfz15_0, hfz15_1, hfz15_2⟩ := vF3 BK339.out
        have p14 : 0 ≤ (x3_2 : Int) := of_decide_eq_true (by first | (with_reducible assumption) | assumption)
        have q14 : (x3_2 : Int) < ((x340001_2.length : Int) : Int) := of_decide_eq_true (by first | (with_reducible assumption) | assumption)
        obtain ⟨go14, co14, eo14, gb14, gl14, cl14, HG14⟩ := Kd.R_form HO_340001.out (by omega)
        (first | cases eo14 | (injection eo14 with ea_ en_ ec_; (first | subst ea_ | (injection ea_ with ea_; subst ea_)); subst ec_; clear en_))
        have GB14 := Aside0.mk gb14
        have GG14 := Aside0.mk HG14
        clear gb14 gl14 HG14
        have HMgo14 := Aside0.mk (show ((P0_0_ go14 ∨ P0_1_ go14) ∨ w.heap.size ≤ go14) from (HO_340001.out.1 _ rfl))
        obtain ⟨hx14_0, hf14_0⟩ := Kd.R_celln 0 HO_340001.out (x3_2 : Int) p14 q14
        replace p14 := eq_true p14
        replace q14 := eq_true q14
        have HP16 := Kd.R_putg HO_340001.out (x3_2 : Int) 4321
        go_wp2_with ((with_reducible refine gate_store (t := 2) (p := 25) rfl ?_); refine store_event (t := 2) (p := 25) (v := ?vo_w17) (w1 := (wr.setCell ⟨go14, (x3_2 : Int).toNat, none⟩ (.int .i64 4321))) ?hg ?ho ?hn ?hr ?_; (case ho => rfl); (case hg => rfl); (case hn => rfl); (case hr => first | (go_simp; done) | (go_simp; rfl)); intro w17 hw; have hg : wr.grownBy w17 (some go14) := (by rw [hw]; exact HP16.2); have hp_ : Kd.R (Kd.int .i64) 2 w17 w0.heap.size (fun k_ => ((P0_0_ k_ ∨ P0_1_ k_) ∨ w.heap.size ≤ k_)) (.slice (some ⟨go14, 0, none⟩) x340001_2.length co3) y341 := (by rw [hw, Ny341.out]; exact HP16.1); clear HP16; replace HO_340000 := Aside0.mk (Kd.R_over' (v := (.slice (some ⟨go14, 0, none⟩) x340001_2.length co3)) (vR HO_340000.out) (Kd.R_typed HO_340001.out) (by decide) hg); replace BK339 := Aside0.mk (blk_grown (g := gb339) (o := .cells #[.slice Ao2 x340000_1.length co2, .slice (some ⟨go14, 0, none⟩) x340001_2.length co3, .bool a0_2] 25 (0, 0)) (vB BK339.out) hg (Kd.R_ne HO_340001.out BK339.out (by decide))); replace HB := Aside0.mk ((by rw [hw]; exact below_set (HB.out) GB14.out : Below w0.heap.size w0 w17)); replace HK := Aside0.mk (Kept.of_grown (S := (fun k_ => P0_0_ k_ ∨ P0_1_ k_)) hg (by repeat (first | (with_reducible first | exact HK.out | apply Kept.alloc | apply Kept.drewN | apply Kept.drew | refine Kept.setCell ?_ (.inr GW339.out) _) | exact HK.out)) (fun k_ e_ => (HO_340001.out.1 k_ e_))); replace HO_340001 := Aside0.mk (hp_); clear hg hw hp_)
        (try simp only [← hl340001_2])
        go_roundg k2
        case measure => have := HK1.out; have := HK2.out; omega
        case rel => exact ⟨(wrap64 (x3_2 + 1)), (y341), (by first | rfl | (simp; done) | (simp [*]; done)), H', ⟨by have := HK1.out; have := HK2.out; omega⟩, ⟨by (try simp only [hl340000_1]); (try simp only [hl340001_2]); (with_reducible repeat (first | apply Kd.R_alloc | apply Kd.R_drewN | apply Kd.R_drew)); exact HO_340000.out⟩, ⟨by (try simp only [hl340000_1]); (try simp only [hl340001_2]); (with_reducible repeat (first | apply Kd.R_alloc | apply Kd.R_drewN | apply Kd.R_drew)); exact HO_340001.out⟩, ⟨by (try simp only [hl340000_1]); (try simp only [hl340001_2]); (with_reducible repeat (first | refine blk_drewN ?_ _ | refine blk_drew ?_ | refine blk_alloc ?_ _)); exact BK339.out⟩, ⟨by repeat (first | (with_reducible first | exact HK.out | apply Kept.alloc | apply Kept.drewN | apply Kept.drew | refine Kept.setCell ?_ (.inr GW339.out) _) | exact HK.out)⟩, ⟨vW HB.out⟩⟩
       ·
        rw [if_neg c13] at H
        exact absurd H (by simp)
      ·
       rw [if_neg c12] at H
       have c12b0 : decide (x3_2 < (x340001_2.length : Int)) = false := decide_eq_false c12
       try (have c12b1 := c12b0; simp only [hl340000_1] at c12b1)
       try (have c12b2 := c12b0; simp only [hl340001_2] at c12b2)
       clear c12
       simp only [Option.some.injEq, Prod.mk.injEq] at H
       obtain ⟨rfl, rfl⟩ := H
       obtain ⟨hcz18_0, hcz18_1, hcz18_2, hfz18_0, hfz18_1, hfz18_2⟩ := vF3 BK339.out
       go_wp2
       first | go_end0 | ((try simp only [Exit.inBlock, Exit.then]); refine bodyPost_ret (results_none rfl _ _ _) rfl ?_)
       exact ⟨vE, (by first | exact (vR HO_340000.out) | (simp only [hl340000_1, hl340001_2]; exact (vR HO_340000.out))), (by first | exact (vR HO_340001.out) | (simp only [hl340000_1, hl340001_2]; exact (vR HO_340001.out))), vW HB.out, by repeat (first | (with_reducible first | exact HK.out | apply Kept.alloc | apply Kept.drewN | apply Kept.drew | refine Kept.setCell ?_ (.inr GW339.out) _) | exact HK.out)⟩
mutual
def gimbalref11_Equal.j0 : Nat → Bool → List Int → List Int → Bool → List Int → List Int → Bool → Option (Bool)
 | 0, _, _, _, _, _, _, _ => none
 | k + 1, x29, x334000, x334001, x334002, x335000, x335001, x335002 => if x29 = true then (some false) else (gimbalref11_Equal.l0 k (x334000.length : Int) 0 x334000 x334001 x334002 x335000 x335001 x335002)
def gimbalref11_Equal.l0 : Nat → Int → Int → List Int → List Int → Bool → List Int → List Int → Bool → Option (Bool)
 | 0, _, _, _, _, _, _, _, _ => none
 | k + 1, x32, x33, x334000, x334001, x334002, x335000, x335001, x335002 => if x33 < x32 then (if 0 ≤ x33 then (if x33 < (x334000.length : Int) then (if x33 < (x335000.length : Int) then (if (rd x334000 x33) = (rd x335000 x33) then (gimbalref11_Equal.l0 k x32 (wrap64 (x33 + 1)) x334000 x334001 x334002 x335000 x335001 x335002) else (some false)) else (none)) else (none)) else (none)) else (gimbalref11_Equal.l1 k (x334001.length : Int) 0 x334000 x334001 x334002 x335000 x335001 x335002)
def gimbalref11_Equal.l1 : Nat → Int → Int → List Int → List Int → Bool → List Int → List Int → Bool → Option (Bool)
 | 0, _, _, _, _, _, _, _, _ => none
 | k + 1, x50, x51, x334000, x334001, x334002, x335000, x335001, x335002 => if x51 < x50 then (if 0 ≤ x51 then (if x51 < (x334001.length : Int) then (if x51 < (x335001.length : Int) then (if (rd x334001 x51) = (rd x335001 x51) then (gimbalref11_Equal.l1 k x50 (wrap64 (x51 + 1)) x334000 x334001 x334002 x335000 x335001 x335002) else (some false)) else (none)) else (none)) else (none)) else (some true)
end
def gimbalref11_Equal.f (k : Nat) (l0_0 : List Int) (l0_1 : List Int) (a0_2 : Bool) (l1_0 : List Int) (l1_1 : List Int) (a1_2 : Bool) : Option (Bool) := if (l0_0.length : Int) = (l1_0.length : Int) then (if (l0_1.length : Int) = (l1_1.length : Int) then (gimbalref11_Equal.j0 k (a0_2 != a1_2) l0_0 l0_1 a0_2 l1_0 l1_1 a1_2) else (gimbalref11_Equal.j0 k true l0_0 l0_1 a0_2 l1_0 l1_1 a1_2)) else (gimbalref11_Equal.j0 k true l0_0 l0_1 a0_2 l1_0 l1_1 a1_2)
theorem gimbalref11_Equal.mono_l : ∀ k, (∀ y0 y1 y2 y3 y4 y5 y6, LeO (gimbalref11_Equal.j0 k y0 y1 y2 y3 y4 y5 y6) (gimbalref11_Equal.j0 (k + 1) y0 y1 y2 y3 y4 y5 y6)) ∧ (∀ y0 y1 y2 y3 y4 y5 y6 y7, LeO (gimbalref11_Equal.l0 k y0 y1 y2 y3 y4 y5 y6 y7) (gimbalref11_Equal.l0 (k + 1) y0 y1 y2 y3 y4 y5 y6 y7)) ∧ (∀ y0 y1 y2 y3 y4 y5 y6 y7, LeO (gimbalref11_Equal.l1 k y0 y1 y2 y3 y4 y5 y6 y7) (gimbalref11_Equal.l1 (k + 1) y0 y1 y2 y3 y4 y5 y6 y7))
 | 0 => ⟨fun _ _ _ _ _ _ _ r h => by simp [gimbalref11_Equal.j0] at h, fun _ _ _ _ _ _ _ _ r h => by simp [gimbalref11_Equal.l0] at h, fun _ _ _ _ _ _ _ _ r h => by simp [gimbalref11_Equal.l1] at h⟩
 | k + 1 => by
  obtain ⟨ih0, ih1, ih2⟩ := gimbalref11_Equal.mono_l k
  refine ⟨?_, ?_, ?_⟩ <;> intros <;> (first | unfold gimbalref11_Equal.j0 | unfold gimbalref11_Equal.l0 | unfold gimbalref11_Equal.l1) <;> repeat' first | (with_reducible first | apply ih0 | apply ih1 | apply ih2 | apply LeO.refl | apply LeO.none | refine LeO.ite ?_ ?_ | refine LeO.bind ?_ (fun _ => ?_)) | apply ih0 | apply ih1 | apply ih2 | apply LeO.none | refine LeO.ite ?_ ?_ | refine LeO.bind ?_ (fun _ => ?_)
theorem gimbalref11_Equal.mono : ∀ a0 a1 a2 a3 a4 a5 k, LeO (gimbalref11_Equal.f k a0 a1 a2 a3 a4 a5) (gimbalref11_Equal.f (k + 1) a0 a1 a2 a3 a4 a5) := by
 intro a0 a1 a2 a3 a4 a5 k
 obtain ⟨ih0, ih1, ih2⟩ := gimbalref11_Equal.mono_l k
 unfold gimbalref11_Equal.f
 repeat' first | (with_reducible first | apply ih0 | apply ih1 | apply ih2 | apply LeO.refl | apply LeO.none | refine LeO.ite ?_ ?_ | refine LeO.bind ?_ (fun _ => ?_)) | apply ih0 | apply ih1 | apply ih2 | apply LeO.none | refine LeO.ite ?_ ?_ | refine LeO.bind ?_ (fun _ => ?_)
theorem gimbalref11_Equal.calls (k : Nat) (A0_0 : Option Addr) (c0_0 : Nat) (l0_0 : List Int) (A0_1 : Option Addr) (c0_1 : Nat) (l0_1 : List Int) (a0_2 : Bool) (A1_0 : Option Addr) (c1_0 : Nat) (l1_0 : List Int) (A1_1 : Option Addr) (c1_1 : Nat) (l1_1 : List Int) (a1_2 : Bool) (r : Bool) (w : World) (hr0_0 : Kd.C (Kd.int .i64) w A0_0 l0_0.length l0_0) (hc0_0 : l0_0.length ≤ c0_0) (hr0_1 : Kd.C (Kd.int .i64) w A0_1 l0_1.length l0_1) (hc0_1 : l0_1.length ≤ c0_1) (hr1_0 : Kd.C (Kd.int .i64) w A1_0 l1_0.length l1_0) (hc1_0 : l1_0.length ≤ c1_0) (hr1_1 : Kd.C (Kd.int .i64) w A1_1 l1_1.length l1_1) (hc1_1 : l1_1.length ≤ c1_1) (h : gimbalref11_Equal.f k l0_0 l0_1 a0_2 l1_0 l1_1 a1_2 = some r) :
 Calls Try.prog 16 #[.agg #[.slice A0_0 l0_0.length c0_0, .slice A0_1 l0_1.length c0_1, .bool a0_2], .agg #[.slice A1_0 l1_0.length c1_0, .slice A1_1 l1_1.length c1_1, .bool a1_2]] w fun e w' => e = .returned (.bool r) ∧ Below w.heap.size w w' := by
 have hu25 := Try.underlying25
 have HR0_0 := Aside0.mk hr0_0
 have HC0_0 := Aside0.mk hc0_0
 clear hr0_0 hc0_0
 have HR0_1 := Aside0.mk hr0_1
 have HC0_1 := Aside0.mk hc0_1
 clear hr0_1 hc0_1
 have HR1_0 := Aside0.mk hr1_0
 have HC1_0 := Aside0.mk hc1_0
 clear hr1_0 hc1_0
 have HR1_1 := Aside0.mk hr1_1
 have HC1_1 := Aside0.mk hc1_1
 clear hr1_1 hc1_1
 have HB := Aside0.mk (Below.refl w.heap.size w)
 have H := h
 unfold gimbalref11_Equal.f at H
 clear h
 have HC3 := Aside0.mk H
 clear H
 go_enter Try.func16, Try.ntmps16
 go_upto_region 1 with (first | ((with_reducible refine gate_dst (N := 2) rfl ?_); (try (refine gate_guard (by rfl) ?_; dsimp only)); refine bx_ 2 #[.slice A0_0 l0_0.length c0_0, .slice A0_1 l0_1.length c0_1, .bool a0_2] 25 ?_; intro gb333 hg w4 hbox hb; have BK333 := Aside0.mk (hbox); have GW333 := vS hg HB; have GE333 := vS hg HB; replace HB := vWs HB hb; clear hb hbox hg) | ((with_reducible refine gate_dst (N := 3) rfl ?_); (try (refine gate_guard (by rfl) ?_; dsimp only)); refine bx_ 3 #[.slice A1_0 l1_0.length c1_0, .slice A1_1 l1_1.length c1_1, .bool a1_2] 25 ?_; intro gb334 hg w5 hbox hb; have BK334 := Aside0.mk (hbox); have GW334 := vS hg HB; have GE334 := vS hg HB; replace HB := vWs HB hb; have NB333_334 := vNl hg BK333; have NB334_333 := vNg hg BK333; replace BK333 := vBb BK333 hb; clear hb hbox hg))
 repeat (go_quiet (first | ((with_reducible refine gate_dst (N := 2) rfl ?_); (try (refine gate_guard (by rfl) ?_; dsimp only)); refine bx_ 2 #[.slice A0_0 l0_0.length c0_0, .slice A0_1 l0_1.length c0_1, .bool a0_2] 25 ?_; intro gb333 hg w4 hbox hb; have BK333 := Aside0.mk (hbox); have GW333 := vS hg HB; have GE333 := vS hg HB; replace HB := vWs HB hb; clear hb hbox hg) | ((with_reducible refine gate_dst (N := 3) rfl ?_); (try (refine gate_guard (by rfl) ?_; dsimp only)); refine bx_ 3 #[.slice A1_0 l1_0.length c1_0, .slice A1_1 l1_1.length c1_1, .bool a1_2] 25 ?_; intro gb334 hg w5 hbox hb; have BK334 := Aside0.mk (hbox); have GW334 := vS hg HB; have GE334 := vS hg HB; replace HB := vWs HB hb; have NB333_334 := vNl hg BK333; have NB334_333 := vNg hg BK333; replace BK333 := vBb BK333 hb; clear hb hbox hg)); go_upto_region 1 with fail)
 (try simp only [Act.put, List.setIfInBounds_toArray, List.set_cons_zero, List.set_cons_succ])
 go_cut [29] (fun v29 wc => ∃ (kq : Nat) (x29_2 : Bool), v29 = .bool x29_2 ∧ Aside0 (gimbalref11_Equal.j0 kq x29_2 l0_0 l0_1 a0_2 l1_0 l1_1 a1_2 = some r) ∧ Aside0 (kq ≤ k) ∧ Aside0 (wc.heap[gb333]? = some (.cells #[(.slice A0_0 l0_0.length c0_0), (.slice A0_1 l0_1.length c0_1), .bool a0_2] 25 (0, 0))) ∧ Aside0 (wc.heap[gb334]? = some (.cells #[(.slice A1_0 l1_0.length c1_0), (.slice A1_1 l1_1.length c1_1), .bool a1_2] 25 (0, 0))) ∧ Aside0 (Below w.heap.size w wc))
 case first =>
  have H := HC3.out
  clear HC3
  by_cases c6 : (l0_0.length : Int) = (l1_0.length : Int)
  ·
   rw [if_pos c6] at H
   have c6b0 : ((l0_0.length : Int) == (l1_0.length : Int)) = true := beq_iff_eq.mpr c6
   have c6b1 : ((l0_0.length : Int) != (l1_0.length : Int)) = false := bne_eq_false_iff_eq.mpr c6
   have c6b2 : (l0_0.length == l1_0.length) = true := by first | simpa using c6 | (simp at c6 ⊢; omega)
   clear c6
   (first | rw [c6b0] | (simp only [i64_w, i32_w]; rw [c6b0]) | skip)
   by_cases c7 : (l0_1.length : Int) = (l1_1.length : Int)
   ·
    rw [if_pos c7] at H
    have c7b0 : ((l0_1.length : Int) == (l1_1.length : Int)) = true := beq_iff_eq.mpr c7
    have c7b1 : ((l0_1.length : Int) != (l1_1.length : Int)) = false := bne_eq_false_iff_eq.mpr c7
    have c7b2 : (l0_1.length == l1_1.length) = true := by first | simpa using c7 | (simp at c7 ⊢; omega)
    clear c7
    have H' := Aside0.mk H
    clear H
    have hnb8 := NB333_334.out
    have hnc8 := NB334_333.out
    obtain ⟨hcz9_0, hcz9_1, hcz9_2, hfz9_0, hfz9_1, hfz9_2⟩ := vF3 BK333.out
    obtain ⟨hcz10_0, hcz10_1, hcz10_2, hfz10_0, hfz10_1, hfz10_2⟩ := vF3 BK334.out
    go_wp2
    repeat (go_quiet (fail); try go_wp2)
    go_meet
    case rel => exact ⟨_, ((a0_2 != a1_2)), (by first | rfl | (simp; done) | (simp [*]; done)), H', ⟨by first | omega | exact Nat.le_refl _⟩, ⟨vB BK333.out⟩, ⟨vB BK334.out⟩, ⟨vW HB.out⟩⟩
   ·
    rw [if_neg c7] at H
    have c7b0 : ((l0_1.length : Int) == (l1_1.length : Int)) = false := beq_eq_false_iff_ne.mpr c7
    have c7b1 : ((l0_1.length : Int) != (l1_1.length : Int)) = true := bne_iff_ne.mpr c7
    have c7b2 : (l0_1.length == l1_1.length) = false := by first | simpa using c7 | (simp at c7 ⊢; omega)
    have H' := Aside0.mk H
    clear H
    have hnb11 := NB333_334.out
    have hnc11 := NB334_333.out
    obtain ⟨hcz12_0, hcz12_1, hcz12_2, hfz12_0, hfz12_1, hfz12_2⟩ := vF3 BK333.out
    obtain ⟨hcz13_0, hcz13_1, hcz13_2, hfz13_0, hfz13_1, hfz13_2⟩ := vF3 BK334.out
    go_wp2
    repeat (go_quiet (fail); try go_wp2)
    go_meet
    case rel => exact ⟨_, (true), (by first | rfl | (simp; done) | (simp [*]; done)), H', ⟨by first | omega | exact Nat.le_refl _⟩, ⟨vB BK333.out⟩, ⟨vB BK334.out⟩, ⟨vW HB.out⟩⟩
  ·
   rw [if_neg c6] at H
   have c6b0 : ((l0_0.length : Int) == (l1_0.length : Int)) = false := beq_eq_false_iff_ne.mpr c6
   have c6b1 : ((l0_0.length : Int) != (l1_0.length : Int)) = true := bne_iff_ne.mpr c6
   have c6b2 : (l0_0.length == l1_0.length) = false := by first | simpa using c6 | (simp at c6 ⊢; omega)
   (first | rw [c6b0] | (simp only [i64_w, i32_w]; rw [c6b0]) | skip)
   have H' := Aside0.mk H
   clear H
   have hnb14 := NB333_334.out
   have hnc14 := NB334_333.out
   obtain ⟨hcz15_0, hcz15_1, hcz15_2, hfz15_0, hfz15_1, hfz15_2⟩ := vF3 BK333.out
   obtain ⟨hcz16_0, hcz16_1, hcz16_2, hfz16_0, hfz16_1, hfz16_2⟩ := vF3 BK334.out
   go_wp2
   repeat (go_quiet (fail); try go_wp2)
   go_meet
   case rel => exact ⟨_, (true), (by first | rfl | (simp; done) | (simp [*]; done)), H', ⟨by first | omega | exact Nat.le_refl _⟩, ⟨vB BK333.out⟩, ⟨vB BK334.out⟩, ⟨vW HB.out⟩⟩
 case rest =>
  clear HC3
  obtain ⟨kq, x29_2, rfl, HA, HJ2, BK333, BK334, HB⟩ := hcut
  cases kq with
  | zero => exact absurd HA.out (by simp [gimbalref11_Equal.j0])
  | succ kj2 =>
   have H := HA.out
   clear HA
   simp only [gimbalref11_Equal.j0] at H
   by_cases c17 : x29_2 = true
   ·
    subst c17
    rw [if_pos rfl] at H
    try dsimp only at H
    obtain rfl := Option.some.inj H
    go_wp2
    repeat (go_quiet (fail); try go_wp2)
    go_ret
    exact ⟨vE, vW HB.out⟩
   ·
    replace c17 := Bool.eq_false_iff.mpr c17
    subst c17
    rw [if_neg (show ¬ (false = true) by decide)] at H
    try dsimp only at H
    have H' := Aside0.mk H
    clear H
    have hnb18 := NB333_334.out
    have hnc18 := NB334_333.out
    obtain ⟨hcz19_0, hcz19_1, hcz19_2, hfz19_0, hfz19_1, hfz19_2⟩ := vF3 BK333.out
    go_wp2
    repeat (go_quiet (fail); try go_wp2)
    go_loopg [33] kj2 (fun kq v33 w' => ∃ (x33_2 : Int), v33 = .int .i64 x33_2 ∧ Aside0 (gimbalref11_Equal.l0 kq (l0_0.length : Int) x33_2 l0_0 l0_1 a0_2 l1_0 l1_1 a1_2 = some r) ∧ Aside0 (kq ≤ kj2) ∧ Aside0 (w'.heap[gb333]? = some (.cells #[(.slice A0_0 l0_0.length c0_0), (.slice A0_1 l0_1.length c0_1), .bool a0_2] 25 (0, 0))) ∧ Aside0 (w'.heap[gb334]? = some (.cells #[(.slice A1_0 l1_0.length c1_0), (.slice A1_1 l1_1.length c1_1), .bool a1_2] 25 (0, 0))) ∧ Aside0 (Below w.heap.size w w'))
    case atStart => exact ⟨(0), (by first | rfl | (simp; done) | (simp [*]; done)), H', ⟨Nat.le_refl _⟩, ⟨vB BK333.out⟩, ⟨vB BK334.out⟩, ⟨vW HB.out⟩⟩
    case round =>
     clear H'
     try clear hcz19_0
     try clear hcz19_1
     try clear hcz19_2
     try clear hfz19_0
     try clear hfz19_1
     try clear hfz19_2
     obtain ⟨x33_2, rfl, HA, HK2, BK333, BK334, HB⟩ := hrel
     cases gk with
     | zero => exact absurd HA.out (by simp [gimbalref11_Equal.l0])
     | succ k2 =>
      have H := HA.out
      clear HA
      simp only [gimbalref11_Equal.l0] at H
      by_cases c20 : x33_2 < (l0_0.length : Int)
      ·
       rw [if_pos c20] at H
       have c20b0 : decide (x33_2 < (l0_0.length : Int)) = true := decide_eq_true c20
       clear c20
       by_cases c21 : 0 ≤ x33_2
       ·
        rw [if_pos c21] at H
        have c21b0 : decide (0 ≤ x33_2) = true := decide_eq_true c21
        clear c21
        by_cases c22 : x33_2 < (l0_0.length : Int)
        ·
         rw [if_pos c22] at H
         have c22b0 : decide (x33_2 < (l0_0.length : Int)) = true := decide_eq_true c22
         clear c22
         by_cases c23 : x33_2 < (l1_0.length : Int)
         ·
          rw [if_pos c23] at H
          have c23b0 : decide (x33_2 < (l1_0.length : Int)) = true := decide_eq_true c23
          clear c23
          by_cases c24 : (rd l0_0 x33_2) = (rd l1_0 x33_2)
          ·
           rw [if_pos c24] at H
           have c24b0 : ((rd l0_0 x33_2) == (rd l1_0 x33_2)) = true := beq_iff_eq.mpr c24
           have c24b1 : ((rd l0_0 x33_2) != (rd l1_0 x33_2)) = false := bne_eq_false_iff_eq.mpr c24
           clear c24
           have H' := Aside0.mk H
           clear H
           have hnb25 := NB333_334.out
           have hnc25 := NB334_333.out
           obtain ⟨hcz26_0, hcz26_1, hcz26_2, hfz26_0, hfz26_1, hfz26_2⟩ := vF3 BK333.out
           have p335 : 0 ≤ (x33_2 : Int) := of_decide_eq_true (by first | (with_reducible assumption) | assumption)
           have q335 : x33_2 < (l0_0.length : Int) := of_decide_eq_true (by first | (with_reducible assumption) | assumption)
           obtain ⟨ad335, e335, hx335_0⟩ := Kd.at_int HR0_0.out x33_2 p335 q335
           cases e335
           replace hx335_0 := (HB.out.cell (World.block_lt_of_cell? w _ hx335_0)).trans hx335_0
           replace p335 := eq_true p335
           replace q335 := eq_true q335
           obtain ⟨hcz27_0, hcz27_1, hcz27_2, hfz27_0, hfz27_1, hfz27_2⟩ := vF3 BK334.out
           have p336 : 0 ≤ (x33_2 : Int) := of_decide_eq_true (by first | (with_reducible assumption) | assumption)
           have q336 : x33_2 < (l1_0.length : Int) := of_decide_eq_true (by first | (with_reducible assumption) | assumption)
           obtain ⟨ad336, e336, hx336_0⟩ := Kd.at_int HR1_0.out x33_2 p336 q336
           cases e336
           replace hx336_0 := (HB.out.cell (World.block_lt_of_cell? w _ hx336_0)).trans hx336_0
           replace p336 := eq_true p336
           replace q336 := eq_true q336
           go_wp2
           repeat (go_quiet (fail); try go_wp2)
           go_roundg k2
           case measure => have := HJ2.out; have := HK2.out; omega
           case rel => exact ⟨(wrap64 (x33_2 + 1)), (by first | rfl | (simp; done) | (simp [*]; done)), H', ⟨by have := HJ2.out; have := HK2.out; omega⟩, ⟨vB BK333.out⟩, ⟨vB BK334.out⟩, ⟨vW HB.out⟩⟩
          ·
           rw [if_neg c24] at H
           have c24b0 : ((rd l0_0 x33_2) == (rd l1_0 x33_2)) = false := beq_eq_false_iff_ne.mpr c24
           have c24b1 : ((rd l0_0 x33_2) != (rd l1_0 x33_2)) = true := bne_iff_ne.mpr c24
           obtain rfl := Option.some.inj H
           have hnb28 := NB333_334.out
           have hnc28 := NB334_333.out
           obtain ⟨hcz29_0, hcz29_1, hcz29_2, hfz29_0, hfz29_1, hfz29_2⟩ := vF3 BK333.out
           have p335 : 0 ≤ (x33_2 : Int) := of_decide_eq_true (by first | (with_reducible assumption) | assumption)
           have q335 : x33_2 < (l0_0.length : Int) := of_decide_eq_true (by first | (with_reducible assumption) | assumption)
           obtain ⟨ad335, e335, hx335_0⟩ := Kd.at_int HR0_0.out x33_2 p335 q335
           cases e335
           replace hx335_0 := (HB.out.cell (World.block_lt_of_cell? w _ hx335_0)).trans hx335_0
           replace p335 := eq_true p335
           replace q335 := eq_true q335
           obtain ⟨hcz30_0, hcz30_1, hcz30_2, hfz30_0, hfz30_1, hfz30_2⟩ := vF3 BK334.out
           have p336 : 0 ≤ (x33_2 : Int) := of_decide_eq_true (by first | (with_reducible assumption) | assumption)
           have q336 : x33_2 < (l1_0.length : Int) := of_decide_eq_true (by first | (with_reducible assumption) | assumption)
           obtain ⟨ad336, e336, hx336_0⟩ := Kd.at_int HR1_0.out x33_2 p336 q336
           cases e336
           replace hx336_0 := (HB.out.cell (World.block_lt_of_cell? w _ hx336_0)).trans hx336_0
           replace p336 := eq_true p336
           replace q336 := eq_true q336
           go_wp2
           repeat (go_quiet (fail); try go_wp2)
           go_ret
           exact ⟨vE, vW HB.out⟩
         ·
          rw [if_neg c23] at H
          exact absurd H (by simp)
        ·
         rw [if_neg c22] at H
         exact absurd H (by simp)
       ·
        rw [if_neg c21] at H
        exact absurd H (by simp)
      ·
       rw [if_neg c20] at H
       have c20b0 : decide (x33_2 < (l0_0.length : Int)) = false := decide_eq_false c20
       clear c20
       have H' := Aside0.mk H
       clear H
       have hnb31 := NB333_334.out
       have hnc31 := NB334_333.out
       obtain ⟨hcz32_0, hcz32_1, hcz32_2, hfz32_0, hfz32_1, hfz32_2⟩ := vF3 BK333.out
       go_wp2
       repeat (go_quiet (fail); try go_wp2)
       go_loopg [51] k2 (fun kq v51 w' => ∃ (x51_3 : Int), v51 = .int .i64 x51_3 ∧ Aside0 (gimbalref11_Equal.l1 kq (l0_1.length : Int) x51_3 l0_0 l0_1 a0_2 l1_0 l1_1 a1_2 = some r) ∧ Aside0 (kq ≤ k2) ∧ Aside0 (w'.heap[gb333]? = some (.cells #[(.slice A0_0 l0_0.length c0_0), (.slice A0_1 l0_1.length c0_1), .bool a0_2] 25 (0, 0))) ∧ Aside0 (w'.heap[gb334]? = some (.cells #[(.slice A1_0 l1_0.length c1_0), (.slice A1_1 l1_1.length c1_1), .bool a1_2] 25 (0, 0))) ∧ Aside0 (Below w.heap.size w w'))
       case atStart => exact ⟨(0), (by first | rfl | (simp; done) | (simp [*]; done)), H', ⟨Nat.le_refl _⟩, ⟨vB BK333.out⟩, ⟨vB BK334.out⟩, ⟨vW HB.out⟩⟩
       case round =>
        clear H'
        try clear c20b0
        try clear hcz32_0
        try clear hcz32_1
        try clear hcz32_2
        try clear hfz32_0
        try clear hfz32_1
        try clear hfz32_2
        obtain ⟨x51_3, rfl, HA, HK3, BK333, BK334, HB⟩ := hrel
        cases gk with
        | zero => exact absurd HA.out (by simp [gimbalref11_Equal.l1])
        | succ k3 =>
         have H := HA.out
         clear HA
         simp only [gimbalref11_Equal.l1] at H
         by_cases c33 : x51_3 < (l0_1.length : Int)
         ·
          rw [if_pos c33] at H
          have c33b0 : decide (x51_3 < (l0_1.length : Int)) = true := decide_eq_true c33
          clear c33
          by_cases c34 : 0 ≤ x51_3
          ·
           rw [if_pos c34] at H
           have c34b0 : decide (0 ≤ x51_3) = true := decide_eq_true c34
           clear c34
           by_cases c35 : x51_3 < (l0_1.length : Int)
           ·
            rw [if_pos c35] at H
            have c35b0 : decide (x51_3 < (l0_1.length : Int)) = true := decide_eq_true c35
            clear c35
            by_cases c36 : x51_3 < (l1_1.length : Int)
            ·
             rw [if_pos c36] at H
             have c36b0 : decide (x51_3 < (l1_1.length : Int)) = true := decide_eq_true c36
             clear c36
             by_cases c37 : (rd l0_1 x51_3) = (rd l1_1 x51_3)
             ·
              rw [if_pos c37] at H
              have c37b0 : ((rd l0_1 x51_3) == (rd l1_1 x51_3)) = true := beq_iff_eq.mpr c37
              have c37b1 : ((rd l0_1 x51_3) != (rd l1_1 x51_3)) = false := bne_eq_false_iff_eq.mpr c37
              clear c37
              have H' := Aside0.mk H
              clear H
              have hnb38 := NB333_334.out
              have hnc38 := NB334_333.out
              obtain ⟨hcz39_0, hcz39_1, hcz39_2, hfz39_0, hfz39_1, hfz39_2⟩ := vF3 BK333.out
              have p337 : 0 ≤ (x51_3 : Int) := of_decide_eq_true (by first | (with_reducible assumption) | assumption)
              have q337 : x51_3 < (l0_1.length : Int) := of_decide_eq_true (by first | (with_reducible assumption) | assumption)
              obtain ⟨ad337, e337, hx337_0⟩ := Kd.at_int HR0_1.out x51_3 p337 q337
              cases e337
              replace hx337_0 := (HB.out.cell (World.block_lt_of_cell? w _ hx337_0)).trans hx337_0
              replace p337 := eq_true p337
              replace q337 := eq_true q337
              obtain ⟨hcz40_0, hcz40_1, hcz40_2, hfz40_0, hfz40_1, hfz40_2⟩ := vF3 BK334.out
              have p338 : 0 ≤ (x51_3 : Int) := of_decide_eq_true (by first | (with_reducible assumption) | assumption)
              have q338 : x51_3 < (l1_1.length : Int) := of_decide_eq_true (by first | (with_reducible assumption) | assumption)
              obtain ⟨ad338, e338, hx338_0⟩ := Kd.at_int HR1_1.out x51_3 p338 q338
              cases e338
              replace hx338_0 := (HB.out.cell (World.block_lt_of_cell? w _ hx338_0)).trans hx338_0
              replace p338 := eq_true p338
              replace q338 := eq_true q338
              go_wp2
              repeat (go_quiet (fail); try go_wp2)
              go_roundg k3
              case measure => have := HJ2.out; have := HK2.out; have := HK3.out; omega
              case rel => exact ⟨(wrap64 (x51_3 + 1)), (by first | rfl | (simp; done) | (simp [*]; done)), H', ⟨by have := HJ2.out; have := HK2.out; have := HK3.out; omega⟩, ⟨vB BK333.out⟩, ⟨vB BK334.out⟩, ⟨vW HB.out⟩⟩
             ·
              rw [if_neg c37] at H
              have c37b0 : ((rd l0_1 x51_3) == (rd l1_1 x51_3)) = false := beq_eq_false_iff_ne.mpr c37
              have c37b1 : ((rd l0_1 x51_3) != (rd l1_1 x51_3)) = true := bne_iff_ne.mpr c37
              obtain rfl := Option.some.inj H
              have hnb41 := NB333_334.out
              have hnc41 := NB334_333.out
              obtain ⟨hcz42_0, hcz42_1, hcz42_2, hfz42_0, hfz42_1, hfz42_2⟩ := vF3 BK333.out
              have p337 : 0 ≤ (x51_3 : Int) := of_decide_eq_true (by first | (with_reducible assumption) | assumption)
              have q337 : x51_3 < (l0_1.length : Int) := of_decide_eq_true (by first | (with_reducible assumption) | assumption)
              obtain ⟨ad337, e337, hx337_0⟩ := Kd.at_int HR0_1.out x51_3 p337 q337
              cases e337
              replace hx337_0 := (HB.out.cell (World.block_lt_of_cell? w _ hx337_0)).trans hx337_0
              replace p337 := eq_true p337
              replace q337 := eq_true q337
              obtain ⟨hcz43_0, hcz43_1, hcz43_2, hfz43_0, hfz43_1, hfz43_2⟩ := vF3 BK334.out
              have p338 : 0 ≤ (x51_3 : Int) := of_decide_eq_true (by first | (with_reducible assumption) | assumption)
              have q338 : x51_3 < (l1_1.length : Int) := of_decide_eq_true (by first | (with_reducible assumption) | assumption)
              obtain ⟨ad338, e338, hx338_0⟩ := Kd.at_int HR1_1.out x51_3 p338 q338
              cases e338
              replace hx338_0 := (HB.out.cell (World.block_lt_of_cell? w _ hx338_0)).trans hx338_0
              replace p338 := eq_true p338
              replace q338 := eq_true q338
              go_wp2
              repeat (go_quiet (fail); try go_wp2)
              go_ret
              exact ⟨vE, vW HB.out⟩
            ·
             rw [if_neg c36] at H
             exact absurd H (by simp)
           ·
            rw [if_neg c35] at H
            exact absurd H (by simp)
          ·
           rw [if_neg c34] at H
           exact absurd H (by simp)
         ·
          rw [if_neg c33] at H
          have c33b0 : decide (x51_3 < (l0_1.length : Int)) = false := decide_eq_false c33
          clear c33
          obtain rfl := Option.some.inj H
          go_wp2
          repeat (go_quiet (fail); try go_wp2)
          go_ret
          exact ⟨vE, vW HB.out⟩
end Go.Proofs.Ytphfchbggechhaa.QO
end
end
section
namespace Go.Proofs.Ytphfchbggechhaa.QO
open Go.RowKit YtphfchbggechhaaW.PrintWords YtphfchbggechhaaW.PrintLast
set_option linter.unusedVariables false
set_option linter.unusedSimpArgs false
noncomputable def gimbalref11_Fit.f (l0_0 : List Int) (l0_1 : List Int) (a0_2 : Bool) : Option Bool := if l0_0.length ≤ 17592186044416 then some (ofitB l0_0 l0_1 a0_2) else none
theorem Box1.three {w W : World} {g : Nat} {a b c : Value} {t : Nat} (h : Box1 w g #[a, b, c] t W) : W.cell? ⟨g, 0, none⟩ = some a ∧ W.cell? ⟨g, 1, none⟩ = some b ∧ W.cell? ⟨g, 2, none⟩ = some c := ⟨(blk_cell h.box 0).trans rfl, (blk_cell h.box 1).trans rfl, (blk_cell h.box 2).trans rfl⟩
theorem gimbalref11_Fit.calls (A0_0 : Option Addr) (c0_0 : Nat) (l0_0 : List Int) (A0_1 : Option Addr) (c0_1 : Nat) (l0_1 : List Int) (a0_2 : Bool) (r : Bool) (w : World) (hr0_0 : Kd.C (Kd.int .i64) w A0_0 l0_0.length l0_0) (hc0_0 : l0_0.length ≤ c0_0) (hr0_1 : Kd.C (Kd.int .i64) w A0_1 l0_1.length l0_1) (hc0_1 : l0_1.length ≤ c0_1) (h : gimbalref11_Fit.f l0_0 l0_1 a0_2 = some r) :
 Calls Try.prog 12 #[.agg #[.slice A0_0 l0_0.length c0_0, .slice A0_1 l0_1.length c0_1, .bool a0_2]] w fun e w' => e = .returned (.bool r) ∧ Below w.heap.size w w' := by
 have hu25 := Try.underlying25
 have HR0 := Aside0.mk hr0_0
 have HR1 := Aside0.mk hr0_1
 have HC0 := Aside0.mk hc0_0
 have HC1 := Aside0.mk hc0_1
 clear hr0_0 hr0_1 hc0_0 hc0_1
 unfold gimbalref11_Fit.f at h
 by_cases hlen : l0_0.length ≤ 17592186044416
 ·
  rw [if_pos hlen] at h
  have HV := Aside0.mk (Option.some.inj h)
  clear h
  have e1 : wrap64 (2 * (l0_0.length : Int)) = 2 * (l0_0.length : Int) := by unfold wrap64; omega
  have e2 : IntKind.i64.wrap (2 * (l0_0.length : Int)) = 2 * (l0_0.length : Int) := by rw [IntKind.wrap_i64]; omega
  cases hv : varsB l0_0 with
  | false =>
   have HM := fun W (hW : Kd.C (Kd.int .i64) W A0_0 l0_0.length l0_0) => gimbalref11_VarsFit.calls A0_0 c0_0 l0_0 false W hW HC0.out (by unfold gimbalref11_VarsFit.f; rw [hv])
   replace HM := Aside0.mk HM
   have HF := Aside0.mk (varsB_false.1 hv)
   clear hv hlen
   go_enter Try.func12, Try.ntmps12
   go_wp2_with (go_at_call 46; (with_reducible refine (HM.out _ ?side1).mono ?_); (case side1 => repeat (first | exact HR0.out | (with_reducible refine Kd.C_alloc ?_ _) | (with_reducible refine Kd.C_drewN ?_ _) | (with_reducible refine Kd.C_drew ?_))); rintro e w1 ⟨rfl, ⟨nd, rfl⟩⟩)
   go_ret
   refine ⟨?_, by repeat (first | exact Below.refl _ _ | (with_reducible apply below_alloc) | (with_reducible apply pw_below_drewN) | (with_reducible apply below_drew))⟩
   rw [← HV.out, ofitB_false.2 (fun h => HF.out h.1)]
   rfl
  | true =>
   have HM := fun W (hW : Kd.C (Kd.int .i64) W A0_0 l0_0.length l0_0) => gimbalref11_VarsFit.calls A0_0 c0_0 l0_0 true W hW HC0.out (by unfold gimbalref11_VarsFit.f; rw [hv])
   replace HM := Aside0.mk HM
   have HT := Aside0.mk (varsB_true.1 hv)
   clear hv hlen
   cases a0_2 with
   | true =>
    by_cases hz : l0_1.length = 0
    ·
     have f1 : ((l0_1.length : Int) == 0) = true := by rw [hz]; rfl
     have f2 : (l0_1.length == 0) = true := by rw [hz]; rfl
     have HZ := Aside0.mk hz
     clear hz
     go_enter Try.func12, Try.ntmps12
     go_wp2_with (go_at_call 46; (with_reducible refine (HM.out _ ?side1).mono ?_); (case side1 => repeat (first | exact HR0.out | (with_reducible refine Kd.C_alloc ?_ _) | (with_reducible refine Kd.C_drewN ?_ _) | (with_reducible refine Kd.C_drew ?_))); rintro e w1 ⟨rfl, ⟨nd, rfl⟩⟩)
     go_ret
     refine ⟨?_, by repeat (first | exact Below.refl _ _ | (with_reducible apply below_alloc) | (with_reducible apply pw_below_drewN) | (with_reducible apply below_drew))⟩
     rw [← HV.out, ofitB_true.2 ⟨HT.out, fun _ => List.eq_nil_of_length_eq_zero HZ.out, fun h => by cases h⟩]
     rfl
    ·
     have f1 : ((l0_1.length : Int) == 0) = false := by simpa using (by omega : ¬ ((l0_1.length : Int) = 0))
     have f2 : (l0_1.length == 0) = false := by simpa using hz
     have HZ := Aside0.mk hz
     clear hz
     go_enter Try.func12, Try.ntmps12
     go_wp2_with (go_at_call 46; (with_reducible refine (HM.out _ ?side1).mono ?_); (case side1 => repeat (first | exact HR0.out | (with_reducible refine Kd.C_alloc ?_ _) | (with_reducible refine Kd.C_drewN ?_ _) | (with_reducible refine Kd.C_drew ?_))); rintro e w1 ⟨rfl, ⟨nd, rfl⟩⟩)
     go_ret
     refine ⟨?_, by repeat (first | exact Below.refl _ _ | (with_reducible apply below_alloc) | (with_reducible apply pw_below_drewN) | (with_reducible apply below_drew))⟩
     rw [← HV.out, ofitB_false.2 (fun h => HZ.out (by rw [h.2.1 rfl]; rfl))]
     rfl
   | false =>
    obtain ⟨n2, hn2⟩ : ∃ n2 : Int, 2 * (l0_0.length : Int) = n2 := ⟨_, rfl⟩
    replace e1 : wrap64 (2 * (l0_0.length : Int)) = n2 := e1.trans hn2
    replace e2 : IntKind.i64.wrap (2 * (l0_0.length : Int)) = n2 := e2.trans hn2
    have hl8 := HT.out.1
    obtain ⟨nn, hnn⟩ : ∃ nn : Int, n2 * n2 = nn := ⟨_, rfl⟩
    have hnn2 : 0 ≤ nn ∧ nn ≤ 256 := by rw [← hnn]; exact mul_in (a := n2) (b := n2) (by omega) (by omega) (by omega) (by omega)
    have e3 : wrap64 (n2 * n2) = nn := by rw [hnn]; unfold wrap64; omega
    have e4 : IntKind.i64.wrap (n2 * n2) = nn := by rw [hnn, IntKind.wrap_i64]; omega
    by_cases hz : (l0_1.length : Int) = nn
    ·
     have f1 : ((l0_1.length : Int) != nn) = false := by rw [hz]; simp
     have HZ := Aside0.mk hz
     have HN := Aside0.mk hn2
     have HNN := Aside0.mk hnn
     clear hz hn2 hnn hnn2 hl8
     go_enter Try.func12, Try.ntmps12
     go_wp2_with (go_at_call 46; (with_reducible refine (HM.out _ ?side1).mono ?_); (case side1 => repeat (first | exact HR0.out | (with_reducible refine Kd.C_alloc ?_ _) | (with_reducible refine Kd.C_drewN ?_ _) | (with_reducible refine Kd.C_drew ?_))); rintro e w1 ⟨rfl, ⟨nd, rfl⟩⟩)
     go_loopg [4, 5, 6] n2.toNat (fun gg s4 _ _ wr => ∃ i : Int, s4 = .int .i64 i ∧ Aside0 (0 ≤ i ∧ i ≤ n2 ∧ n2.toNat - i.toNat ≤ gg) ∧ Aside0 (Box1 w w.heap.size #[.slice A0_0 l0_0.length c0_0, .slice A0_1 l0_1.length c0_1, .bool false] 25 wr) ∧ Aside0 (∀ a b : Int, 0 ≤ a → a < i → 0 ≤ b → b < n2 → EntryOk n2 l0_1 a b))
     case atStart => exact ⟨0, rfl, ⟨by have := HN.out; omega, by have := HN.out; omega, by omega⟩, ⟨by repeat (first | exact box1_new (Below.refl _ _) rfl | (with_reducible apply Box1.drewN) | (with_reducible apply Box1.drew))⟩, ⟨fun a b h0 h1 => absurd h1 (by omega)⟩⟩
     case round =>
      obtain ⟨i, rfl, HI, HX, HA⟩ := hrel
      by_cases hlt : i < n2
      ·
       have f2 : decide (i < n2) = true := decide_eq_true hlt
       have HL := Aside0.mk hlt
       clear hlt
       go_wp2
       obtain ⟨wo, rfl⟩ : ∃ wo : World, wo = wr := ⟨_, rfl⟩
       go_loopg [5, 6] n2.toNat (fun hh s5 _ wr => ∃ j : Int, s5 = .int .i64 j ∧ Aside0 (0 ≤ j ∧ j ≤ n2 ∧ n2.toNat - j.toNat ≤ hh) ∧ Aside0 (Box1 w w.heap.size #[.slice A0_0 l0_0.length c0_0, .slice A0_1 l0_1.length c0_1, .bool false] 25 wr) ∧ Aside0 (∀ b : Int, 0 ≤ b → b < j → EntryOk n2 l0_1 i b))
       case atStart => exact ⟨0, rfl, ⟨by have := HN.out; omega, by have := HN.out; omega, by omega⟩, ⟨HX.out⟩, ⟨fun b h0 h1 => absurd h1 (by omega)⟩⟩
       case round =>
        clear HX
        obtain ⟨j, rfl, HJ, HX, HE⟩ := hrel
        by_cases hlt : j < n2
        ·
         have f3 : decide (j < n2) = true := decide_eq_true hlt
         have HK := Aside0.mk hlt
         clear hlt
         have hi := HI.out; have hj := HJ.out; have hil := HL.out; have hjl := HK.out
         have h8 := HT.out.1
         have hm : (l0_1.length : Int) = n2 * n2 := by rw [HNN.out]; exact HZ.out
         have nj := nbar_in (i := j) (n := l0_0.length) hj.1 (by rw [HN.out]; exact hjl)
         have ni := nbar_in (i := i) (n := l0_0.length) hi.1 (by rw [HN.out]; exact hil)
         rw [HN.out] at nj ni
         have hn16 : n2 ≤ 16 := by have := HN.out; omega
         have b1 : gimbalref11_bar.f j = some (nbar j) := by unfold gimbalref11_bar.f; rw [if_pos ⟨hj.1, by have := HN.out; omega⟩]
         have b2 : gimbalref11_bar.f i = some (nbar i) := by unfold gimbalref11_bar.f; rw [if_pos ⟨hi.1, by have := HN.out; omega⟩]
         have pl1 := place_in (n := n2) hi.1 hil hj.1 hjl
         have pl2 := place_in (n := n2) nj.1 nj.2 ni.1 ni.2
         obtain ⟨p, hp⟩ : ∃ p, nbar j = p := ⟨_, rfl⟩
         obtain ⟨q, hq⟩ : ∃ q, nbar i = q := ⟨_, rfl⟩
         rw [hp] at nj pl2 b1
         rw [hq] at ni pl2 b2
         have mi1 := mul_in (a := n2) (b := i) (by omega) (by have := HN.out; omega) (by omega) (by have := HN.out; omega)
         have mi2 := mul_in (a := n2) (b := p) (by omega) (by have := HN.out; omega) (by omega) (by have := HN.out; omega)
         obtain ⟨s, hs⟩ : ∃ s, i * n2 = s := ⟨_, rfl⟩
         obtain ⟨u, hu⟩ : ∃ u, s + j = u := ⟨_, rfl⟩
         obtain ⟨v, hv⟩ : ∃ v, p * n2 = v := ⟨_, rfl⟩
         obtain ⟨z, hz⟩ : ∃ z, v + q = z := ⟨_, rfl⟩
         rw [hs] at pl1 mi1
         rw [hu] at pl1
         rw [hv] at pl2 mi2
         rw [hz] at pl2
         rw [← hm] at pl1 pl2
         obtain ⟨ad, e0, hx⟩ := Kd.at_int (Kd.C_below HR1.out HX.out.below) u pl1.1 pl1.2
         obtain ⟨ad', e9, hy⟩ := Kd.at_int (Kd.C_below HR1.out HX.out.below) z pl2.1 pl2.2
         cases e0
         cases e9
         obtain ⟨x, hxx⟩ : ∃ x, rd l0_1 u = x := ⟨_, rfl⟩
         obtain ⟨y, hyy⟩ : ∃ y, rd l0_1 z = y := ⟨_, rfl⟩
         rw [hxx] at hx
         rw [hyy] at hy
         have g1 : wrap64 (i * n2) = s := by rw [hs]; unfold wrap64; omega
         have g2 : IntKind.i64.wrap (i * n2) = s := by rw [hs, IntKind.wrap_i64]; omega
         have g3 : wrap64 (s + j) = u := by rw [hu]; unfold wrap64; omega
         have g4 : IntKind.i64.wrap (s + j) = u := by rw [hu, IntKind.wrap_i64]; omega
         have g5 : wrap64 (p * n2) = v := by rw [hv]; unfold wrap64; omega
         have g6 : IntKind.i64.wrap (p * n2) = v := by rw [hv, IntKind.wrap_i64]; omega
         have g7 : wrap64 (v + q) = z := by rw [hz]; unfold wrap64; omega
         have g8 : IntKind.i64.wrap (v + q) = z := by rw [hz, IntKind.wrap_i64]; omega
         have k1 := eq_true pl1.1
         have k2 := eq_true pl1.2
         have k3 := eq_true pl2.1
         have k4 := eq_true pl2.2
         have B1 := Aside0.mk (fun W => gimbalref11_bar_still j p W b1)
         have B2 := Aside0.mk (fun W => gimbalref11_bar_still i q W b2)
         have HXY : Aside0 (EntryOk n2 l0_1 i j ↔ (x = 4611686018427387904 ∨ (-1099511627776 ≤ x ∧ x ≤ 1099511627776)) ∧ (i = j → x = 0) ∧ x = y) := ⟨by unfold EntryOk; rw [hp, hq, hs, hu, hv, hz, hxx, hyy]⟩
         clear hi hj hil hjl h8 hn16 hm nj ni b1 b2 hp hq hs hu hv hz hxx hyy pl1 pl2 mi1 mi2
         obtain ⟨hx0, hx1, hx2⟩ := HX.out.three
         go_upto_region 15 with fail
         go_cut [80] (fun s80 wx => ∃ b : Bool, s80 = .bool b ∧ (b = false ↔ (x = 4611686018427387904 ∨ (-1099511627776 ≤ x ∧ x ≤ 1099511627776)) ∧ (i = j → x = 0) ∧ x = y) ∧ Box1 w w.heap.size #[.slice A0_0 l0_0.length c0_0, .slice (some ad) l0_1.length c0_1, .bool false] 25 wx)
         case first =>
          by_cases c1 : x = 4611686018427387904
          ·
           have f1 : (x != 4611686018427387904) = false := by rw [c1]; rfl
           by_cases c4 : i = j
           ·
            have f4 : (i == j) = true := by simpa using c4
            by_cases c5 : x = 0
            ·
             have f5 : (x != 0) = false := by rw [c5]; rfl
             by_cases c6 : x = y
             ·
              have f6 : (x != y) = false := by rw [c6]; simp
              have HB : Aside0 (false = false ↔ (x = 4611686018427387904 ∨ (-1099511627776 ≤ x ∧ x ≤ 1099511627776)) ∧ (i = j → x = 0) ∧ x = y) := ⟨by constructor; (intro _; exact ⟨by omega, by omega, by omega⟩); intro _; rfl⟩
              clear c1 c4 c5 c6
              go_quiet ((first | (go_at_call 47; exact Calls.quiet_of_same (B1.out _)) | (go_at_call 47; exact Calls.quiet_of_same (B2.out _))))
              go_wp2_with fail
              go_meet
              exact ⟨false, rfl, (by have h := HB.out; first | exact h | simpa using h), (by repeat (first | exact HX.out | (with_reducible apply Box1.drewN) | (with_reducible apply Box1.drew)))⟩
             ·
              have f6 : (x != y) = true := by simpa using c6
              have HB : Aside0 (true = false ↔ (x = 4611686018427387904 ∨ (-1099511627776 ≤ x ∧ x ≤ 1099511627776)) ∧ (i = j → x = 0) ∧ x = y) := ⟨by constructor; (intro h; cases h); intro h; exfalso; omega⟩
              clear c1 c4 c5 c6
              go_quiet ((first | (go_at_call 47; exact Calls.quiet_of_same (B1.out _)) | (go_at_call 47; exact Calls.quiet_of_same (B2.out _))))
              go_wp2_with fail
              go_meet
              exact ⟨true, rfl, (by have h := HB.out; first | exact h | simpa using h), (by repeat (first | exact HX.out | (with_reducible apply Box1.drewN) | (with_reducible apply Box1.drew)))⟩
            ·
             have f5 : (x != 0) = true := by simpa using c5
             have HB : Aside0 (true = false ↔ (x = 4611686018427387904 ∨ (-1099511627776 ≤ x ∧ x ≤ 1099511627776)) ∧ (i = j → x = 0) ∧ x = y) := ⟨by constructor; (intro h; cases h); intro h; exfalso; omega⟩
             clear c1 c4 c5
             go_quiet ((first | (go_at_call 47; exact Calls.quiet_of_same (B1.out _)) | (go_at_call 47; exact Calls.quiet_of_same (B2.out _))))
             go_wp2_with fail
             go_meet
             exact ⟨true, rfl, (by have h := HB.out; first | exact h | simpa using h), (by repeat (first | exact HX.out | (with_reducible apply Box1.drewN) | (with_reducible apply Box1.drew)))⟩
           ·
            have f4 : (i == j) = false := by simpa using c4
            by_cases c6 : x = y
            ·
             have f6 : (x != y) = false := by rw [c6]; simp
             have HB : Aside0 (false = false ↔ (x = 4611686018427387904 ∨ (-1099511627776 ≤ x ∧ x ≤ 1099511627776)) ∧ (i = j → x = 0) ∧ x = y) := ⟨by constructor; (intro _; exact ⟨by omega, by omega, by omega⟩); intro _; rfl⟩
             clear c1 c4 c6
             go_quiet ((first | (go_at_call 47; exact Calls.quiet_of_same (B1.out _)) | (go_at_call 47; exact Calls.quiet_of_same (B2.out _))))
             go_wp2_with fail
             go_meet
             exact ⟨false, rfl, (by have h := HB.out; first | exact h | simpa using h), (by repeat (first | exact HX.out | (with_reducible apply Box1.drewN) | (with_reducible apply Box1.drew)))⟩
            ·
             have f6 : (x != y) = true := by simpa using c6
             have HB : Aside0 (true = false ↔ (x = 4611686018427387904 ∨ (-1099511627776 ≤ x ∧ x ≤ 1099511627776)) ∧ (i = j → x = 0) ∧ x = y) := ⟨by constructor; (intro h; cases h); intro h; exfalso; omega⟩
             clear c1 c4 c6
             go_quiet ((first | (go_at_call 47; exact Calls.quiet_of_same (B1.out _)) | (go_at_call 47; exact Calls.quiet_of_same (B2.out _))))
             go_wp2_with fail
             go_meet
             exact ⟨true, rfl, (by have h := HB.out; first | exact h | simpa using h), (by repeat (first | exact HX.out | (with_reducible apply Box1.drewN) | (with_reducible apply Box1.drew)))⟩
          ·
           have f1 : (x != 4611686018427387904) = true := by simpa using c1
           by_cases c2 : x < -1099511627776
           ·
            have f2 : decide (x < -1099511627776) = true := decide_eq_true c2
            have HB : Aside0 (true = false ↔ (x = 4611686018427387904 ∨ (-1099511627776 ≤ x ∧ x ≤ 1099511627776)) ∧ (i = j → x = 0) ∧ x = y) := ⟨by constructor; (intro h; cases h); intro h; exfalso; omega⟩
            clear c1 c2
            go_quiet ((first | (go_at_call 47; exact Calls.quiet_of_same (B1.out _)) | (go_at_call 47; exact Calls.quiet_of_same (B2.out _))))
            go_wp2_with fail
            go_meet
            exact ⟨true, rfl, (by have h := HB.out; first | exact h | simpa using h), (by repeat (first | exact HX.out | (with_reducible apply Box1.drewN) | (with_reducible apply Box1.drew)))⟩
           ·
            have f2 : decide (x < -1099511627776) = false := decide_eq_false c2
            by_cases c3 : 1099511627776 < x
            ·
             have f3 : decide (1099511627776 < x) = true := decide_eq_true c3
             have HB : Aside0 (true = false ↔ (x = 4611686018427387904 ∨ (-1099511627776 ≤ x ∧ x ≤ 1099511627776)) ∧ (i = j → x = 0) ∧ x = y) := ⟨by constructor; (intro h; cases h); intro h; exfalso; omega⟩
             clear c1 c2 c3
             go_quiet ((first | (go_at_call 47; exact Calls.quiet_of_same (B1.out _)) | (go_at_call 47; exact Calls.quiet_of_same (B2.out _))))
             go_wp2_with fail
             go_meet
             exact ⟨true, rfl, (by have h := HB.out; first | exact h | simpa using h), (by repeat (first | exact HX.out | (with_reducible apply Box1.drewN) | (with_reducible apply Box1.drew)))⟩
            ·
             have f3 : decide (1099511627776 < x) = false := decide_eq_false c3
             by_cases c4 : i = j
             ·
              have f4 : (i == j) = true := by simpa using c4
              by_cases c5 : x = 0
              ·
               have f5 : (x != 0) = false := by rw [c5]; rfl
               by_cases c6 : x = y
               ·
                have f6 : (x != y) = false := by rw [c6]; simp
                have HB : Aside0 (false = false ↔ (x = 4611686018427387904 ∨ (-1099511627776 ≤ x ∧ x ≤ 1099511627776)) ∧ (i = j → x = 0) ∧ x = y) := ⟨by constructor; (intro _; exact ⟨by omega, by omega, by omega⟩); intro _; rfl⟩
                clear c1 c2 c3 c4 c5 c6
                go_quiet ((first | (go_at_call 47; exact Calls.quiet_of_same (B1.out _)) | (go_at_call 47; exact Calls.quiet_of_same (B2.out _))))
                go_wp2_with fail
                go_meet
                exact ⟨false, rfl, (by have h := HB.out; first | exact h | simpa using h), (by repeat (first | exact HX.out | (with_reducible apply Box1.drewN) | (with_reducible apply Box1.drew)))⟩
               ·
                have f6 : (x != y) = true := by simpa using c6
                have HB : Aside0 (true = false ↔ (x = 4611686018427387904 ∨ (-1099511627776 ≤ x ∧ x ≤ 1099511627776)) ∧ (i = j → x = 0) ∧ x = y) := ⟨by constructor; (intro h; cases h); intro h; exfalso; omega⟩
                clear c1 c2 c3 c4 c5 c6
                go_quiet ((first | (go_at_call 47; exact Calls.quiet_of_same (B1.out _)) | (go_at_call 47; exact Calls.quiet_of_same (B2.out _))))
                go_wp2_with fail
                go_meet
                exact ⟨true, rfl, (by have h := HB.out; first | exact h | simpa using h), (by repeat (first | exact HX.out | (with_reducible apply Box1.drewN) | (with_reducible apply Box1.drew)))⟩
              ·
               have f5 : (x != 0) = true := by simpa using c5
               have HB : Aside0 (true = false ↔ (x = 4611686018427387904 ∨ (-1099511627776 ≤ x ∧ x ≤ 1099511627776)) ∧ (i = j → x = 0) ∧ x = y) := ⟨by constructor; (intro h; cases h); intro h; exfalso; omega⟩
               clear c1 c2 c3 c4 c5
               go_quiet ((first | (go_at_call 47; exact Calls.quiet_of_same (B1.out _)) | (go_at_call 47; exact Calls.quiet_of_same (B2.out _))))
               go_wp2_with fail
               go_meet
               exact ⟨true, rfl, (by have h := HB.out; first | exact h | simpa using h), (by repeat (first | exact HX.out | (with_reducible apply Box1.drewN) | (with_reducible apply Box1.drew)))⟩
             ·
              have f4 : (i == j) = false := by simpa using c4
              by_cases c6 : x = y
              ·
               have f6 : (x != y) = false := by rw [c6]; simp
               have HB : Aside0 (false = false ↔ (x = 4611686018427387904 ∨ (-1099511627776 ≤ x ∧ x ≤ 1099511627776)) ∧ (i = j → x = 0) ∧ x = y) := ⟨by constructor; (intro _; exact ⟨by omega, by omega, by omega⟩); intro _; rfl⟩
               clear c1 c2 c3 c4 c6
               go_quiet ((first | (go_at_call 47; exact Calls.quiet_of_same (B1.out _)) | (go_at_call 47; exact Calls.quiet_of_same (B2.out _))))
               go_wp2_with fail
               go_meet
               exact ⟨false, rfl, (by have h := HB.out; first | exact h | simpa using h), (by repeat (first | exact HX.out | (with_reducible apply Box1.drewN) | (with_reducible apply Box1.drew)))⟩
              ·
               have f6 : (x != y) = true := by simpa using c6
               have HB : Aside0 (true = false ↔ (x = 4611686018427387904 ∨ (-1099511627776 ≤ x ∧ x ≤ 1099511627776)) ∧ (i = j → x = 0) ∧ x = y) := ⟨by constructor; (intro h; cases h); intro h; exfalso; omega⟩
               clear c1 c2 c3 c4 c6
               go_quiet ((first | (go_at_call 47; exact Calls.quiet_of_same (B1.out _)) | (go_at_call 47; exact Calls.quiet_of_same (B2.out _))))
               go_wp2_with fail
               go_meet
               exact ⟨true, rfl, (by have h := HB.out; first | exact h | simpa using h), (by repeat (first | exact HX.out | (with_reducible apply Box1.drewN) | (with_reducible apply Box1.drew)))⟩
         case rest =>
          obtain ⟨b, rfl, hb, hX⟩ := hcut
          clear HX hx0 hx1 hx2 hx hy B1 B2 g1 g2 g3 g4 g5 g6 g7 g8 k1 k2 k3 k4
          have HX := Aside0.mk hX
          have HB := Aside0.mk (hb.trans HXY.out.symm)
          clear hX hb HXY
          cases b with
          | true =>
           go_wp2
           go_ret
           refine ⟨?_, HX.out.below⟩
           have h1 := HI.out; have h2 := HL.out; have h3 := HJ.out; have h4 := HK.out
           rw [← HV.out, ofitB_false.2 (fun h => by have := (h.2.2 rfl).2 i j h1.1 (by rw [HN.out]; exact h2) h3.1 (by rw [HN.out]; exact h4); rw [HN.out] at this; exact absurd (HB.out.2 this) (by simp))]
           rfl
          | false =>
           go_wp2
           go_roundg (n2.toNat - (j.toNat + 1))
           case measure => have h1 := HJ.out; have h2 := HK.out; omega
           case rel =>
            have h1 := HJ.out; have h2 := HK.out; have h3 := HT.out.1; have h4 := HN.out
            have hw : wrap64 (j + 1) = j + 1 := by unfold wrap64; omega
            refine ⟨wrap64 (j + 1), rfl, ⟨by omega, by omega, by omega⟩, ⟨HX.out⟩, ⟨fun b b0 b1 => ?_⟩⟩
            by_cases e : b = j
            ·
             subst e; exact HB.out.1 (by first | rfl | trivial)
            ·
             exact HE.out b b0 (by omega)
        ·
         have f3 : decide (j < n2) = false := decide_eq_false hlt
         have HK := Aside0.mk hlt
         clear hlt
         go_wp2
         go_roundg (n2.toNat - (i.toNat + 1))
         case measure => have h1 := HI.out; have h2 := HL.out; omega
         case rel =>
          have h1 := HI.out; have h2 := HL.out; have h3 := HT.out.1; have h4 := HN.out; have h5 := HK.out; have h6 := HJ.out
          have hw : wrap64 (i + 1) = i + 1 := by unfold wrap64; omega
          refine ⟨wrap64 (i + 1), rfl, ⟨by omega, by omega, by omega⟩, ⟨HX.out⟩, ⟨fun a b a0 a1 b0 b1 => ?_⟩⟩
          by_cases e : a = i
          ·
           subst e; exact HE.out b b0 (by omega)
          ·
           exact HA.out a b a0 (by omega) b0 b1
      ·
       have f2 : decide (i < n2) = false := decide_eq_false hlt
       have HL := Aside0.mk hlt
       clear hlt
       go_wp2
       go_ret
       have h1 := HI.out; have h2 := HL.out
       refine ⟨?_, HX.out.below⟩
       rw [← HV.out, ofitB_true.2 ⟨HT.out, fun h => (by cases h), fun _ => ⟨by rw [HN.out, HNN.out]; exact HZ.out, fun a b a0 a1 b0 b1 => by rw [HN.out] at a1 b1 ⊢; exact HA.out a b a0 (by omega) b0 b1⟩⟩]
       rfl
    ·
     have f1 : ((l0_1.length : Int) != nn) = true := by simpa using hz
     have HZ := Aside0.mk hz
     have HN := Aside0.mk hn2
     have HNN := Aside0.mk hnn
     clear hz hn2 hnn hnn2 hl8
     go_enter Try.func12, Try.ntmps12
     go_wp2_with (go_at_call 46; (with_reducible refine (HM.out _ ?side1).mono ?_); (case side1 => repeat (first | exact HR0.out | (with_reducible refine Kd.C_alloc ?_ _) | (with_reducible refine Kd.C_drewN ?_ _) | (with_reducible refine Kd.C_drew ?_))); rintro e w1 ⟨rfl, ⟨nd, rfl⟩⟩)
     go_ret
     refine ⟨?_, by repeat (first | exact Below.refl _ _ | (with_reducible apply below_alloc) | (with_reducible apply pw_below_drewN) | (with_reducible apply below_drew))⟩
     rw [← HV.out, ofitB_false.2 (fun h => HZ.out (by rw [(h.2.2 rfl).1, HN.out, HNN.out]))]
     rfl
 ·
  rw [if_neg hlen] at h
  cases h
end Go.Proofs.Ytphfchbggechhaa.QO
end
section
noncomputable section
namespace Go.Proofs.Ytphfchbggechhaa.QO
open Go.RowKit YtphfchbggechhaaW.PrintWords YtphfchbggechhaaW.PrintLast
set_option linter.unusedVariables false
set_option linter.unusedSimpArgs false
def slices_Index_int_int.l0 : Nat → List Int → Int → Int → Int → Option (Int)
 | 0, _, _, _, _ => none
 | k + 1, x0, x1, x7, x8 => if x8 < x7 then (if 0 ≤ x8 then (if x8 < (x0.length : Int) then (if x1 = (rd x0 x8) then (some x8) else (slices_Index_int_int.l0 k x0 x1 x7 (wrap64 (x8 + 1)))) else (none)) else (none)) else (some (-1))
def slices_Index_int_int.f (k : Nat) (l0 : List Int) (a1 : Int) : Option (Int) := slices_Index_int_int.l0 k l0 a1 (l0.length : Int) 0
theorem slices_Index_int_int.mono_l : ∀ k, (∀ y0 y1 y2 y3, LeO (slices_Index_int_int.l0 k y0 y1 y2 y3) (slices_Index_int_int.l0 (k + 1) y0 y1 y2 y3))
 | 0 => fun _ _ _ _ r h => by simp [slices_Index_int_int.l0] at h
 | k + 1 => by
  have ih0 := slices_Index_int_int.mono_l k
  intros
  unfold slices_Index_int_int.l0 <;> repeat' first | (with_reducible first | apply ih0 | apply LeO.refl | apply LeO.none | refine LeO.ite ?_ ?_ | refine LeO.bind ?_ (fun _ => ?_)) | apply ih0 | apply LeO.none | refine LeO.ite ?_ ?_ | refine LeO.bind ?_ (fun _ => ?_)
theorem slices_Index_int_int.mono : ∀ a0 a1 k, LeO (slices_Index_int_int.f k a0 a1) (slices_Index_int_int.f (k + 1) a0 a1) := by
 intro a0 a1 k
 have ih0 := slices_Index_int_int.mono_l k
 unfold slices_Index_int_int.f
 repeat' first | (with_reducible first | apply ih0 | apply LeO.refl | apply LeO.none | refine LeO.ite ?_ ?_ | refine LeO.bind ?_ (fun _ => ?_)) | apply ih0 | apply LeO.none | refine LeO.ite ?_ ?_ | refine LeO.bind ?_ (fun _ => ?_)
theorem slices_Index_int_int.calls (k : Nat) (A0 : Option Addr) (c0 : Nat) (l0 : List Int) (a1 : Int) (r : Int) (w : World) (hr0 : Kd.C (Kd.int .i64) w A0 l0.length l0) (hc0 : l0.length ≤ c0) (h : slices_Index_int_int.f k l0 a1 = some r) :
 Calls Try.prog 125 #[.slice A0 l0.length c0, .int .i64 a1] w fun e w' => e = .returned (.int .i64 r) ∧ Drawn0 w w' := by
 have HR0 := Aside0.mk hr0
 have HC0 := Aside0.mk hc0
 clear hr0 hc0
 have H := h
 unfold slices_Index_int_int.f at H
 clear h
 have H' := Aside0.mk H
 clear H
 go_enter Try.func125, Try.ntmps125
 go_wp2
 go_loopg [8] k (fun kq v8 w' => ∃ (x8_1 : Int), v8 = .int .i64 x8_1 ∧ Aside0 (slices_Index_int_int.l0 kq l0 a1 (l0.length : Int) x8_1 = some r) ∧ Aside0 (kq ≤ k) ∧ Drawn0 w w')
 case atStart => exact ⟨(0), (by first | rfl | (simp; done) | (simp [*]; done)), H', ⟨Nat.le_refl _⟩, by repeat (first | exact Drawn0.refl _ | apply Drawn0.step)⟩
 case round =>
  clear H'
  try clear c1
  try clear p2
  obtain ⟨x8_1, rfl, HA, HK1, ⟨m1, rfl⟩⟩ := hrel
  cases gk with
  | zero => exact absurd HA.out (by simp [slices_Index_int_int.l0])
  | succ k1 =>
   have H := HA.out
   clear HA
   simp only [slices_Index_int_int.l0] at H
   by_cases c3 : x8_1 < (l0.length : Int)
   ·
    rw [if_pos c3] at H
    have c3b0 : decide (x8_1 < (l0.length : Int)) = true := decide_eq_true c3
    clear c3
    by_cases c4 : 0 ≤ x8_1
    ·
     rw [if_pos c4] at H
     have c4b0 : decide (0 ≤ x8_1) = true := decide_eq_true c4
     clear c4
     by_cases c5 : x8_1 < (l0.length : Int)
     ·
      rw [if_pos c5] at H
      have c5b0 : decide (x8_1 < (l0.length : Int)) = true := decide_eq_true c5
      clear c5
      by_cases c6 : a1 = (rd l0 x8_1)
      ·
       rw [if_pos c6] at H
       have c6b0 : (a1 == (rd l0 x8_1)) = true := beq_iff_eq.mpr c6
       have c6b1 : (a1 != (rd l0 x8_1)) = false := bne_eq_false_iff_eq.mpr c6
       clear c6
       obtain rfl := Option.some.inj H
       have p152 : 0 ≤ (x8_1 : Int) := of_decide_eq_true (by first | (with_reducible assumption) | assumption)
       have q152 : x8_1 < (l0.length : Int) := of_decide_eq_true (by first | (with_reducible assumption) | assumption)
       obtain ⟨ad152, e152, hx152_0⟩ := Kd.at_int HR0.out x8_1 p152 q152
       cases e152
       replace p152 := eq_true p152
       replace q152 := eq_true q152
       go_wp2
       go_ret
       exact ⟨by first | rfl | (simp; done) | (simp [*]; done), by repeat (first | exact Drawn0.refl _ | apply Drawn0.step)⟩
      ·
       rw [if_neg c6] at H
       have c6b0 : (a1 == (rd l0 x8_1)) = false := beq_eq_false_iff_ne.mpr c6
       have c6b1 : (a1 != (rd l0 x8_1)) = true := bne_iff_ne.mpr c6
       have H' := Aside0.mk H
       clear H
       have p152 : 0 ≤ (x8_1 : Int) := of_decide_eq_true (by first | (with_reducible assumption) | assumption)
       have q152 : x8_1 < (l0.length : Int) := of_decide_eq_true (by first | (with_reducible assumption) | assumption)
       obtain ⟨ad152, e152, hx152_0⟩ := Kd.at_int HR0.out x8_1 p152 q152
       cases e152
       replace p152 := eq_true p152
       replace q152 := eq_true q152
       go_wp2
       go_roundg k1
       case measure => have := HK1.out; omega
       case rel => exact ⟨(wrap64 (x8_1 + 1)), (by first | rfl | (simp; done) | (simp [*]; done)), H', ⟨by have := HK1.out; omega⟩, by repeat (first | exact Drawn0.refl _ | apply Drawn0.step)⟩
     ·
      rw [if_neg c5] at H
      exact absurd H (by simp)
    ·
     rw [if_neg c4] at H
     exact absurd H (by simp)
   ·
    rw [if_neg c3] at H
    have c3b0 : decide (x8_1 < (l0.length : Int)) = false := decide_eq_false c3
    clear c3
    obtain rfl := Option.some.inj H
    go_wp2
    go_ret
    exact ⟨by first | rfl | (simp; done) | (simp [*]; done), by repeat (first | exact Drawn0.refl _ | apply Drawn0.step)⟩
def oct_node.f (k : Nat) (l0_0 : List Int) (l0_1 : List Int) (a0_2 : Bool) (a1 : Int) (a2 : Int) : Option (Int) := (slices_Index_int_int.f k l0_0 a1).bind fun t154 => (if t154 ≥ 0 then (if a2 < 0 then (some (wrap64 ((wrap64 (2 * t154)) + 1))) else (some (wrap64 (2 * t154)))) else (some (wrap64 (2 * t154))))
theorem oct_node.mono : ∀ a0 a1 a2 a3 a4 k, LeO (oct_node.f k a0 a1 a2 a3 a4) (oct_node.f (k + 1) a0 a1 a2 a3 a4) := by
 intro a0 a1 a2 a3 a4 k
 unfold oct_node.f
 repeat' first | (with_reducible first | apply slices_Index_int_int.mono | apply LeO.refl | apply LeO.none | refine LeO.ite ?_ ?_ | refine LeO.bind ?_ (fun _ => ?_)) | apply slices_Index_int_int.mono | apply LeO.none | refine LeO.ite ?_ ?_ | refine LeO.bind ?_ (fun _ => ?_)
theorem oct_node.calls (k : Nat) (A0_0 : Option Addr) (c0_0 : Nat) (l0_0 : List Int) (A0_1 : Option Addr) (c0_1 : Nat) (l0_1 : List Int) (a0_2 : Bool) (a1 : Int) (a2 : Int) (r : Int) (w : World) (hr0_0 : Kd.C (Kd.int .i64) w A0_0 l0_0.length l0_0) (hc0_0 : l0_0.length ≤ c0_0) (hr0_1 : Kd.C (Kd.int .i64) w A0_1 l0_1.length l0_1) (hc0_1 : l0_1.length ≤ c0_1) (h : oct_node.f k l0_0 l0_1 a0_2 a1 a2 = some r) :
 Calls Try.prog 112 #[.agg #[.slice A0_0 l0_0.length c0_0, .slice A0_1 l0_1.length c0_1, .bool a0_2], .int .i64 a1, .int .i64 a2] w fun e w' => e = .returned (.int .i64 r) ∧ Below w.heap.size w w' := by
 have hu25 := Try.underlying25
 have HR0_0 := Aside0.mk hr0_0
 have HC0_0 := Aside0.mk hc0_0
 clear hr0_0 hc0_0
 have HR0_1 := Aside0.mk hr0_1
 have HC0_1 := Aside0.mk hc0_1
 clear hr0_1 hc0_1
 have HB := Aside0.mk (Below.refl w.heap.size w)
 have H := h
 unfold oct_node.f at H
 clear h
 replace H := Option.bind_eq_some_iff.mp H
 obtain ⟨t154, A40, H⟩ := H
 try dsimp only at H
 have A4 := Aside0.mk A40
 clear A40
 by_cases c5 : t154 ≥ 0
 ·
  rw [if_pos c5] at H
  have c5b0 : decide (0 ≤ t154) = true := decide_eq_true c5
  clear c5
  by_cases c6 : a2 < 0
  ·
   rw [if_pos c6] at H
   have c6b0 : decide (a2 < 0) = true := decide_eq_true c6
   clear c6
   obtain rfl := Option.some.inj H
   go_enter Try.func112, Try.ntmps112
   go_wp2_with (first | ((with_reducible refine gate_dst (N := 3) rfl ?_); refine bx_ 3 #[.slice A0_0 l0_0.length c0_0, .slice A0_1 l0_1.length c0_1, .bool a0_2] 25 ?_; intro gb153 hg w7 hbox hb; have BK153 := Aside0.mk (hbox); have GW153 := vS hg HB; have GE153 := vS hg HB; replace HB := vWs HB hb; clear hb hbox hg; obtain ⟨hcz8_0, hcz8_1, hcz8_2, hfz8_0, hfz8_1, hfz8_2⟩ := vF3 BK153.out) | ((with_reducible refine gate_callee (f := 125) rfl ?_); refine gl_ (some 11) Try.func125 #[.slice A0_0 l0_0.length c0_0, .int .i64 a1] ?_; (with_reducible refine (slices_Index_int_int.calls k _ _ l0_0 a1 t154 _ ?side1 ?side2 A4.out).mono ?_); (case side1 => exact vC (Kd.C_below HR0_0.out HB.out)); (case side2 => exact HC0_0.out); rintro e w' ⟨rfl, ⟨nd, rfl⟩⟩; refine ⟨_, rfl, ?_⟩))
   go_ret
   exact ⟨vE, vW HB.out⟩
  ·
   rw [if_neg c6] at H
   have c6b0 : decide (a2 < 0) = false := decide_eq_false c6
   clear c6
   obtain rfl := Option.some.inj H
   go_enter Try.func112, Try.ntmps112
   go_wp2_with (first | ((with_reducible refine gate_dst (N := 3) rfl ?_); refine bx_ 3 #[.slice A0_0 l0_0.length c0_0, .slice A0_1 l0_1.length c0_1, .bool a0_2] 25 ?_; intro gb153 hg w9 hbox hb; have BK153 := Aside0.mk (hbox); have GW153 := vS hg HB; have GE153 := vS hg HB; replace HB := vWs HB hb; clear hb hbox hg; obtain ⟨hcz10_0, hcz10_1, hcz10_2, hfz10_0, hfz10_1, hfz10_2⟩ := vF3 BK153.out) | ((with_reducible refine gate_callee (f := 125) rfl ?_); refine gl_ (some 11) Try.func125 #[.slice A0_0 l0_0.length c0_0, .int .i64 a1] ?_; (with_reducible refine (slices_Index_int_int.calls k _ _ l0_0 a1 t154 _ ?side1 ?side2 A4.out).mono ?_); (case side1 => exact vC (Kd.C_below HR0_0.out HB.out)); (case side2 => exact HC0_0.out); rintro e w' ⟨rfl, ⟨nd, rfl⟩⟩; refine ⟨_, rfl, ?_⟩))
   go_ret
   exact ⟨vE, vW HB.out⟩
 ·
  rw [if_neg c5] at H
  have c5b0 : decide (0 ≤ t154) = false := decide_eq_false c5
  clear c5
  obtain rfl := Option.some.inj H
  go_enter Try.func112, Try.ntmps112
  go_wp2_with (first | ((with_reducible refine gate_dst (N := 3) rfl ?_); refine bx_ 3 #[.slice A0_0 l0_0.length c0_0, .slice A0_1 l0_1.length c0_1, .bool a0_2] 25 ?_; intro gb153 hg w11 hbox hb; have BK153 := Aside0.mk (hbox); have GW153 := vS hg HB; have GE153 := vS hg HB; replace HB := vWs HB hb; clear hb hbox hg; obtain ⟨hcz12_0, hcz12_1, hcz12_2, hfz12_0, hfz12_1, hfz12_2⟩ := vF3 BK153.out) | ((with_reducible refine gate_callee (f := 125) rfl ?_); refine gl_ (some 11) Try.func125 #[.slice A0_0 l0_0.length c0_0, .int .i64 a1] ?_; (with_reducible refine (slices_Index_int_int.calls k _ _ l0_0 a1 t154 _ ?side1 ?side2 A4.out).mono ?_); (case side1 => exact vC (Kd.C_below HR0_0.out HB.out)); (case side2 => exact HC0_0.out); rintro e w' ⟨rfl, ⟨nd, rfl⟩⟩; refine ⟨_, rfl, ?_⟩))
  go_ret
  exact ⟨vE, vW HB.out⟩
def gimbalref11_Node.f (a0 : Int) (a1 : Int) : Option (Int) := if a1 > 0 then (some (wrap64 (2 * a0))) else (some (wrap64 ((wrap64 (2 * a0)) + 1)))
theorem gimbalref11_Node.calls (a0 : Int) (a1 : Int) (r : Int) (w : World) (h : gimbalref11_Node.f a0 a1 = some r) :
 Calls Try.prog 107 #[.int .i64 a0, .int .i64 a1] w fun e w' => e = .returned (.int .i64 r) ∧ Drawn0 w w' := by
 have H : (if a1 > 0 then (some (wrap64 (2 * a0))) else (some (wrap64 ((wrap64 (2 * a0)) + 1)))) = some r := h
 clear h
 by_cases c3 : a1 > 0
 ·
  rw [if_pos c3] at H
  have c3b0 : decide (0 < a1) = true := decide_eq_true c3
  clear c3
  obtain rfl := Option.some.inj H
  go_enter Try.func107, Try.ntmps107
  go_wp2
  go_ret
  exact ⟨by first | rfl | (simp; done) | (simp [*]; done), by repeat (first | exact Drawn0.refl _ | apply Drawn0.step)⟩
 ·
  rw [if_neg c3] at H
  have c3b0 : decide (0 < a1) = false := decide_eq_false c3
  clear c3
  obtain rfl := Option.some.inj H
  go_enter Try.func107, Try.ntmps107
  go_wp2
  go_ret
  exact ⟨by first | rfl | (simp; done) | (simp [*]; done), by repeat (first | exact Drawn0.refl _ | apply Drawn0.step)⟩
def bound_Down.f (a0 : Int) (a1 : Int) : Option (Int) := (bound_Fit.f a0).bind fun t155 => ((bound_Fit.f a1).bind fun t156 => ((bound_Up.f (wrap64 (-t155)) (wrap64 (-t156))).bind fun t157 => (some (wrap64 (-t157)))))
theorem bound_Down.calls (a0 : Int) (a1 : Int) (r : Int) (w : World) (h : bound_Down.f a0 a1 = some r) :
 Calls Try.prog 113 #[.int .i64 a0, .int .i64 a1] w fun e w' => e = .returned (.int .i64 r) ∧ Below w.heap.size w w' := by
 have HB := Aside0.mk (Below.refl w.heap.size w)
 have H : ((bound_Fit.f a0).bind fun t155 => ((bound_Fit.f a1).bind fun t156 => ((bound_Up.f (wrap64 (-t155)) (wrap64 (-t156))).bind fun t157 => (some (wrap64 (-t157)))))) = some r := h
 clear h
 replace H := Option.bind_eq_some_iff.mp H
 obtain ⟨t155, A30, H⟩ := H
 replace H : ((bound_Fit.f a1).bind fun t156 => ((bound_Up.f (wrap64 (-t155)) (wrap64 (-t156))).bind fun t157 => (some (wrap64 (-t157))))) = some r := H
 have A3 := Aside0.mk A30
 clear A30
 replace H := Option.bind_eq_some_iff.mp H
 obtain ⟨t156, A40, H⟩ := H
 replace H : ((bound_Up.f (wrap64 (-t155)) (wrap64 (-t156))).bind fun t157 => (some (wrap64 (-t157)))) = some r := H
 have A4 := Aside0.mk A40
 clear A40
 replace H := Option.bind_eq_some_iff.mp H
 obtain ⟨t157, A50, H⟩ := H
 replace H : (some (wrap64 (-t157))) = some r := H
 have A5 := Aside0.mk A50
 clear A50
 obtain rfl := Option.some.inj H
 go_enter Try.func113, Try.ntmps113
 go_wp2_with (first | ((with_reducible refine gate_callee (f := 104) rfl ?_); refine goesL_ (some 6) rfl rfl Try.func104 (by kernel_rfl) rfl #[.int .i64 a0] rfl (by (try simp only [List.map_toArray, List.map_cons, List.map_nil]); first | done | rfl | (simp only [List.length_drop, List.length_take]; rfl)) ?_; (with_reducible refine (bound_Fit.calls a0 t155 _ A3.out).mono ?_); rintro e w' ⟨rfl, ⟨nd, rfl⟩⟩; refine ⟨_, rfl, ?_⟩) | ((with_reducible refine gate_callee (f := 104) rfl ?_); refine goesL_ (some 9) rfl rfl Try.func104 (by kernel_rfl) rfl #[.int .i64 a1] rfl (by (try simp only [List.map_toArray, List.map_cons, List.map_nil]); first | done | rfl | (simp only [List.length_drop, List.length_take]; rfl)) ?_; (with_reducible refine (bound_Fit.calls a1 t156 _ A4.out).mono ?_); rintro e w' ⟨rfl, ⟨nd, rfl⟩⟩; refine ⟨_, rfl, ?_⟩) | ((with_reducible refine gate_callee (f := 60) rfl ?_); refine goesL_ (some 11) rfl rfl Try.func60 (by kernel_rfl) rfl #[.int .i64 (wrap64 (-t155)), .int .i64 (wrap64 (-t156))] rfl (by (try simp only [List.map_toArray, List.map_cons, List.map_nil]); first | done | rfl | (simp only [List.length_drop, List.length_take]; rfl)) ?_; (with_reducible refine (bound_Up.calls (wrap64 (-t155)) (wrap64 (-t156)) t157 _ A5.out).mono ?_); rintro e w6 ⟨rfl, hb⟩; refine ⟨_, rfl, ?_⟩; have n0_ := Aside0.mk (below_step (by repeat (first | (with_reducible first | exact HB.out | apply below_alloc | apply pw_below_drewN | apply below_drew1) | exact HB.out)) hb); clear HB; have HB := n0_; clear n0_; (try clear hb); (try clear hb2); (try clear hk); (try clear hi)))
 go_ret
 exact ⟨vE, by repeat (first | (with_reducible first | exact HB.out | apply below_alloc | apply pw_below_drewN | apply below_drew1) | exact HB.out)⟩
def bound_Neg.f (a0 : Int) : Option (Int) := (bound_Fit.f a0).bind fun t126 => (some (wrap64 (-t126)))
theorem bound_Neg.calls (a0 : Int) (r : Int) (w : World) (h : bound_Neg.f a0 = some r) :
 Calls Try.prog 61 #[.int .i64 a0] w fun e w' => e = .returned (.int .i64 r) ∧ Drawn0 w w' := by
 have H : ((bound_Fit.f a0).bind fun t126 => (some (wrap64 (-t126)))) = some r := h
 clear h
 replace H := Option.bind_eq_some_iff.mp H
 obtain ⟨t126, A20, H⟩ := H
 replace H : (some (wrap64 (-t126))) = some r := H
 have A2 := Aside0.mk A20
 clear A20
 obtain rfl := Option.some.inj H
 go_enter Try.func61, Try.ntmps61
 go_wp2_with (first | ((with_reducible refine gate_callee (f := 104) rfl ?_); refine goesL_ (some 4) rfl rfl Try.func104 (by kernel_rfl) rfl #[.int .i64 a0] rfl (by (try simp only [List.map_toArray, List.map_cons, List.map_nil]); first | done | rfl | (simp only [List.length_drop, List.length_take]; rfl)) ?_; (with_reducible refine (bound_Fit.calls a0 t126 _ A2.out).mono ?_); rintro e w' ⟨rfl, ⟨nd, rfl⟩⟩; refine ⟨_, rfl, ?_⟩))
 go_ret
 exact ⟨by first | rfl | (simp; done) | (simp [*]; done), by repeat (first | exact Drawn0.refl _ | apply Drawn0.step)⟩
def oct_most.f (k : Nat) (l0_0 : List Int) (l0_1 : List Int) (a0_2 : Bool) (a1_0 a1_1 a1_2 a1_3 a1_4 : Int) : Option Int :=
 if a1_1 = 0 then some 0 else (oct_node.f k l0_0 l0_1 a0_2 a1_0 a1_1).bind fun x =>
  if l0_0.length ≤ 8 ∧ (l0_1.length : Int) = (2 * (l0_0.length : Int)) * (2 * (l0_0.length : Int)) ∧ 0 ≤ x ∧ x < 2 * (l0_0.length : Int) then
   (if a1_3 = 0 then bound_Half.f (lowAt (2 * (l0_0.length : Int)) l0_1 (nbar x) x)
    else (oct_node.f k l0_0 l0_1 a0_2 a1_2 a1_3).bind fun y => if 0 ≤ y ∧ y < 2 * (l0_0.length : Int) then some (lowAt (2 * (l0_0.length : Int)) l0_1 (nbar x) y) else none)
  else none
theorem oct_most.mono : ∀ a0 a1 a2 a3 a4 a5 a6 a7 k, LeO (oct_most.f k a0 a1 a2 a3 a4 a5 a6 a7) (oct_most.f (k + 1) a0 a1 a2 a3 a4 a5 a6 a7) := by
 intro a0 a1 a2 a3 a4 a5 a6 a7 k
 unfold oct_most.f
 repeat' first
  | (with_reducible exact oct_node.mono _ _ _ _ _ _)
  | (with_reducible exact LeO.refl _)
  | (with_reducible exact LeO.none _)
  | (with_reducible refine LeO.ite ?_ ?_)
  | (with_reducible refine LeO.bind ?_ (fun _ => ?_))
theorem nil_at (m : Int) (A : Option Addr) (n c : Nat) (w : World) : (nilAhead 234 102 (.agg #[.int .i64 m, .slice A n c]) "gimbal/oct.at").run Try.prog w = .ok (some false) w := by kernel_rfl
structure MB (w : World) (bo bl : Nat) (A0 : Option Addr) (n0 c0 : Nat) (A1 : Option Addr) (n1 c1 : Nat) (e : Bool) (x0 x1 x2 x3 x4 : Int) (W : World) : Prop where
 below : Below w.heap.size w W
 bo : W.heap[bo]? = some (.cells #[.slice A0 n0 c0, .slice A1 n1 c1, .bool e] 25 (0, 0))
 bl : W.heap[bl]? = some (.cells #[.int .i64 x0, .int .i64 x1, .int .i64 x2, .int .i64 x3, .int .i64 x4] 34 (0, 0))
theorem MB.next {w : World} {bo bl : Nat} {A0 : Option Addr} {n0 c0 : Nat} {A1 : Option Addr} {n1 c1 : Nat} {e : Bool} {x0 x1 x2 x3 x4 : Int} {W W' : World} (h : MB w bo bl A0 n0 c0 A1 n1 c1 e x0 x1 x2 x3 x4 W) (hb : Below W.heap.size W W') : MB w bo bl A0 n0 c0 A1 n1 c1 e x0 x1 x2 x3 x4 W' :=
 ⟨h.below.trans (hb.mono h.below.size), (hb.block _ (Array.getElem?_eq_some_iff.1 h.bo).1).trans h.bo, (hb.block _ (Array.getElem?_eq_some_iff.1 h.bl).1).trans h.bl⟩
theorem MB.cells {w : World} {bo bl : Nat} {A0 : Option Addr} {n0 c0 : Nat} {A1 : Option Addr} {n1 c1 : Nat} {e : Bool} {x0 x1 x2 x3 x4 : Int} {W : World} (h : MB w bo bl A0 n0 c0 A1 n1 c1 e x0 x1 x2 x3 x4 W) :
 W.cell? ⟨bo, 0, none⟩ = some (.slice A0 n0 c0) ∧ W.cell? ⟨bo, 1, none⟩ = some (.slice A1 n1 c1) ∧ W.cell? ⟨bo, 2, none⟩ = some (.bool e) ∧ W.cell? ⟨bl, 0, none⟩ = some (.int .i64 x0) ∧ W.cell? ⟨bl, 1, none⟩ = some (.int .i64 x1) ∧ W.cell? ⟨bl, 2, none⟩ = some (.int .i64 x2) ∧ W.cell? ⟨bl, 3, none⟩ = some (.int .i64 x3) := by
 refine ⟨?_, ?_, ?_, ?_, ?_, ?_, ?_⟩ <;> first | (simp only [World.cell?, h.bo]; rfl) | (simp only [World.cell?, h.bl]; rfl)
theorem oct_most.calls (k : Nat) (A0_0 : Option Addr) (c0_0 : Nat) (l0_0 : List Int) (A0_1 : Option Addr) (c0_1 : Nat) (l0_1 : List Int) (a0_2 : Bool) (a1_0 a1_1 a1_2 a1_3 a1_4 : Int) (r : Int) (w : World) (hr0_0 : Kd.C (Kd.int .i64) w A0_0 l0_0.length l0_0) (hc0_0 : l0_0.length ≤ c0_0) (hr0_1 : Kd.C (Kd.int .i64) w A0_1 l0_1.length l0_1) (hc0_1 : l0_1.length ≤ c0_1) (h : oct_most.f k l0_0 l0_1 a0_2 a1_0 a1_1 a1_2 a1_3 a1_4 = some r) :
 Calls Try.prog 114 #[.agg #[.slice A0_0 l0_0.length c0_0, .slice A0_1 l0_1.length c0_1, .bool a0_2], .agg #[.int .i64 a1_0, .int .i64 a1_1, .int .i64 a1_2, .int .i64 a1_3, .int .i64 a1_4]] w fun e w' => e = .returned (.int .i64 r) ∧ Below w.heap.size w w' := by
 have hu25 := Try.underlying25
 have hu49 := Try.underlying34
 have HR0 := Aside0.mk hr0_0
 have HR1 := Aside0.mk hr0_1
 have HC0 := Aside0.mk hc0_0
 have HC1 := Aside0.mk hc0_1
 clear hr0_0 hr0_1 hc0_0 hc0_1
 unfold oct_most.f at h
 by_cases c1 : a1_1 = 0
 ·
  rw [if_pos c1] at h
  obtain rfl := Option.some.inj h
  have b1 : (a1_1 == 0) = true := by simpa using c1
  clear h c1
  go_enter Try.func114, Try.ntmps114
  go_wp2
  go_ret
  exact ⟨rfl, by repeat (first | exact Below.refl _ _ | apply below_alloc | apply pw_below_drewN)⟩
 ·
  rw [if_neg c1] at h
  have b1 : (a1_1 == 0) = false := by simpa using c1
  clear c1
  obtain ⟨x, hx, h⟩ := Option.bind_eq_some_iff.mp h
  have HX := Aside0.mk hx
  clear hx
  by_cases c2 : l0_0.length ≤ 8 ∧ (l0_1.length : Int) = (2 * (l0_0.length : Int)) * (2 * (l0_0.length : Int)) ∧ 0 ≤ x ∧ x < 2 * (l0_0.length : Int)
  ·
   rw [if_pos c2] at h
   obtain ⟨hn, hm, x0, x1⟩ := c2
   have CN := Aside0.mk (fun W (hW : Below w.heap.size w W) => oct_node.calls k A0_0 c0_0 l0_0 A0_1 c0_1 l0_1 a0_2 a1_0 a1_1 x W (Kd.C_below HR0.out hW) HC0.out (Kd.C_below HR1.out hW) HC1.out HX.out)
   have CO := Aside0.mk (fun W => oct_of_any A0_0 l0_0.length c0_0 A0_1 l0_1.length c0_1 a0_2 W (by omega))
   have b0 : oct_bar.f x = some (nbar x) := by unfold oct_bar.f; rw [if_pos ⟨x0, by omega⟩]
   have CB := Aside0.mk (fun W => oct_bar_still x (nbar x) W b0)
   have nx := nbar_in (i := x) (n := l0_0.length) x0 x1
   have hma := meth_at
   have hna := nil_at
   obtain ⟨nn, hnn⟩ : ∃ nn : Int, 2 * (l0_0.length : Int) = nn := ⟨_, rfl⟩
   by_cases c3 : a1_3 = 0
   ·
    rw [if_pos c3] at h
    have b3 : (a1_3 == 0) = true := by simpa using c3
    obtain ⟨v, hv⟩ : ∃ v, lowAt (2 * (l0_0.length : Int)) l0_1 (nbar x) x = v := ⟨_, rfl⟩
    have CA := Aside0.mk (fun W (hW : Below w.heap.size w W) => oct_lower_at_any l0_0.length A0_1 c0_1 l0_1 (nbar x) x W (Kd.C_below HR1.out hW) HC1.out hn hm nx.1 nx.2 x0 x1)
    rw [hv] at h CA
    have CH := Aside0.mk (fun W => bound_Half.calls v r W h)
    unfold tableV at CO
    rw [hnn] at CO CA
    clear h c3 hn hm x0 x1 b0 nx hnn hv hu49
    go_enter Try.func114, Try.ntmps114
    go_wp2
    obtain ⟨W2, hW2⟩ : ∃ W2, (w.alloc (.cells #[.slice A0_0 l0_0.length c0_0, .slice A0_1 l0_1.length c0_1, .bool a0_2] 25)).alloc (.cells #[.int .i64 a1_0, .int .i64 a1_1, .int .i64 a1_2, .int .i64 a1_3, .int .i64 a1_4] 34) = W2 := ⟨_, rfl⟩
    obtain ⟨bo, hbo⟩ : ∃ bo, w.heap.size = bo := ⟨_, rfl⟩
    obtain ⟨bl, hbl⟩ : ∃ bl, w.heap.size + 1 = bl := ⟨_, rfl⟩
    have HM : Aside0 (MB w bo bl A0_0 l0_0.length c0_0 A0_1 l0_1.length c0_1 a0_2 a1_0 a1_1 a1_2 a1_3 a1_4 W2) := ⟨by
     refine ⟨?_, ?_, ?_⟩
     ·
      rw [← hW2]; exact below_alloc (below_alloc (Below.refl _ _) _) _
     ·
      rw [← hW2, ← hbo]; exact ((below_alloc (Below.refl _ _) _).block _ (by simp)).trans (blk_new _ _)
     ·
      rw [← hW2, ← hbl]; have h := blk_new (w.alloc (.cells #[.slice A0_0 l0_0.length c0_0, .slice A0_1 l0_1.length c0_1, .bool a0_2] 25)) (.cells #[.int .i64 a1_0, .int .i64 a1_1, .int .i64 a1_2, .int .i64 a1_3, .int .i64 a1_4] 34); rw [World.size_alloc] at h; exact h⟩
    obtain ⟨k0, k1, k2, k3, k4, k5, k6⟩ := HM.out.cells
    rw [hW2, hbl, hbo]
    clear hW2 hbl hbo
    go_region_held3 (fun w' => w'.cell? ⟨bo, 0, none⟩ = some (.slice A0_0 l0_0.length c0_0) ∧ w'.cell? ⟨bo, 1, none⟩ = some (.slice A0_1 l0_1.length c0_1) ∧ w'.cell? ⟨bo, 2, none⟩ = some (.bool a0_2) ∧ w'.cell? ⟨bl, 0, none⟩ = some (.int .i64 a1_0) ∧ w'.cell? ⟨bl, 1, none⟩ = some (.int .i64 a1_1)) (first | go_keep | exact KS)
     (first
      | (go_at_call 80; (with_reducible refine (CO.out _).mono ?_); rintro e w1 ⟨rfl, hb⟩; have HM1 := Aside0.mk (MB.next (MB.next HM.out (below_drew (Below.refl _ _))) hb); have KS := (⟨HM1.out.cells.1, HM1.out.cells.2.1, HM1.out.cells.2.2.1, HM1.out.cells.2.2.2.1, HM1.out.cells.2.2.2.2.1⟩ : _ ∧ _ ∧ _ ∧ _ ∧ _); clear hb)
      | (go_at_call 112; (with_reducible refine (CN.out _ HM1.out.below).mono ?_); rintro e w2 ⟨rfl, hb⟩; have HM2 := Aside0.mk (MB.next HM1.out hb); clear KS; have KS := (⟨HM2.out.cells.1, HM2.out.cells.2.1, HM2.out.cells.2.2.1, HM2.out.cells.2.2.2.1, HM2.out.cells.2.2.2.2.1⟩ : _ ∧ _ ∧ _ ∧ _ ∧ _); clear hb))
    clear KS k0 k1 k2 k3 k4 k5 k6
    obtain ⟨k0, k1, k2, k3, k4, k5, k6⟩ := HM2.out.cells
    clear CN CO HM HM1
    go_wp2
    go_region_held3 (fun w' => True) (first | go_keep | trivial)
     (first
      | (go_at_call 94; (with_reducible refine (CB.out _).mono ?_); rintro e w' ⟨rfl, rfl⟩)
      | (go_at_call 145; (with_reducible refine (CA.out _ (MB.next HM2.out (below_drew (Below.refl _ _))).below).mono ?_); rintro e w3 ⟨rfl, hb⟩; have HM3 := Aside0.mk (MB.next (MB.next HM2.out (below_drew (Below.refl _ _))) hb); clear hb)
      | (go_at_call 95; (with_reducible refine (CH.out _).mono ?_); rintro e w4 ⟨rfl, hb⟩; have HM4 := Aside0.mk (MB.next HM3.out hb.below); clear hb))
    all_goals go_wp2
    all_goals go_ret
    all_goals exact ⟨rfl, HM4.out.below⟩
   ·
    rw [if_neg c3] at h
    have b3 : (a1_3 == 0) = false := by simpa using c3
    obtain ⟨y, hy, h⟩ := Option.bind_eq_some_iff.mp h
    by_cases c4 : 0 ≤ y ∧ y < 2 * (l0_0.length : Int)
    ·
     rw [if_pos c4] at h
     obtain ⟨y0, y1⟩ := c4
     have hv := Option.some.inj h
     have CA := Aside0.mk (fun W (hW : Below w.heap.size w W) => oct_lower_at_any l0_0.length A0_1 c0_1 l0_1 (nbar x) y W (Kd.C_below HR1.out hW) HC1.out hn hm nx.1 nx.2 y0 y1)
     have CN2 := Aside0.mk (fun W (hW : Below w.heap.size w W) => oct_node.calls k A0_0 c0_0 l0_0 A0_1 c0_1 l0_1 a0_2 a1_2 a1_3 y W (Kd.C_below HR0.out hW) HC0.out (Kd.C_below HR1.out hW) HC1.out hy)
     rw [hv] at CA
     unfold tableV at CO
     rw [hnn] at CO CA
     clear h c3 hn hm x0 x1 b0 nx hnn hv hu49 y0 y1 hy
     go_enter Try.func114, Try.ntmps114
     go_wp2
     obtain ⟨W2, hW2⟩ : ∃ W2, (w.alloc (.cells #[.slice A0_0 l0_0.length c0_0, .slice A0_1 l0_1.length c0_1, .bool a0_2] 25)).alloc (.cells #[.int .i64 a1_0, .int .i64 a1_1, .int .i64 a1_2, .int .i64 a1_3, .int .i64 a1_4] 34) = W2 := ⟨_, rfl⟩
     obtain ⟨bo, hbo⟩ : ∃ bo, w.heap.size = bo := ⟨_, rfl⟩
     obtain ⟨bl, hbl⟩ : ∃ bl, w.heap.size + 1 = bl := ⟨_, rfl⟩
     have HM : Aside0 (MB w bo bl A0_0 l0_0.length c0_0 A0_1 l0_1.length c0_1 a0_2 a1_0 a1_1 a1_2 a1_3 a1_4 W2) := ⟨by
      refine ⟨?_, ?_, ?_⟩
      ·
       rw [← hW2]; exact below_alloc (below_alloc (Below.refl _ _) _) _
      ·
       rw [← hW2, ← hbo]; exact ((below_alloc (Below.refl _ _) _).block _ (by simp)).trans (blk_new _ _)
      ·
       rw [← hW2, ← hbl]; have h := blk_new (w.alloc (.cells #[.slice A0_0 l0_0.length c0_0, .slice A0_1 l0_1.length c0_1, .bool a0_2] 25)) (.cells #[.int .i64 a1_0, .int .i64 a1_1, .int .i64 a1_2, .int .i64 a1_3, .int .i64 a1_4] 34); rw [World.size_alloc] at h; exact h⟩
     obtain ⟨k0, k1, k2, k3, k4, k5, k6⟩ := HM.out.cells
     rw [hW2, hbl, hbo]
     clear hW2 hbl hbo
     go_region_held3 (fun w' => w'.cell? ⟨bo, 0, none⟩ = some (.slice A0_0 l0_0.length c0_0) ∧ w'.cell? ⟨bo, 1, none⟩ = some (.slice A0_1 l0_1.length c0_1) ∧ w'.cell? ⟨bo, 2, none⟩ = some (.bool a0_2) ∧ w'.cell? ⟨bl, 0, none⟩ = some (.int .i64 a1_0) ∧ w'.cell? ⟨bl, 1, none⟩ = some (.int .i64 a1_1)) (first | go_keep | exact KS)
      (first
       | (go_at_call 80; (with_reducible refine (CO.out _).mono ?_); rintro e w1 ⟨rfl, hb⟩; have HM1 := Aside0.mk (MB.next (MB.next HM.out (below_drew (Below.refl _ _))) hb); have KS := (⟨HM1.out.cells.1, HM1.out.cells.2.1, HM1.out.cells.2.2.1, HM1.out.cells.2.2.2.1, HM1.out.cells.2.2.2.2.1⟩ : _ ∧ _ ∧ _ ∧ _ ∧ _); clear hb)
       | (go_at_call 112; (with_reducible refine (CN.out _ HM1.out.below).mono ?_); rintro e w2 ⟨rfl, hb⟩; have HM2 := Aside0.mk (MB.next HM1.out hb); clear KS; have KS := (⟨HM2.out.cells.1, HM2.out.cells.2.1, HM2.out.cells.2.2.1, HM2.out.cells.2.2.2.1, HM2.out.cells.2.2.2.2.1⟩ : _ ∧ _ ∧ _ ∧ _ ∧ _); clear hb))
     clear KS k0 k1 k2 k3 k4 k5 k6
     obtain ⟨k0, k1, k2, k3, k4, k5, k6⟩ := HM2.out.cells
     clear CN CO HM HM1
     go_wp2
     go_region_held3 (fun w' => w'.cell? ⟨bo, 0, none⟩ = some (.slice A0_0 l0_0.length c0_0) ∧ w'.cell? ⟨bo, 1, none⟩ = some (.slice A0_1 l0_1.length c0_1) ∧ w'.cell? ⟨bo, 2, none⟩ = some (.bool a0_2) ∧ w'.cell? ⟨bl, 2, none⟩ = some (.int .i64 a1_2) ∧ w'.cell? ⟨bl, 3, none⟩ = some (.int .i64 a1_3)) (first | go_keep | exact KS)
      (first
       | (go_at_call 94; (with_reducible refine (CB.out _).mono ?_); rintro e w' ⟨rfl, rfl⟩)
       | (go_at_call 112; (with_reducible refine (CN2.out _ (MB.next HM2.out (below_drew (Below.refl _ _))).below).mono ?_); rintro e w3 ⟨rfl, hb⟩; have HM3 := Aside0.mk (MB.next (MB.next HM2.out (below_drew (Below.refl _ _))) hb); have KS := (⟨HM3.out.cells.1, HM3.out.cells.2.1, HM3.out.cells.2.2.1, HM3.out.cells.2.2.2.2.2.1, HM3.out.cells.2.2.2.2.2.2⟩ : _ ∧ _ ∧ _ ∧ _ ∧ _); clear hb)
       | (go_at_call 145; (with_reducible refine (CA.out _ HM3.out.below).mono ?_); rintro e w4 ⟨rfl, hb⟩; have HM4 := Aside0.mk (MB.next HM3.out hb); clear KS; have KS := (⟨HM4.out.cells.1, HM4.out.cells.2.1, HM4.out.cells.2.2.1, HM4.out.cells.2.2.2.2.2.1, HM4.out.cells.2.2.2.2.2.2⟩ : _ ∧ _ ∧ _ ∧ _ ∧ _); clear hb))
     all_goals go_wp2
     all_goals go_ret
     all_goals exact ⟨rfl, HM4.out.below⟩
    ·
     rw [if_neg c4] at h; cases h
  ·
   rw [if_neg c2] at h; cases h
def gimbalref11_greatest.f (k : Nat) (l0_0 : List Int) (l0_1 : List Int) (a0_2 : Bool) (a1_0 : Int) (a1_1 : Int) (a1_2 : Int) (a1_3 : Int) (a1_4 : Int) : Option (Int) := if a1_1 = 0 then (some 0) else ((gimbalref11_Place.f k l0_0 l0_1 a0_2 a1_0).bind fun t279 => ((gimbalref11_Node.f t279 a1_1).bind fun t280 => (if a1_3 = 0 then ((gimbalref11_bar.f t280).bind fun t281 => (if 0 ≤ (wrap64 ((wrap64 (t281 * (wrap64 (2 * (l0_0.length : Int))))) + t280)) then (if (wrap64 ((wrap64 (t281 * (wrap64 (2 * (l0_0.length : Int))))) + t280)) < (l0_1.length : Int) then (if (rd l0_1 (wrap64 ((wrap64 (t281 * (wrap64 (2 * (l0_0.length : Int))))) + t280))) = 4611686018427387904 then (some 4611686018427387904) else ((gimbalref11_halved.f (rd l0_1 (wrap64 ((wrap64 (t281 * (wrap64 (2 * (l0_0.length : Int))))) + t280)))).bind fun t283 => (some t283))) else (none)) else (none))) else ((gimbalref11_Place.f k l0_0 l0_1 a0_2 a1_2).bind fun t284 => ((gimbalref11_Node.f t284 a1_3).bind fun t285 => ((gimbalref11_bar.f t280).bind fun t286 => (if 0 ≤ (wrap64 ((wrap64 (t286 * (wrap64 (2 * (l0_0.length : Int))))) + t285)) then (if (wrap64 ((wrap64 (t286 * (wrap64 (2 * (l0_0.length : Int))))) + t285)) < (l0_1.length : Int) then (some (rd l0_1 (wrap64 ((wrap64 (t286 * (wrap64 (2 * (l0_0.length : Int))))) + t285)))) else (none)) else (none))))))))
theorem gimbalref11_greatest.mono : ∀ a0 a1 a2 a3 a4 a5 a6 a7 k, LeO (gimbalref11_greatest.f k a0 a1 a2 a3 a4 a5 a6 a7) (gimbalref11_greatest.f (k + 1) a0 a1 a2 a3 a4 a5 a6 a7) := by
 intro a0 a1 a2 a3 a4 a5 a6 a7 k
 unfold gimbalref11_greatest.f
 repeat' first | (with_reducible first | apply gimbalref11_Place.mono | apply LeO.refl | apply LeO.none | refine LeO.ite ?_ ?_ | refine LeO.bind ?_ (fun _ => ?_)) | apply gimbalref11_Place.mono | apply LeO.none | refine LeO.ite ?_ ?_ | refine LeO.bind ?_ (fun _ => ?_)
def gimbalref11_greatest.T4 : Bool × List (List Nat × List Nat) := (true, [([], []), ([], []), ([1], [1]), ([0, 2], [0, 2]), ([], []), ([4], [4]), ([3, 5, 3], [3, 5]), ([6, 6, 0, 1, 2, 3, 4, 5, 6], [6])])
def gimbalref11_greatest.B4 : List Nat := [0, 0, 2, 7, 0, 16, 63, 127]
theorem gimbalref11_greatest.tab4 : rtab .any (opsOf Try.f91 4) = gimbalref11_greatest.T4 := by kernel_rfl
theorem gimbalref11_greatest.bits4 : waitsOk gimbalref11_greatest.T4.2 gimbalref11_greatest.B4 = true := by kernel_rfl
def gimbalref11_greatest.T6 : Bool × List (List Nat × List Nat) := (true, [([], []), ([0], [0]), ([], []), ([2], [2]), ([], []), ([3, 4], [3, 4]), ([], []), ([5, 6], [5, 6]), ([1, 7], [1, 7]), ([8], [8]), ([9, 3, 0, 1, 2, 3, 4, 5, 6, 7, 8, 9], [9])])
def gimbalref11_greatest.B6 : List Nat := [0, 1, 0, 4, 0, 28, 0, 124, 255, 511, 1023]
theorem gimbalref11_greatest.tab6 : rtab .any (opsOf Try.f91 6) = gimbalref11_greatest.T6 := by kernel_rfl
theorem gimbalref11_greatest.bits6 : waitsOk gimbalref11_greatest.T6.2 gimbalref11_greatest.B6 = true := by kernel_rfl
def gimbalref11_greatest.T10 : Bool × List (List Nat × List Nat) := (true, [([], []), ([], []), ([1], [1]), ([0, 2], [0, 2]), ([], []), ([4], [4]), ([3, 5, 3], [3, 5]), ([6, 6, 0, 1, 2, 3, 4, 5, 6], [6])])
def gimbalref11_greatest.B10 : List Nat := [0, 0, 2, 7, 0, 16, 63, 127]
theorem gimbalref11_greatest.tab10 : rtab .any (opsOf Try.f91 10) = gimbalref11_greatest.T10 := by kernel_rfl
theorem gimbalref11_greatest.bits10 : waitsOk gimbalref11_greatest.T10.2 gimbalref11_greatest.B10 = true := by kernel_rfl
def gimbalref11_greatest.T11 : Bool × List (List Nat × List Nat) := (true, [([], []), ([0], [0]), ([], []), ([2], [2]), ([], []), ([3, 4], [3, 4]), ([], []), ([5, 6], [5, 6]), ([1, 7], [1, 7]), ([8], [8]), ([9, 3, 0, 1, 2, 3, 4, 5, 6, 7, 8, 9], [9])])
def gimbalref11_greatest.B11 : List Nat := [0, 1, 0, 4, 0, 28, 0, 124, 255, 511, 1023]
theorem gimbalref11_greatest.tab11 : rtab .any (opsOf Try.f91 11) = gimbalref11_greatest.T11 := by kernel_rfl
theorem gimbalref11_greatest.bits11 : waitsOk gimbalref11_greatest.T11.2 gimbalref11_greatest.B11 = true := by kernel_rfl
theorem gimbalref11_greatest.calls (k : Nat) (A0_0 : Option Addr) (c0_0 : Nat) (l0_0 : List Int) (A0_1 : Option Addr) (c0_1 : Nat) (l0_1 : List Int) (a0_2 : Bool) (a1_0 : Int) (a1_1 : Int) (a1_2 : Int) (a1_3 : Int) (a1_4 : Int) (r : Int) (w : World) (hr0_0 : Kd.C (Kd.int .i64) w A0_0 l0_0.length l0_0) (hc0_0 : l0_0.length ≤ c0_0) (hr0_1 : Kd.C (Kd.int .i64) w A0_1 l0_1.length l0_1) (hc0_1 : l0_1.length ≤ c0_1) (h : gimbalref11_greatest.f k l0_0 l0_1 a0_2 a1_0 a1_1 a1_2 a1_3 a1_4 = some r) :
 Calls Try.prog 91 #[.agg #[.slice A0_0 l0_0.length c0_0, .slice A0_1 l0_1.length c0_1, .bool a0_2], .agg #[.int .i64 a1_0, .int .i64 a1_1, .int .i64 a1_2, .int .i64 a1_3, .int .i64 a1_4]] w fun e w' => e = .returned (.int .i64 r) ∧ Below w.heap.size w w' := by
 have hu25 := Try.underlying25
 have hu34 := Try.underlying34
 have HR0_0 := Aside0.mk hr0_0
 have HC0_0 := Aside0.mk hc0_0
 clear hr0_0 hc0_0
 have HR0_1 := Aside0.mk hr0_1
 have HC0_1 := Aside0.mk hc0_1
 clear hr0_1 hc0_1
 have HB := Aside0.mk (Below.refl w.heap.size w)
 have H := h
 unfold gimbalref11_greatest.f at H
 clear h
 by_cases c3 : a1_1 = 0
 ·
  rw [if_pos c3] at H
  have c3b0 : (a1_1 == 0) = true := beq_iff_eq.mpr c3
  have c3b1 : (a1_1 != 0) = false := bne_eq_false_iff_eq.mpr c3
  clear c3
  obtain rfl := Option.some.inj H
  go_enter Try.func91, Try.ntmps91
  go_wp2_with (first | ((with_reducible refine gate_dst (N := 2) rfl ?_); refine bx_ 2 #[.slice A0_0 l0_0.length c0_0, .slice A0_1 l0_1.length c0_1, .bool a0_2] 25 ?_; intro gb277 hg w4 hbox hb; have BK277 := Aside0.mk (hbox); have GW277 := vS hg HB; have GE277 := vS hg HB; replace HB := vWs HB hb; clear hb hbox hg) | ((with_reducible refine gate_dst (N := 3) rfl ?_); refine bx_ 3 #[.int .i64 a1_0, .int .i64 a1_1, .int .i64 a1_2, .int .i64 a1_3, .int .i64 a1_4] 34 ?_; intro gb278 hg w5 hbox hb; have BK278 := Aside0.mk (hbox); have GW278 := vS hg HB; have GE278 := vS hg HB; replace HB := vWs HB hb; have NB277_278 := vNl hg BK277; have NB278_277 := vNg hg BK277; replace BK277 := vBb BK277 hb; clear hb hbox hg; have hnb6 := NB277_278.out; have hnc6 := NB278_277.out; obtain ⟨hcz7_0, hcz7_1, hcz7_2, hfz7_0, hfz7_1, hfz7_2⟩ := vF3 BK277.out; obtain ⟨hcz8_0, hcz8_1, hcz8_2, hcz8_3, hcz8_4, hfz8_0, hfz8_1, hfz8_2, hfz8_3, hfz8_4⟩ := vF5 BK278.out))
  go_ret
  exact ⟨vE, vW HB.out⟩
 ·
  rw [if_neg c3] at H
  have c3b0 : (a1_1 == 0) = false := beq_eq_false_iff_ne.mpr c3
  have c3b1 : (a1_1 != 0) = true := bne_iff_ne.mpr c3
  replace H := Option.bind_eq_some_iff.mp H
  obtain ⟨t279, A90, H⟩ := H
  try dsimp only at H
  have A9 := Aside0.mk A90
  clear A90
  replace H := Option.bind_eq_some_iff.mp H
  obtain ⟨t280, A100, H⟩ := H
  try dsimp only at H
  have A10 := Aside0.mk A100
  clear A100
  by_cases c11 : a1_3 = 0
  ·
   rw [if_pos c11] at H
   have c11b0 : (a1_3 == 0) = true := beq_iff_eq.mpr c11
   have c11b1 : (a1_3 != 0) = false := bne_eq_false_iff_eq.mpr c11
   clear c11
   replace H := Option.bind_eq_some_iff.mp H
   obtain ⟨t281, A120, H⟩ := H
   try dsimp only at H
   have A12 := Aside0.mk A120
   clear A120
   obtain ⟨ji13, hji13⟩ : ∃ j_ : Int, (wrap64 ((wrap64 (t281 * (wrap64 (2 * (l0_0.length : Int))))) + t280)) = j_ := ⟨_, rfl⟩
   first | rw [hji13] at H | simp only [hji13] at H
   (try rw [hji13] at A9)
   (try rw [hji13] at A10)
   (try rw [hji13] at A12)
   have hji13w : (IntKind.i64.wrap ((wrap64 (t281 * (wrap64 (2 * (l0_0.length : Int))))) + t280)) = ji13 := (i64_w _).trans hji13
   by_cases c14 : 0 ≤ (ji13)
   ·
    rw [if_pos c14] at H
    have c14b0 : decide (0 ≤ (ji13)) = true := decide_eq_true c14
    clear c14
    by_cases c15 : (ji13) < (l0_1.length : Int)
    ·
     rw [if_pos c15] at H
     have c15b0 : decide ((ji13) < (l0_1.length : Int)) = true := decide_eq_true c15
     clear c15
     by_cases c16 : (rd l0_1 (ji13)) = 4611686018427387904
     ·
      rw [if_pos c16] at H
      have c16b0 : ((rd l0_1 (ji13)) == 4611686018427387904) = true := beq_iff_eq.mpr c16
      have c16b1 : ((rd l0_1 (ji13)) != 4611686018427387904) = false := bne_eq_false_iff_eq.mpr c16
      clear c16
      obtain rfl := Option.some.inj H
      go_enter Try.func91, Try.ntmps91
      try go_wp2_with (first | ((with_reducible refine gate_dst (N := 2) rfl ?_); refine bx_ 2 #[.slice A0_0 l0_0.length c0_0, .slice A0_1 l0_1.length c0_1, .bool a0_2] 25 ?_; intro gb277 hg w17 hbox hb; have BK277 := Aside0.mk (hbox); have GW277 := vS hg HB; have GE277 := vS hg HB; replace HB := vWs HB hb; clear hb hbox hg) | ((with_reducible refine gate_dst (N := 3) rfl ?_); refine bx_ 3 #[.int .i64 a1_0, .int .i64 a1_1, .int .i64 a1_2, .int .i64 a1_3, .int .i64 a1_4] 34 ?_; intro gb278 hg w18 hbox hb; have BK278 := Aside0.mk (hbox); have GW278 := vS hg HB; have GE278 := vS hg HB; replace HB := vWs HB hb; have NB277_278 := vNl hg BK277; have NB278_277 := vNg hg BK277; replace BK277 := vBb BK277 hb; clear hb hbox hg; have hnb19 := NB277_278.out; have hnc19 := NB278_277.out; obtain ⟨hcz20_0, hcz20_1, hcz20_2, hfz20_0, hfz20_1, hfz20_2⟩ := vF3 BK277.out; obtain ⟨hcz21_0, hcz21_1, hcz21_2, hcz21_3, hcz21_4, hfz21_0, hfz21_1, hfz21_2, hfz21_3, hfz21_4⟩ := vF5 BK278.out))
      replace BK277 := Aside0.mk (blk_drew BK277.out)
      replace BK278 := Aside0.mk (blk_drew BK278.out)
      replace HB := Aside0.mk (below_drew1 HB.out)
      refine start_ (n := 8) (S := fun w' => w'.cell? ⟨gb277, 0, none⟩ = some (.slice A0_0 l0_0.length c0_0) ∧ w'.cell? ⟨gb277, 1, none⟩ = some (.slice A0_1 l0_1.length c0_1) ∧ w'.cell? ⟨gb277, 2, none⟩ = some (.bool a0_2) ∧ w'.cell? ⟨gb278, 0, none⟩ = some (.int .i64 a1_0) ∧ w'.cell? ⟨gb278, 1, none⟩ = some (.int .i64 a1_1) ∧ w'.cell? ⟨gb278, 2, none⟩ = some (.int .i64 a1_2) ∧ w'.cell? ⟨gb278, 3, none⟩ = some (.int .i64 a1_3) ∧ w'.cell? ⟨gb278, 4, none⟩ = some (.int .i64 a1_4)) (ds := []) (mB 8 0) (by kernel_rfl) rfl rfl ⟨(blk_cell BK277.out 0).trans rfl, (blk_cell BK277.out 1).trans rfl, (blk_cell BK277.out 2).trans rfl, (blk_cell BK278.out 0).trans rfl, (blk_cell BK278.out 1).trans rfl, (blk_cell BK278.out 2).trans rfl, (blk_cell BK278.out 3).trans rfl, (blk_cell BK278.out 4).trans rfl⟩ (fun hHeld => ?_); refine with_tabW gimbalref11_greatest.tab4 gimbalref11_greatest.bits4 (fun HT_ HW_ => ?_)
      generalize w18.drew = w22 at BK277 BK278 HB hHeld ⊢
      refine pV_ 1 17 (mB 8 2) HT_ ?_
      refine pV_ 4 20 (mB 8 18) HT_ ?_
      refine tV_ 0 16 (mB 8 19) HT_ HW_ hHeld ?_
      refine tV_ 2 18 (mB 8 23) HT_ HW_ hHeld ?_
      refine tV_ 5 21 (mB 8 55) HT_ HW_ hHeld ?_
      refine on_ 3 (some 19) (mB 8 63) HT_ (fun K hK => ?_)
      refine gs_ Try.func28 #[.agg #[.slice A0_0 l0_0.length c0_0, .slice A0_1 l0_1.length c0_1, .bool a0_2], .int .i64 a1_0] ?_
      with_reducible refine (gimbalref11_Place.calls k _ _ l0_0 _ _ l0_1 a0_2 a1_0 t279 _ ?side1 ?side2 ?side3 ?side4 A9.out).mono ?_
      (case side1 => exact vC (Kd.C_below HR0_0.out HB.out))
      (case side2 => exact HC0_0.out)
      (case side3 => exact vC (Kd.C_below HR0_1.out HB.out))
      (case side4 => exact HC0_1.out)
      rintro e w23 ⟨rfl, hb⟩
      refine ⟨_, rfl, ?_⟩
      replace BK277 := vBb BK277 hb
      replace BK278 := vBb BK278 hb
      replace HB := vWs HB hb
      (try clear hb)
      (try clear hb2)
      (try clear hk)
      (try clear hi)
      refine hK.out _ _ ⟨(blk_cell BK277.out 0).trans rfl, (blk_cell BK277.out 1).trans rfl, (blk_cell BK277.out 2).trans rfl, (blk_cell BK278.out 0).trans rfl, (blk_cell BK278.out 1).trans rfl, (blk_cell BK278.out 2).trans rfl, (blk_cell BK278.out 3).trans rfl, (blk_cell BK278.out 4).trans rfl⟩ (fun hHeld => ?_)
      clear hK K
      refine norm_ (a' := ?_) ?_ ?_
      rotate_left
      ·
       show Act.put _ (some 19) _ = _
       simp only [Act.put, List.setIfInBounds_toArray, List.set_cons_zero, List.set_cons_succ, i64_w, i32_w]
       rfl
      refine on_ 6 (some 22) (mB 8 127) HT_ (fun K hK => ?_)
      refine gs_ Try.func107 #[.int .i64 t279, .int .i64 a1_1] ?_
      with_reducible refine (gimbalref11_Node.calls t279 a1_1 t280 _ A10.out).mono ?_
      rintro e w' ⟨rfl, ⟨nd, rfl⟩⟩
      refine ⟨_, rfl, ?_⟩
      refine hK.out _ _ ⟨(blk_cell BK277.out 0).trans rfl, (blk_cell BK277.out 1).trans rfl, (blk_cell BK277.out 2).trans rfl, (blk_cell BK278.out 0).trans rfl, (blk_cell BK278.out 1).trans rfl, (blk_cell BK278.out 2).trans rfl, (blk_cell BK278.out 3).trans rfl, (blk_cell BK278.out 4).trans rfl⟩ (fun hHeld => ?_)
      clear hK K
      refine norm_ (a' := ?_) ?_ ?_
      rotate_left
      ·
       show Act.put _ (some 22) _ = _
       simp only [Act.put, List.setIfInBounds_toArray, List.set_cons_zero, List.set_cons_succ, i64_w, i32_w]
       rfl
      refine pV_ 7 6 (mB 8 255) HT_ ?_
      refine dn_ HT_ ?_
      obtain ⟨hcz24_0, hcz24_1, hcz24_2, hcz24_3, hcz24_4, hfz24_0, hfz24_1, hfz24_2, hfz24_3, hfz24_4⟩ := vF5 BK278.out
      try go_wp2
      (try (rw [drewN_self w23]; generalize hq_ : World.drewN w23 _ = w23; have n0_ : Aside0 (w23.heap[gb277]? = some (.cells #[.slice A0_0 l0_0.length c0_0, .slice A0_1 l0_1.length c0_1, .bool a0_2] 25 (0, 0))) := ⟨by rw [← hq_]; exact (vB BK277.out)⟩; have n1_ : Aside0 (w23.heap[gb278]? = some (.cells #[.int .i64 a1_0, .int .i64 a1_1, .int .i64 a1_2, .int .i64 a1_3, .int .i64 a1_4] 34 (0, 0))) := ⟨by rw [← hq_]; exact (vB BK278.out)⟩; have n2_ : Aside0 (Below w.heap.size w w23) := ⟨by rw [← hq_]; exact (vW HB.out)⟩; clear BK277 BK278 HB hq_; have BK277 := n0_; have BK278 := n1_; have HB := n2_; clear n0_ n1_ n2_))
      replace BK277 := Aside0.mk (blk_drew BK277.out)
      replace BK278 := Aside0.mk (blk_drew BK278.out)
      replace HB := Aside0.mk (below_drew1 HB.out)
      have p282 : 0 ≤ ((ji13) : Int) := of_decide_eq_true (by first | (with_reducible assumption) | assumption)
      have q282 : (ji13) < (l0_1.length : Int) := of_decide_eq_true (by first | (with_reducible assumption) | assumption)
      obtain ⟨ad282, e282, hx282_0⟩ := Kd.at_int HR0_1.out (ji13) p282 q282
      have hw282_0 := hx282_0
      cases e282
      replace hx282_0 := (HB.out.cell (World.block_lt_of_cell? w _ hx282_0)).trans hx282_0
      replace p282 := eq_true p282
      replace q282 := eq_true q282
      refine start_ (n := 11) (S := fun w' => w'.cell? ⟨gb277, 0, none⟩ = some (.slice A0_0 l0_0.length c0_0) ∧ w'.cell? ⟨gb277, 1, none⟩ = some (.slice (some ad282) l0_1.length c0_1) ∧ w'.cell? ⟨gb277, 2, none⟩ = some (.bool a0_2) ∧ w'.cell? (ad282.add ((ji13)).toNat) = some (.int .i64 (rd l0_1 (ji13)))) (ds := []) (mB 11 0) (by kernel_rfl) rfl rfl ⟨(blk_cell BK277.out 0).trans rfl, (blk_cell BK277.out 1).trans rfl, (blk_cell BK277.out 2).trans rfl, ((HB.out.cell (World.block_lt_of_cell? w _ hw282_0)).trans hw282_0)⟩ (fun hHeld => ?_); refine with_tabW gimbalref11_greatest.tab6 gimbalref11_greatest.bits6 (fun HT_ HW_ => ?_)
      generalize w23.drew = w25 at BK277 BK278 HB hx282_0 hHeld ⊢
      refine pV_ 0 26 (mB 11 1) HT_ ?_
      refine pV_ 2 28 (mB 11 5) HT_ ?_
      refine pV_ 4 30 (mB 11 21) HT_ ?_
      refine pV_ 6 32 (mB 11 85) HT_ ?_
      refine tV_ 1 27 (mB 11 87) HT_ HW_ hHeld ?_
      refine on_ 3 (some 29) (mB 11 95) HT_ (fun K hK => ?_)
      refine gs_ Try.func47 #[.int .i64 t280] ?_
      with_reducible refine (gimbalref11_bar.calls t280 t281 _ A12.out).mono ?_
      rintro e w' ⟨rfl, ⟨nd, rfl⟩⟩
      refine ⟨_, rfl, ?_⟩
      refine hK.out _ _ ⟨(blk_cell BK277.out 0).trans rfl, (blk_cell BK277.out 1).trans rfl, (blk_cell BK277.out 2).trans rfl, ((HB.out.cell (World.block_lt_of_cell? w _ hw282_0)).trans hw282_0)⟩ (fun hHeld => ?_)
      clear hK K
      refine norm_ (a' := ?_) ?_ ?_
      rotate_left
      ·
       show Act.put _ (some 29) _ = _
       simp only [Act.put, List.setIfInBounds_toArray, List.set_cons_zero, List.set_cons_succ, i64_w, i32_w]
       rfl
      refine pV_ 5 31 (mB 11 127) HT_ ?_
      refine pV_ 7 33 (mB 11 255) HT_ ?_
      refine pV_ 8 34 (mB 11 511) HT_ ?_
      refine tV_ 9 35 (mB 11 1023) HT_ HW_ hHeld ?_
      refine pV_ 10 7 (mB 11 2047) HT_ ?_
      refine dn_ HT_ ?_
      try go_wp2
      go_ret
      exact ⟨by first | rfl | (simp [errW_none, errW_some] <;> rfl) | (simp only [← hji13]; first | rfl | (simp [errW_none, errW_some] <;> rfl)) | (simp [*, errW_none, errW_some] <;> rfl) | (simp [wrap64]; done), vW HB.out⟩
     ·
      rw [if_neg c16] at H
      have c16b0 : ((rd l0_1 (ji13)) == 4611686018427387904) = false := beq_eq_false_iff_ne.mpr c16
      have c16b1 : ((rd l0_1 (ji13)) != 4611686018427387904) = true := bne_iff_ne.mpr c16
      replace H := Option.bind_eq_some_iff.mp H
      obtain ⟨t283, A260, H⟩ := H
      try dsimp only at H
      have A26 := Aside0.mk A260
      clear A260
      obtain rfl := Option.some.inj H
      go_enter Try.func91, Try.ntmps91
      try go_wp2_with (first | ((with_reducible refine gate_dst (N := 2) rfl ?_); refine bx_ 2 #[.slice A0_0 l0_0.length c0_0, .slice A0_1 l0_1.length c0_1, .bool a0_2] 25 ?_; intro gb277 hg w27 hbox hb; have BK277 := Aside0.mk (hbox); have GW277 := vS hg HB; have GE277 := vS hg HB; replace HB := vWs HB hb; clear hb hbox hg) | ((with_reducible refine gate_dst (N := 3) rfl ?_); refine bx_ 3 #[.int .i64 a1_0, .int .i64 a1_1, .int .i64 a1_2, .int .i64 a1_3, .int .i64 a1_4] 34 ?_; intro gb278 hg w28 hbox hb; have BK278 := Aside0.mk (hbox); have GW278 := vS hg HB; have GE278 := vS hg HB; replace HB := vWs HB hb; have NB277_278 := vNl hg BK277; have NB278_277 := vNg hg BK277; replace BK277 := vBb BK277 hb; clear hb hbox hg; have hnb29 := NB277_278.out; have hnc29 := NB278_277.out; obtain ⟨hcz30_0, hcz30_1, hcz30_2, hfz30_0, hfz30_1, hfz30_2⟩ := vF3 BK277.out; obtain ⟨hcz31_0, hcz31_1, hcz31_2, hcz31_3, hcz31_4, hfz31_0, hfz31_1, hfz31_2, hfz31_3, hfz31_4⟩ := vF5 BK278.out))
      replace BK277 := Aside0.mk (blk_drew BK277.out)
      replace BK278 := Aside0.mk (blk_drew BK278.out)
      replace HB := Aside0.mk (below_drew1 HB.out)
      refine start_ (n := 8) (S := fun w' => w'.cell? ⟨gb277, 0, none⟩ = some (.slice A0_0 l0_0.length c0_0) ∧ w'.cell? ⟨gb277, 1, none⟩ = some (.slice A0_1 l0_1.length c0_1) ∧ w'.cell? ⟨gb277, 2, none⟩ = some (.bool a0_2) ∧ w'.cell? ⟨gb278, 0, none⟩ = some (.int .i64 a1_0) ∧ w'.cell? ⟨gb278, 1, none⟩ = some (.int .i64 a1_1) ∧ w'.cell? ⟨gb278, 2, none⟩ = some (.int .i64 a1_2) ∧ w'.cell? ⟨gb278, 3, none⟩ = some (.int .i64 a1_3) ∧ w'.cell? ⟨gb278, 4, none⟩ = some (.int .i64 a1_4)) (ds := []) (mB 8 0) (by kernel_rfl) rfl rfl ⟨(blk_cell BK277.out 0).trans rfl, (blk_cell BK277.out 1).trans rfl, (blk_cell BK277.out 2).trans rfl, (blk_cell BK278.out 0).trans rfl, (blk_cell BK278.out 1).trans rfl, (blk_cell BK278.out 2).trans rfl, (blk_cell BK278.out 3).trans rfl, (blk_cell BK278.out 4).trans rfl⟩ (fun hHeld => ?_); refine with_tabW gimbalref11_greatest.tab4 gimbalref11_greatest.bits4 (fun HT_ HW_ => ?_)
      generalize w28.drew = w32 at BK277 BK278 HB hHeld ⊢
      refine pV_ 1 17 (mB 8 2) HT_ ?_
      refine pV_ 4 20 (mB 8 18) HT_ ?_
      refine tV_ 0 16 (mB 8 19) HT_ HW_ hHeld ?_
      refine tV_ 2 18 (mB 8 23) HT_ HW_ hHeld ?_
      refine tV_ 5 21 (mB 8 55) HT_ HW_ hHeld ?_
      refine on_ 3 (some 19) (mB 8 63) HT_ (fun K hK => ?_)
      refine gs_ Try.func28 #[.agg #[.slice A0_0 l0_0.length c0_0, .slice A0_1 l0_1.length c0_1, .bool a0_2], .int .i64 a1_0] ?_
      with_reducible refine (gimbalref11_Place.calls k _ _ l0_0 _ _ l0_1 a0_2 a1_0 t279 _ ?side1 ?side2 ?side3 ?side4 A9.out).mono ?_
      (case side1 => exact vC (Kd.C_below HR0_0.out HB.out))
      (case side2 => exact HC0_0.out)
      (case side3 => exact vC (Kd.C_below HR0_1.out HB.out))
      (case side4 => exact HC0_1.out)
      rintro e w33 ⟨rfl, hb⟩
      refine ⟨_, rfl, ?_⟩
      replace BK277 := vBb BK277 hb
      replace BK278 := vBb BK278 hb
      replace HB := vWs HB hb
      (try clear hb)
      (try clear hb2)
      (try clear hk)
      (try clear hi)
      refine hK.out _ _ ⟨(blk_cell BK277.out 0).trans rfl, (blk_cell BK277.out 1).trans rfl, (blk_cell BK277.out 2).trans rfl, (blk_cell BK278.out 0).trans rfl, (blk_cell BK278.out 1).trans rfl, (blk_cell BK278.out 2).trans rfl, (blk_cell BK278.out 3).trans rfl, (blk_cell BK278.out 4).trans rfl⟩ (fun hHeld => ?_)
      clear hK K
      refine norm_ (a' := ?_) ?_ ?_
      rotate_left
      ·
       show Act.put _ (some 19) _ = _
       simp only [Act.put, List.setIfInBounds_toArray, List.set_cons_zero, List.set_cons_succ, i64_w, i32_w]
       rfl
      refine on_ 6 (some 22) (mB 8 127) HT_ (fun K hK => ?_)
      refine gs_ Try.func107 #[.int .i64 t279, .int .i64 a1_1] ?_
      with_reducible refine (gimbalref11_Node.calls t279 a1_1 t280 _ A10.out).mono ?_
      rintro e w' ⟨rfl, ⟨nd, rfl⟩⟩
      refine ⟨_, rfl, ?_⟩
      refine hK.out _ _ ⟨(blk_cell BK277.out 0).trans rfl, (blk_cell BK277.out 1).trans rfl, (blk_cell BK277.out 2).trans rfl, (blk_cell BK278.out 0).trans rfl, (blk_cell BK278.out 1).trans rfl, (blk_cell BK278.out 2).trans rfl, (blk_cell BK278.out 3).trans rfl, (blk_cell BK278.out 4).trans rfl⟩ (fun hHeld => ?_)
      clear hK K
      refine norm_ (a' := ?_) ?_ ?_
      rotate_left
      ·
       show Act.put _ (some 22) _ = _
       simp only [Act.put, List.setIfInBounds_toArray, List.set_cons_zero, List.set_cons_succ, i64_w, i32_w]
       rfl
      refine pV_ 7 6 (mB 8 255) HT_ ?_
      refine dn_ HT_ ?_
      obtain ⟨hcz34_0, hcz34_1, hcz34_2, hcz34_3, hcz34_4, hfz34_0, hfz34_1, hfz34_2, hfz34_3, hfz34_4⟩ := vF5 BK278.out
      try go_wp2
      (try (rw [drewN_self w33]; generalize hq_ : World.drewN w33 _ = w33; have n0_ : Aside0 (w33.heap[gb277]? = some (.cells #[.slice A0_0 l0_0.length c0_0, .slice A0_1 l0_1.length c0_1, .bool a0_2] 25 (0, 0))) := ⟨by rw [← hq_]; exact (vB BK277.out)⟩; have n1_ : Aside0 (w33.heap[gb278]? = some (.cells #[.int .i64 a1_0, .int .i64 a1_1, .int .i64 a1_2, .int .i64 a1_3, .int .i64 a1_4] 34 (0, 0))) := ⟨by rw [← hq_]; exact (vB BK278.out)⟩; have n2_ : Aside0 (Below w.heap.size w w33) := ⟨by rw [← hq_]; exact (vW HB.out)⟩; clear BK277 BK278 HB hq_; have BK277 := n0_; have BK278 := n1_; have HB := n2_; clear n0_ n1_ n2_))
      replace BK277 := Aside0.mk (blk_drew BK277.out)
      replace BK278 := Aside0.mk (blk_drew BK278.out)
      replace HB := Aside0.mk (below_drew1 HB.out)
      have p282 : 0 ≤ ((ji13) : Int) := of_decide_eq_true (by first | (with_reducible assumption) | assumption)
      have q282 : (ji13) < (l0_1.length : Int) := of_decide_eq_true (by first | (with_reducible assumption) | assumption)
      obtain ⟨ad282, e282, hx282_0⟩ := Kd.at_int HR0_1.out (ji13) p282 q282
      have hw282_0 := hx282_0
      cases e282
      replace hx282_0 := (HB.out.cell (World.block_lt_of_cell? w _ hx282_0)).trans hx282_0
      replace p282 := eq_true p282
      replace q282 := eq_true q282
      refine start_ (n := 11) (S := fun w' => w'.cell? ⟨gb277, 0, none⟩ = some (.slice A0_0 l0_0.length c0_0) ∧ w'.cell? ⟨gb277, 1, none⟩ = some (.slice (some ad282) l0_1.length c0_1) ∧ w'.cell? ⟨gb277, 2, none⟩ = some (.bool a0_2) ∧ w'.cell? (ad282.add ((ji13)).toNat) = some (.int .i64 (rd l0_1 (ji13)))) (ds := []) (mB 11 0) (by kernel_rfl) rfl rfl ⟨(blk_cell BK277.out 0).trans rfl, (blk_cell BK277.out 1).trans rfl, (blk_cell BK277.out 2).trans rfl, ((HB.out.cell (World.block_lt_of_cell? w _ hw282_0)).trans hw282_0)⟩ (fun hHeld => ?_); refine with_tabW gimbalref11_greatest.tab6 gimbalref11_greatest.bits6 (fun HT_ HW_ => ?_)
      generalize w33.drew = w35 at BK277 BK278 HB hx282_0 hHeld ⊢
      refine pV_ 0 26 (mB 11 1) HT_ ?_
      refine pV_ 2 28 (mB 11 5) HT_ ?_
      refine pV_ 4 30 (mB 11 21) HT_ ?_
      refine pV_ 6 32 (mB 11 85) HT_ ?_
      refine tV_ 1 27 (mB 11 87) HT_ HW_ hHeld ?_
      refine on_ 3 (some 29) (mB 11 95) HT_ (fun K hK => ?_)
      refine gs_ Try.func47 #[.int .i64 t280] ?_
      with_reducible refine (gimbalref11_bar.calls t280 t281 _ A12.out).mono ?_
      rintro e w' ⟨rfl, ⟨nd, rfl⟩⟩
      refine ⟨_, rfl, ?_⟩
      refine hK.out _ _ ⟨(blk_cell BK277.out 0).trans rfl, (blk_cell BK277.out 1).trans rfl, (blk_cell BK277.out 2).trans rfl, ((HB.out.cell (World.block_lt_of_cell? w _ hw282_0)).trans hw282_0)⟩ (fun hHeld => ?_)
      clear hK K
      refine norm_ (a' := ?_) ?_ ?_
      rotate_left
      ·
       show Act.put _ (some 29) _ = _
       simp only [Act.put, List.setIfInBounds_toArray, List.set_cons_zero, List.set_cons_succ, i64_w, i32_w]
       rfl
      refine pV_ 5 31 (mB 11 127) HT_ ?_
      refine pV_ 7 33 (mB 11 255) HT_ ?_
      refine pV_ 8 34 (mB 11 511) HT_ ?_
      refine tV_ 9 35 (mB 11 1023) HT_ HW_ hHeld ?_
      refine pV_ 10 7 (mB 11 2047) HT_ ?_
      refine dn_ HT_ ?_
      try go_wp2_with ((with_reducible refine gate_callee (f := 119) rfl ?_); refine goesL_ (some 39) rfl rfl Try.func119 (by kernel_rfl) rfl #[.int .i64 (rd l0_1 (ji13))] rfl (by (try simp only [List.map_toArray, List.map_cons, List.map_nil]); first | done | (simp only [hji13]; rfl) | rfl | (simp only [List.length_drop, List.length_take]; rfl)) ?_; (with_reducible refine (gimbalref11_halved.calls (rd l0_1 (ji13)) t283 _ A26.out).mono ?_); rintro e w' ⟨rfl, ⟨nd, rfl⟩⟩; refine ⟨_, rfl, ?_⟩)
      go_ret
      exact ⟨by first | rfl | (simp [errW_none, errW_some] <;> rfl) | (simp only [← hji13]; first | rfl | (simp [errW_none, errW_some] <;> rfl)) | (simp [*, errW_none, errW_some] <;> rfl) | (simp [wrap64]; done), vW HB.out⟩
    ·
     rw [if_neg c15] at H
     exact absurd H (by simp)
   ·
    rw [if_neg c14] at H
    exact absurd H (by simp)
  ·
   rw [if_neg c11] at H
   have c11b0 : (a1_3 == 0) = false := beq_eq_false_iff_ne.mpr c11
   have c11b1 : (a1_3 != 0) = true := bne_iff_ne.mpr c11
   replace H := Option.bind_eq_some_iff.mp H
   obtain ⟨t284, A360, H⟩ := H
   try dsimp only at H
   have A36 := Aside0.mk A360
   clear A360
   replace H := Option.bind_eq_some_iff.mp H
   obtain ⟨t285, A370, H⟩ := H
   try dsimp only at H
   have A37 := Aside0.mk A370
   clear A370
   replace H := Option.bind_eq_some_iff.mp H
   obtain ⟨t286, A380, H⟩ := H
   try dsimp only at H
   have A38 := Aside0.mk A380
   clear A380
   obtain ⟨ji39, hji39⟩ : ∃ j_ : Int, (wrap64 ((wrap64 (t286 * (wrap64 (2 * (l0_0.length : Int))))) + t285)) = j_ := ⟨_, rfl⟩
   first | rw [hji39] at H | simp only [hji39] at H
   (try rw [hji39] at A9)
   (try rw [hji39] at A10)
   (try rw [hji39] at A36)
   (try rw [hji39] at A37)
   (try rw [hji39] at A38)
   have hji39w : (IntKind.i64.wrap ((wrap64 (t286 * (wrap64 (2 * (l0_0.length : Int))))) + t285)) = ji39 := (i64_w _).trans hji39
   by_cases c40 : 0 ≤ (ji39)
   ·
    rw [if_pos c40] at H
    have c40b0 : decide (0 ≤ (ji39)) = true := decide_eq_true c40
    clear c40
    by_cases c41 : (ji39) < (l0_1.length : Int)
    ·
     rw [if_pos c41] at H
     have c41b0 : decide ((ji39) < (l0_1.length : Int)) = true := decide_eq_true c41
     clear c41
     obtain rfl := Option.some.inj H
     go_enter Try.func91, Try.ntmps91
     try go_wp2_with (first | ((with_reducible refine gate_dst (N := 2) rfl ?_); refine bx_ 2 #[.slice A0_0 l0_0.length c0_0, .slice A0_1 l0_1.length c0_1, .bool a0_2] 25 ?_; intro gb277 hg w42 hbox hb; have BK277 := Aside0.mk (hbox); have GW277 := vS hg HB; have GE277 := vS hg HB; replace HB := vWs HB hb; clear hb hbox hg) | ((with_reducible refine gate_dst (N := 3) rfl ?_); refine bx_ 3 #[.int .i64 a1_0, .int .i64 a1_1, .int .i64 a1_2, .int .i64 a1_3, .int .i64 a1_4] 34 ?_; intro gb278 hg w43 hbox hb; have BK278 := Aside0.mk (hbox); have GW278 := vS hg HB; have GE278 := vS hg HB; replace HB := vWs HB hb; have NB277_278 := vNl hg BK277; have NB278_277 := vNg hg BK277; replace BK277 := vBb BK277 hb; clear hb hbox hg; have hnb44 := NB277_278.out; have hnc44 := NB278_277.out; obtain ⟨hcz45_0, hcz45_1, hcz45_2, hfz45_0, hfz45_1, hfz45_2⟩ := vF3 BK277.out; obtain ⟨hcz46_0, hcz46_1, hcz46_2, hcz46_3, hcz46_4, hfz46_0, hfz46_1, hfz46_2, hfz46_3, hfz46_4⟩ := vF5 BK278.out))
     replace BK277 := Aside0.mk (blk_drew BK277.out)
     replace BK278 := Aside0.mk (blk_drew BK278.out)
     replace HB := Aside0.mk (below_drew1 HB.out)
     refine start_ (n := 8) (S := fun w' => w'.cell? ⟨gb277, 0, none⟩ = some (.slice A0_0 l0_0.length c0_0) ∧ w'.cell? ⟨gb277, 1, none⟩ = some (.slice A0_1 l0_1.length c0_1) ∧ w'.cell? ⟨gb277, 2, none⟩ = some (.bool a0_2) ∧ w'.cell? ⟨gb278, 0, none⟩ = some (.int .i64 a1_0) ∧ w'.cell? ⟨gb278, 1, none⟩ = some (.int .i64 a1_1) ∧ w'.cell? ⟨gb278, 2, none⟩ = some (.int .i64 a1_2) ∧ w'.cell? ⟨gb278, 3, none⟩ = some (.int .i64 a1_3) ∧ w'.cell? ⟨gb278, 4, none⟩ = some (.int .i64 a1_4)) (ds := []) (mB 8 0) (by kernel_rfl) rfl rfl ⟨(blk_cell BK277.out 0).trans rfl, (blk_cell BK277.out 1).trans rfl, (blk_cell BK277.out 2).trans rfl, (blk_cell BK278.out 0).trans rfl, (blk_cell BK278.out 1).trans rfl, (blk_cell BK278.out 2).trans rfl, (blk_cell BK278.out 3).trans rfl, (blk_cell BK278.out 4).trans rfl⟩ (fun hHeld => ?_); refine with_tabW gimbalref11_greatest.tab4 gimbalref11_greatest.bits4 (fun HT_ HW_ => ?_)
     generalize w43.drew = w47 at BK277 BK278 HB hHeld ⊢
     refine pV_ 1 17 (mB 8 2) HT_ ?_
     refine pV_ 4 20 (mB 8 18) HT_ ?_
     refine tV_ 0 16 (mB 8 19) HT_ HW_ hHeld ?_
     refine tV_ 2 18 (mB 8 23) HT_ HW_ hHeld ?_
     refine tV_ 5 21 (mB 8 55) HT_ HW_ hHeld ?_
     refine on_ 3 (some 19) (mB 8 63) HT_ (fun K hK => ?_)
     refine gs_ Try.func28 #[.agg #[.slice A0_0 l0_0.length c0_0, .slice A0_1 l0_1.length c0_1, .bool a0_2], .int .i64 a1_0] ?_
     with_reducible refine (gimbalref11_Place.calls k _ _ l0_0 _ _ l0_1 a0_2 a1_0 t279 _ ?side1 ?side2 ?side3 ?side4 A9.out).mono ?_
     (case side1 => exact vC (Kd.C_below HR0_0.out HB.out))
     (case side2 => exact HC0_0.out)
     (case side3 => exact vC (Kd.C_below HR0_1.out HB.out))
     (case side4 => exact HC0_1.out)
     rintro e w48 ⟨rfl, hb⟩
     refine ⟨_, rfl, ?_⟩
     replace BK277 := vBb BK277 hb
     replace BK278 := vBb BK278 hb
     replace HB := vWs HB hb
     (try clear hb)
     (try clear hb2)
     (try clear hk)
     (try clear hi)
     refine hK.out _ _ ⟨(blk_cell BK277.out 0).trans rfl, (blk_cell BK277.out 1).trans rfl, (blk_cell BK277.out 2).trans rfl, (blk_cell BK278.out 0).trans rfl, (blk_cell BK278.out 1).trans rfl, (blk_cell BK278.out 2).trans rfl, (blk_cell BK278.out 3).trans rfl, (blk_cell BK278.out 4).trans rfl⟩ (fun hHeld => ?_)
     clear hK K
     refine norm_ (a' := ?_) ?_ ?_
     rotate_left
     ·
      show Act.put _ (some 19) _ = _
      simp only [Act.put, List.setIfInBounds_toArray, List.set_cons_zero, List.set_cons_succ, i64_w, i32_w]
      rfl
     refine on_ 6 (some 22) (mB 8 127) HT_ (fun K hK => ?_)
     refine gs_ Try.func107 #[.int .i64 t279, .int .i64 a1_1] ?_
     with_reducible refine (gimbalref11_Node.calls t279 a1_1 t280 _ A10.out).mono ?_
     rintro e w' ⟨rfl, ⟨nd, rfl⟩⟩
     refine ⟨_, rfl, ?_⟩
     refine hK.out _ _ ⟨(blk_cell BK277.out 0).trans rfl, (blk_cell BK277.out 1).trans rfl, (blk_cell BK277.out 2).trans rfl, (blk_cell BK278.out 0).trans rfl, (blk_cell BK278.out 1).trans rfl, (blk_cell BK278.out 2).trans rfl, (blk_cell BK278.out 3).trans rfl, (blk_cell BK278.out 4).trans rfl⟩ (fun hHeld => ?_)
     clear hK K
     refine norm_ (a' := ?_) ?_ ?_
     rotate_left
     ·
      show Act.put _ (some 22) _ = _
      simp only [Act.put, List.setIfInBounds_toArray, List.set_cons_zero, List.set_cons_succ, i64_w, i32_w]
      rfl
     refine pV_ 7 6 (mB 8 255) HT_ ?_
     refine dn_ HT_ ?_
     obtain ⟨hcz49_0, hcz49_1, hcz49_2, hcz49_3, hcz49_4, hfz49_0, hfz49_1, hfz49_2, hfz49_3, hfz49_4⟩ := vF5 BK278.out
     try go_wp2
     (try (rw [drewN_self w48]; generalize hq_ : World.drewN w48 _ = w48; have n0_ : Aside0 (w48.heap[gb277]? = some (.cells #[.slice A0_0 l0_0.length c0_0, .slice A0_1 l0_1.length c0_1, .bool a0_2] 25 (0, 0))) := ⟨by rw [← hq_]; exact (vB BK277.out)⟩; have n1_ : Aside0 (w48.heap[gb278]? = some (.cells #[.int .i64 a1_0, .int .i64 a1_1, .int .i64 a1_2, .int .i64 a1_3, .int .i64 a1_4] 34 (0, 0))) := ⟨by rw [← hq_]; exact (vB BK278.out)⟩; have n2_ : Aside0 (Below w.heap.size w w48) := ⟨by rw [← hq_]; exact (vW HB.out)⟩; clear BK277 BK278 HB hq_; have BK277 := n0_; have BK278 := n1_; have HB := n2_; clear n0_ n1_ n2_))
     replace BK277 := Aside0.mk (blk_drew BK277.out)
     replace BK278 := Aside0.mk (blk_drew BK278.out)
     replace HB := Aside0.mk (below_drew1 HB.out)
     refine start_ (n := 8) (S := fun w' => w'.cell? ⟨gb277, 0, none⟩ = some (.slice A0_0 l0_0.length c0_0) ∧ w'.cell? ⟨gb277, 1, none⟩ = some (.slice A0_1 l0_1.length c0_1) ∧ w'.cell? ⟨gb277, 2, none⟩ = some (.bool a0_2) ∧ w'.cell? ⟨gb278, 0, none⟩ = some (.int .i64 a1_0) ∧ w'.cell? ⟨gb278, 1, none⟩ = some (.int .i64 a1_1) ∧ w'.cell? ⟨gb278, 2, none⟩ = some (.int .i64 a1_2) ∧ w'.cell? ⟨gb278, 3, none⟩ = some (.int .i64 a1_3) ∧ w'.cell? ⟨gb278, 4, none⟩ = some (.int .i64 a1_4)) (ds := []) (mB 8 0) (by kernel_rfl) rfl rfl ⟨(blk_cell BK277.out 0).trans rfl, (blk_cell BK277.out 1).trans rfl, (blk_cell BK277.out 2).trans rfl, (blk_cell BK278.out 0).trans rfl, (blk_cell BK278.out 1).trans rfl, (blk_cell BK278.out 2).trans rfl, (blk_cell BK278.out 3).trans rfl, (blk_cell BK278.out 4).trans rfl⟩ (fun hHeld => ?_); refine with_tabW gimbalref11_greatest.tab10 gimbalref11_greatest.bits10 (fun HT_ HW_ => ?_)
     generalize w48.drew = w50 at BK277 BK278 HB hHeld ⊢
     refine pV_ 1 41 (mB 8 2) HT_ ?_
     refine pV_ 4 44 (mB 8 18) HT_ ?_
     refine tV_ 0 40 (mB 8 19) HT_ HW_ hHeld ?_
     refine tV_ 2 42 (mB 8 23) HT_ HW_ hHeld ?_
     refine tV_ 5 45 (mB 8 55) HT_ HW_ hHeld ?_
     refine on_ 3 (some 43) (mB 8 63) HT_ (fun K hK => ?_)
     refine gs_ Try.func28 #[.agg #[.slice A0_0 l0_0.length c0_0, .slice A0_1 l0_1.length c0_1, .bool a0_2], .int .i64 a1_2] ?_
     with_reducible refine (gimbalref11_Place.calls k _ _ l0_0 _ _ l0_1 a0_2 a1_2 t284 _ ?side1 ?side2 ?side3 ?side4 A36.out).mono ?_
     (case side1 => exact vC (Kd.C_below HR0_0.out HB.out))
     (case side2 => exact HC0_0.out)
     (case side3 => exact vC (Kd.C_below HR0_1.out HB.out))
     (case side4 => exact HC0_1.out)
     rintro e w51 ⟨rfl, hb⟩
     refine ⟨_, rfl, ?_⟩
     replace BK277 := vBb BK277 hb
     replace BK278 := vBb BK278 hb
     replace HB := vWs HB hb
     (try clear hb)
     (try clear hb2)
     (try clear hk)
     (try clear hi)
     refine hK.out _ _ ⟨(blk_cell BK277.out 0).trans rfl, (blk_cell BK277.out 1).trans rfl, (blk_cell BK277.out 2).trans rfl, (blk_cell BK278.out 0).trans rfl, (blk_cell BK278.out 1).trans rfl, (blk_cell BK278.out 2).trans rfl, (blk_cell BK278.out 3).trans rfl, (blk_cell BK278.out 4).trans rfl⟩ (fun hHeld => ?_)
     clear hK K
     refine norm_ (a' := ?_) ?_ ?_
     rotate_left
     ·
      show Act.put _ (some 43) _ = _
      simp only [Act.put, List.setIfInBounds_toArray, List.set_cons_zero, List.set_cons_succ, i64_w, i32_w]
      rfl
     refine on_ 6 (some 46) (mB 8 127) HT_ (fun K hK => ?_)
     refine gs_ Try.func107 #[.int .i64 t284, .int .i64 a1_3] ?_
     with_reducible refine (gimbalref11_Node.calls t284 a1_3 t285 _ A37.out).mono ?_
     rintro e w' ⟨rfl, ⟨nd, rfl⟩⟩
     refine ⟨_, rfl, ?_⟩
     refine hK.out _ _ ⟨(blk_cell BK277.out 0).trans rfl, (blk_cell BK277.out 1).trans rfl, (blk_cell BK277.out 2).trans rfl, (blk_cell BK278.out 0).trans rfl, (blk_cell BK278.out 1).trans rfl, (blk_cell BK278.out 2).trans rfl, (blk_cell BK278.out 3).trans rfl, (blk_cell BK278.out 4).trans rfl⟩ (fun hHeld => ?_)
     clear hK K
     refine norm_ (a' := ?_) ?_ ?_
     rotate_left
     ·
      show Act.put _ (some 46) _ = _
      simp only [Act.put, List.setIfInBounds_toArray, List.set_cons_zero, List.set_cons_succ, i64_w, i32_w]
      rfl
     refine pV_ 7 8 (mB 8 255) HT_ ?_
     refine dn_ HT_ ?_
     try go_wp2
     (try (rw [drewN_self w51]; generalize hq_ : World.drewN w51 _ = w51; have n0_ : Aside0 (w51.heap[gb277]? = some (.cells #[.slice A0_0 l0_0.length c0_0, .slice A0_1 l0_1.length c0_1, .bool a0_2] 25 (0, 0))) := ⟨by rw [← hq_]; exact (vB BK277.out)⟩; have n1_ : Aside0 (w51.heap[gb278]? = some (.cells #[.int .i64 a1_0, .int .i64 a1_1, .int .i64 a1_2, .int .i64 a1_3, .int .i64 a1_4] 34 (0, 0))) := ⟨by rw [← hq_]; exact (vB BK278.out)⟩; have n2_ : Aside0 (Below w.heap.size w w51) := ⟨by rw [← hq_]; exact (vW HB.out)⟩; clear BK277 BK278 HB hq_; have BK277 := n0_; have BK278 := n1_; have HB := n2_; clear n0_ n1_ n2_))
     replace BK277 := Aside0.mk (blk_drew BK277.out)
     replace BK278 := Aside0.mk (blk_drew BK278.out)
     replace HB := Aside0.mk (below_drew1 HB.out)
     have p287 : 0 ≤ ((ji39) : Int) := of_decide_eq_true (by first | (with_reducible assumption) | assumption)
     have q287 : (ji39) < (l0_1.length : Int) := of_decide_eq_true (by first | (with_reducible assumption) | assumption)
     obtain ⟨ad287, e287, hx287_0⟩ := Kd.at_int HR0_1.out (ji39) p287 q287
     have hw287_0 := hx287_0
     cases e287
     replace hx287_0 := (HB.out.cell (World.block_lt_of_cell? w _ hx287_0)).trans hx287_0
     replace p287 := eq_true p287
     replace q287 := eq_true q287
     refine start_ (n := 11) (S := fun w' => w'.cell? ⟨gb277, 0, none⟩ = some (.slice A0_0 l0_0.length c0_0) ∧ w'.cell? ⟨gb277, 1, none⟩ = some (.slice (some ad287) l0_1.length c0_1) ∧ w'.cell? ⟨gb277, 2, none⟩ = some (.bool a0_2) ∧ w'.cell? (ad287.add ((ji39)).toNat) = some (.int .i64 (rd l0_1 (ji39)))) (ds := []) (mB 11 0) (by kernel_rfl) rfl rfl ⟨(blk_cell BK277.out 0).trans rfl, (blk_cell BK277.out 1).trans rfl, (blk_cell BK277.out 2).trans rfl, ((HB.out.cell (World.block_lt_of_cell? w _ hw287_0)).trans hw287_0)⟩ (fun hHeld => ?_); refine with_tabW gimbalref11_greatest.tab11 gimbalref11_greatest.bits11 (fun HT_ HW_ => ?_)
     generalize w51.drew = w52 at BK277 BK278 HB hx287_0 hHeld ⊢
     refine pV_ 0 47 (mB 11 1) HT_ ?_
     refine pV_ 2 49 (mB 11 5) HT_ ?_
     refine pV_ 4 51 (mB 11 21) HT_ ?_
     refine pV_ 6 53 (mB 11 85) HT_ ?_
     refine tV_ 1 48 (mB 11 87) HT_ HW_ hHeld ?_
     refine on_ 3 (some 50) (mB 11 95) HT_ (fun K hK => ?_)
     refine gs_ Try.func47 #[.int .i64 t280] ?_
     with_reducible refine (gimbalref11_bar.calls t280 t286 _ A38.out).mono ?_
     rintro e w' ⟨rfl, ⟨nd, rfl⟩⟩
     refine ⟨_, rfl, ?_⟩
     refine hK.out _ _ ⟨(blk_cell BK277.out 0).trans rfl, (blk_cell BK277.out 1).trans rfl, (blk_cell BK277.out 2).trans rfl, ((HB.out.cell (World.block_lt_of_cell? w _ hw287_0)).trans hw287_0)⟩ (fun hHeld => ?_)
     clear hK K
     refine norm_ (a' := ?_) ?_ ?_
     rotate_left
     ·
      show Act.put _ (some 50) _ = _
      simp only [Act.put, List.setIfInBounds_toArray, List.set_cons_zero, List.set_cons_succ, i64_w, i32_w]
      rfl
     refine pV_ 5 52 (mB 11 127) HT_ ?_
     refine pV_ 7 54 (mB 11 255) HT_ ?_
     refine pV_ 8 55 (mB 11 511) HT_ ?_
     refine tV_ 9 56 (mB 11 1023) HT_ HW_ hHeld ?_
     refine pV_ 10 4 (mB 11 2047) HT_ ?_
     refine dn_ HT_ ?_
     try go_wp2
     go_ret
     exact ⟨by first | rfl | (simp [errW_none, errW_some] <;> rfl) | (simp only [← hji39]; first | rfl | (simp [errW_none, errW_some] <;> rfl)) | (simp [*, errW_none, errW_some] <;> rfl) | (simp [wrap64]; done), vW HB.out⟩
    ·
     rw [if_neg c41] at H
     exact absurd H (by simp)
   ·
    rw [if_neg c40] at H
    exact absurd H (by simp)
def octop_node.f (a0 : Int) (a1 : Int) : Option (Int) := if a1 < 0 then (some (wrap64 ((wrap64 (2 * a0)) + 1))) else (some (wrap64 (2 * a0)))
theorem octop_node.calls (a0 : Int) (a1 : Int) (r : Int) (w : World) (h : octop_node.f a0 a1 = some r) :
 Calls Try.prog 101 #[.int .i64 a0, .int .i64 a1] w fun e w' => e = .returned (.int .i64 r) ∧ Drawn0 w w' := by
 have H : (if a1 < 0 then (some (wrap64 ((wrap64 (2 * a0)) + 1))) else (some (wrap64 (2 * a0)))) = some r := h
 clear h
 by_cases c3 : a1 < 0
 ·
  rw [if_pos c3] at H
  have c3b0 : decide (a1 < 0) = true := decide_eq_true c3
  clear c3
  obtain rfl := Option.some.inj H
  go_enter Try.func101, Try.ntmps101
  go_wp2
  go_ret
  exact ⟨by first | rfl | (simp; done) | (simp [*]; done), by repeat (first | exact Drawn0.refl _ | apply Drawn0.step)⟩
 ·
  rw [if_neg c3] at H
  have c3b0 : decide (a1 < 0) = false := decide_eq_false c3
  clear c3
  obtain rfl := Option.some.inj H
  go_enter Try.func101, Try.ntmps101
  go_wp2
  go_ret
  exact ⟨by first | rfl | (simp; done) | (simp [*]; done), by repeat (first | exact Drawn0.refl _ | apply Drawn0.step)⟩
def octop_taken.f (a0 : Int) : Option (Int) := if a0 > 1099511627776 then (some 4611686018427387904) else (some (mx a0 (-1099511627776)))
theorem octop_taken.calls (a0 : Int) (r : Int) (w : World) (h : octop_taken.f a0 = some r) :
 Calls Try.prog 102 #[.int .i64 a0] w fun e w' => e = .returned (.int .i64 r) ∧ Below w.heap.size w w' := by
 have HB := Aside0.mk (Below.refl w.heap.size w)
 have H : (if a0 > 1099511627776 then (some 4611686018427387904) else (some (mx a0 (-1099511627776)))) = some r := h
 clear h
 by_cases c2 : a0 > 1099511627776
 ·
  rw [if_pos c2] at H
  have c2b0 : decide (1099511627776 < a0) = true := decide_eq_true c2
  clear c2
  obtain rfl := Option.some.inj H
  go_enter Try.func102, Try.ntmps102
  go_wp2
  go_ret
  exact ⟨vE, by repeat (first | (with_reducible first | exact HB.out | apply below_alloc | apply pw_below_drewN | apply below_drew1) | exact HB.out)⟩
 ·
  rw [if_neg c2] at H
  have c2b0 : decide (1099511627776 < a0) = false := decide_eq_false c2
  clear c2
  obtain ⟨ji3, hji3⟩ : ∃ j_ : Int, (mx a0 (-1099511627776)) = j_ := ⟨_, rfl⟩
  replace H : (some ji3) = some r := by first | (rw [hji3] at H; exact H) | (simp only [hji3] at H ⊢; exact H)
  have hji3_ : (if a0 < (-1099511627776) then (-1099511627776) else a0) = ji3 := hji3
  obtain rfl := Option.some.inj H
  go_enter Try.func102, Try.ntmps102
  go_wp2
  go_ret
  exact ⟨by first | rfl | (simp [errW_none, errW_some] <;> rfl) | (simp only [← hji3]; first | rfl | (simp [errW_none, errW_some] <;> rfl)) | (simp [*, errW_none, errW_some] <;> rfl) | (simp [wrap64]; done), by repeat (first | (with_reducible first | exact HB.out | apply below_alloc | apply pw_below_drewN | apply below_drew1) | exact HB.out)⟩
def itv_None.f (a0_0 : Int) (a0_1 : Int) : Option (Bool) := some (decide (a0_0 > a0_1))
theorem itv_None.calls (a0_0 : Int) (a0_1 : Int) (r : Bool) (w : World) (h : itv_None.f a0_0 a0_1 = some r) :
 Calls Try.prog 57 #[.agg #[.int .i64 a0_0, .int .i64 a0_1]] w fun e w' => e = .returned (.bool r) ∧ Below w.heap.size w w' := by
 have hu36 := Try.underlying36
 have HB := Aside0.mk (Below.refl w.heap.size w)
 have H : (some (decide (a0_0 > a0_1))) = some r := h
 clear h
 obtain rfl := Option.some.inj H
 go_enter Try.func57, Try.ntmps57
 go_wp2_with (first | ((with_reducible refine gate_dst (N := 1) rfl ?_); refine bx_ 1 #[.int .i64 a0_0, .int .i64 a0_1] 36 ?_; intro gb101 hg w2 hbox hb; have n0_ := Aside0.mk (below_step (by repeat (first | (with_reducible first | exact HB.out | apply below_alloc | apply pw_below_drewN | apply below_drew1) | exact HB.out)) hb); have n1_ := Aside0.mk (hbox); have n2_ := Aside0.mk ((by rw [hg]; exact (below_size (by repeat (first | (with_reducible first | exact HB.out | apply below_alloc | apply pw_below_drewN | apply below_drew1) | exact HB.out))) : w.heap.size ≤ gb101)); have n3_ := Aside0.mk ((by rw [hg]; exact (below_size (by repeat (first | (with_reducible first | exact HB.out | apply below_alloc | apply pw_below_drewN | apply below_drew1) | exact HB.out))) : w.heap.size ≤ gb101)); clear HB; have HB := n0_; have BK101 := n1_; have GW101 := n2_; have GE101 := n3_; clear n0_ n1_ n2_ n3_; clear hb hbox hg; have hcz3_0 : w2.cell? ⟨gb101, 0, none⟩ = some (.int .i64 a0_0) := (blk_cell BK101.out 0).trans rfl; have hcz3_1 : w2.cell? ⟨gb101, 1, none⟩ = some (.int .i64 a0_1) := (blk_cell BK101.out 1).trans rfl; have hfz3_0 := blk_frozen BK101.out 0; have hfz3_1 := blk_frozen BK101.out 1))
 go_ret
 exact ⟨vE, by repeat (first | (with_reducible first | exact HB.out | apply below_alloc | apply pw_below_drewN | apply below_drew1 | refine below_set ?_ GE101.out) | exact HB.out)⟩
def octop_less.f (a0 : Int) (a1 : Int) (a2 : Int) : Option (Int × Int × Int × Int × Int) := if a0 < a2 then (some (a0, 1, a2, wrap64 (-a1), 0)) else (some (a2, wrap64 (-a1), a0, 1, 0))
theorem octop_less.calls (a0 : Int) (a1 : Int) (a2 : Int) (r1 : Int) (r2 : Int) (r3 : Int) (r4 : Int) (r5 : Int) (w : World) (h : octop_less.f a0 a1 a2 = some (r1, r2, r3, r4, r5)) :
 Calls Try.prog 70 #[.int .i64 a0, .int .i64 a1, .int .i64 a2] w fun e w' => e = .returned (.agg #[.int .i64 r1, .int .i64 r2, .int .i64 r3, .int .i64 r4, .int .i64 r5]) ∧ Below w.heap.size w w' := by
 have hu34 := Try.underlying34
 have HB := Aside0.mk (Below.refl w.heap.size w)
 have H := h
 unfold octop_less.f at H
 clear h
 by_cases c4 : a0 < a2
 ·
  rw [if_pos c4] at H
  have c4b0 : decide (a0 < a2) = true := decide_eq_true c4
  clear c4
  simp only [Option.some.injEq, Prod.mk.injEq] at H
  obtain ⟨rfl, rfl, rfl, rfl, rfl⟩ := H
  go_enter Try.func70, Try.ntmps70
  go_wp2_with (first | ((with_reducible refine gate_dst (N := 6) rfl ?_); refine bx_ 6 #[.int .i64 0, .int .i64 0, .int .i64 0, .int .i64 0, .int .i64 0] 34 ?_; intro gb151 hg w5 hbox hb; have BK151 := Aside0.mk (hbox); have GW151 := vS hg HB; have GE151 := vS hg HB; replace HB := vWs HB hb; clear hb hbox hg; obtain ⟨hcz6_0, hcz6_1, hcz6_2, hcz6_3, hcz6_4, hfz6_0, hfz6_1, hfz6_2, hfz6_3, hfz6_4⟩ := vF5 BK151.out))
  refine bodyPost_ret (results_cell_row rfl _ _ gb151 34 #[.int .i64 a0, .int .i64 1, .int .i64 a2, .int .i64 (wrap64 (-a1)), .int .i64 0] (0, 0) _ rfl (by (with_reducible repeat (first | refine blk_drewN ?_ _ | refine blk_drew ?_ | refine blk_alloc ?_ _)); refine blk_put (cs := #[.int .i64 a0, .int .i64 1, .int .i64 a2, .int .i64 (wrap64 (-a1)), .int .i64 0]) ?_ 4 _ rfl; (with_reducible repeat (first | refine blk_drewN ?_ _ | refine blk_drew ?_ | refine blk_alloc ?_ _)); refine blk_put (cs := #[.int .i64 a0, .int .i64 1, .int .i64 a2, .int .i64 0, .int .i64 0]) ?_ 3 _ rfl; (with_reducible repeat (first | refine blk_drewN ?_ _ | refine blk_drew ?_ | refine blk_alloc ?_ _)); refine blk_put (cs := #[.int .i64 a0, .int .i64 1, .int .i64 0, .int .i64 0, .int .i64 0]) ?_ 2 _ rfl; (with_reducible repeat (first | refine blk_drewN ?_ _ | refine blk_drew ?_ | refine blk_alloc ?_ _)); refine blk_put (cs := #[.int .i64 a0, .int .i64 0, .int .i64 0, .int .i64 0, .int .i64 0]) ?_ 1 _ rfl; (with_reducible repeat (first | refine blk_drewN ?_ _ | refine blk_drew ?_ | refine blk_alloc ?_ _)); refine blk_put (cs := #[.int .i64 0, .int .i64 0, .int .i64 0, .int .i64 0, .int .i64 0]) ?_ 0 _ rfl; (with_reducible repeat (first | refine blk_drewN ?_ _ | refine blk_drew ?_ | refine blk_alloc ?_ _)); exact BK151.out) Try.underlying34 rfl (by kernel_rfl)) rfl ?_
  exact ⟨vE, vW HB.out⟩
 ·
  rw [if_neg c4] at H
  have c4b0 : decide (a0 < a2) = false := decide_eq_false c4
  clear c4
  simp only [Option.some.injEq, Prod.mk.injEq] at H
  obtain ⟨rfl, rfl, rfl, rfl, rfl⟩ := H
  go_enter Try.func70, Try.ntmps70
  go_wp2_with (first | ((with_reducible refine gate_dst (N := 6) rfl ?_); refine bx_ 6 #[.int .i64 0, .int .i64 0, .int .i64 0, .int .i64 0, .int .i64 0] 34 ?_; intro gb151 hg w7 hbox hb; have BK151 := Aside0.mk (hbox); have GW151 := vS hg HB; have GE151 := vS hg HB; replace HB := vWs HB hb; clear hb hbox hg; obtain ⟨hcz8_0, hcz8_1, hcz8_2, hcz8_3, hcz8_4, hfz8_0, hfz8_1, hfz8_2, hfz8_3, hfz8_4⟩ := vF5 BK151.out))
  refine bodyPost_ret (results_cell_row rfl _ _ gb151 34 #[.int .i64 a2, .int .i64 (wrap64 (-a1)), .int .i64 a0, .int .i64 1, .int .i64 0] (0, 0) _ rfl (by (with_reducible repeat (first | refine blk_drewN ?_ _ | refine blk_drew ?_ | refine blk_alloc ?_ _)); refine blk_put (cs := #[.int .i64 a2, .int .i64 (wrap64 (-a1)), .int .i64 a0, .int .i64 1, .int .i64 0]) ?_ 4 _ rfl; (with_reducible repeat (first | refine blk_drewN ?_ _ | refine blk_drew ?_ | refine blk_alloc ?_ _)); refine blk_put (cs := #[.int .i64 a2, .int .i64 (wrap64 (-a1)), .int .i64 a0, .int .i64 0, .int .i64 0]) ?_ 3 _ rfl; (with_reducible repeat (first | refine blk_drewN ?_ _ | refine blk_drew ?_ | refine blk_alloc ?_ _)); refine blk_put (cs := #[.int .i64 a2, .int .i64 (wrap64 (-a1)), .int .i64 0, .int .i64 0, .int .i64 0]) ?_ 2 _ rfl; (with_reducible repeat (first | refine blk_drewN ?_ _ | refine blk_drew ?_ | refine blk_alloc ?_ _)); refine blk_put (cs := #[.int .i64 a2, .int .i64 0, .int .i64 0, .int .i64 0, .int .i64 0]) ?_ 1 _ rfl; (with_reducible repeat (first | refine blk_drewN ?_ _ | refine blk_drew ?_ | refine blk_alloc ?_ _)); refine blk_put (cs := #[.int .i64 0, .int .i64 0, .int .i64 0, .int .i64 0, .int .i64 0]) ?_ 0 _ rfl; (with_reducible repeat (first | refine blk_drewN ?_ _ | refine blk_drew ?_ | refine blk_alloc ?_ _)); exact BK151.out) Try.underlying34 rfl (by kernel_rfl)) rfl ?_
  exact ⟨vE, vW HB.out⟩
mutual
def gimbalref11_Top.l0 : Nat → Int → Int → List Int → List Int → Bool → Option (List Int × List Int × Bool)
 | 0, _, _, _, _, _ => none
 | k + 1, x3, x5, x199000, x199001, x199002 => if x5 < x3 then (gimbalref11_Top.l1 k x3 x5 0 x199000 x199001 x199002) else (some (x199000, x199001, x199002))
def gimbalref11_Top.l1 : Nat → Int → Int → Int → List Int → List Int → Bool → Option (List Int × List Int × Bool)
 | 0, _, _, _, _, _, _ => none
 | k + 1, x3, x5, x6, x199000, x199001, x199002 => if x6 < x3 then (if x5 = x6 then (if x199001.length < 17592186044416 then (gimbalref11_Top.l1 k x3 x5 (wrap64 (x6 + 1)) x199000 (x199001 ++ [0]) x199002) else (none)) else (if x199001.length < 17592186044416 then (gimbalref11_Top.l1 k x3 x5 (wrap64 (x6 + 1)) x199000 (x199001 ++ [4611686018427387904]) x199002) else (none))) else (gimbalref11_Top.l0 k x3 (wrap64 (x5 + 1)) x199000 x199001 x199002)
end
def gimbalref11_Top.f (k : Nat) (l0 : List Int) : Option (List Int × List Int × Bool) := (gimbalref11_VarsFit.f l0).bind fun t194 => (if t194 = true then ((gimbalref11_copied.f l0).bind fun t195 => (gimbalref11_Top.l0 k (wrap64 (2 * (l0.length : Int))) 0 t195 ([] : List Int) false)) else (some (([] : List Int), ([] : List Int), false)))
theorem gimbalref11_Top.mono_l : ∀ k, (∀ y0 y1 y2 y3 y4, LeO (gimbalref11_Top.l0 k y0 y1 y2 y3 y4) (gimbalref11_Top.l0 (k + 1) y0 y1 y2 y3 y4)) ∧ (∀ y0 y1 y2 y3 y4 y5, LeO (gimbalref11_Top.l1 k y0 y1 y2 y3 y4 y5) (gimbalref11_Top.l1 (k + 1) y0 y1 y2 y3 y4 y5))
 | 0 => ⟨fun _ _ _ _ _ r h => by simp [gimbalref11_Top.l0] at h, fun _ _ _ _ _ _ r h => by simp [gimbalref11_Top.l1] at h⟩
 | k + 1 => by
  obtain ⟨ih0, ih1⟩ := gimbalref11_Top.mono_l k
  refine ⟨?_, ?_⟩ <;> intros <;> (first | unfold gimbalref11_Top.l0 | unfold gimbalref11_Top.l1) <;> repeat' first | (with_reducible first | apply ih0 | apply ih1 | apply LeO.refl | apply LeO.none | refine LeO.ite ?_ ?_ | refine LeO.bind ?_ (fun _ => ?_)) | apply ih0 | apply ih1 | apply LeO.none | refine LeO.ite ?_ ?_ | refine LeO.bind ?_ (fun _ => ?_)
theorem gimbalref11_Top.mono : ∀ a0 k, LeO (gimbalref11_Top.f k a0) (gimbalref11_Top.f (k + 1) a0) := by
 intro a0 k
 obtain ⟨ih0, ih1⟩ := gimbalref11_Top.mono_l k
 unfold gimbalref11_Top.f
 repeat' first | (with_reducible first | apply ih0 | apply ih1 | apply LeO.refl | apply LeO.none | refine LeO.ite ?_ ?_ | refine LeO.bind ?_ (fun _ => ?_)) | apply ih0 | apply ih1 | apply LeO.none | refine LeO.ite ?_ ?_ | refine LeO.bind ?_ (fun _ => ?_)
theorem gimbalref11_Top.calls (k : Nat) (A0 : Option Addr) (c0 : Nat) (l0 : List Int) (r1 : List Int) (r2 : List Int) (r3 : Bool) (w : World) (hr0 : Kd.C (Kd.int .i64) w A0 l0.length l0) (hc0 : l0.length ≤ c0) (h : gimbalref11_Top.f k l0 = some (r1, r2, r3)) :
 Calls Try.prog 48 #[.slice A0 l0.length c0] w fun e w' => ∃ v0_ v1_ : Value, e = .returned (.agg #[v0_, v1_, .bool r3]) ∧ Kd.R (Kd.int .i64) 3 w' w.heap.size (fun _ => True) v0_ r1 ∧ Kd.R (Kd.int .i64) 2 w' w.heap.size (fun _ => True) v1_ r2 ∧ Below w.heap.size w w' := by
 have hu25 := Try.underlying25
 have HR0 := Aside0.mk hr0
 have HC0 := Aside0.mk hc0
 clear hr0 hc0
 have HB := Aside0.mk (Below.refl w.heap.size w)
 have H := h
 unfold gimbalref11_Top.f at H
 clear h
 replace H := Option.bind_eq_some_iff.mp H
 obtain ⟨t194, A20, H⟩ := H
 try dsimp only at H
 have A2 := Aside0.mk A20
 clear A20
 by_cases c3 : t194 = true
 ·
  subst c3
  rw [if_pos rfl] at H
  try dsimp only at H
  replace H := Option.bind_eq_some_iff.mp H
  obtain ⟨t195, A40, H⟩ := H
  try dsimp only at H
  have A4 := Aside0.mk A40
  clear A40
  have H' := Aside0.mk H
  clear H
  go_enter Try.func48, Try.ntmps48
  go_wp2_with (first | ((with_reducible refine gate_dst (N := 2) rfl ?_); refine bx_ 2 #[.slice none 0 0, .slice none 0 0, .bool false] 25 ?_; intro gb193 hg w5 hbox hb; have BK193 := Aside0.mk (hbox); have GW193 := vS hg HB; have GE193 := vS hg HB; replace HB := vWs HB hb; clear hb hbox hg) | ((with_reducible refine gate_callee (f := 46) rfl ?_); refine gl_ (some 8) Try.func46 #[.slice A0 l0.length c0] ?_; (with_reducible refine (gimbalref11_VarsFit.calls _ _ l0 true _ ?side1 ?side2 A2.out).mono ?_); (case side1 => exact vC (Kd.C_below HR0.out HB.out)); (case side2 => exact HC0.out); rintro e w' ⟨rfl, ⟨nd, rfl⟩⟩; refine ⟨_, rfl, ?_⟩; (try (rw [drewN_self w5]; generalize hq_ : World.drewN w5 _ = w5; have n0_ : Aside0 (w5.heap[gb193]? = some (.cells #[.slice none 0 0, .slice none 0 0, .bool false] 25 (0, 0))) := ⟨by rw [← hq_]; exact (vB BK193.out)⟩; have n1_ : Aside0 (Below w.heap.size w w5) := ⟨by rw [← hq_]; exact (vW HB.out)⟩; clear BK193 HB hq_; have BK193 := n0_; have HB := n1_; clear n0_ n1_))) | ((with_reducible refine gate_callee (f := 83) rfl ?_); refine gl_ (some 15) Try.func83 #[.slice A0 l0.length c0] ?_; (with_reducible refine (gimbalref11_copied.calls _ _ l0 t195 _ ?side1 ?side2 A4.out).mono ?_); (case side1 => exact vC (Kd.C_below HR0.out HB.out)); (case side2 => exact HC0.out); rintro e w6 ⟨v196, rfl, ho0, hb⟩; refine ⟨_, rfl, ?_⟩; have HO197 := Aside0.mk (Kd.R_lower ho0 (below_size (vW HB.out))); replace BK193 := vBb BK193 hb; replace HB := vWs HB hb; (try clear hb); (try clear hb2); (try clear hk); (try clear hi); (try clear ho0); obtain ⟨Ao7, co7, eo7⟩ := Kd.R_slice HO197.out; subst eo7) | ((with_reducible refine gate_dst (N := 4) rfl ?_); refine bx_ 4 #[.slice none 0 0, .slice none 0 0, .bool false] 25 ?_; intro gb198 hg w8 hbox hb; replace HO197 := vRb HO197 hb; have BK198 := Aside0.mk (hbox); have GW198 := vS hg HB; have GE198 := vS hg HB; replace HB := vWs HB hb; have NB193_198 := vNl hg BK193; have NB198_193 := vNg hg BK193; replace BK193 := vBb BK193 hb; clear hb hbox hg; have hnb9 := NB198_193.out; have hnc9 := NB193_198.out; obtain ⟨hcz10_0, hcz10_1, hcz10_2, hfz10_0, hfz10_1, hfz10_2⟩ := vF3 BK198.out))
  go_loopg [5] k (fun kq v5 w' => ∃ (x5_1 : Int) (x199001_1 : List Int) (u199001 : Value), v5 = .int .i64 x5_1 ∧ Aside0 (gimbalref11_Top.l0 kq (wrap64 (2 * (l0.length : Int))) x5_1 t195 x199001_1 false = some (r1, r2, r3)) ∧ Aside0 (kq ≤ k) ∧ Aside0 (Kd.R (Kd.int .i64) 3 w' w.heap.size (fun _ => True) (.slice Ao7 t195.length co7) t195) ∧ Aside0 (Kd.R (Kd.int .i64) 2 w' w.heap.size (fun _ => True) u199001 x199001_1) ∧ Aside0 (w'.heap[gb193]? = some (.cells #[(.slice none 0 0), (.slice none 0 0), .bool false] 25 (0, 0))) ∧ Aside0 (w'.heap[gb198]? = some (.cells #[(.slice Ao7 t195.length co7), u199001, .bool false] 25 (0, 0))) ∧ Aside0 (Below w.heap.size w w'))
  case atStart => exact ⟨(0), (([] : List Int)), (.slice none 0 0), (by first | rfl | (simp; done) | (simp [*]; done)), H', ⟨Nat.le_refl _⟩, ⟨vTt HO197.out BK198.out⟩, ⟨by first | exact Kd.R_nil _ _ _ _ _ | exact Kd.N_nil _ _ _ _ _ | exact Kd.V_nil _ _ _ _ _ | exact Kd.Q_nil _ _ _ _ _ | exact Kd.S_nil _ _ _ _ _⟩, ⟨vB BK193.out⟩, ⟨vP3 BK198.out⟩, ⟨vW HB.out⟩⟩
  case round =>
   clear H'
   try clear hcz10_0
   try clear hcz10_1
   try clear hcz10_2
   try clear hfz10_0
   try clear hfz10_1
   try clear hfz10_2
   obtain ⟨x5_1, x199001_1, u199001, rfl, HA, HK1, HO_199000, HO_199001, BK193, BK198, HB⟩ := hrel
   cases gk with
   | zero => exact absurd HA.out (by simp [gimbalref11_Top.l0])
   | succ k1 =>
    have H := HA.out
    clear HA
    simp only [gimbalref11_Top.l0] at H
    by_cases c11 : x5_1 < (wrap64 (2 * (l0.length : Int)))
    ·
     rw [if_pos c11] at H
     have c11b0 : decide (x5_1 < (wrap64 (2 * (l0.length : Int)))) = true := decide_eq_true c11
     clear c11
     have H' := Aside0.mk H
     clear H
     go_wp2
     go_loopg [6] k1 (fun kq v6 w' => ∃ (x6_2 : Int) (x199001_2 : List Int) (u199001 : Value), v6 = .int .i64 x6_2 ∧ Aside0 (gimbalref11_Top.l1 kq (wrap64 (2 * (l0.length : Int))) x5_1 x6_2 t195 x199001_2 false = some (r1, r2, r3)) ∧ Aside0 (kq ≤ k1) ∧ Aside0 (Kd.R (Kd.int .i64) 3 w' w.heap.size (fun _ => True) (.slice Ao7 t195.length co7) t195) ∧ Aside0 (Kd.R (Kd.int .i64) 2 w' w.heap.size (fun _ => True) u199001 x199001_2) ∧ Aside0 (w'.heap[gb193]? = some (.cells #[(.slice none 0 0), (.slice none 0 0), .bool false] 25 (0, 0))) ∧ Aside0 (w'.heap[gb198]? = some (.cells #[(.slice Ao7 t195.length co7), u199001, .bool false] 25 (0, 0))) ∧ Aside0 (Below w.heap.size w w'))
     case atStart => exact ⟨(0), (x199001_1), (u199001), (by first | rfl | (simp; done) | (simp [*]; done)), H', ⟨Nat.le_refl _⟩, ⟨vR HO_199000.out⟩, ⟨vR HO_199001.out⟩, ⟨vB BK193.out⟩, ⟨vB BK198.out⟩, ⟨vW HB.out⟩⟩
     case round =>
      clear H'
      try clear c11b0
      obtain ⟨x6_2, x199001_2, u199001, rfl, HA, HK2, HO_199000, HO_199001, BK193, BK198, HB⟩ := hrel
      cases gk with
      | zero => exact absurd HA.out (by simp [gimbalref11_Top.l1])
      | succ k2 =>
       have H := HA.out
       clear HA
       simp only [gimbalref11_Top.l1] at H
       by_cases c12 : x6_2 < (wrap64 (2 * (l0.length : Int)))
       ·
        rw [if_pos c12] at H
        have c12b0 : decide (x6_2 < (wrap64 (2 * (l0.length : Int)))) = true := decide_eq_true c12
        clear c12
        by_cases c13 : x5_1 = x6_2
        ·
         rw [if_pos c13] at H
         have c13b0 : (x5_1 == x6_2) = true := beq_iff_eq.mpr c13
         have c13b1 : (x5_1 != x6_2) = false := bne_eq_false_iff_eq.mpr c13
         clear c13
         by_cases c14 : x199001_2.length < 17592186044416
         ·
          rw [if_pos c14] at H
          have LMc14 := Aside0.mk c14
          clear c14
          obtain ⟨y199, hy199⟩ : ∃ y_ : List Int, y_ = (x199001_2 ++ [0]) := ⟨_, rfl⟩
          replace H : (gimbalref11_Top.l1 k2 (wrap64 (2 * (l0.length : Int))) x5_1 (wrap64 (x6_2 + 1)) t195 y199 false) = some (r1, r2, r3) := by first | (rw [hy199]; with_reducible exact H) | (have H2_ := (Option.bind_some _ _).symm.trans H; rw [hy199]; with_reducible exact H2_) | (have H2_ := (Option.bind_some _ _).symm.trans H; with_reducible exact H2_) | with_reducible exact H | (rw [hy199]; exact H) | exact H
          have Ny199 := Aside0.mk hy199
          clear hy199
          have H' := Aside0.mk H
          clear H
          have hnb15 := NB198_193.out
          have hnc15 := NB193_198.out
          obtain ⟨hcz16_0, hcz16_1, hcz16_2, hfz16_0, hfz16_1, hfz16_2⟩ := vF3 BK198.out
          go_wp2_with ((with_reducible refine gate_builtin (b := .append) (xs := #[.tmp 31, .tmp 32]) rfl ?_); at_builtin; refine Kd.R_append (Kd.int .i64) (w0 := w) w.heap.size rfl (.tmp 31) (.tmp 32) 23 2 (.int .i64 0) 8 rfl Try.underlying23 info2 rfl (by decide) (by omega) u199001 x199001_2 0 [.int .i64 0] (fun _ => True) (fun _ => False) rfl rfl ?aP (fun _ hk => hk.elim) ?aF ?aO ?aB ?aS ?aL ?_; (case aP => exact rfl); (case aB => exact (vW HB.out)); (case aF => exact (fun _ _ => trivial)); (case aO => exact (vR HO_199001.out)); (case aS => exact (below_size (vW HB.out))); (case aL => have := LMc14.out; omega); intro v200 w17 ho hb hg hat; rw [← Ny199.out] at ho; replace HO_199000 := Aside0.mk (Kd.R_over' (vR HO_199000.out) (Kd.R_typed (vR HO_199001.out)) (by decide) hg); replace BK193 := Aside0.mk (blk_grown (g := gb193) (o := .cells #[.slice none 0 0, .slice none 0 0, .bool false] 25 (0, 0)) (vB BK193.out) hg (Kd.R_ne HO_199001.out BK193.out (by decide))); replace BK198 := Aside0.mk (blk_grown (g := gb198) (o := .cells #[.slice Ao7 t195.length co7, u199001, .bool false] 25 (0, 0)) (vB BK198.out) hg (Kd.R_ne HO_199001.out BK198.out (by decide))); replace HB := Aside0.mk (hb); have HO201 := Aside0.mk (ho); clear HO_199001; clear ho hb hg hat; obtain ⟨Ao18, co18, eo18⟩ := Kd.R_slice HO201.out; subst eo18; obtain ⟨hcz19_0, hcz19_1, hcz19_2, hfz19_0, hfz19_1, hfz19_2⟩ := vF3 BK198.out)
          go_roundg k2
          case measure => have := HK1.out; have := HK2.out; omega
          case rel => exact ⟨(wrap64 (x6_2 + 1)), (y199), (.slice Ao18 y199.length co18), (by first | rfl | (simp; done) | (simp [*]; done)), H', ⟨by have := HK1.out; have := HK2.out; omega⟩, ⟨vTt HO_199000.out BK198.out⟩, ⟨vTt HO201.out BK198.out⟩, ⟨vB BK193.out⟩, ⟨vP1 BK198.out⟩, ⟨vW HB.out⟩⟩
         ·
          rw [if_neg c14] at H
          exact absurd H (by simp)
        ·
         rw [if_neg c13] at H
         have c13b0 : (x5_1 == x6_2) = false := beq_eq_false_iff_ne.mpr c13
         have c13b1 : (x5_1 != x6_2) = true := bne_iff_ne.mpr c13
         by_cases c20 : x199001_2.length < 17592186044416
         ·
          rw [if_pos c20] at H
          have LMc20 := Aside0.mk c20
          clear c20
          obtain ⟨y202, hy202⟩ : ∃ y_ : List Int, y_ = (x199001_2 ++ [4611686018427387904]) := ⟨_, rfl⟩
          replace H : (gimbalref11_Top.l1 k2 (wrap64 (2 * (l0.length : Int))) x5_1 (wrap64 (x6_2 + 1)) t195 y202 false) = some (r1, r2, r3) := by first | (rw [hy202]; with_reducible exact H) | (have H2_ := (Option.bind_some _ _).symm.trans H; rw [hy202]; with_reducible exact H2_) | (have H2_ := (Option.bind_some _ _).symm.trans H; with_reducible exact H2_) | with_reducible exact H | (rw [hy202]; exact H) | exact H
          have Ny202 := Aside0.mk hy202
          clear hy202
          have H' := Aside0.mk H
          clear H
          have hnb21 := NB198_193.out
          have hnc21 := NB193_198.out
          obtain ⟨hcz22_0, hcz22_1, hcz22_2, hfz22_0, hfz22_1, hfz22_2⟩ := vF3 BK198.out
          go_wp2_with ((with_reducible refine gate_builtin (b := .append) (xs := #[.tmp 36, .tmp 37]) rfl ?_); at_builtin; refine Kd.R_append (Kd.int .i64) (w0 := w) w.heap.size rfl (.tmp 36) (.tmp 37) 23 2 (.int .i64 0) 8 rfl Try.underlying23 info2 rfl (by decide) (by omega) u199001 x199001_2 4611686018427387904 [.int .i64 4611686018427387904] (fun _ => True) (fun _ => False) rfl rfl ?aP (fun _ hk => hk.elim) ?aF ?aO ?aB ?aS ?aL ?_; (case aP => exact rfl); (case aB => exact (vW HB.out)); (case aF => exact (fun _ _ => trivial)); (case aO => exact (vR HO_199001.out)); (case aS => exact (below_size (vW HB.out))); (case aL => have := LMc20.out; omega); intro v203 w23 ho hb hg hat; rw [← Ny202.out] at ho; replace HO_199000 := Aside0.mk (Kd.R_over' (vR HO_199000.out) (Kd.R_typed (vR HO_199001.out)) (by decide) hg); replace BK193 := Aside0.mk (blk_grown (g := gb193) (o := .cells #[.slice none 0 0, .slice none 0 0, .bool false] 25 (0, 0)) (vB BK193.out) hg (Kd.R_ne HO_199001.out BK193.out (by decide))); replace BK198 := Aside0.mk (blk_grown (g := gb198) (o := .cells #[.slice Ao7 t195.length co7, u199001, .bool false] 25 (0, 0)) (vB BK198.out) hg (Kd.R_ne HO_199001.out BK198.out (by decide))); replace HB := Aside0.mk (hb); have HO204 := Aside0.mk (ho); clear HO_199001; clear ho hb hg hat; obtain ⟨Ao24, co24, eo24⟩ := Kd.R_slice HO204.out; subst eo24; obtain ⟨hcz25_0, hcz25_1, hcz25_2, hfz25_0, hfz25_1, hfz25_2⟩ := vF3 BK198.out)
          go_roundg k2
          case measure => have := HK1.out; have := HK2.out; omega
          case rel => exact ⟨(wrap64 (x6_2 + 1)), (y202), (.slice Ao24 y202.length co24), (by first | rfl | (simp; done) | (simp [*]; done)), H', ⟨by have := HK1.out; have := HK2.out; omega⟩, ⟨vTt HO_199000.out BK198.out⟩, ⟨vTt HO204.out BK198.out⟩, ⟨vB BK193.out⟩, ⟨vP1 BK198.out⟩, ⟨vW HB.out⟩⟩
         ·
          rw [if_neg c20] at H
          exact absurd H (by simp)
       ·
        rw [if_neg c12] at H
        have c12b0 : decide (x6_2 < (wrap64 (2 * (l0.length : Int)))) = false := decide_eq_false c12
        clear c12
        have H' := Aside0.mk H
        clear H
        go_wp2
        go_roundg k2
        case measure => have := HK1.out; have := HK2.out; omega
        case rel => exact ⟨(wrap64 (x5_1 + 1)), (x199001_2), (u199001), (by first | rfl | (simp; done) | (simp [*]; done)), H', ⟨by have := HK1.out; have := HK2.out; omega⟩, ⟨vR HO_199000.out⟩, ⟨vR HO_199001.out⟩, ⟨vB BK193.out⟩, ⟨vB BK198.out⟩, ⟨vW HB.out⟩⟩
    ·
     rw [if_neg c11] at H
     have c11b0 : decide (x5_1 < (wrap64 (2 * (l0.length : Int)))) = false := decide_eq_false c11
     clear c11
     simp only [Option.some.injEq, Prod.mk.injEq] at H
     obtain ⟨rfl, rfl, rfl⟩ := H
     have hnb26 := NB198_193.out
     have hnc26 := NB193_198.out
     obtain ⟨hcz27_0, hcz27_1, hcz27_2, hfz27_0, hfz27_1, hfz27_2⟩ := vF3 BK198.out
     obtain ⟨hcz28_0, hcz28_1, hcz28_2, hfz28_0, hfz28_1, hfz28_2⟩ := vF3 BK193.out
     obtain ⟨Ao29, co29, eo29⟩ := Kd.R_slice HO_199001.out
     subst eo29
     go_wp2
     refine bodyPost_ret (results_cell_row rfl _ _ gb193 25 #[.slice Ao7 t195.length co7, .slice Ao29 x199001_1.length co29, .bool false] (0, 0) _ rfl (vP3 BK193.out) Try.underlying25 rfl (by kernel_rfl)) rfl ?_
     exact ⟨_, _, vE, vTt HO_199000.out BK193.out, vTt HO_199001.out BK193.out, vW HB.out⟩
 ·
  replace c3 := Bool.eq_false_iff.mpr c3
  subst c3
  rw [if_neg (show ¬ (false = true) by decide)] at H
  try dsimp only at H
  simp only [Option.some.injEq, Prod.mk.injEq] at H
  obtain ⟨rfl, rfl, rfl⟩ := H
  go_enter Try.func48, Try.ntmps48
  go_wp2_with (first | ((with_reducible refine gate_dst (N := 2) rfl ?_); refine bx_ 2 #[.slice none 0 0, .slice none 0 0, .bool false] 25 ?_; intro gb193 hg w30 hbox hb; have BK193 := Aside0.mk (hbox); have GW193 := vS hg HB; have GE193 := vS hg HB; replace HB := vWs HB hb; clear hb hbox hg) | ((with_reducible refine gate_callee (f := 46) rfl ?_); refine gl_ (some 8) Try.func46 #[.slice A0 l0.length c0] ?_; (with_reducible refine (gimbalref11_VarsFit.calls _ _ l0 false _ ?side1 ?side2 A2.out).mono ?_); (case side1 => exact vC (Kd.C_below HR0.out HB.out)); (case side2 => exact HC0.out); rintro e w' ⟨rfl, ⟨nd, rfl⟩⟩; refine ⟨_, rfl, ?_⟩; (try (rw [drewN_self w30]; generalize hq_ : World.drewN w30 _ = w30; have n0_ : Aside0 (w30.heap[gb193]? = some (.cells #[.slice none 0 0, .slice none 0 0, .bool false] 25 (0, 0))) := ⟨by rw [← hq_]; exact (vB BK193.out)⟩; have n1_ : Aside0 (Below w.heap.size w w30) := ⟨by rw [← hq_]; exact (vW HB.out)⟩; clear BK193 HB hq_; have BK193 := n0_; have HB := n1_; clear n0_ n1_)); obtain ⟨hcz31_0, hcz31_1, hcz31_2, hfz31_0, hfz31_1, hfz31_2⟩ := vF3 BK193.out))
  refine bodyPost_ret (results_cell_row rfl _ _ gb193 25 #[.slice none 0 0, .slice none 0 0, .bool false] (0, 0) _ rfl (vP3 BK193.out) Try.underlying25 rfl (by kernel_rfl)) rfl ?_
  exact ⟨_, _, vE, by first | exact Kd.R_nil _ _ _ _ _ | exact Kd.N_nil _ _ _ _ _ | exact Kd.V_nil _ _ _ _ _ | exact Kd.Q_nil _ _ _ _ _ | exact Kd.S_nil _ _ _ _ _, by first | exact Kd.R_nil _ _ _ _ _ | exact Kd.N_nil _ _ _ _ _ | exact Kd.V_nil _ _ _ _ _ | exact Kd.Q_nil _ _ _ _ _ | exact Kd.S_nil _ _ _ _ _, vW HB.out⟩
def gimballaw12_one.f (a0 : Int) : Option (Int × Int × Int × Int × Int) := some (a0, 1, 0, 0, 0)
theorem gimballaw12_one.calls (a0 : Int) (r1 : Int) (r2 : Int) (r3 : Int) (r4 : Int) (r5 : Int) (w : World) (h : gimballaw12_one.f a0 = some (r1, r2, r3, r4, r5)) :
 Calls Try.prog 49 #[.int .i64 a0] w fun e w' => e = .returned (.agg #[.int .i64 r1, .int .i64 r2, .int .i64 r3, .int .i64 r4, .int .i64 r5]) ∧ Below w.heap.size w w' := by
 have hu34 := Try.underlying34
 have HB := Aside0.mk (Below.refl w.heap.size w)
 have H : (some (a0, 1, 0, 0, 0)) = some (r1, r2, r3, r4, r5) := h
 clear h
 simp only [Option.some.injEq, Prod.mk.injEq] at H
 obtain ⟨rfl, rfl, rfl, rfl, rfl⟩ := H
 go_enter Try.func49, Try.ntmps49
 go_wp2_with (first | ((with_reducible refine gate_dst (N := 2) rfl ?_); refine bx_ 2 #[.int .i64 0, .int .i64 0, .int .i64 0, .int .i64 0, .int .i64 0] 34 ?_; intro gb205 hg w2 hbox hb; have n0_ := Aside0.mk (below_step (by repeat (first | (with_reducible first | exact HB.out | apply below_alloc | apply pw_below_drewN | apply below_drew1) | exact HB.out)) hb); have n1_ := Aside0.mk (hbox); have n2_ := Aside0.mk ((by rw [hg]; exact (below_size (by repeat (first | (with_reducible first | exact HB.out | apply below_alloc | apply pw_below_drewN | apply below_drew1) | exact HB.out))) : w.heap.size ≤ gb205)); have n3_ := Aside0.mk ((by rw [hg]; exact (below_size (by repeat (first | (with_reducible first | exact HB.out | apply below_alloc | apply pw_below_drewN | apply below_drew1) | exact HB.out))) : w.heap.size ≤ gb205)); clear HB; have HB := n0_; have BK205 := n1_; have GW205 := n2_; have GE205 := n3_; clear n0_ n1_ n2_ n3_; clear hb hbox hg; have hcz3_0 : w2.cell? ⟨gb205, 0, none⟩ = some (.int .i64 0) := (blk_cell BK205.out 0).trans rfl; have hcz3_1 : w2.cell? ⟨gb205, 1, none⟩ = some (.int .i64 0) := (blk_cell BK205.out 1).trans rfl; have hcz3_2 : w2.cell? ⟨gb205, 2, none⟩ = some (.int .i64 0) := (blk_cell BK205.out 2).trans rfl; have hcz3_3 : w2.cell? ⟨gb205, 3, none⟩ = some (.int .i64 0) := (blk_cell BK205.out 3).trans rfl; have hcz3_4 : w2.cell? ⟨gb205, 4, none⟩ = some (.int .i64 0) := (blk_cell BK205.out 4).trans rfl; have hfz3_0 := blk_frozen BK205.out 0; have hfz3_1 := blk_frozen BK205.out 1; have hfz3_2 := blk_frozen BK205.out 2; have hfz3_3 := blk_frozen BK205.out 3; have hfz3_4 := blk_frozen BK205.out 4))
 refine bodyPost_ret (results_cell_row rfl _ _ gb205 34 #[.int .i64 a0, .int .i64 1, .int .i64 0, .int .i64 0, .int .i64 0] (0, 0) _ rfl (by (with_reducible repeat (first | refine blk_drewN ?_ _ | refine blk_drew ?_ | refine blk_alloc ?_ _)); refine blk_put (cs := #[.int .i64 a0, .int .i64 1, .int .i64 0, .int .i64 0, .int .i64 0]) ?_ 4 _ rfl; (with_reducible repeat (first | refine blk_drewN ?_ _ | refine blk_drew ?_ | refine blk_alloc ?_ _)); refine blk_put (cs := #[.int .i64 a0, .int .i64 1, .int .i64 0, .int .i64 0, .int .i64 0]) ?_ 3 _ rfl; (with_reducible repeat (first | refine blk_drewN ?_ _ | refine blk_drew ?_ | refine blk_alloc ?_ _)); refine blk_put (cs := #[.int .i64 a0, .int .i64 1, .int .i64 0, .int .i64 0, .int .i64 0]) ?_ 2 _ rfl; (with_reducible repeat (first | refine blk_drewN ?_ _ | refine blk_drew ?_ | refine blk_alloc ?_ _)); refine blk_put (cs := #[.int .i64 a0, .int .i64 0, .int .i64 0, .int .i64 0, .int .i64 0]) ?_ 1 _ rfl; (with_reducible repeat (first | refine blk_drewN ?_ _ | refine blk_drew ?_ | refine blk_alloc ?_ _)); refine blk_put (cs := #[.int .i64 0, .int .i64 0, .int .i64 0, .int .i64 0, .int .i64 0]) ?_ 0 _ rfl; (with_reducible repeat (first | refine blk_drewN ?_ _ | refine blk_drew ?_ | refine blk_alloc ?_ _)); exact BK205.out) Try.underlying34 rfl (by kernel_rfl)) rfl ?_
 exact ⟨vE, by repeat (first | (with_reducible first | exact HB.out | apply below_alloc | apply pw_below_drewN | apply below_drew1 | refine below_set ?_ GE205.out) | exact HB.out)⟩
mutual
def gimbalref12_FormFit.j0 : Nat → Bool → Int → Int → Int → Int → Int → Option (Bool)
 | 0, _, _, _, _, _, _ => none
 | k + 1, x10, x358000, x358001, x358002, x358003, x358004 => if x10 = true then (some false) else (if x358001 = 0 then (if x358000 = 0 then (if x358002 = 0 then (some (x358003 == 0)) else (some false)) else (some false)) else (if x358001 = 1 then (gimbalref12_FormFit.j1 k (decide (x358000 < 0)) x358000 x358001 x358002 x358003 x358004) else (if x358001 = (-1) then (gimbalref12_FormFit.j1 k (decide (x358000 < 0)) x358000 x358001 x358002 x358003 x358004) else (gimbalref12_FormFit.j1 k true x358000 x358001 x358002 x358003 x358004))))
def gimbalref12_FormFit.j1 : Nat → Bool → Int → Int → Int → Int → Int → Option (Bool)
 | 0, _, _, _, _, _, _ => none
 | k + 1, x39, x358000, x358001, x358002, x358003, x358004 => if x39 = true then (some false) else (if x358003 = 0 then (some (x358002 == 0)) else (if x358003 = 1 then (some (decide (x358000 < x358002))) else (if x358003 = (-1) then (some (decide (x358000 < x358002))) else (some false))))
end
def gimbalref12_FormFit.f (k : Nat) (a0_0 : Int) (a0_1 : Int) (a0_2 : Int) (a0_3 : Int) (a0_4 : Int) : Option (Bool) := if a0_4 < (-1099511627776) then (gimbalref12_FormFit.j0 k true a0_0 a0_1 a0_2 a0_3 a0_4) else (gimbalref12_FormFit.j0 k (decide (a0_4 > 1099511627776)) a0_0 a0_1 a0_2 a0_3 a0_4)
theorem gimbalref12_FormFit.mono_l : ∀ k, (∀ y0 y1 y2 y3 y4 y5, LeO (gimbalref12_FormFit.j0 k y0 y1 y2 y3 y4 y5) (gimbalref12_FormFit.j0 (k + 1) y0 y1 y2 y3 y4 y5)) ∧ (∀ y0 y1 y2 y3 y4 y5, LeO (gimbalref12_FormFit.j1 k y0 y1 y2 y3 y4 y5) (gimbalref12_FormFit.j1 (k + 1) y0 y1 y2 y3 y4 y5))
 | 0 => ⟨fun _ _ _ _ _ _ r h => by simp [gimbalref12_FormFit.j0] at h, fun _ _ _ _ _ _ r h => by simp [gimbalref12_FormFit.j1] at h⟩
 | k + 1 => by
  obtain ⟨ih0, ih1⟩ := gimbalref12_FormFit.mono_l k
  refine ⟨?_, ?_⟩ <;> intros <;> (first | unfold gimbalref12_FormFit.j0 | unfold gimbalref12_FormFit.j1) <;> repeat' first | (with_reducible first | apply ih0 | apply ih1 | apply LeO.refl | apply LeO.none | refine LeO.ite ?_ ?_ | refine LeO.bind ?_ (fun _ => ?_)) | apply ih0 | apply ih1 | apply LeO.none | refine LeO.ite ?_ ?_ | refine LeO.bind ?_ (fun _ => ?_)
theorem gimbalref12_FormFit.mono : ∀ a0 a1 a2 a3 a4 k, LeO (gimbalref12_FormFit.f k a0 a1 a2 a3 a4) (gimbalref12_FormFit.f (k + 1) a0 a1 a2 a3 a4) := by
 intro a0 a1 a2 a3 a4 k
 obtain ⟨ih0, ih1⟩ := gimbalref12_FormFit.mono_l k
 unfold gimbalref12_FormFit.f
 repeat' first | (with_reducible first | apply ih0 | apply ih1 | apply LeO.refl | apply LeO.none | refine LeO.ite ?_ ?_ | refine LeO.bind ?_ (fun _ => ?_)) | apply ih0 | apply ih1 | apply LeO.none | refine LeO.ite ?_ ?_ | refine LeO.bind ?_ (fun _ => ?_)
theorem gimbalref12_FormFit.calls (k : Nat) (a0_0 : Int) (a0_1 : Int) (a0_2 : Int) (a0_3 : Int) (a0_4 : Int) (r : Bool) (w : World) (h : gimbalref12_FormFit.f k a0_0 a0_1 a0_2 a0_3 a0_4 = some r) :
 Calls Try.prog 36 #[.agg #[.int .i64 a0_0, .int .i64 a0_1, .int .i64 a0_2, .int .i64 a0_3, .int .i64 a0_4]] w fun e w' => e = .returned (.bool r) ∧ Below w.heap.size w w' := by
 have hu34 := Try.underlying34
 have HB := Aside0.mk (Below.refl w.heap.size w)
 have H := h
 unfold gimbalref12_FormFit.f at H
 clear h
 have HC2 := Aside0.mk H
 clear H
 go_enter Try.func36, Try.ntmps36
 go_upto_region 1 with ((with_reducible refine gate_dst (N := 1) rfl ?_); refine bx_ 1 #[.int .i64 a0_0, .int .i64 a0_1, .int .i64 a0_2, .int .i64 a0_3, .int .i64 a0_4] 34 ?_; intro gb357 hg w3 hbox hb; have BK357 := Aside0.mk (hbox); have GW357 := vS hg HB; have GE357 := vS hg HB; replace HB := vWs HB hb; clear hb hbox hg)
 (try simp only [Act.put, List.setIfInBounds_toArray, List.set_cons_zero, List.set_cons_succ])
 go_cut [10] (fun v10 wc => ∃ (kq : Nat) (x10_1 : Bool), v10 = .bool x10_1 ∧ Aside0 (gimbalref12_FormFit.j0 kq x10_1 a0_0 a0_1 a0_2 a0_3 a0_4 = some r) ∧ Aside0 (kq ≤ k) ∧ Aside0 (wc.heap[gb357]? = some (.cells #[.int .i64 a0_0, .int .i64 a0_1, .int .i64 a0_2, .int .i64 a0_3, .int .i64 a0_4] 34 (0, 0))) ∧ Aside0 (Below w.heap.size w wc))
 case first =>
  have H := HC2.out
  clear HC2
  by_cases c4 : a0_4 < (-1099511627776)
  ·
   rw [if_pos c4] at H
   have c4b0 : decide (a0_4 < (-1099511627776)) = true := decide_eq_true c4
   clear c4
   (first | rw [c4b0] | (simp only [i64_w, i32_w]; rw [c4b0]) | skip)
   have H' := Aside0.mk H
   clear H
   obtain ⟨hcz5_0, hcz5_1, hcz5_2, hcz5_3, hcz5_4, hfz5_0, hfz5_1, hfz5_2, hfz5_3, hfz5_4⟩ := vF5 BK357.out
   go_wp2
   go_meet
   case rel => exact ⟨_, (true), (by first | rfl | (simp; done) | (simp [*]; done)), H', ⟨by first | omega | exact Nat.le_refl _⟩, ⟨vB BK357.out⟩, ⟨vW HB.out⟩⟩
  ·
   rw [if_neg c4] at H
   have c4b0 : decide (a0_4 < (-1099511627776)) = false := decide_eq_false c4
   clear c4
   (first | rw [c4b0] | (simp only [i64_w, i32_w]; rw [c4b0]) | skip)
   have H' := Aside0.mk H
   clear H
   obtain ⟨hcz6_0, hcz6_1, hcz6_2, hcz6_3, hcz6_4, hfz6_0, hfz6_1, hfz6_2, hfz6_3, hfz6_4⟩ := vF5 BK357.out
   go_wp2
   go_meet
   case rel => exact ⟨_, (decide (a0_4 > 1099511627776)), (by first | rfl | (simp; done) | (simp [*]; done)), H', ⟨by first | omega | exact Nat.le_refl _⟩, ⟨vB BK357.out⟩, ⟨vW HB.out⟩⟩
 case rest =>
  clear HC2
  obtain ⟨kq, x10_1, rfl, HA, HJ1, BK357, HB⟩ := hcut
  cases kq with
  | zero => exact absurd HA.out (by simp [gimbalref12_FormFit.j0])
  | succ kj1 =>
   have H := HA.out
   clear HA
   simp only [gimbalref12_FormFit.j0] at H
   by_cases c7 : x10_1 = true
   ·
    subst c7
    rw [if_pos rfl] at H
    try dsimp only at H
    obtain rfl := Option.some.inj H
    go_wp2
    go_ret
    exact ⟨vE, vW HB.out⟩
   ·
    replace c7 := Bool.eq_false_iff.mpr c7
    subst c7
    rw [if_neg (show ¬ (false = true) by decide)] at H
    try dsimp only at H
    by_cases c8 : a0_1 = 0
    ·
     rw [if_pos c8] at H
     have c8b0 : (a0_1 == 0) = true := beq_iff_eq.mpr c8
     have c8b1 : (a0_1 != 0) = false := bne_eq_false_iff_eq.mpr c8
     clear c8
     by_cases c9 : a0_0 = 0
     ·
      rw [if_pos c9] at H
      have c9b0 : (a0_0 == 0) = true := beq_iff_eq.mpr c9
      have c9b1 : (a0_0 != 0) = false := bne_eq_false_iff_eq.mpr c9
      clear c9
      by_cases c10 : a0_2 = 0
      ·
       rw [if_pos c10] at H
       have c10b0 : (a0_2 == 0) = true := beq_iff_eq.mpr c10
       have c10b1 : (a0_2 != 0) = false := bne_eq_false_iff_eq.mpr c10
       clear c10
       obtain rfl := Option.some.inj H
       obtain ⟨hcz11_0, hcz11_1, hcz11_2, hcz11_3, hcz11_4, hfz11_0, hfz11_1, hfz11_2, hfz11_3, hfz11_4⟩ := vF5 BK357.out
       go_wp2
       go_ret
       exact ⟨vE, vW HB.out⟩
      ·
       rw [if_neg c10] at H
       have c10b0 : (a0_2 == 0) = false := beq_eq_false_iff_ne.mpr c10
       have c10b1 : (a0_2 != 0) = true := bne_iff_ne.mpr c10
       obtain rfl := Option.some.inj H
       obtain ⟨hcz12_0, hcz12_1, hcz12_2, hcz12_3, hcz12_4, hfz12_0, hfz12_1, hfz12_2, hfz12_3, hfz12_4⟩ := vF5 BK357.out
       go_wp2
       go_ret
       exact ⟨vE, vW HB.out⟩
     ·
      rw [if_neg c9] at H
      have c9b0 : (a0_0 == 0) = false := beq_eq_false_iff_ne.mpr c9
      have c9b1 : (a0_0 != 0) = true := bne_iff_ne.mpr c9
      obtain rfl := Option.some.inj H
      obtain ⟨hcz13_0, hcz13_1, hcz13_2, hcz13_3, hcz13_4, hfz13_0, hfz13_1, hfz13_2, hfz13_3, hfz13_4⟩ := vF5 BK357.out
      go_wp2
      go_ret
      exact ⟨vE, vW HB.out⟩
    ·
     rw [if_neg c8] at H
     have c8b0 : (a0_1 == 0) = false := beq_eq_false_iff_ne.mpr c8
     have c8b1 : (a0_1 != 0) = true := bne_iff_ne.mpr c8
     have HC14 := Aside0.mk H
     clear H
     obtain ⟨hcz15_0, hcz15_1, hcz15_2, hcz15_3, hcz15_4, hfz15_0, hfz15_1, hfz15_2, hfz15_3, hfz15_4⟩ := vF5 BK357.out
     go_upto_region 5 with (fail)
     go_cut [39] (fun v39 wc => ∃ (kq : Nat) (x39_13 : Bool), v39 = .bool x39_13 ∧ Aside0 (gimbalref12_FormFit.j1 kq x39_13 a0_0 a0_1 a0_2 a0_3 a0_4 = some r) ∧ Aside0 (kq ≤ kj1) ∧ Aside0 (wc.heap[gb357]? = some (.cells #[.int .i64 a0_0, .int .i64 a0_1, .int .i64 a0_2, .int .i64 a0_3, .int .i64 a0_4] 34 (0, 0))) ∧ Aside0 (Below w.heap.size w wc))
     case first =>
      have H := HC14.out
      clear HC14
      by_cases c16 : a0_1 = 1
      ·
       rw [if_pos c16] at H
       have c16b0 : (a0_1 == 1) = true := beq_iff_eq.mpr c16
       have c16b1 : (a0_1 != 1) = false := bne_eq_false_iff_eq.mpr c16
       clear c16
       (first | rw [c16b0] | (simp only [i64_w, i32_w]; rw [c16b0]) | skip)
       have H' := Aside0.mk H
       clear H
       obtain ⟨hcz17_0, hcz17_1, hcz17_2, hcz17_3, hcz17_4, hfz17_0, hfz17_1, hfz17_2, hfz17_3, hfz17_4⟩ := vF5 BK357.out
       go_wp2
       go_meet
       case rel => exact ⟨_, (decide (a0_0 < 0)), (by first | rfl | (simp; done) | (simp [*]; done)), H', ⟨by have := HJ1.out; first | omega | exact Nat.le_refl _⟩, ⟨vB BK357.out⟩, ⟨vW HB.out⟩⟩
      ·
       rw [if_neg c16] at H
       have c16b0 : (a0_1 == 1) = false := beq_eq_false_iff_ne.mpr c16
       have c16b1 : (a0_1 != 1) = true := bne_iff_ne.mpr c16
       (first | rw [c16b0] | (simp only [i64_w, i32_w]; rw [c16b0]) | skip)
       by_cases c18 : a0_1 = (-1)
       ·
        rw [if_pos c18] at H
        have c18b0 : (a0_1 == (-1)) = true := beq_iff_eq.mpr c18
        have c18b1 : (a0_1 != (-1)) = false := bne_eq_false_iff_eq.mpr c18
        clear c18
        have H' := Aside0.mk H
        clear H
        obtain ⟨hcz19_0, hcz19_1, hcz19_2, hcz19_3, hcz19_4, hfz19_0, hfz19_1, hfz19_2, hfz19_3, hfz19_4⟩ := vF5 BK357.out
        go_wp2
        go_meet
        case rel => exact ⟨_, (decide (a0_0 < 0)), (by first | rfl | (simp; done) | (simp [*]; done)), H', ⟨by have := HJ1.out; first | omega | exact Nat.le_refl _⟩, ⟨vB BK357.out⟩, ⟨vW HB.out⟩⟩
       ·
        rw [if_neg c18] at H
        have c18b0 : (a0_1 == (-1)) = false := beq_eq_false_iff_ne.mpr c18
        have c18b1 : (a0_1 != (-1)) = true := bne_iff_ne.mpr c18
        have H' := Aside0.mk H
        clear H
        obtain ⟨hcz20_0, hcz20_1, hcz20_2, hcz20_3, hcz20_4, hfz20_0, hfz20_1, hfz20_2, hfz20_3, hfz20_4⟩ := vF5 BK357.out
        go_wp2
        go_meet
        case rel => exact ⟨_, (true), (by first | rfl | (simp; done) | (simp [*]; done)), H', ⟨by have := HJ1.out; first | omega | exact Nat.le_refl _⟩, ⟨vB BK357.out⟩, ⟨vW HB.out⟩⟩
     case rest =>
      clear HC14
      try clear c8
      try clear c8b0
      try clear c8b1
      try clear hcz15_0
      try clear hcz15_1
      try clear hcz15_2
      try clear hcz15_3
      try clear hcz15_4
      try clear hfz15_0
      try clear hfz15_1
      try clear hfz15_2
      try clear hfz15_3
      try clear hfz15_4
      obtain ⟨kq, x39_13, rfl, HA, HJ13, BK357, HB⟩ := hcut
      cases kq with
      | zero => exact absurd HA.out (by simp [gimbalref12_FormFit.j1])
      | succ kj13 =>
       have H := HA.out
       clear HA
       simp only [gimbalref12_FormFit.j1] at H
       by_cases c21 : x39_13 = true
       ·
        subst c21
        rw [if_pos rfl] at H
        try dsimp only at H
        obtain rfl := Option.some.inj H
        go_wp2
        go_ret
        exact ⟨vE, vW HB.out⟩
       ·
        replace c21 := Bool.eq_false_iff.mpr c21
        subst c21
        rw [if_neg (show ¬ (false = true) by decide)] at H
        try dsimp only at H
        by_cases c22 : a0_3 = 0
        ·
         rw [if_pos c22] at H
         have c22b0 : (a0_3 == 0) = true := beq_iff_eq.mpr c22
         have c22b1 : (a0_3 != 0) = false := bne_eq_false_iff_eq.mpr c22
         clear c22
         obtain rfl := Option.some.inj H
         obtain ⟨hcz23_0, hcz23_1, hcz23_2, hcz23_3, hcz23_4, hfz23_0, hfz23_1, hfz23_2, hfz23_3, hfz23_4⟩ := vF5 BK357.out
         go_wp2
         go_ret
         exact ⟨vE, vW HB.out⟩
        ·
         rw [if_neg c22] at H
         have c22b0 : (a0_3 == 0) = false := beq_eq_false_iff_ne.mpr c22
         have c22b1 : (a0_3 != 0) = true := bne_iff_ne.mpr c22
         by_cases c24 : a0_3 = 1
         ·
          rw [if_pos c24] at H
          have c24b0 : (a0_3 == 1) = true := beq_iff_eq.mpr c24
          have c24b1 : (a0_3 != 1) = false := bne_eq_false_iff_eq.mpr c24
          clear c24
          obtain rfl := Option.some.inj H
          obtain ⟨hcz25_0, hcz25_1, hcz25_2, hcz25_3, hcz25_4, hfz25_0, hfz25_1, hfz25_2, hfz25_3, hfz25_4⟩ := vF5 BK357.out
          go_wp2
          go_ret
          exact ⟨vE, vW HB.out⟩
         ·
          rw [if_neg c24] at H
          have c24b0 : (a0_3 == 1) = false := beq_eq_false_iff_ne.mpr c24
          have c24b1 : (a0_3 != 1) = true := bne_iff_ne.mpr c24
          by_cases c26 : a0_3 = (-1)
          ·
           rw [if_pos c26] at H
           have c26b0 : (a0_3 == (-1)) = true := beq_iff_eq.mpr c26
           have c26b1 : (a0_3 != (-1)) = false := bne_eq_false_iff_eq.mpr c26
           clear c26
           obtain rfl := Option.some.inj H
           obtain ⟨hcz27_0, hcz27_1, hcz27_2, hcz27_3, hcz27_4, hfz27_0, hfz27_1, hfz27_2, hfz27_3, hfz27_4⟩ := vF5 BK357.out
           go_wp2
           go_ret
           exact ⟨vE, vW HB.out⟩
          ·
           rw [if_neg c26] at H
           have c26b0 : (a0_3 == (-1)) = false := beq_eq_false_iff_ne.mpr c26
           have c26b1 : (a0_3 != (-1)) = true := bne_iff_ne.mpr c26
           obtain rfl := Option.some.inj H
           obtain ⟨hcz28_0, hcz28_1, hcz28_2, hcz28_3, hcz28_4, hfz28_0, hfz28_1, hfz28_2, hfz28_3, hfz28_4⟩ := vF5 BK357.out
           go_wp2
           go_ret
           exact ⟨vE, vW HB.out⟩
def gimbalref12_among.f (k : Nat) (l0_0 : List Int) (l0_1 : List Int) (a0_2 : Bool) (a1_0 : Int) (a1_1 : Int) (a1_2 : Int) (a1_3 : Int) (a1_4 : Int) : Option (Bool) := (gimbalref12_FormFit.f k a1_0 a1_1 a1_2 a1_3 a1_4).bind fun t360 => (if t360 = true then (if a1_1 = 0 then (if a1_3 = 0 then (some true) else ((gimbalref11_Place.f k l0_0 l0_1 a0_2 a1_2).bind fun t361 => (some (decide (t361 ≥ 0))))) else ((gimbalref11_Place.f k l0_0 l0_1 a0_2 a1_0).bind fun t362 => (if t362 ≥ 0 then (if a1_3 = 0 then (some true) else ((gimbalref11_Place.f k l0_0 l0_1 a0_2 a1_2).bind fun t363 => (some (decide (t363 ≥ 0))))) else (some false)))) else (some false))
theorem gimbalref12_among.mono : ∀ a0 a1 a2 a3 a4 a5 a6 a7 k, LeO (gimbalref12_among.f k a0 a1 a2 a3 a4 a5 a6 a7) (gimbalref12_among.f (k + 1) a0 a1 a2 a3 a4 a5 a6 a7) := by
 intro a0 a1 a2 a3 a4 a5 a6 a7 k
 unfold gimbalref12_among.f
 repeat' first | (with_reducible first | apply gimbalref11_Place.mono | apply gimbalref12_FormFit.mono | apply LeO.refl | apply LeO.none | refine LeO.ite ?_ ?_ | refine LeO.bind ?_ (fun _ => ?_)) | apply gimbalref11_Place.mono | apply gimbalref12_FormFit.mono | apply LeO.none | refine LeO.ite ?_ ?_ | refine LeO.bind ?_ (fun _ => ?_)
theorem gimbalref12_among.calls (k : Nat) (A0_0 : Option Addr) (c0_0 : Nat) (l0_0 : List Int) (A0_1 : Option Addr) (c0_1 : Nat) (l0_1 : List Int) (a0_2 : Bool) (a1_0 : Int) (a1_1 : Int) (a1_2 : Int) (a1_3 : Int) (a1_4 : Int) (r : Bool) (w : World) (hr0_0 : Kd.C (Kd.int .i64) w A0_0 l0_0.length l0_0) (hc0_0 : l0_0.length ≤ c0_0) (hr0_1 : Kd.C (Kd.int .i64) w A0_1 l0_1.length l0_1) (hc0_1 : l0_1.length ≤ c0_1) (h : gimbalref12_among.f k l0_0 l0_1 a0_2 a1_0 a1_1 a1_2 a1_3 a1_4 = some r) :
 Calls Try.prog 62 #[.agg #[.slice A0_0 l0_0.length c0_0, .slice A0_1 l0_1.length c0_1, .bool a0_2], .agg #[.int .i64 a1_0, .int .i64 a1_1, .int .i64 a1_2, .int .i64 a1_3, .int .i64 a1_4]] w fun e w' => e = .returned (.bool r) ∧ Below w.heap.size w w' := by
 have hu25 := Try.underlying25
 have hu34 := Try.underlying34
 have HR0_0 := Aside0.mk hr0_0
 have HC0_0 := Aside0.mk hc0_0
 clear hr0_0 hc0_0
 have HR0_1 := Aside0.mk hr0_1
 have HC0_1 := Aside0.mk hc0_1
 clear hr0_1 hc0_1
 have HB := Aside0.mk (Below.refl w.heap.size w)
 have H := h
 unfold gimbalref12_among.f at H
 clear h
 replace H := Option.bind_eq_some_iff.mp H
 obtain ⟨t360, A30, H⟩ := H
 try dsimp only at H
 have A3 := Aside0.mk A30
 clear A30
 by_cases c4 : t360 = true
 ·
  subst c4
  rw [if_pos rfl] at H
  try dsimp only at H
  by_cases c5 : a1_1 = 0
  ·
   rw [if_pos c5] at H
   have c5b0 : (a1_1 == 0) = true := beq_iff_eq.mpr c5
   have c5b1 : (a1_1 != 0) = false := bne_eq_false_iff_eq.mpr c5
   clear c5
   by_cases c6 : a1_3 = 0
   ·
    rw [if_pos c6] at H
    have c6b0 : (a1_3 == 0) = true := beq_iff_eq.mpr c6
    have c6b1 : (a1_3 != 0) = false := bne_eq_false_iff_eq.mpr c6
    clear c6
    obtain rfl := Option.some.inj H
    go_enter Try.func62, Try.ntmps62
    go_wp2_with (first | ((with_reducible refine gate_dst (N := 2) rfl ?_); refine bx_ 2 #[.slice A0_0 l0_0.length c0_0, .slice A0_1 l0_1.length c0_1, .bool a0_2] 25 ?_; intro gb358 hg w7 hbox hb; have BK358 := Aside0.mk (hbox); have GW358 := vS hg HB; have GE358 := vS hg HB; replace HB := vWs HB hb; clear hb hbox hg) | ((with_reducible refine gate_dst (N := 3) rfl ?_); refine bx_ 3 #[.int .i64 a1_0, .int .i64 a1_1, .int .i64 a1_2, .int .i64 a1_3, .int .i64 a1_4] 34 ?_; intro gb359 hg w8 hbox hb; have BK359 := Aside0.mk (hbox); have GW359 := vS hg HB; have GE359 := vS hg HB; replace HB := vWs HB hb; have NB358_359 := vNl hg BK358; have NB359_358 := vNg hg BK358; replace BK358 := vBb BK358 hb; clear hb hbox hg; have hnb9 := NB359_358.out; have hnc9 := NB358_359.out; obtain ⟨hcz10_0, hcz10_1, hcz10_2, hcz10_3, hcz10_4, hfz10_0, hfz10_1, hfz10_2, hfz10_3, hfz10_4⟩ := vF5 BK359.out) | ((with_reducible refine gate_callee (f := 36) rfl ?_); refine gl_ (some 6) Try.func36 #[.agg #[.int .i64 a1_0, .int .i64 a1_1, .int .i64 a1_2, .int .i64 a1_3, .int .i64 a1_4]] ?_; (with_reducible refine (gimbalref12_FormFit.calls k a1_0 a1_1 a1_2 a1_3 a1_4 true _ A3.out).mono ?_); rintro e w11 ⟨rfl, hb⟩; refine ⟨_, rfl, ?_⟩; replace BK358 := vBb BK358 hb; replace BK359 := vBb BK359 hb; replace HB := vWs HB hb; (try clear hb); (try clear hb2); (try clear hk); (try clear hi); obtain ⟨hcz12_0, hcz12_1, hcz12_2, hcz12_3, hcz12_4, hfz12_0, hfz12_1, hfz12_2, hfz12_3, hfz12_4⟩ := vF5 BK359.out))
    go_ret
    exact ⟨vE, vW HB.out⟩
   ·
    rw [if_neg c6] at H
    have c6b0 : (a1_3 == 0) = false := beq_eq_false_iff_ne.mpr c6
    have c6b1 : (a1_3 != 0) = true := bne_iff_ne.mpr c6
    replace H := Option.bind_eq_some_iff.mp H
    obtain ⟨t361, A130, H⟩ := H
    try dsimp only at H
    have A13 := Aside0.mk A130
    clear A130
    obtain rfl := Option.some.inj H
    go_enter Try.func62, Try.ntmps62
    go_wp2_with (first | ((with_reducible refine gate_dst (N := 2) rfl ?_); refine bx_ 2 #[.slice A0_0 l0_0.length c0_0, .slice A0_1 l0_1.length c0_1, .bool a0_2] 25 ?_; intro gb358 hg w14 hbox hb; have BK358 := Aside0.mk (hbox); have GW358 := vS hg HB; have GE358 := vS hg HB; replace HB := vWs HB hb; clear hb hbox hg) | ((with_reducible refine gate_dst (N := 3) rfl ?_); refine bx_ 3 #[.int .i64 a1_0, .int .i64 a1_1, .int .i64 a1_2, .int .i64 a1_3, .int .i64 a1_4] 34 ?_; intro gb359 hg w15 hbox hb; have BK359 := Aside0.mk (hbox); have GW359 := vS hg HB; have GE359 := vS hg HB; replace HB := vWs HB hb; have NB358_359 := vNl hg BK358; have NB359_358 := vNg hg BK358; replace BK358 := vBb BK358 hb; clear hb hbox hg; have hnb16 := NB359_358.out; have hnc16 := NB358_359.out; obtain ⟨hcz17_0, hcz17_1, hcz17_2, hcz17_3, hcz17_4, hfz17_0, hfz17_1, hfz17_2, hfz17_3, hfz17_4⟩ := vF5 BK359.out) | ((with_reducible refine gate_callee (f := 36) rfl ?_); refine gl_ (some 6) Try.func36 #[.agg #[.int .i64 a1_0, .int .i64 a1_1, .int .i64 a1_2, .int .i64 a1_3, .int .i64 a1_4]] ?_; (with_reducible refine (gimbalref12_FormFit.calls k a1_0 a1_1 a1_2 a1_3 a1_4 true _ A3.out).mono ?_); rintro e w18 ⟨rfl, hb⟩; refine ⟨_, rfl, ?_⟩; replace BK358 := vBb BK358 hb; replace BK359 := vBb BK359 hb; replace HB := vWs HB hb; (try clear hb); (try clear hb2); (try clear hk); (try clear hi); obtain ⟨hcz19_0, hcz19_1, hcz19_2, hcz19_3, hcz19_4, hfz19_0, hfz19_1, hfz19_2, hfz19_3, hfz19_4⟩ := vF5 BK359.out; obtain ⟨hcz20_0, hcz20_1, hcz20_2, hfz20_0, hfz20_1, hfz20_2⟩ := vF3 BK358.out) | (go_at_call 28; (with_reducible refine (gimbalref11_Place.calls k _ _ l0_0 _ _ l0_1 a0_2 a1_2 t361 _ ?side1 ?side2 ?side3 ?side4 A13.out).mono ?_); (case side1 => exact vC (Kd.C_below HR0_0.out HB.out)); (case side2 => exact HC0_0.out); (case side3 => exact vC (Kd.C_below HR0_1.out HB.out)); (case side4 => exact HC0_1.out); rintro e w21 ⟨rfl, hb⟩; replace BK358 := vBb BK358 hb; replace BK359 := vBb BK359 hb; replace HB := vWs HB hb; (try clear hb); (try clear hb2); (try clear hk); (try clear hi)))
    go_ret
    exact ⟨vE, vW HB.out⟩
  ·
   rw [if_neg c5] at H
   have c5b0 : (a1_1 == 0) = false := beq_eq_false_iff_ne.mpr c5
   have c5b1 : (a1_1 != 0) = true := bne_iff_ne.mpr c5
   replace H := Option.bind_eq_some_iff.mp H
   obtain ⟨t362, A220, H⟩ := H
   try dsimp only at H
   have A22 := Aside0.mk A220
   clear A220
   by_cases c23 : t362 ≥ 0
   ·
    rw [if_pos c23] at H
    have c23b0 : decide (0 ≤ t362) = true := decide_eq_true c23
    clear c23
    by_cases c24 : a1_3 = 0
    ·
     rw [if_pos c24] at H
     have c24b0 : (a1_3 == 0) = true := beq_iff_eq.mpr c24
     have c24b1 : (a1_3 != 0) = false := bne_eq_false_iff_eq.mpr c24
     clear c24
     obtain rfl := Option.some.inj H
     go_enter Try.func62, Try.ntmps62
     go_wp2_with (first | ((with_reducible refine gate_dst (N := 2) rfl ?_); refine bx_ 2 #[.slice A0_0 l0_0.length c0_0, .slice A0_1 l0_1.length c0_1, .bool a0_2] 25 ?_; intro gb358 hg w25 hbox hb; have BK358 := Aside0.mk (hbox); have GW358 := vS hg HB; have GE358 := vS hg HB; replace HB := vWs HB hb; clear hb hbox hg) | ((with_reducible refine gate_dst (N := 3) rfl ?_); refine bx_ 3 #[.int .i64 a1_0, .int .i64 a1_1, .int .i64 a1_2, .int .i64 a1_3, .int .i64 a1_4] 34 ?_; intro gb359 hg w26 hbox hb; have BK359 := Aside0.mk (hbox); have GW359 := vS hg HB; have GE359 := vS hg HB; replace HB := vWs HB hb; have NB358_359 := vNl hg BK358; have NB359_358 := vNg hg BK358; replace BK358 := vBb BK358 hb; clear hb hbox hg; have hnb27 := NB359_358.out; have hnc27 := NB358_359.out; obtain ⟨hcz28_0, hcz28_1, hcz28_2, hcz28_3, hcz28_4, hfz28_0, hfz28_1, hfz28_2, hfz28_3, hfz28_4⟩ := vF5 BK359.out) | ((with_reducible refine gate_callee (f := 36) rfl ?_); refine gl_ (some 6) Try.func36 #[.agg #[.int .i64 a1_0, .int .i64 a1_1, .int .i64 a1_2, .int .i64 a1_3, .int .i64 a1_4]] ?_; (with_reducible refine (gimbalref12_FormFit.calls k a1_0 a1_1 a1_2 a1_3 a1_4 true _ A3.out).mono ?_); rintro e w29 ⟨rfl, hb⟩; refine ⟨_, rfl, ?_⟩; replace BK358 := vBb BK358 hb; replace BK359 := vBb BK359 hb; replace HB := vWs HB hb; (try clear hb); (try clear hb2); (try clear hk); (try clear hi); obtain ⟨hcz30_0, hcz30_1, hcz30_2, hcz30_3, hcz30_4, hfz30_0, hfz30_1, hfz30_2, hfz30_3, hfz30_4⟩ := vF5 BK359.out; obtain ⟨hcz31_0, hcz31_1, hcz31_2, hfz31_0, hfz31_1, hfz31_2⟩ := vF3 BK358.out) | (go_at_call 28; (with_reducible refine (gimbalref11_Place.calls k _ _ l0_0 _ _ l0_1 a0_2 a1_0 t362 _ ?side1 ?side2 ?side3 ?side4 A22.out).mono ?_); (case side1 => exact vC (Kd.C_below HR0_0.out HB.out)); (case side2 => exact HC0_0.out); (case side3 => exact vC (Kd.C_below HR0_1.out HB.out)); (case side4 => exact HC0_1.out); rintro e w32 ⟨rfl, hb⟩; replace BK358 := vBb BK358 hb; replace BK359 := vBb BK359 hb; replace HB := vWs HB hb; (try clear hb); (try clear hb2); (try clear hk); (try clear hi); obtain ⟨hcz33_0, hcz33_1, hcz33_2, hcz33_3, hcz33_4, hfz33_0, hfz33_1, hfz33_2, hfz33_3, hfz33_4⟩ := vF5 BK359.out))
     go_ret
     exact ⟨vE, vW HB.out⟩
    ·
     rw [if_neg c24] at H
     have c24b0 : (a1_3 == 0) = false := beq_eq_false_iff_ne.mpr c24
     have c24b1 : (a1_3 != 0) = true := bne_iff_ne.mpr c24
     replace H := Option.bind_eq_some_iff.mp H
     obtain ⟨t363, A340, H⟩ := H
     try dsimp only at H
     have A34 := Aside0.mk A340
     clear A340
     obtain rfl := Option.some.inj H
     go_enter Try.func62, Try.ntmps62
     go_wp2_with (first | ((with_reducible refine gate_dst (N := 2) rfl ?_); refine bx_ 2 #[.slice A0_0 l0_0.length c0_0, .slice A0_1 l0_1.length c0_1, .bool a0_2] 25 ?_; intro gb358 hg w35 hbox hb; have BK358 := Aside0.mk (hbox); have GW358 := vS hg HB; have GE358 := vS hg HB; replace HB := vWs HB hb; clear hb hbox hg) | ((with_reducible refine gate_dst (N := 3) rfl ?_); refine bx_ 3 #[.int .i64 a1_0, .int .i64 a1_1, .int .i64 a1_2, .int .i64 a1_3, .int .i64 a1_4] 34 ?_; intro gb359 hg w36 hbox hb; have BK359 := Aside0.mk (hbox); have GW359 := vS hg HB; have GE359 := vS hg HB; replace HB := vWs HB hb; have NB358_359 := vNl hg BK358; have NB359_358 := vNg hg BK358; replace BK358 := vBb BK358 hb; clear hb hbox hg; have hnb37 := NB359_358.out; have hnc37 := NB358_359.out; obtain ⟨hcz38_0, hcz38_1, hcz38_2, hcz38_3, hcz38_4, hfz38_0, hfz38_1, hfz38_2, hfz38_3, hfz38_4⟩ := vF5 BK359.out) | ((with_reducible refine gate_callee (f := 36) rfl ?_); refine gl_ (some 6) Try.func36 #[.agg #[.int .i64 a1_0, .int .i64 a1_1, .int .i64 a1_2, .int .i64 a1_3, .int .i64 a1_4]] ?_; (with_reducible refine (gimbalref12_FormFit.calls k a1_0 a1_1 a1_2 a1_3 a1_4 true _ A3.out).mono ?_); rintro e w39 ⟨rfl, hb⟩; refine ⟨_, rfl, ?_⟩; replace BK358 := vBb BK358 hb; replace BK359 := vBb BK359 hb; replace HB := vWs HB hb; (try clear hb); (try clear hb2); (try clear hk); (try clear hi); obtain ⟨hcz40_0, hcz40_1, hcz40_2, hcz40_3, hcz40_4, hfz40_0, hfz40_1, hfz40_2, hfz40_3, hfz40_4⟩ := vF5 BK359.out; obtain ⟨hcz41_0, hcz41_1, hcz41_2, hfz41_0, hfz41_1, hfz41_2⟩ := vF3 BK358.out) | (go_at_call 28; (with_reducible refine (gimbalref11_Place.calls k _ _ l0_0 _ _ l0_1 a0_2 a1_0 t362 _ ?side1 ?side2 ?side3 ?side4 A22.out).mono ?_); (case side1 => exact vC (Kd.C_below HR0_0.out HB.out)); (case side2 => exact HC0_0.out); (case side3 => exact vC (Kd.C_below HR0_1.out HB.out)); (case side4 => exact HC0_1.out); rintro e w42 ⟨rfl, hb⟩; replace BK358 := vBb BK358 hb; replace BK359 := vBb BK359 hb; replace HB := vWs HB hb; (try clear hb); (try clear hb2); (try clear hk); (try clear hi); obtain ⟨hcz43_0, hcz43_1, hcz43_2, hcz43_3, hcz43_4, hfz43_0, hfz43_1, hfz43_2, hfz43_3, hfz43_4⟩ := vF5 BK359.out; obtain ⟨hcz44_0, hcz44_1, hcz44_2, hfz44_0, hfz44_1, hfz44_2⟩ := vF3 BK358.out) | (go_at_call 28; (with_reducible refine (gimbalref11_Place.calls k _ _ l0_0 _ _ l0_1 a0_2 a1_2 t363 _ ?side1 ?side2 ?side3 ?side4 A34.out).mono ?_); (case side1 => exact vC (Kd.C_below HR0_0.out HB.out)); (case side2 => exact HC0_0.out); (case side3 => exact vC (Kd.C_below HR0_1.out HB.out)); (case side4 => exact HC0_1.out); rintro e w45 ⟨rfl, hb⟩; replace BK358 := vBb BK358 hb; replace BK359 := vBb BK359 hb; replace HB := vWs HB hb; (try clear hb); (try clear hb2); (try clear hk); (try clear hi)))
     go_ret
     exact ⟨vE, vW HB.out⟩
   ·
    rw [if_neg c23] at H
    have c23b0 : decide (0 ≤ t362) = false := decide_eq_false c23
    clear c23
    obtain rfl := Option.some.inj H
    go_enter Try.func62, Try.ntmps62
    go_wp2_with (first | ((with_reducible refine gate_dst (N := 2) rfl ?_); refine bx_ 2 #[.slice A0_0 l0_0.length c0_0, .slice A0_1 l0_1.length c0_1, .bool a0_2] 25 ?_; intro gb358 hg w46 hbox hb; have BK358 := Aside0.mk (hbox); have GW358 := vS hg HB; have GE358 := vS hg HB; replace HB := vWs HB hb; clear hb hbox hg) | ((with_reducible refine gate_dst (N := 3) rfl ?_); refine bx_ 3 #[.int .i64 a1_0, .int .i64 a1_1, .int .i64 a1_2, .int .i64 a1_3, .int .i64 a1_4] 34 ?_; intro gb359 hg w47 hbox hb; have BK359 := Aside0.mk (hbox); have GW359 := vS hg HB; have GE359 := vS hg HB; replace HB := vWs HB hb; have NB358_359 := vNl hg BK358; have NB359_358 := vNg hg BK358; replace BK358 := vBb BK358 hb; clear hb hbox hg; have hnb48 := NB359_358.out; have hnc48 := NB358_359.out; obtain ⟨hcz49_0, hcz49_1, hcz49_2, hcz49_3, hcz49_4, hfz49_0, hfz49_1, hfz49_2, hfz49_3, hfz49_4⟩ := vF5 BK359.out) | ((with_reducible refine gate_callee (f := 36) rfl ?_); refine gl_ (some 6) Try.func36 #[.agg #[.int .i64 a1_0, .int .i64 a1_1, .int .i64 a1_2, .int .i64 a1_3, .int .i64 a1_4]] ?_; (with_reducible refine (gimbalref12_FormFit.calls k a1_0 a1_1 a1_2 a1_3 a1_4 true _ A3.out).mono ?_); rintro e w50 ⟨rfl, hb⟩; refine ⟨_, rfl, ?_⟩; replace BK358 := vBb BK358 hb; replace BK359 := vBb BK359 hb; replace HB := vWs HB hb; (try clear hb); (try clear hb2); (try clear hk); (try clear hi); obtain ⟨hcz51_0, hcz51_1, hcz51_2, hcz51_3, hcz51_4, hfz51_0, hfz51_1, hfz51_2, hfz51_3, hfz51_4⟩ := vF5 BK359.out; obtain ⟨hcz52_0, hcz52_1, hcz52_2, hfz52_0, hfz52_1, hfz52_2⟩ := vF3 BK358.out) | (go_at_call 28; (with_reducible refine (gimbalref11_Place.calls k _ _ l0_0 _ _ l0_1 a0_2 a1_0 t362 _ ?side1 ?side2 ?side3 ?side4 A22.out).mono ?_); (case side1 => exact vC (Kd.C_below HR0_0.out HB.out)); (case side2 => exact HC0_0.out); (case side3 => exact vC (Kd.C_below HR0_1.out HB.out)); (case side4 => exact HC0_1.out); rintro e w53 ⟨rfl, hb⟩; replace BK358 := vBb BK358 hb; replace BK359 := vBb BK359 hb; replace HB := vWs HB hb; (try clear hb); (try clear hb2); (try clear hk); (try clear hi)))
    go_ret
    exact ⟨vE, vW HB.out⟩
 ·
  replace c4 := Bool.eq_false_iff.mpr c4
  subst c4
  rw [if_neg (show ¬ (false = true) by decide)] at H
  try dsimp only at H
  obtain rfl := Option.some.inj H
  go_enter Try.func62, Try.ntmps62
  go_wp2_with (first | ((with_reducible refine gate_dst (N := 2) rfl ?_); refine bx_ 2 #[.slice A0_0 l0_0.length c0_0, .slice A0_1 l0_1.length c0_1, .bool a0_2] 25 ?_; intro gb358 hg w54 hbox hb; have BK358 := Aside0.mk (hbox); have GW358 := vS hg HB; have GE358 := vS hg HB; replace HB := vWs HB hb; clear hb hbox hg) | ((with_reducible refine gate_dst (N := 3) rfl ?_); refine bx_ 3 #[.int .i64 a1_0, .int .i64 a1_1, .int .i64 a1_2, .int .i64 a1_3, .int .i64 a1_4] 34 ?_; intro gb359 hg w55 hbox hb; have BK359 := Aside0.mk (hbox); have GW359 := vS hg HB; have GE359 := vS hg HB; replace HB := vWs HB hb; have NB358_359 := vNl hg BK358; have NB359_358 := vNg hg BK358; replace BK358 := vBb BK358 hb; clear hb hbox hg; have hnb56 := NB359_358.out; have hnc56 := NB358_359.out; obtain ⟨hcz57_0, hcz57_1, hcz57_2, hcz57_3, hcz57_4, hfz57_0, hfz57_1, hfz57_2, hfz57_3, hfz57_4⟩ := vF5 BK359.out) | ((with_reducible refine gate_callee (f := 36) rfl ?_); refine gl_ (some 6) Try.func36 #[.agg #[.int .i64 a1_0, .int .i64 a1_1, .int .i64 a1_2, .int .i64 a1_3, .int .i64 a1_4]] ?_; (with_reducible refine (gimbalref12_FormFit.calls k a1_0 a1_1 a1_2 a1_3 a1_4 false _ A3.out).mono ?_); rintro e w58 ⟨rfl, hb⟩; refine ⟨_, rfl, ?_⟩; replace BK358 := vBb BK358 hb; replace BK359 := vBb BK359 hb; replace HB := vWs HB hb; (try clear hb); (try clear hb2); (try clear hk); (try clear hi)))
  go_ret
  exact ⟨vE, vW HB.out⟩
def gimbalref12_bar.f (a0 : Int) : Option (Int) := if (Int.tmod a0 2) = 0 then (some (wrap64 (a0 + 1))) else (some (wrap64 (a0 - 1)))
theorem gimbalref12_bar.calls (a0 : Int) (r : Int) (w : World) (h : gimbalref12_bar.f a0 = some r) :
 Calls Try.prog 108 #[.int .i64 a0] w fun e w' => e = .returned (.int .i64 r) ∧ Drawn0 w w' := by
 have H : (if (Int.tmod a0 2) = 0 then (some (wrap64 (a0 + 1))) else (some (wrap64 (a0 - 1)))) = some r := h
 clear h
 by_cases c2 : (Int.tmod a0 2) = 0
 ·
  rw [if_pos c2] at H
  have c2b0 : ((Int.tmod a0 2) == 0) = true := beq_iff_eq.mpr c2
  have c2b1 : ((Int.tmod a0 2) != 0) = false := bne_eq_false_iff_eq.mpr c2
  clear c2
  obtain rfl := Option.some.inj H
  go_enter Try.func108, Try.ntmps108
  go_wp2
  go_ret
  exact ⟨by first | rfl | (simp; done) | (simp [*]; done), by repeat (first | exact Drawn0.refl _ | apply Drawn0.step)⟩
 ·
  rw [if_neg c2] at H
  have c2b0 : ((Int.tmod a0 2) == 0) = false := beq_eq_false_iff_ne.mpr c2
  have c2b1 : ((Int.tmod a0 2) != 0) = true := bne_iff_ne.mpr c2
  obtain rfl := Option.some.inj H
  go_enter Try.func108, Try.ntmps108
  go_wp2
  go_ret
  exact ⟨by first | rfl | (simp; done) | (simp [*]; done), by repeat (first | exact Drawn0.refl _ | apply Drawn0.step)⟩
def gimbalref12_cut.f (a0 : Int) : Option (Int) := if a0 > 2199023255552 then (some 2199023255552) else (if a0 < (-2199023255552) then (some (-2199023255552)) else (some a0))
theorem gimbalref12_cut.calls (a0 : Int) (r : Int) (w : World) (h : gimbalref12_cut.f a0 = some r) :
 Calls Try.prog 68 #[.int .i64 a0] w fun e w' => e = .returned (.int .i64 r) ∧ Drawn0 w w' := by
 have H : (if a0 > 2199023255552 then (some 2199023255552) else (if a0 < (-2199023255552) then (some (-2199023255552)) else (some a0))) = some r := h
 clear h
 by_cases c2 : a0 > 2199023255552
 ·
  rw [if_pos c2] at H
  have c2b0 : decide (2199023255552 < a0) = true := decide_eq_true c2
  clear c2
  obtain rfl := Option.some.inj H
  go_enter Try.func68, Try.ntmps68
  go_wp2
  go_ret
  exact ⟨by first | rfl | (simp; done) | (simp [*]; done), by repeat (first | exact Drawn0.refl _ | apply Drawn0.step)⟩
 ·
  rw [if_neg c2] at H
  have c2b0 : decide (2199023255552 < a0) = false := decide_eq_false c2
  clear c2
  by_cases c3 : a0 < (-2199023255552)
  ·
   rw [if_pos c3] at H
   have c3b0 : decide (a0 < (-2199023255552)) = true := decide_eq_true c3
   clear c3
   obtain rfl := Option.some.inj H
   go_enter Try.func68, Try.ntmps68
   go_wp2
   go_ret
   exact ⟨by first | rfl | (simp; done) | (simp [*]; done), by repeat (first | exact Drawn0.refl _ | apply Drawn0.step)⟩
  ·
   rw [if_neg c3] at H
   have c3b0 : decide (a0 < (-2199023255552)) = false := decide_eq_false c3
   clear c3
   obtain rfl := Option.some.inj H
   go_enter Try.func68, Try.ntmps68
   go_wp2
   go_ret
   exact ⟨by first | rfl | (simp; done) | (simp [*]; done), by repeat (first | exact Drawn0.refl _ | apply Drawn0.step)⟩
def gimbalref02_None.f (a0_0 : Int) (a0_1 : Int) : Option (Bool) := some (decide (a0_0 > a0_1))
theorem gimbalref02_None.calls (a0_0 : Int) (a0_1 : Int) (r : Bool) (w : World) (h : gimbalref02_None.f a0_0 a0_1 = some r) :
 Calls Try.prog 64 #[.agg #[.int .i64 a0_0, .int .i64 a0_1]] w fun e w' => e = .returned (.bool r) ∧ Below w.heap.size w w' := by
 have hu36 := Try.underlying36
 have HB := Aside0.mk (Below.refl w.heap.size w)
 have H : (some (decide (a0_0 > a0_1))) = some r := h
 clear h
 obtain rfl := Option.some.inj H
 go_enter Try.func64, Try.ntmps64
 go_wp2_with (first | ((with_reducible refine gate_dst (N := 1) rfl ?_); refine bx_ 1 #[.int .i64 a0_0, .int .i64 a0_1] 36 ?_; intro gb365 hg w2 hbox hb; have n0_ := Aside0.mk (below_step (by repeat (first | (with_reducible first | exact HB.out | apply below_alloc | apply pw_below_drewN | apply below_drew1) | exact HB.out)) hb); have n1_ := Aside0.mk (hbox); have n2_ := Aside0.mk ((by rw [hg]; exact (below_size (by repeat (first | (with_reducible first | exact HB.out | apply below_alloc | apply pw_below_drewN | apply below_drew1) | exact HB.out))) : w.heap.size ≤ gb365)); have n3_ := Aside0.mk ((by rw [hg]; exact (below_size (by repeat (first | (with_reducible first | exact HB.out | apply below_alloc | apply pw_below_drewN | apply below_drew1) | exact HB.out))) : w.heap.size ≤ gb365)); clear HB; have HB := n0_; have BK365 := n1_; have GW365 := n2_; have GE365 := n3_; clear n0_ n1_ n2_ n3_; clear hb hbox hg; have hcz3_0 : w2.cell? ⟨gb365, 0, none⟩ = some (.int .i64 a0_0) := (blk_cell BK365.out 0).trans rfl; have hcz3_1 : w2.cell? ⟨gb365, 1, none⟩ = some (.int .i64 a0_1) := (blk_cell BK365.out 1).trans rfl; have hfz3_0 := blk_frozen BK365.out 0; have hfz3_1 := blk_frozen BK365.out 1))
 go_ret
 exact ⟨vE, by repeat (first | (with_reducible first | exact HB.out | apply below_alloc | apply pw_below_drewN | apply below_drew1 | refine below_set ?_ GE365.out) | exact HB.out)⟩
def gimbalref12_moved.j0 : Nat → Int → Int → Bool → Option (Int)
 | 0, _, _, _ => none
 | k + 1, x0, x1, x12 => if x12 = true then (some 4611686018427387904) else (if (wrap64 (x0 + x1)) < (-1099511627776) then (some (-1099511627776)) else (some (wrap64 (x0 + x1))))
def gimbalref12_moved.f (k : Nat) (a0 : Int) (a1 : Int) : Option (Int) := if a0 = 4611686018427387904 then (gimbalref12_moved.j0 k a0 a1 true) else (gimbalref12_moved.j0 k a0 a1 (decide ((wrap64 (a0 + a1)) > 1099511627776)))
theorem gimbalref12_moved.mono_l : ∀ k, (∀ y0 y1 y2, LeO (gimbalref12_moved.j0 k y0 y1 y2) (gimbalref12_moved.j0 (k + 1) y0 y1 y2))
 | 0 => fun _ _ _ r h => by simp [gimbalref12_moved.j0] at h
 | k + 1 => by
  have ih0 := gimbalref12_moved.mono_l k
  intros
  unfold gimbalref12_moved.j0 <;> repeat' first | (with_reducible first | apply ih0 | apply LeO.refl | apply LeO.none | refine LeO.ite ?_ ?_ | refine LeO.bind ?_ (fun _ => ?_)) | apply ih0 | apply LeO.none | refine LeO.ite ?_ ?_ | refine LeO.bind ?_ (fun _ => ?_)
theorem gimbalref12_moved.mono : ∀ a0 a1 k, LeO (gimbalref12_moved.f k a0 a1) (gimbalref12_moved.f (k + 1) a0 a1) := by
 intro a0 a1 k
 have ih0 := gimbalref12_moved.mono_l k
 unfold gimbalref12_moved.f
 repeat' first | (with_reducible first | apply ih0 | apply LeO.refl | apply LeO.none | refine LeO.ite ?_ ?_ | refine LeO.bind ?_ (fun _ => ?_)) | apply ih0 | apply LeO.none | refine LeO.ite ?_ ?_ | refine LeO.bind ?_ (fun _ => ?_)
theorem gimbalref12_moved.calls (k : Nat) (a0 : Int) (a1 : Int) (r : Int) (w : World) (h : gimbalref12_moved.f k a0 a1 = some r) :
 Calls Try.prog 115 #[.int .i64 a0, .int .i64 a1] w fun e w' => e = .returned (.int .i64 r) ∧ Drawn0 w w' := by
 have H : (if a0 = 4611686018427387904 then (gimbalref12_moved.j0 k a0 a1 true) else (gimbalref12_moved.j0 k a0 a1 (decide ((wrap64 (a0 + a1)) > 1099511627776)))) = some r := h
 clear h
 have HC3 := Aside0.mk H
 clear H
 go_enter Try.func115, Try.ntmps115
 go_upto_region 1 with (fail)
 go_cut [12] (fun v12 wc => ∃ (kq : Nat) (x12_2 : Bool), v12 = .bool x12_2 ∧ Aside0 (gimbalref12_moved.j0 kq a0 a1 x12_2 = some r) ∧ Aside0 (kq ≤ k) ∧ Drawn0 w wc)
 case first =>
  have H := HC3.out
  clear HC3
  by_cases c4 : a0 = 4611686018427387904
  ·
   rw [if_pos c4] at H
   have c4b0 : (a0 == 4611686018427387904) = true := beq_iff_eq.mpr c4
   have c4b1 : (a0 != 4611686018427387904) = false := bne_eq_false_iff_eq.mpr c4
   clear c4
   (first | rw [c4b0] | (simp only [i64_w, i32_w]; rw [c4b0]) | skip)
   have H' := Aside0.mk H
   clear H
   go_wp2
   go_meet
   case rel => exact ⟨_, (true), (by first | rfl | (simp; done) | (simp [*]; done)), H', ⟨by first | omega | exact Nat.le_refl _⟩, by repeat (first | exact Drawn0.refl _ | apply Drawn0.step)⟩
  ·
   rw [if_neg c4] at H
   have c4b0 : (a0 == 4611686018427387904) = false := beq_eq_false_iff_ne.mpr c4
   have c4b1 : (a0 != 4611686018427387904) = true := bne_iff_ne.mpr c4
   (first | rw [c4b0] | (simp only [i64_w, i32_w]; rw [c4b0]) | skip)
   have H' := Aside0.mk H
   clear H
   go_wp2
   go_meet
   case rel => exact ⟨_, (decide ((wrap64 (a0 + a1)) > 1099511627776)), (by first | rfl | (simp; done) | (simp [*]; done)), H', ⟨by first | omega | exact Nat.le_refl _⟩, by repeat (first | exact Drawn0.refl _ | apply Drawn0.step)⟩
 case rest =>
  clear HC3
  try clear c1
  try clear p2
  try clear c4
  try clear c4b0
  try clear c4b1
  obtain ⟨kq, x12_2, rfl, HA, HJ2, ⟨mc2, rfl⟩⟩ := hcut
  cases kq with
  | zero => exact absurd HA.out (by simp [gimbalref12_moved.j0])
  | succ kj2 =>
   have H := HA.out
   clear HA
   simp only [gimbalref12_moved.j0] at H
   by_cases c5 : x12_2 = true
   ·
    subst c5
    have H1 : (some 4611686018427387904) = some r := by rw [if_pos rfl] at H; exact H
    clear H
    have H := H1
    clear H1
    obtain rfl := Option.some.inj H
    go_wp2
    go_ret
    exact ⟨by first | rfl | (simp; done) | (simp [*]; done), by repeat (first | exact Drawn0.refl _ | apply Drawn0.step)⟩
   ·
    replace c5 := Bool.eq_false_iff.mpr c5
    subst c5
    have H1 : (if (wrap64 (a0 + a1)) < (-1099511627776) then (some (-1099511627776)) else (some (wrap64 (a0 + a1)))) = some r := by rw [if_neg (show ¬ (false = true) by decide)] at H; exact H
    clear H
    have H := H1
    clear H1
    by_cases c6 : (wrap64 (a0 + a1)) < (-1099511627776)
    ·
     rw [if_pos c6] at H
     have c6b0 : decide ((wrap64 (a0 + a1)) < (-1099511627776)) = true := decide_eq_true c6
     clear c6
     obtain rfl := Option.some.inj H
     go_wp2
     go_ret
     exact ⟨by first | rfl | (simp; done) | (simp [*]; done), by repeat (first | exact Drawn0.refl _ | apply Drawn0.step)⟩
    ·
     rw [if_neg c6] at H
     have c6b0 : decide ((wrap64 (a0 + a1)) < (-1099511627776)) = false := decide_eq_false c6
     clear c6
     obtain rfl := Option.some.inj H
     go_wp2
     go_ret
     exact ⟨by first | rfl | (simp; done) | (simp [*]; done), by repeat (first | exact Drawn0.refl _ | apply Drawn0.step)⟩
def gimbalref12_add.f (a0 : Int) (a1 : Int) (a2 : Int) : Option (Int) := if (wrap64 (Int.tdiv a0 2)) = a1 then (if (Int.tmod a0 2) = 0 then (some a2) else (some (wrap64 (-a2)))) else (some 0)
theorem gimbalref12_add.calls (a0 : Int) (a1 : Int) (a2 : Int) (r : Int) (w : World) (h : gimbalref12_add.f a0 a1 a2 = some r) :
 Calls Try.prog 116 #[.int .i64 a0, .int .i64 a1, .int .i64 a2] w fun e w' => e = .returned (.int .i64 r) ∧ Drawn0 w w' := by
 have H : (if (wrap64 (Int.tdiv a0 2)) = a1 then (if (Int.tmod a0 2) = 0 then (some a2) else (some (wrap64 (-a2)))) else (some 0)) = some r := h
 clear h
 by_cases c4 : (wrap64 (Int.tdiv a0 2)) = a1
 ·
  rw [if_pos c4] at H
  have c4b0 : ((wrap64 (Int.tdiv a0 2)) == a1) = true := beq_iff_eq.mpr c4
  have c4b1 : ((wrap64 (Int.tdiv a0 2)) != a1) = false := bne_eq_false_iff_eq.mpr c4
  clear c4
  by_cases c5 : (Int.tmod a0 2) = 0
  ·
   rw [if_pos c5] at H
   have c5b0 : ((Int.tmod a0 2) == 0) = true := beq_iff_eq.mpr c5
   have c5b1 : ((Int.tmod a0 2) != 0) = false := bne_eq_false_iff_eq.mpr c5
   clear c5
   obtain rfl := Option.some.inj H
   go_enter Try.func116, Try.ntmps116
   go_wp2
   go_ret
   exact ⟨by first | rfl | (simp; done) | (simp [*]; done), by repeat (first | exact Drawn0.refl _ | apply Drawn0.step)⟩
  ·
   rw [if_neg c5] at H
   have c5b0 : ((Int.tmod a0 2) == 0) = false := beq_eq_false_iff_ne.mpr c5
   have c5b1 : ((Int.tmod a0 2) != 0) = true := bne_iff_ne.mpr c5
   obtain rfl := Option.some.inj H
   go_enter Try.func116, Try.ntmps116
   go_wp2
   go_ret
   exact ⟨by first | rfl | (simp; done) | (simp [*]; done), by repeat (first | exact Drawn0.refl _ | apply Drawn0.step)⟩
 ·
  rw [if_neg c4] at H
  have c4b0 : ((wrap64 (Int.tdiv a0 2)) == a1) = false := beq_eq_false_iff_ne.mpr c4
  have c4b1 : ((wrap64 (Int.tdiv a0 2)) != a1) = true := bne_iff_ne.mpr c4
  obtain rfl := Option.some.inj H
  go_enter Try.func116, Try.ntmps116
  go_wp2
  go_ret
  exact ⟨by first | rfl | (simp; done) | (simp [*]; done), by repeat (first | exact Drawn0.refl _ | apply Drawn0.step)⟩
end Go.Proofs.Ytphfchbggechhaa.QO
end
end
