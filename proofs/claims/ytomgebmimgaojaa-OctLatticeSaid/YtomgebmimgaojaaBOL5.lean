/- Own texts of this claim, joined: WalkOctLattice, Open -/
import Derived.Test.YtomgebmimgaojaaBOL0
import Derived.Test.YtomgebmimgaojaaBOL4
import Derived.ChangeArms
import Derived.SizedLaws
section
/- The law OctLattice walked: it answers true. Printed by gen_ol.py. -/
noncomputable section
namespace Go.Proofs.Ytomgebmimgaojaa.QO
open Go.RowKit Go.Shelf Go.Proofs.YtomgebmimgaojaaW.PrintWords Go.Proofs.YtomgebmimgaojaaW.PrintLast Go.Proofs.YtomgebmimgaojaaW.PrintMore
open Go.Proofs.Ytomgebmimgaojaa.Pure Octs Two
attribute [local go_sem] Oper.semAt_some
attribute [local go_sem ↓] Go.wp_at_zero Go.wp_at_succ
set_option linter.unusedVariables false
set_option linter.unusedSimpArgs false
def octLattice_T : Bool × List (List Nat × List Nat) := (true, [([], []), ([], []), ([0, 1], [0, 1]), ([], []), ([], []), ([3, 4, 2], [3, 4]), ([], []), ([], []), ([6, 2, 5, 0, 1, 2, 6, 7], [2, 6]), ([7, 5, 8, 0, 1, 2, 3, 4, 5, 6, 7, 8], [5, 7])])
def octLattice_B : List Nat := [0, 0, 3, 0, 0, 31, 0, 0, 255, 511]
theorem octLattice_tab : rtab .any (opsOf Try.f10 3) = octLattice_T := by kernel_rfl
def octLattice_T8 : Bool × List (List Nat × List Nat) := (true, [([], []), ([], []), ([0, 1], [0, 1]), ([2, 2], [2]), ([3], [3]), ([3], [3]), ([4, 5, 3, 3], [3, 4, 5]), ([3, 6], [3, 6]), ([7, 6], [7]), ([8], [8]), ([8], [8]), ([9, 10, 8, 8], [8, 9, 10]), ([11, 8], [8, 11]), ([8, 12], [8, 12]), ([13, 11], [13]), ([14], [14]), ([14], [14]), ([15, 16, 14, 14], [14, 15, 16]), ([17, 17, 14], [14, 17]), ([18], [18]), ([18], [18]), ([19, 20, 18, 18], [18, 19, 20]), ([18], [18]), ([18], [18]), ([22, 23, 21, 18], [18, 22, 23]), ([21, 24, 18], [18, 21, 24]), ([18, 25, 14], [14, 18, 25]), ([14, 26], [14, 26])])
def octLattice_B8 : List Nat := [0, 0, 3, 7, 15, 15, 63, 127, 255, 511, 511, 2047, 4095, 8191, 16383, 32767, 32767, 131071, 262143, 524287, 524287, 2097151, 524287, 524287, 16777215, 33554431, 67108863, 134217727]
theorem octLattice_tab8 : rtab .any (opsOf Try.f10 8) = octLattice_T8 := by kernel_rfl
theorem octLattice_bits8 : waitsOk octLattice_T8.2 octLattice_B8 = true := by kernel_rfl
def octLattice_T11 : Bool × List (List Nat × List Nat) := (true, [([], []), ([], []), ([0, 1], [0, 1]), ([2, 2], [2]), ([3], [3]), ([4, 3, 3], [3, 4]), ([3], [3]), ([5, 6, 5, 3], [3, 5, 6]), ([3, 7], [3, 7]), ([8, 7], [8]), ([9, 9], [9]), ([9, 10], [9, 10]), ([11, 10, 0, 1, 2, 3, 4, 5, 6, 7, 8, 9, 10, 11], [11])])
def octLattice_B11 : List Nat := [0, 0, 3, 7, 15, 31, 15, 127, 255, 511, 1023, 2047, 4095]
theorem octLattice_tab11 : rtab .any (opsOf Try.f10 11) = octLattice_T11 := by kernel_rfl
theorem octLattice_bits11 : waitsOk octLattice_T11.2 octLattice_B11 = true := by kernel_rfl
theorem octLattice_bits : waitsOk octLattice_T.2 octLattice_B = true := by kernel_rfl
set_option maxHeartbeats 16000000 in
set_option maxRecDepth 100000 in
theorem octLattice_walk (X Y Z : OV) (w : World) (hX : Oc w w X) (hY : Oc w w Y) (hZ : Oc w w Z)
    (lx : X.v.length ≤ 17592186044416) (ly : Y.v.length ≤ 17592186044416) (lz : Z.v.length ≤ 17592186044416) : Says 10 #[X.val, Y.val, Z.val] w (.bool true) := by
  have hu25 := Try.underlying25
  obtain ⟨b, b1, b2⟩ := two_o hX hY (Below.refl _ _) lx ly
  obtain ⟨e, e1, e2⟩ := two_o hY hZ (Below.refl _ _) ly lz
  have B1 := Aside0.mk b1
  have B2 := Aside0.mk @b2
  have E1 := Aside0.mk e1
  have E2 := Aside0.mk @e2
  have HS := Aside0.mk (LS.three X Y Z hX hY hZ)
  clear hX hY hZ b1 b2 e1 e2 lx ly lz
  go_enter Try.func10, Try.ntmps10
  go_upto_region 1 with fail
  generalize hW2 : (((w.alloc X.cells).alloc Y.cells).alloc Z.cells) = W2 at HS ⊢
  generalize hgc : w.heap.size + 1 + 1 = gc at HS ⊢
  generalize hgb : w.heap.size + 1 = gb at HS ⊢
  generalize hga : w.heap.size = ga at HS ⊢
  clear hW2 hgc hgb hga
  obtain ⟨⟨ka0, ka1, ka2⟩, fa0, fa1, fa2⟩ := LS.cells HS m0_; obtain ⟨⟨kb0, kb1, kb2⟩, fb0, fb1, fb2⟩ := LS.cells HS m1_; obtain ⟨⟨kc0, kc1, kc2⟩, fc0, fc1, fc2⟩ := LS.cells HS m2_
  by_cases hbe : b = true ∧ e = true
  · obtain ⟨rfl, rfl⟩ := hbe
    obtain ⟨ox, oy⟩ := B1.out rfl
    obtain ⟨_, oz⟩ := E1.out rfl
    have OX := Aside0.mk ox
    have OY := Aside0.mk oy
    have OZ := Aside0.mk (And.intro oz.1 (oz.2.trans oy.2))
    clear ox oy oz
    go_upto_region 3 with (first | (go_at_call 32; (with_reducible refine (B2.out (LS.oc HS m0_) (LS.oc HS m1_) (LS.bel HS)).mono ?_); rintro e wk ⟨rfl, hb⟩; have n_ := Aside0.mk ((LS.to HS).next hb); clear HS; have HS := n_; clear n_ hb; clear ka0 ka1 ka2 fa0 fa1 fa2; obtain ⟨⟨ka0, ka1, ka2⟩, fa0, fa1, fa2⟩ := LS.cells HS m0_; clear kb0 kb1 kb2 fb0 fb1 fb2; obtain ⟨⟨kb0, kb1, kb2⟩, fb0, fb1, fb2⟩ := LS.cells HS m1_; clear kc0 kc1 kc2 fc0 fc1 fc2; obtain ⟨⟨kc0, kc1, kc2⟩, fc0, fc1, fc2⟩ := LS.cells HS m2_) | (go_at_call 32; (with_reducible refine (E2.out (LS.oc HS m1_) (LS.oc HS m2_) (LS.bel HS)).mono ?_); rintro e wk ⟨rfl, hb⟩; have n_ := Aside0.mk ((LS.to HS).next hb); clear HS; have HS := n_; clear n_ hb; clear ka0 ka1 ka2 fa0 fa1 fa2; obtain ⟨⟨ka0, ka1, ka2⟩, fa0, fa1, fa2⟩ := LS.cells HS m0_; clear kb0 kb1 kb2 fb0 fb1 fb2; obtain ⟨⟨kb0, kb1, kb2⟩, fb0, fb1, fb2⟩ := LS.cells HS m1_; clear kc0 kc1 kc2 fc0 fc1 fc2; obtain ⟨⟨kc0, kc1, kc2⟩, fc0, fc1, fc2⟩ := LS.cells HS m2_))
    refine startN_ (n := 10) (S := fun w' => w'.cell? ⟨ga, 0, none⟩ = some (.slice X.P X.v.length X.p) ∧ w'.cell? ⟨ga, 1, none⟩ = some (.slice X.Q X.m.length X.q) ∧ w'.cell? ⟨ga, 2, none⟩ = some (.bool X.e) ∧ w'.cell? ⟨gb, 0, none⟩ = some (.slice Y.P Y.v.length Y.p) ∧ w'.cell? ⟨gb, 1, none⟩ = some (.slice Y.Q Y.m.length Y.q) ∧ w'.cell? ⟨gb, 2, none⟩ = some (.bool Y.e)) (ds := [8, 9]) (mB 10 0) (by kernel_rfl) rfl (by kernel_rfl) ⟨(HS.out.drew.cell m0_).1, (HS.out.drew.cell m0_).2.1, (HS.out.drew.cell m0_).2.2, HS.out.drew.cell m1_⟩ (fun hHeld => ?_)
    refine with_tabW octLattice_tab octLattice_bits (fun HT_ HW_ => ?_)
    have n_ := Aside0.mk HS.out.drew; clear HS; have HS := n_; clear n_
    generalize hWd : World.drew _ = Wd at HS hHeld ⊢; clear hWd
    refine tV_ 0 21 (mB 10 1) HT_ HW_ hHeld ?_
    refine tV_ 1 22 (mB 10 3) HT_ HW_ hHeld ?_
    refine tV_ 3 24 (mB 10 11) HT_ HW_ hHeld ?_
    refine tV_ 4 25 (mB 10 27) HT_ HW_ hHeld ?_
    refine join_ (σ := OV × OV × Nat × Nat) 2 (mB 10 255) (fun s_ => [(23, .agg #[.slice s_.1.P s_.1.v.length s_.1.p, .slice s_.1.Q s_.1.m.length s_.1.q, .bool s_.1.e]), (26, .agg #[.slice s_.2.1.P s_.2.1.v.length s_.2.1.p, .slice s_.2.1.Q s_.2.1.m.length s_.2.1.q, .bool s_.2.1.e]), (7, .pointer (some ⟨s_.2.2.1, 0, none⟩)), (8, .pointer (some ⟨s_.2.2.2, 0, none⟩))]) (fun s_ w' => (s_.1.o = joinF X.v X.m X.e Y.m Y.e) ∧ (s_.2.1.o = meetF X.v X.m X.e Y.m Y.e) ∧ LS w [(ga, X), (gb, Y), (gc, Z)] [s_.2.1, s_.1] [s_.2.2.1, s_.2.2.2] w') ?_ ?_
    rotate_left
    · intro hJ
      refine three_ (i := 2) (j := 6) (k := 7) (Ni := some 23) (Nj := some 7) (Nk := some 8) (mB 10 31) (mB 10 91) (mB 10 155) rfl rfl rfl rfl rfl rfl (three_of HT_.out (by kernel_rfl)) (by decide) (by decide) (by decide) (fun K hK => ?_) (fun K hK => ?_) (fun K hK => ?_)
      ·
       refine goes_ Try.func36 (by kernel_rfl) rfl #[X.val, Y.val] (by rfl) rfl rfl vL ?_
       with_reducible refine (join_o (LS.oc HS m0_) (LS.oc HS m1_) (LS.bel HS) OX.out OY.out).mono ?_
       rintro e wk ⟨jv, rfl, hj, ho, hb⟩; refine ⟨_, rfl, ?_⟩
       have n_ := Aside0.mk (HS.out.call hb ho); clear HS; have HS := n_; clear n_ ho hb
       refine hK.out _ _ ⟨(HS.out.cell m0_).1, (HS.out.cell m0_).2.1, (HS.out.cell m0_).2.2, HS.out.cell m1_⟩ (fun hHeld => ?_)
       clear hK K
       refine nO_ 23 ?_
       refine three_ (i := 5) (j := 6) (k := 7) (Ni := some 26) (Nj := some 7) (Nk := some 8) (mB 10 63) (mB 10 95) (mB 10 159) rfl rfl rfl rfl rfl rfl (three_of HT_.out (by kernel_rfl)) (by decide) (by decide) (by decide) (fun K hK => ?_) (fun K hK => ?_) (fun K hK => ?_)
       ·
        refine goes_ Try.func37 (by kernel_rfl) rfl #[X.val, Y.val] (by rfl) rfl rfl vL ?_
        with_reducible refine (meet_o (LS.oc HS m0_) (LS.oc HS m1_) (LS.bel HS) OX.out OY.out).mono ?_
        rintro e wk ⟨mv, rfl, hm, ho, hb⟩; refine ⟨_, rfl, ?_⟩
        have n_ := Aside0.mk (HS.out.call hb ho); clear HS; have HS := n_; clear n_ ho hb
        refine hK.out _ _ ⟨(HS.out.cell m0_).1, (HS.out.cell m0_).2.1, (HS.out.cell m0_).2.2, HS.out.cell m1_⟩ (fun hHeld => ?_)
        clear hK K
        refine nO_ 26 ?_
        refine two_ (i := 6) (j := 7) (Ni := some 7) (Nj := some 8) (mB 10 127) (mB 10 191) rfl rfl rfl rfl (two_of HT_.out (by kernel_rfl)) (by decide) (by decide) (fun K hK => ?_) (fun K hK => ?_)
        ·
         refine box_step ?hg (N := 7) ?hd (cs := #[.slice none 0 0, .slice none 0 0, .bool false]) (t := 25) ?hr ?_; (case hd => rfl); (case hg => rfl); (case hr => first | (go_simp; done) | (go_simp; rfl))
         intro gj hg wk hbox hb
         have n_ := Aside0.mk (HS.out.made hg hbox hb); clear HS; have HS := n_; clear n_ hg hbox hb
         refine hK.out _ _ ⟨(HS.out.cell m0_).1, (HS.out.cell m0_).2.1, (HS.out.cell m0_).2.2, HS.out.cell m1_⟩ (fun hHeld => ?_)
         clear hK K
         refine nO_ 7 ?_
         refine one_ (i := 7) (N := some 8) (mB 10 255) rfl rfl (one_of HT_.out (by kernel_rfl)) (by decide) (fun K hK => ?_)
         refine box_step ?hg (N := 8) ?hd (cs := #[.slice none 0 0, .slice none 0 0, .bool false]) (t := 25) ?hr ?_; (case hd => rfl); (case hg => rfl); (case hr => first | (go_simp; done) | (go_simp; rfl))
         intro gm hg wk hbox hb
         have n_ := Aside0.mk (HS.out.made hg hbox hb); clear HS; have HS := n_; clear n_ hg hbox hb
         refine hK.out _ _ ⟨(HS.out.cell m0_).1, (HS.out.cell m0_).2.1, (HS.out.cell m0_).2.2, HS.out.cell m1_⟩ (fun hHeld => ?_)
         clear hK K
         refine nO_ 8 ?_
         exact nP_ (hJ (jv, mv, gj, gm) _ ⟨hj, hm, HS.out.swap⟩)
        ·
         refine box_step ?hg (N := 8) ?hd (cs := #[.slice none 0 0, .slice none 0 0, .bool false]) (t := 25) ?hr ?_; (case hd => rfl); (case hg => rfl); (case hr => first | (go_simp; done) | (go_simp; rfl))
         intro gm hg wk hbox hb
         have n_ := Aside0.mk (HS.out.made hg hbox hb); clear HS; have HS := n_; clear n_ hg hbox hb
         refine hK.out _ _ ⟨(HS.out.cell m0_).1, (HS.out.cell m0_).2.1, (HS.out.cell m0_).2.2, HS.out.cell m1_⟩ (fun hHeld => ?_)
         clear hK K
         refine nO_ 8 ?_
         refine one_ (i := 6) (N := some 7) (mB 10 255) rfl rfl (one_of HT_.out (by kernel_rfl)) (by decide) (fun K hK => ?_)
         refine box_step ?hg (N := 7) ?hd (cs := #[.slice none 0 0, .slice none 0 0, .bool false]) (t := 25) ?hr ?_; (case hd => rfl); (case hg => rfl); (case hr => first | (go_simp; done) | (go_simp; rfl))
         intro gj hg wk hbox hb
         have n_ := Aside0.mk (HS.out.made hg hbox hb); clear HS; have HS := n_; clear n_ hg hbox hb
         refine hK.out _ _ ⟨(HS.out.cell m0_).1, (HS.out.cell m0_).2.1, (HS.out.cell m0_).2.2, HS.out.cell m1_⟩ (fun hHeld => ?_)
         clear hK K
         refine nO_ 7 ?_
         exact nP_ (hJ (jv, mv, gj, gm) _ ⟨hj, hm, HS.out⟩)
       ·
        refine box_step ?hg (N := 7) ?hd (cs := #[.slice none 0 0, .slice none 0 0, .bool false]) (t := 25) ?hr ?_; (case hd => rfl); (case hg => rfl); (case hr => first | (go_simp; done) | (go_simp; rfl))
        intro gj hg wk hbox hb
        have n_ := Aside0.mk (HS.out.made hg hbox hb); clear HS; have HS := n_; clear n_ hg hbox hb
        refine hK.out _ _ ⟨(HS.out.cell m0_).1, (HS.out.cell m0_).2.1, (HS.out.cell m0_).2.2, HS.out.cell m1_⟩ (fun hHeld => ?_)
        clear hK K
        refine nO_ 7 ?_
        refine two_ (i := 5) (j := 7) (Ni := some 26) (Nj := some 8) (mB 10 127) (mB 10 223) rfl rfl rfl rfl (two_of HT_.out (by kernel_rfl)) (by decide) (by decide) (fun K hK => ?_) (fun K hK => ?_)
        ·
         refine goes_ Try.func37 (by kernel_rfl) rfl #[X.val, Y.val] (by rfl) rfl rfl vL ?_
         with_reducible refine (meet_o (LS.oc HS m0_) (LS.oc HS m1_) (LS.bel HS) OX.out OY.out).mono ?_
         rintro e wk ⟨mv, rfl, hm, ho, hb⟩; refine ⟨_, rfl, ?_⟩
         have n_ := Aside0.mk (HS.out.call hb ho); clear HS; have HS := n_; clear n_ ho hb
         refine hK.out _ _ ⟨(HS.out.cell m0_).1, (HS.out.cell m0_).2.1, (HS.out.cell m0_).2.2, HS.out.cell m1_⟩ (fun hHeld => ?_)
         clear hK K
         refine nO_ 26 ?_
         refine one_ (i := 7) (N := some 8) (mB 10 255) rfl rfl (one_of HT_.out (by kernel_rfl)) (by decide) (fun K hK => ?_)
         refine box_step ?hg (N := 8) ?hd (cs := #[.slice none 0 0, .slice none 0 0, .bool false]) (t := 25) ?hr ?_; (case hd => rfl); (case hg => rfl); (case hr => first | (go_simp; done) | (go_simp; rfl))
         intro gm hg wk hbox hb
         have n_ := Aside0.mk (HS.out.made hg hbox hb); clear HS; have HS := n_; clear n_ hg hbox hb
         refine hK.out _ _ ⟨(HS.out.cell m0_).1, (HS.out.cell m0_).2.1, (HS.out.cell m0_).2.2, HS.out.cell m1_⟩ (fun hHeld => ?_)
         clear hK K
         refine nO_ 8 ?_
         exact nP_ (hJ (jv, mv, gj, gm) _ ⟨hj, hm, HS.out.swap⟩)
        ·
         refine box_step ?hg (N := 8) ?hd (cs := #[.slice none 0 0, .slice none 0 0, .bool false]) (t := 25) ?hr ?_; (case hd => rfl); (case hg => rfl); (case hr => first | (go_simp; done) | (go_simp; rfl))
         intro gm hg wk hbox hb
         have n_ := Aside0.mk (HS.out.made hg hbox hb); clear HS; have HS := n_; clear n_ hg hbox hb
         refine hK.out _ _ ⟨(HS.out.cell m0_).1, (HS.out.cell m0_).2.1, (HS.out.cell m0_).2.2, HS.out.cell m1_⟩ (fun hHeld => ?_)
         clear hK K
         refine nO_ 8 ?_
         refine one_ (i := 5) (N := some 26) (mB 10 255) rfl rfl (one_of HT_.out (by kernel_rfl)) (by decide) (fun K hK => ?_)
         refine goes_ Try.func37 (by kernel_rfl) rfl #[X.val, Y.val] (by rfl) rfl rfl vL ?_
         with_reducible refine (meet_o (LS.oc HS m0_) (LS.oc HS m1_) (LS.bel HS) OX.out OY.out).mono ?_
         rintro e wk ⟨mv, rfl, hm, ho, hb⟩; refine ⟨_, rfl, ?_⟩
         have n_ := Aside0.mk (HS.out.call hb ho); clear HS; have HS := n_; clear n_ ho hb
         refine hK.out _ _ ⟨(HS.out.cell m0_).1, (HS.out.cell m0_).2.1, (HS.out.cell m0_).2.2, HS.out.cell m1_⟩ (fun hHeld => ?_)
         clear hK K
         refine nO_ 26 ?_
         exact nP_ (hJ (jv, mv, gj, gm) _ ⟨hj, hm, HS.out.swap⟩)
       ·
        refine box_step ?hg (N := 8) ?hd (cs := #[.slice none 0 0, .slice none 0 0, .bool false]) (t := 25) ?hr ?_; (case hd => rfl); (case hg => rfl); (case hr => first | (go_simp; done) | (go_simp; rfl))
        intro gm hg wk hbox hb
        have n_ := Aside0.mk (HS.out.made hg hbox hb); clear HS; have HS := n_; clear n_ hg hbox hb
        refine hK.out _ _ ⟨(HS.out.cell m0_).1, (HS.out.cell m0_).2.1, (HS.out.cell m0_).2.2, HS.out.cell m1_⟩ (fun hHeld => ?_)
        clear hK K
        refine nO_ 8 ?_
        refine two_ (i := 5) (j := 6) (Ni := some 26) (Nj := some 7) (mB 10 191) (mB 10 223) rfl rfl rfl rfl (two_of HT_.out (by kernel_rfl)) (by decide) (by decide) (fun K hK => ?_) (fun K hK => ?_)
        ·
         refine goes_ Try.func37 (by kernel_rfl) rfl #[X.val, Y.val] (by rfl) rfl rfl vL ?_
         with_reducible refine (meet_o (LS.oc HS m0_) (LS.oc HS m1_) (LS.bel HS) OX.out OY.out).mono ?_
         rintro e wk ⟨mv, rfl, hm, ho, hb⟩; refine ⟨_, rfl, ?_⟩
         have n_ := Aside0.mk (HS.out.call hb ho); clear HS; have HS := n_; clear n_ ho hb
         refine hK.out _ _ ⟨(HS.out.cell m0_).1, (HS.out.cell m0_).2.1, (HS.out.cell m0_).2.2, HS.out.cell m1_⟩ (fun hHeld => ?_)
         clear hK K
         refine nO_ 26 ?_
         refine one_ (i := 6) (N := some 7) (mB 10 255) rfl rfl (one_of HT_.out (by kernel_rfl)) (by decide) (fun K hK => ?_)
         refine box_step ?hg (N := 7) ?hd (cs := #[.slice none 0 0, .slice none 0 0, .bool false]) (t := 25) ?hr ?_; (case hd => rfl); (case hg => rfl); (case hr => first | (go_simp; done) | (go_simp; rfl))
         intro gj hg wk hbox hb
         have n_ := Aside0.mk (HS.out.made hg hbox hb); clear HS; have HS := n_; clear n_ hg hbox hb
         refine hK.out _ _ ⟨(HS.out.cell m0_).1, (HS.out.cell m0_).2.1, (HS.out.cell m0_).2.2, HS.out.cell m1_⟩ (fun hHeld => ?_)
         clear hK K
         refine nO_ 7 ?_
         exact nP_ (hJ (jv, mv, gj, gm) _ ⟨hj, hm, HS.out⟩)
        ·
         refine box_step ?hg (N := 7) ?hd (cs := #[.slice none 0 0, .slice none 0 0, .bool false]) (t := 25) ?hr ?_; (case hd => rfl); (case hg => rfl); (case hr => first | (go_simp; done) | (go_simp; rfl))
         intro gj hg wk hbox hb
         have n_ := Aside0.mk (HS.out.made hg hbox hb); clear HS; have HS := n_; clear n_ hg hbox hb
         refine hK.out _ _ ⟨(HS.out.cell m0_).1, (HS.out.cell m0_).2.1, (HS.out.cell m0_).2.2, HS.out.cell m1_⟩ (fun hHeld => ?_)
         clear hK K
         refine nO_ 7 ?_
         refine one_ (i := 5) (N := some 26) (mB 10 255) rfl rfl (one_of HT_.out (by kernel_rfl)) (by decide) (fun K hK => ?_)
         refine goes_ Try.func37 (by kernel_rfl) rfl #[X.val, Y.val] (by rfl) rfl rfl vL ?_
         with_reducible refine (meet_o (LS.oc HS m0_) (LS.oc HS m1_) (LS.bel HS) OX.out OY.out).mono ?_
         rintro e wk ⟨mv, rfl, hm, ho, hb⟩; refine ⟨_, rfl, ?_⟩
         have n_ := Aside0.mk (HS.out.call hb ho); clear HS; have HS := n_; clear n_ ho hb
         refine hK.out _ _ ⟨(HS.out.cell m0_).1, (HS.out.cell m0_).2.1, (HS.out.cell m0_).2.2, HS.out.cell m1_⟩ (fun hHeld => ?_)
         clear hK K
         refine nO_ 26 ?_
         exact nP_ (hJ (jv, mv, gj, gm) _ ⟨hj, hm, HS.out⟩)
      ·
       refine box_step ?hg (N := 7) ?hd (cs := #[.slice none 0 0, .slice none 0 0, .bool false]) (t := 25) ?hr ?_; (case hd => rfl); (case hg => rfl); (case hr => first | (go_simp; done) | (go_simp; rfl))
       intro gj hg wk hbox hb
       have n_ := Aside0.mk (HS.out.made hg hbox hb); clear HS; have HS := n_; clear n_ hg hbox hb
       refine hK.out _ _ ⟨(HS.out.cell m0_).1, (HS.out.cell m0_).2.1, (HS.out.cell m0_).2.2, HS.out.cell m1_⟩ (fun hHeld => ?_)
       clear hK K
       refine nO_ 7 ?_
       refine two_ (i := 2) (j := 7) (Ni := some 23) (Nj := some 8) (mB 10 95) (mB 10 219) rfl rfl rfl rfl (two_of HT_.out (by kernel_rfl)) (by decide) (by decide) (fun K hK => ?_) (fun K hK => ?_)
       ·
        refine goes_ Try.func36 (by kernel_rfl) rfl #[X.val, Y.val] (by rfl) rfl rfl vL ?_
        with_reducible refine (join_o (LS.oc HS m0_) (LS.oc HS m1_) (LS.bel HS) OX.out OY.out).mono ?_
        rintro e wk ⟨jv, rfl, hj, ho, hb⟩; refine ⟨_, rfl, ?_⟩
        have n_ := Aside0.mk (HS.out.call hb ho); clear HS; have HS := n_; clear n_ ho hb
        refine hK.out _ _ ⟨(HS.out.cell m0_).1, (HS.out.cell m0_).2.1, (HS.out.cell m0_).2.2, HS.out.cell m1_⟩ (fun hHeld => ?_)
        clear hK K
        refine nO_ 23 ?_
        refine two_ (i := 5) (j := 7) (Ni := some 26) (Nj := some 8) (mB 10 127) (mB 10 223) rfl rfl rfl rfl (two_of HT_.out (by kernel_rfl)) (by decide) (by decide) (fun K hK => ?_) (fun K hK => ?_)
        ·
         refine goes_ Try.func37 (by kernel_rfl) rfl #[X.val, Y.val] (by rfl) rfl rfl vL ?_
         with_reducible refine (meet_o (LS.oc HS m0_) (LS.oc HS m1_) (LS.bel HS) OX.out OY.out).mono ?_
         rintro e wk ⟨mv, rfl, hm, ho, hb⟩; refine ⟨_, rfl, ?_⟩
         have n_ := Aside0.mk (HS.out.call hb ho); clear HS; have HS := n_; clear n_ ho hb
         refine hK.out _ _ ⟨(HS.out.cell m0_).1, (HS.out.cell m0_).2.1, (HS.out.cell m0_).2.2, HS.out.cell m1_⟩ (fun hHeld => ?_)
         clear hK K
         refine nO_ 26 ?_
         refine one_ (i := 7) (N := some 8) (mB 10 255) rfl rfl (one_of HT_.out (by kernel_rfl)) (by decide) (fun K hK => ?_)
         refine box_step ?hg (N := 8) ?hd (cs := #[.slice none 0 0, .slice none 0 0, .bool false]) (t := 25) ?hr ?_; (case hd => rfl); (case hg => rfl); (case hr => first | (go_simp; done) | (go_simp; rfl))
         intro gm hg wk hbox hb
         have n_ := Aside0.mk (HS.out.made hg hbox hb); clear HS; have HS := n_; clear n_ hg hbox hb
         refine hK.out _ _ ⟨(HS.out.cell m0_).1, (HS.out.cell m0_).2.1, (HS.out.cell m0_).2.2, HS.out.cell m1_⟩ (fun hHeld => ?_)
         clear hK K
         refine nO_ 8 ?_
         exact nP_ (hJ (jv, mv, gj, gm) _ ⟨hj, hm, HS.out.swap⟩)
        ·
         refine box_step ?hg (N := 8) ?hd (cs := #[.slice none 0 0, .slice none 0 0, .bool false]) (t := 25) ?hr ?_; (case hd => rfl); (case hg => rfl); (case hr => first | (go_simp; done) | (go_simp; rfl))
         intro gm hg wk hbox hb
         have n_ := Aside0.mk (HS.out.made hg hbox hb); clear HS; have HS := n_; clear n_ hg hbox hb
         refine hK.out _ _ ⟨(HS.out.cell m0_).1, (HS.out.cell m0_).2.1, (HS.out.cell m0_).2.2, HS.out.cell m1_⟩ (fun hHeld => ?_)
         clear hK K
         refine nO_ 8 ?_
         refine one_ (i := 5) (N := some 26) (mB 10 255) rfl rfl (one_of HT_.out (by kernel_rfl)) (by decide) (fun K hK => ?_)
         refine goes_ Try.func37 (by kernel_rfl) rfl #[X.val, Y.val] (by rfl) rfl rfl vL ?_
         with_reducible refine (meet_o (LS.oc HS m0_) (LS.oc HS m1_) (LS.bel HS) OX.out OY.out).mono ?_
         rintro e wk ⟨mv, rfl, hm, ho, hb⟩; refine ⟨_, rfl, ?_⟩
         have n_ := Aside0.mk (HS.out.call hb ho); clear HS; have HS := n_; clear n_ ho hb
         refine hK.out _ _ ⟨(HS.out.cell m0_).1, (HS.out.cell m0_).2.1, (HS.out.cell m0_).2.2, HS.out.cell m1_⟩ (fun hHeld => ?_)
         clear hK K
         refine nO_ 26 ?_
         exact nP_ (hJ (jv, mv, gj, gm) _ ⟨hj, hm, HS.out.swap⟩)
       ·
        refine box_step ?hg (N := 8) ?hd (cs := #[.slice none 0 0, .slice none 0 0, .bool false]) (t := 25) ?hr ?_; (case hd => rfl); (case hg => rfl); (case hr => first | (go_simp; done) | (go_simp; rfl))
        intro gm hg wk hbox hb
        have n_ := Aside0.mk (HS.out.made hg hbox hb); clear HS; have HS := n_; clear n_ hg hbox hb
        refine hK.out _ _ ⟨(HS.out.cell m0_).1, (HS.out.cell m0_).2.1, (HS.out.cell m0_).2.2, HS.out.cell m1_⟩ (fun hHeld => ?_)
        clear hK K
        refine nO_ 8 ?_
        refine one_ (i := 2) (N := some 23) (mB 10 223) rfl rfl (one_of HT_.out (by kernel_rfl)) (by decide) (fun K hK => ?_)
        refine goes_ Try.func36 (by kernel_rfl) rfl #[X.val, Y.val] (by rfl) rfl rfl vL ?_
        with_reducible refine (join_o (LS.oc HS m0_) (LS.oc HS m1_) (LS.bel HS) OX.out OY.out).mono ?_
        rintro e wk ⟨jv, rfl, hj, ho, hb⟩; refine ⟨_, rfl, ?_⟩
        have n_ := Aside0.mk (HS.out.call hb ho); clear HS; have HS := n_; clear n_ ho hb
        refine hK.out _ _ ⟨(HS.out.cell m0_).1, (HS.out.cell m0_).2.1, (HS.out.cell m0_).2.2, HS.out.cell m1_⟩ (fun hHeld => ?_)
        clear hK K
        refine nO_ 23 ?_
        refine one_ (i := 5) (N := some 26) (mB 10 255) rfl rfl (one_of HT_.out (by kernel_rfl)) (by decide) (fun K hK => ?_)
        refine goes_ Try.func37 (by kernel_rfl) rfl #[X.val, Y.val] (by rfl) rfl rfl vL ?_
        with_reducible refine (meet_o (LS.oc HS m0_) (LS.oc HS m1_) (LS.bel HS) OX.out OY.out).mono ?_
        rintro e wk ⟨mv, rfl, hm, ho, hb⟩; refine ⟨_, rfl, ?_⟩
        have n_ := Aside0.mk (HS.out.call hb ho); clear HS; have HS := n_; clear n_ ho hb
        refine hK.out _ _ ⟨(HS.out.cell m0_).1, (HS.out.cell m0_).2.1, (HS.out.cell m0_).2.2, HS.out.cell m1_⟩ (fun hHeld => ?_)
        clear hK K
        refine nO_ 26 ?_
        exact nP_ (hJ (jv, mv, gj, gm) _ ⟨hj, hm, HS.out.swap⟩)
      ·
       refine box_step ?hg (N := 8) ?hd (cs := #[.slice none 0 0, .slice none 0 0, .bool false]) (t := 25) ?hr ?_; (case hd => rfl); (case hg => rfl); (case hr => first | (go_simp; done) | (go_simp; rfl))
       intro gm hg wk hbox hb
       have n_ := Aside0.mk (HS.out.made hg hbox hb); clear HS; have HS := n_; clear n_ hg hbox hb
       refine hK.out _ _ ⟨(HS.out.cell m0_).1, (HS.out.cell m0_).2.1, (HS.out.cell m0_).2.2, HS.out.cell m1_⟩ (fun hHeld => ?_)
       clear hK K
       refine nO_ 8 ?_
       refine two_ (i := 2) (j := 6) (Ni := some 23) (Nj := some 7) (mB 10 159) (mB 10 219) rfl rfl rfl rfl (two_of HT_.out (by kernel_rfl)) (by decide) (by decide) (fun K hK => ?_) (fun K hK => ?_)
       ·
        refine goes_ Try.func36 (by kernel_rfl) rfl #[X.val, Y.val] (by rfl) rfl rfl vL ?_
        with_reducible refine (join_o (LS.oc HS m0_) (LS.oc HS m1_) (LS.bel HS) OX.out OY.out).mono ?_
        rintro e wk ⟨jv, rfl, hj, ho, hb⟩; refine ⟨_, rfl, ?_⟩
        have n_ := Aside0.mk (HS.out.call hb ho); clear HS; have HS := n_; clear n_ ho hb
        refine hK.out _ _ ⟨(HS.out.cell m0_).1, (HS.out.cell m0_).2.1, (HS.out.cell m0_).2.2, HS.out.cell m1_⟩ (fun hHeld => ?_)
        clear hK K
        refine nO_ 23 ?_
        refine two_ (i := 5) (j := 6) (Ni := some 26) (Nj := some 7) (mB 10 191) (mB 10 223) rfl rfl rfl rfl (two_of HT_.out (by kernel_rfl)) (by decide) (by decide) (fun K hK => ?_) (fun K hK => ?_)
        ·
         refine goes_ Try.func37 (by kernel_rfl) rfl #[X.val, Y.val] (by rfl) rfl rfl vL ?_
         with_reducible refine (meet_o (LS.oc HS m0_) (LS.oc HS m1_) (LS.bel HS) OX.out OY.out).mono ?_
         rintro e wk ⟨mv, rfl, hm, ho, hb⟩; refine ⟨_, rfl, ?_⟩
         have n_ := Aside0.mk (HS.out.call hb ho); clear HS; have HS := n_; clear n_ ho hb
         refine hK.out _ _ ⟨(HS.out.cell m0_).1, (HS.out.cell m0_).2.1, (HS.out.cell m0_).2.2, HS.out.cell m1_⟩ (fun hHeld => ?_)
         clear hK K
         refine nO_ 26 ?_
         refine one_ (i := 6) (N := some 7) (mB 10 255) rfl rfl (one_of HT_.out (by kernel_rfl)) (by decide) (fun K hK => ?_)
         refine box_step ?hg (N := 7) ?hd (cs := #[.slice none 0 0, .slice none 0 0, .bool false]) (t := 25) ?hr ?_; (case hd => rfl); (case hg => rfl); (case hr => first | (go_simp; done) | (go_simp; rfl))
         intro gj hg wk hbox hb
         have n_ := Aside0.mk (HS.out.made hg hbox hb); clear HS; have HS := n_; clear n_ hg hbox hb
         refine hK.out _ _ ⟨(HS.out.cell m0_).1, (HS.out.cell m0_).2.1, (HS.out.cell m0_).2.2, HS.out.cell m1_⟩ (fun hHeld => ?_)
         clear hK K
         refine nO_ 7 ?_
         exact nP_ (hJ (jv, mv, gj, gm) _ ⟨hj, hm, HS.out⟩)
        ·
         refine box_step ?hg (N := 7) ?hd (cs := #[.slice none 0 0, .slice none 0 0, .bool false]) (t := 25) ?hr ?_; (case hd => rfl); (case hg => rfl); (case hr => first | (go_simp; done) | (go_simp; rfl))
         intro gj hg wk hbox hb
         have n_ := Aside0.mk (HS.out.made hg hbox hb); clear HS; have HS := n_; clear n_ hg hbox hb
         refine hK.out _ _ ⟨(HS.out.cell m0_).1, (HS.out.cell m0_).2.1, (HS.out.cell m0_).2.2, HS.out.cell m1_⟩ (fun hHeld => ?_)
         clear hK K
         refine nO_ 7 ?_
         refine one_ (i := 5) (N := some 26) (mB 10 255) rfl rfl (one_of HT_.out (by kernel_rfl)) (by decide) (fun K hK => ?_)
         refine goes_ Try.func37 (by kernel_rfl) rfl #[X.val, Y.val] (by rfl) rfl rfl vL ?_
         with_reducible refine (meet_o (LS.oc HS m0_) (LS.oc HS m1_) (LS.bel HS) OX.out OY.out).mono ?_
         rintro e wk ⟨mv, rfl, hm, ho, hb⟩; refine ⟨_, rfl, ?_⟩
         have n_ := Aside0.mk (HS.out.call hb ho); clear HS; have HS := n_; clear n_ ho hb
         refine hK.out _ _ ⟨(HS.out.cell m0_).1, (HS.out.cell m0_).2.1, (HS.out.cell m0_).2.2, HS.out.cell m1_⟩ (fun hHeld => ?_)
         clear hK K
         refine nO_ 26 ?_
         exact nP_ (hJ (jv, mv, gj, gm) _ ⟨hj, hm, HS.out⟩)
       ·
        refine box_step ?hg (N := 7) ?hd (cs := #[.slice none 0 0, .slice none 0 0, .bool false]) (t := 25) ?hr ?_; (case hd => rfl); (case hg => rfl); (case hr => first | (go_simp; done) | (go_simp; rfl))
        intro gj hg wk hbox hb
        have n_ := Aside0.mk (HS.out.made hg hbox hb); clear HS; have HS := n_; clear n_ hg hbox hb
        refine hK.out _ _ ⟨(HS.out.cell m0_).1, (HS.out.cell m0_).2.1, (HS.out.cell m0_).2.2, HS.out.cell m1_⟩ (fun hHeld => ?_)
        clear hK K
        refine nO_ 7 ?_
        refine one_ (i := 2) (N := some 23) (mB 10 223) rfl rfl (one_of HT_.out (by kernel_rfl)) (by decide) (fun K hK => ?_)
        refine goes_ Try.func36 (by kernel_rfl) rfl #[X.val, Y.val] (by rfl) rfl rfl vL ?_
        with_reducible refine (join_o (LS.oc HS m0_) (LS.oc HS m1_) (LS.bel HS) OX.out OY.out).mono ?_
        rintro e wk ⟨jv, rfl, hj, ho, hb⟩; refine ⟨_, rfl, ?_⟩
        have n_ := Aside0.mk (HS.out.call hb ho); clear HS; have HS := n_; clear n_ ho hb
        refine hK.out _ _ ⟨(HS.out.cell m0_).1, (HS.out.cell m0_).2.1, (HS.out.cell m0_).2.2, HS.out.cell m1_⟩ (fun hHeld => ?_)
        clear hK K
        refine nO_ 23 ?_
        refine one_ (i := 5) (N := some 26) (mB 10 255) rfl rfl (one_of HT_.out (by kernel_rfl)) (by decide) (fun K hK => ?_)
        refine goes_ Try.func37 (by kernel_rfl) rfl #[X.val, Y.val] (by rfl) rfl rfl vL ?_
        with_reducible refine (meet_o (LS.oc HS m0_) (LS.oc HS m1_) (LS.bel HS) OX.out OY.out).mono ?_
        rintro e wk ⟨mv, rfl, hm, ho, hb⟩; refine ⟨_, rfl, ?_⟩
        have n_ := Aside0.mk (HS.out.call hb ho); clear HS; have HS := n_; clear n_ ho hb
        refine hK.out _ _ ⟨(HS.out.cell m0_).1, (HS.out.cell m0_).2.1, (HS.out.cell m0_).2.2, HS.out.cell m1_⟩ (fun hHeld => ?_)
        clear hK K
        refine nO_ 26 ?_
        exact nP_ (hJ (jv, mv, gj, gm) _ ⟨hj, hm, HS.out⟩)
    rintro ⟨jv, mv, gj, gm⟩ W4 ⟨hj, hm, HS4⟩
    clear HS hHeld
    have HS := Aside0.mk HS4
    clear HS4
    dsimp only at HS hj hm
    obtain ⟨⟨p0, p1, p2, p3, p4, p5⟩, ⟨q0, q1, q2, q3, q4, q5⟩, kne, kne'⟩ := HS.out.two_new
    refine nS_ ?_
    refine last_ (i := 8) (N := none) (mB 10 511) rfl rfl (one_of HT_.out (by kernel_rfl)) (by decide) (fun K hK => ?_)
    refine skip_ (w1 := ?_) (by rfl) rfl ?_ ?_
    rotate_left
    · go_simp
      rfl
    refine hK.out _ _ ?_
    clear hK K
    refine last_ (i := 9) (N := none) (mB 10 1023) rfl rfl (one_of HT_.out (by kernel_rfl)) (by decide) (fun K hK => ?_)
    refine skip_ (w1 := ?_) (by rfl) rfl ?_ ?_
    rotate_left
    · go_simp
      rfl
    refine hK.out _ _ ?_
    clear hK K
    refine done_ (done_of HT_.out (by kernel_rfl)) ?_
    clear p0 p1 p2 p3 p4 p5 q0 q1 q2 q3 q4 q5 kne kne' HT_ HW_
    unfold OnlyN
    have n_ := Aside0.mk HS.out.put_two; clear HS; have HS := n_; clear n_
    generalize hW5 : ((((((W4.setCell ⟨gj, 0, none⟩ (.slice jv.P jv.v.length jv.p)).setCell ⟨gj, 1, none⟩ (.slice jv.Q jv.m.length jv.q)).setCell ⟨gj, 2, none⟩ (.bool jv.e)).setCell ⟨gm, 0, none⟩ (.slice mv.P mv.v.length mv.p)).setCell ⟨gm, 1, none⟩ (.slice mv.Q mv.m.length mv.q)).setCell ⟨gm, 2, none⟩ (.bool mv.e)) = W5 at HS ⊢; clear hW5
    have OJM := Aside0.mk (lattice_law OX.out.1 (OkV.fit OY.out) (OkV.fit OZ.out))
    have OJ := Aside0.mk (OkV.of hj OJM.out.1.1 OJM.out.1.2)
    have OM := Aside0.mk (OkV.of hm OJM.out.2.1.1 OJM.out.2.1.2)
    have LAW := Aside0.mk OJM.out.2.2
    have ej : (joinF X.v X.m X.e Y.m Y.e).2.1 = jv.m ∧ (joinF X.v X.m X.e Y.m Y.e).2.2 = jv.e := by rw [← hj]; exact ⟨rfl, rfl⟩
    have em : (meetF X.v X.m X.e Y.m Y.e).2.1 = mv.m ∧ (meetF X.v X.m X.e Y.m Y.e).2.2 = mv.e := by rw [← hm]; exact ⟨rfl, rfl⟩
    rw [ej.1, ej.2, em.1, em.2] at LAW
    clear OJM ej em hj hm
    obtain ⟨lac, g1⟩ : ∃ t, leqF X.v X.m X.e Z.m Z.e = t := ⟨_, rfl⟩
    obtain ⟨lbc, g2⟩ : ∃ t, leqF X.v Y.m Y.e Z.m Z.e = t := ⟨_, rfl⟩
    obtain ⟨lca, g3⟩ : ∃ t, leqF X.v Z.m Z.e X.m X.e = t := ⟨_, rfl⟩
    obtain ⟨lcb, g4⟩ : ∃ t, leqF X.v Z.m Z.e Y.m Y.e = t := ⟨_, rfl⟩
    obtain ⟨lab, g5⟩ : ∃ t, leqF X.v X.m X.e Y.m Y.e = t := ⟨_, rfl⟩
    obtain ⟨lba, g6⟩ : ∃ t, leqF X.v Y.m Y.e X.m X.e = t := ⟨_, rfl⟩
    have G1 := Aside0.mk g1
    have G2 := Aside0.mk g2
    have G3 := Aside0.mk g3
    have G4 := Aside0.mk g4
    have G5 := Aside0.mk g5
    have G6 := Aside0.mk g6
    clear g1 g2 g3 g4 g5 g6 ka0 ka1 ka2 fa0 fa1 fa2 kb0 kb1 kb2 fb0 fb1 fb2 kc0 kc1 kc2 fc0 fc1 fc2
    obtain ⟨⟨km0, km1, km2⟩, fm0, fm1, fm2⟩ := LS.cells HS m0_; obtain ⟨⟨kj0, kj1, kj2⟩, fj0, fj1, fj2⟩ := LS.cells HS m1_; obtain ⟨⟨ka0, ka1, ka2⟩, fa0, fa1, fa2⟩ := LS.cells HS m2_; obtain ⟨⟨kb0, kb1, kb2⟩, fb0, fb1, fb2⟩ := LS.cells HS m3_; obtain ⟨⟨kc0, kc1, kc2⟩, fc0, fc1, fc2⟩ := LS.cells HS m4_
    go_upto_region 6 with (first | (go_at_call 38; (with_reducible refine (leq_at (LS.oc HS m2_) (LS.oc HS m1_) (LS.bel HS) OX.out OJ.out LAW.out.1.1).mono ?_); rintro e wk ⟨rfl, hb⟩; have n_ := Aside0.mk ((LS.to HS).next hb); clear HS; have HS := n_; clear n_ hb; clear km0 km1 km2 fm0 fm1 fm2; obtain ⟨⟨km0, km1, km2⟩, fm0, fm1, fm2⟩ := LS.cells HS m0_; clear kj0 kj1 kj2 fj0 fj1 fj2; obtain ⟨⟨kj0, kj1, kj2⟩, fj0, fj1, fj2⟩ := LS.cells HS m1_; clear ka0 ka1 ka2 fa0 fa1 fa2; obtain ⟨⟨ka0, ka1, ka2⟩, fa0, fa1, fa2⟩ := LS.cells HS m2_; clear kb0 kb1 kb2 fb0 fb1 fb2; obtain ⟨⟨kb0, kb1, kb2⟩, fb0, fb1, fb2⟩ := LS.cells HS m3_; clear kc0 kc1 kc2 fc0 fc1 fc2; obtain ⟨⟨kc0, kc1, kc2⟩, fc0, fc1, fc2⟩ := LS.cells HS m4_) | (go_at_call 38; (with_reducible refine (leq_at (LS.oc HS m3_) (LS.oc HS m1_) (LS.bel HS) OY.out OJ.out LAW.out.1.2.1).mono ?_); rintro e wk ⟨rfl, hb⟩; have n_ := Aside0.mk ((LS.to HS).next hb); clear HS; have HS := n_; clear n_ hb; clear km0 km1 km2 fm0 fm1 fm2; obtain ⟨⟨km0, km1, km2⟩, fm0, fm1, fm2⟩ := LS.cells HS m0_; clear kj0 kj1 kj2 fj0 fj1 fj2; obtain ⟨⟨kj0, kj1, kj2⟩, fj0, fj1, fj2⟩ := LS.cells HS m1_; clear ka0 ka1 ka2 fa0 fa1 fa2; obtain ⟨⟨ka0, ka1, ka2⟩, fa0, fa1, fa2⟩ := LS.cells HS m2_; clear kb0 kb1 kb2 fb0 fb1 fb2; obtain ⟨⟨kb0, kb1, kb2⟩, fb0, fb1, fb2⟩ := LS.cells HS m3_; clear kc0 kc1 kc2 fc0 fc1 fc2; obtain ⟨⟨kc0, kc1, kc2⟩, fc0, fc1, fc2⟩ := LS.cells HS m4_) | (go_at_call 38; (with_reducible refine (leq_at (LS.oc HS m0_) (LS.oc HS m2_) (LS.bel HS) OM.out OX.out LAW.out.1.2.2.1).mono ?_); rintro e wk ⟨rfl, hb⟩; have n_ := Aside0.mk ((LS.to HS).next hb); clear HS; have HS := n_; clear n_ hb; clear km0 km1 km2 fm0 fm1 fm2; obtain ⟨⟨km0, km1, km2⟩, fm0, fm1, fm2⟩ := LS.cells HS m0_; clear kj0 kj1 kj2 fj0 fj1 fj2; obtain ⟨⟨kj0, kj1, kj2⟩, fj0, fj1, fj2⟩ := LS.cells HS m1_; clear ka0 ka1 ka2 fa0 fa1 fa2; obtain ⟨⟨ka0, ka1, ka2⟩, fa0, fa1, fa2⟩ := LS.cells HS m2_; clear kb0 kb1 kb2 fb0 fb1 fb2; obtain ⟨⟨kb0, kb1, kb2⟩, fb0, fb1, fb2⟩ := LS.cells HS m3_; clear kc0 kc1 kc2 fc0 fc1 fc2; obtain ⟨⟨kc0, kc1, kc2⟩, fc0, fc1, fc2⟩ := LS.cells HS m4_) | (go_at_call 38; (with_reducible refine (leq_at (LS.oc HS m0_) (LS.oc HS m3_) (LS.bel HS) OM.out OY.out LAW.out.1.2.2.2).mono ?_); rintro e wk ⟨rfl, hb⟩; have n_ := Aside0.mk ((LS.to HS).next hb); clear HS; have HS := n_; clear n_ hb; clear km0 km1 km2 fm0 fm1 fm2; obtain ⟨⟨km0, km1, km2⟩, fm0, fm1, fm2⟩ := LS.cells HS m0_; clear kj0 kj1 kj2 fj0 fj1 fj2; obtain ⟨⟨kj0, kj1, kj2⟩, fj0, fj1, fj2⟩ := LS.cells HS m1_; clear ka0 ka1 ka2 fa0 fa1 fa2; obtain ⟨⟨ka0, ka1, ka2⟩, fa0, fa1, fa2⟩ := LS.cells HS m2_; clear kb0 kb1 kb2 fb0 fb1 fb2; obtain ⟨⟨kb0, kb1, kb2⟩, fb0, fb1, fb2⟩ := LS.cells HS m3_; clear kc0 kc1 kc2 fc0 fc1 fc2; obtain ⟨⟨kc0, kc1, kc2⟩, fc0, fc1, fc2⟩ := LS.cells HS m4_))
    go_cut [78] (fun v78 wc => v78 = .bool false ∧ Aside0 (LS w [(gm, mv), (gj, jv), (ga, X), (gb, Y), (gc, Z)] [mv, jv] [] wc))
    case first =>
      rcases lac with _ | _ <;> rcases lbc with _ | _ <;> rcases lca with _ | _ <;> rcases lcb with _ | _
      all_goals
        go_wp2_with (first | (go_at_call 38; (with_reducible refine (leq_at (LS.oc HS m2_) (LS.oc HS m4_) (LS.bel HS) OX.out OZ.out G1.out).mono ?_); rintro e wk ⟨rfl, hb⟩; have n_ := Aside0.mk ((LS.to HS).next hb); clear HS; have HS := n_; clear n_ hb; clear km0 km1 km2 fm0 fm1 fm2; obtain ⟨⟨km0, km1, km2⟩, fm0, fm1, fm2⟩ := LS.cells HS m0_; clear kj0 kj1 kj2 fj0 fj1 fj2; obtain ⟨⟨kj0, kj1, kj2⟩, fj0, fj1, fj2⟩ := LS.cells HS m1_; clear ka0 ka1 ka2 fa0 fa1 fa2; obtain ⟨⟨ka0, ka1, ka2⟩, fa0, fa1, fa2⟩ := LS.cells HS m2_; clear kb0 kb1 kb2 fb0 fb1 fb2; obtain ⟨⟨kb0, kb1, kb2⟩, fb0, fb1, fb2⟩ := LS.cells HS m3_; clear kc0 kc1 kc2 fc0 fc1 fc2; obtain ⟨⟨kc0, kc1, kc2⟩, fc0, fc1, fc2⟩ := LS.cells HS m4_) | (go_at_call 38; (with_reducible refine (leq_at (LS.oc HS m3_) (LS.oc HS m4_) (LS.bel HS) OY.out OZ.out G2.out).mono ?_); rintro e wk ⟨rfl, hb⟩; have n_ := Aside0.mk ((LS.to HS).next hb); clear HS; have HS := n_; clear n_ hb; clear km0 km1 km2 fm0 fm1 fm2; obtain ⟨⟨km0, km1, km2⟩, fm0, fm1, fm2⟩ := LS.cells HS m0_; clear kj0 kj1 kj2 fj0 fj1 fj2; obtain ⟨⟨kj0, kj1, kj2⟩, fj0, fj1, fj2⟩ := LS.cells HS m1_; clear ka0 ka1 ka2 fa0 fa1 fa2; obtain ⟨⟨ka0, ka1, ka2⟩, fa0, fa1, fa2⟩ := LS.cells HS m2_; clear kb0 kb1 kb2 fb0 fb1 fb2; obtain ⟨⟨kb0, kb1, kb2⟩, fb0, fb1, fb2⟩ := LS.cells HS m3_; clear kc0 kc1 kc2 fc0 fc1 fc2; obtain ⟨⟨kc0, kc1, kc2⟩, fc0, fc1, fc2⟩ := LS.cells HS m4_) | (go_at_call 38; (with_reducible refine (leq_at (LS.oc HS m1_) (LS.oc HS m4_) (LS.bel HS) OJ.out OZ.out (LAW.out.2.1 G1.out G2.out)).mono ?_); rintro e wk ⟨rfl, hb⟩; have n_ := Aside0.mk ((LS.to HS).next hb); clear HS; have HS := n_; clear n_ hb; clear km0 km1 km2 fm0 fm1 fm2; obtain ⟨⟨km0, km1, km2⟩, fm0, fm1, fm2⟩ := LS.cells HS m0_; clear kj0 kj1 kj2 fj0 fj1 fj2; obtain ⟨⟨kj0, kj1, kj2⟩, fj0, fj1, fj2⟩ := LS.cells HS m1_; clear ka0 ka1 ka2 fa0 fa1 fa2; obtain ⟨⟨ka0, ka1, ka2⟩, fa0, fa1, fa2⟩ := LS.cells HS m2_; clear kb0 kb1 kb2 fb0 fb1 fb2; obtain ⟨⟨kb0, kb1, kb2⟩, fb0, fb1, fb2⟩ := LS.cells HS m3_; clear kc0 kc1 kc2 fc0 fc1 fc2; obtain ⟨⟨kc0, kc1, kc2⟩, fc0, fc1, fc2⟩ := LS.cells HS m4_) | (go_at_call 38; (with_reducible refine (leq_at (LS.oc HS m4_) (LS.oc HS m2_) (LS.bel HS) OZ.out OX.out G3.out).mono ?_); rintro e wk ⟨rfl, hb⟩; have n_ := Aside0.mk ((LS.to HS).next hb); clear HS; have HS := n_; clear n_ hb; clear km0 km1 km2 fm0 fm1 fm2; obtain ⟨⟨km0, km1, km2⟩, fm0, fm1, fm2⟩ := LS.cells HS m0_; clear kj0 kj1 kj2 fj0 fj1 fj2; obtain ⟨⟨kj0, kj1, kj2⟩, fj0, fj1, fj2⟩ := LS.cells HS m1_; clear ka0 ka1 ka2 fa0 fa1 fa2; obtain ⟨⟨ka0, ka1, ka2⟩, fa0, fa1, fa2⟩ := LS.cells HS m2_; clear kb0 kb1 kb2 fb0 fb1 fb2; obtain ⟨⟨kb0, kb1, kb2⟩, fb0, fb1, fb2⟩ := LS.cells HS m3_; clear kc0 kc1 kc2 fc0 fc1 fc2; obtain ⟨⟨kc0, kc1, kc2⟩, fc0, fc1, fc2⟩ := LS.cells HS m4_) | (go_at_call 38; (with_reducible refine (leq_at (LS.oc HS m4_) (LS.oc HS m3_) (LS.bel HS) OZ.out OY.out G4.out).mono ?_); rintro e wk ⟨rfl, hb⟩; have n_ := Aside0.mk ((LS.to HS).next hb); clear HS; have HS := n_; clear n_ hb; clear km0 km1 km2 fm0 fm1 fm2; obtain ⟨⟨km0, km1, km2⟩, fm0, fm1, fm2⟩ := LS.cells HS m0_; clear kj0 kj1 kj2 fj0 fj1 fj2; obtain ⟨⟨kj0, kj1, kj2⟩, fj0, fj1, fj2⟩ := LS.cells HS m1_; clear ka0 ka1 ka2 fa0 fa1 fa2; obtain ⟨⟨ka0, ka1, ka2⟩, fa0, fa1, fa2⟩ := LS.cells HS m2_; clear kb0 kb1 kb2 fb0 fb1 fb2; obtain ⟨⟨kb0, kb1, kb2⟩, fb0, fb1, fb2⟩ := LS.cells HS m3_; clear kc0 kc1 kc2 fc0 fc1 fc2; obtain ⟨⟨kc0, kc1, kc2⟩, fc0, fc1, fc2⟩ := LS.cells HS m4_) | (go_at_call 38; (with_reducible refine (leq_at (LS.oc HS m4_) (LS.oc HS m0_) (LS.bel HS) OZ.out OM.out (LAW.out.2.2.1 G3.out G4.out)).mono ?_); rintro e wk ⟨rfl, hb⟩; have n_ := Aside0.mk ((LS.to HS).next hb); clear HS; have HS := n_; clear n_ hb; clear km0 km1 km2 fm0 fm1 fm2; obtain ⟨⟨km0, km1, km2⟩, fm0, fm1, fm2⟩ := LS.cells HS m0_; clear kj0 kj1 kj2 fj0 fj1 fj2; obtain ⟨⟨kj0, kj1, kj2⟩, fj0, fj1, fj2⟩ := LS.cells HS m1_; clear ka0 ka1 ka2 fa0 fa1 fa2; obtain ⟨⟨ka0, ka1, ka2⟩, fa0, fa1, fa2⟩ := LS.cells HS m2_; clear kb0 kb1 kb2 fb0 fb1 fb2; obtain ⟨⟨kb0, kb1, kb2⟩, fb0, fb1, fb2⟩ := LS.cells HS m3_; clear kc0 kc1 kc2 fc0 fc1 fc2; obtain ⟨⟨kc0, kc1, kc2⟩, fc0, fc1, fc2⟩ := LS.cells HS m4_))
        go_meet
        case rel => exact ⟨rfl, ⟨LS.to HS⟩⟩
    case rest =>
      clear HS
      obtain ⟨rfl, HS⟩ := hcut
      go_upto_region 8 with fail
      go_cut [106] (fun v106 wc => v106 = .bool false ∧ Aside0 (LS w [(gm, mv), (gj, jv), (ga, X), (gb, Y), (gc, Z)] [mv, jv] [] wc))
      case first =>
        rcases lab with _ | _
        · 
          refine start_ (n := 28) (S := fun w' => w'.cell? ⟨ga, 0, none⟩ = some (.slice X.P X.v.length X.p) ∧ w'.cell? ⟨ga, 1, none⟩ = some (.slice X.Q X.m.length X.q) ∧ w'.cell? ⟨ga, 2, none⟩ = some (.bool X.e) ∧ w'.cell? ⟨gb, 0, none⟩ = some (.slice Y.P Y.v.length Y.p) ∧ w'.cell? ⟨gb, 1, none⟩ = some (.slice Y.Q Y.m.length Y.q) ∧ w'.cell? ⟨gb, 2, none⟩ = some (.bool Y.e) ∧ w'.cell? ⟨gc, 0, none⟩ = some (.slice Z.P Z.v.length Z.p) ∧ w'.cell? ⟨gc, 1, none⟩ = some (.slice Z.Q Z.m.length Z.q) ∧ w'.cell? ⟨gc, 2, none⟩ = some (.bool Z.e)) (ds := []) (mB 28 0) (by kernel_rfl) rfl (by kernel_rfl) ⟨(HS.out.drew.cell m2_).1, (HS.out.drew.cell m2_).2.1, (HS.out.drew.cell m2_).2.2, (HS.out.drew.cell m3_).1, (HS.out.drew.cell m3_).2.1, (HS.out.drew.cell m3_).2.2, (HS.out.drew.cell m4_).1, (HS.out.drew.cell m4_).2.1, (HS.out.drew.cell m4_).2.2⟩ (fun hHeld => ?_)
          refine with_tabW octLattice_tab8 octLattice_bits8 (fun HT_ HW_ => ?_)
          have n_ := Aside0.mk HS.out.drew; clear HS; have HS := n_; clear n_
          generalize hWd : World.drew _ = Wd at HS hHeld ⊢; clear hWd
          refine tV_ 0 79 (mB 28 1) HT_ HW_ hHeld ?_
          refine tV_ 1 80 (mB 28 3) HT_ HW_ hHeld ?_
          refine one_ (i := 2) (N := some 81) (mB 28 7) rfl rfl (one_of HT_.out (by kernel_rfl)) (by decide) (fun K hK => ?_)
          refine goes_ Try.func38 (by kernel_rfl) rfl #[X.val, Y.val] (by rfl) rfl rfl vL ?_
          with_reducible refine (leq_at (LS.oc HS m2_) (LS.oc HS m3_) (LS.bel HS) OX.out OY.out G5.out).mono ?_
          rintro e wk ⟨rfl, hb⟩; refine ⟨_, rfl, ?_⟩
          have n_ := Aside0.mk (HS.out.next hb); clear HS; have HS := n_; clear n_ hb
          refine hK.out _ _ ⟨(HS.out.cell m2_).1, (HS.out.cell m2_).2.1, (HS.out.cell m2_).2.2, (HS.out.cell m3_).1, (HS.out.cell m3_).2.1, (HS.out.cell m3_).2.2, (HS.out.cell m4_).1, (HS.out.cell m4_).2.1, (HS.out.cell m4_).2.2⟩ (fun hHeld => ?_)
          clear hK K
          refine nO_ 81 ?_
          refine pV_ 3 82 (mB 28 15) HT_ ?_
          refine pU_ 4 83 (mB 28 31) HT_ ?_
          refine pU_ 5 84 (mB 28 63) HT_ ?_
          refine pU_ 6 85 (mB 28 127) HT_ ?_
          refine pV_ 7 86 (mB 28 255) HT_ ?_
          refine pV_ 8 87 (mB 28 511) HT_ ?_
          refine pU_ 9 88 (mB 28 1023) HT_ ?_
          refine pU_ 10 89 (mB 28 2047) HT_ ?_
          refine pU_ 11 90 (mB 28 4095) HT_ ?_
          refine pU_ 12 91 (mB 28 8191) HT_ ?_
          refine pV_ 13 92 (mB 28 16383) HT_ ?_
          refine pV_ 14 93 (mB 28 32767) HT_ ?_
          refine tV_ 15 94 (mB 28 65535) HT_ HW_ hHeld ?_
          refine tV_ 16 95 (mB 28 131071) HT_ HW_ hHeld ?_
          refine one_ (i := 17) (N := some 96) (mB 28 262143) rfl rfl (one_of HT_.out (by kernel_rfl)) (by decide) (fun K hK => ?_)
          refine goes_ Try.func38 (by kernel_rfl) rfl #[X.val, Y.val] (by rfl) rfl rfl vL ?_
          with_reducible refine (leq_at (LS.oc HS m2_) (LS.oc HS m3_) (LS.bel HS) OX.out OY.out G5.out).mono ?_
          rintro e wk ⟨rfl, hb⟩; refine ⟨_, rfl, ?_⟩
          have n_ := Aside0.mk (HS.out.next hb); clear HS; have HS := n_; clear n_ hb
          refine hK.out _ _ ⟨(HS.out.cell m2_).1, (HS.out.cell m2_).2.1, (HS.out.cell m2_).2.2, (HS.out.cell m3_).1, (HS.out.cell m3_).2.1, (HS.out.cell m3_).2.2, (HS.out.cell m4_).1, (HS.out.cell m4_).2.1, (HS.out.cell m4_).2.2⟩ (fun hHeld => ?_)
          clear hK K
          refine nO_ 96 ?_
          refine pV_ 18 97 (mB 28 524287) HT_ ?_
          refine pU_ 19 98 (mB 28 1048575) HT_ ?_
          refine pU_ 20 99 (mB 28 2097151) HT_ ?_
          refine pU_ 21 100 (mB 28 4194303) HT_ ?_
          refine pU_ 22 101 (mB 28 8388607) HT_ ?_
          refine pU_ 23 102 (mB 28 16777215) HT_ ?_
          refine pU_ 24 103 (mB 28 33554431) HT_ ?_
          refine pU_ 25 104 (mB 28 67108863) HT_ ?_
          refine pV_ 26 105 (mB 28 134217727) HT_ ?_
          refine pV_ 27 106 (mB 28 268435455) HT_ ?_
          refine done_ (done_of HT_.out (by kernel_rfl)) ?_
          clear HT_ HW_ hHeld
          try go_wp2
          go_meet
          case rel => exact ⟨rfl, ⟨HS.out⟩⟩
        · rcases lbc with _ | _
          · rcases lba with _ | _
            · 
              refine start_ (n := 28) (S := fun w' => w'.cell? ⟨ga, 0, none⟩ = some (.slice X.P X.v.length X.p) ∧ w'.cell? ⟨ga, 1, none⟩ = some (.slice X.Q X.m.length X.q) ∧ w'.cell? ⟨ga, 2, none⟩ = some (.bool X.e) ∧ w'.cell? ⟨gb, 0, none⟩ = some (.slice Y.P Y.v.length Y.p) ∧ w'.cell? ⟨gb, 1, none⟩ = some (.slice Y.Q Y.m.length Y.q) ∧ w'.cell? ⟨gb, 2, none⟩ = some (.bool Y.e) ∧ w'.cell? ⟨gc, 0, none⟩ = some (.slice Z.P Z.v.length Z.p) ∧ w'.cell? ⟨gc, 1, none⟩ = some (.slice Z.Q Z.m.length Z.q) ∧ w'.cell? ⟨gc, 2, none⟩ = some (.bool Z.e)) (ds := []) (mB 28 0) (by kernel_rfl) rfl (by kernel_rfl) ⟨(HS.out.drew.cell m2_).1, (HS.out.drew.cell m2_).2.1, (HS.out.drew.cell m2_).2.2, (HS.out.drew.cell m3_).1, (HS.out.drew.cell m3_).2.1, (HS.out.drew.cell m3_).2.2, (HS.out.drew.cell m4_).1, (HS.out.drew.cell m4_).2.1, (HS.out.drew.cell m4_).2.2⟩ (fun hHeld => ?_)
              refine with_tabW octLattice_tab8 octLattice_bits8 (fun HT_ HW_ => ?_)
              have n_ := Aside0.mk HS.out.drew; clear HS; have HS := n_; clear n_
              generalize hWd : World.drew _ = Wd at HS hHeld ⊢; clear hWd
              refine tV_ 0 79 (mB 28 1) HT_ HW_ hHeld ?_
              refine tV_ 1 80 (mB 28 3) HT_ HW_ hHeld ?_
              refine one_ (i := 2) (N := some 81) (mB 28 7) rfl rfl (one_of HT_.out (by kernel_rfl)) (by decide) (fun K hK => ?_)
              refine goes_ Try.func38 (by kernel_rfl) rfl #[X.val, Y.val] (by rfl) rfl rfl vL ?_
              with_reducible refine (leq_at (LS.oc HS m2_) (LS.oc HS m3_) (LS.bel HS) OX.out OY.out G5.out).mono ?_
              rintro e wk ⟨rfl, hb⟩; refine ⟨_, rfl, ?_⟩
              have n_ := Aside0.mk (HS.out.next hb); clear HS; have HS := n_; clear n_ hb
              refine hK.out _ _ ⟨(HS.out.cell m2_).1, (HS.out.cell m2_).2.1, (HS.out.cell m2_).2.2, (HS.out.cell m3_).1, (HS.out.cell m3_).2.1, (HS.out.cell m3_).2.2, (HS.out.cell m4_).1, (HS.out.cell m4_).2.1, (HS.out.cell m4_).2.2⟩ (fun hHeld => ?_)
              clear hK K
              refine nO_ 81 ?_
              refine pV_ 3 82 (mB 28 15) HT_ ?_
              refine tV_ 4 83 (mB 28 31) HT_ HW_ hHeld ?_
              refine tV_ 5 84 (mB 28 63) HT_ HW_ hHeld ?_
              refine one_ (i := 6) (N := some 85) (mB 28 127) rfl rfl (one_of HT_.out (by kernel_rfl)) (by decide) (fun K hK => ?_)
              refine goes_ Try.func38 (by kernel_rfl) rfl #[Y.val, Z.val] (by rfl) rfl rfl vL ?_
              with_reducible refine (leq_at (LS.oc HS m3_) (LS.oc HS m4_) (LS.bel HS) OY.out OZ.out G2.out).mono ?_
              rintro e wk ⟨rfl, hb⟩; refine ⟨_, rfl, ?_⟩
              have n_ := Aside0.mk (HS.out.next hb); clear HS; have HS := n_; clear n_ hb
              refine hK.out _ _ ⟨(HS.out.cell m2_).1, (HS.out.cell m2_).2.1, (HS.out.cell m2_).2.2, (HS.out.cell m3_).1, (HS.out.cell m3_).2.1, (HS.out.cell m3_).2.2, (HS.out.cell m4_).1, (HS.out.cell m4_).2.1, (HS.out.cell m4_).2.2⟩ (fun hHeld => ?_)
              clear hK K
              refine nO_ 85 ?_
              refine pV_ 7 86 (mB 28 255) HT_ ?_
              refine pV_ 8 87 (mB 28 511) HT_ ?_
              refine pU_ 9 88 (mB 28 1023) HT_ ?_
              refine pU_ 10 89 (mB 28 2047) HT_ ?_
              refine pU_ 11 90 (mB 28 4095) HT_ ?_
              refine pU_ 12 91 (mB 28 8191) HT_ ?_
              refine pV_ 13 92 (mB 28 16383) HT_ ?_
              refine pV_ 14 93 (mB 28 32767) HT_ ?_
              refine tV_ 15 94 (mB 28 65535) HT_ HW_ hHeld ?_
              refine tV_ 16 95 (mB 28 131071) HT_ HW_ hHeld ?_
              refine one_ (i := 17) (N := some 96) (mB 28 262143) rfl rfl (one_of HT_.out (by kernel_rfl)) (by decide) (fun K hK => ?_)
              refine goes_ Try.func38 (by kernel_rfl) rfl #[X.val, Y.val] (by rfl) rfl rfl vL ?_
              with_reducible refine (leq_at (LS.oc HS m2_) (LS.oc HS m3_) (LS.bel HS) OX.out OY.out G5.out).mono ?_
              rintro e wk ⟨rfl, hb⟩; refine ⟨_, rfl, ?_⟩
              have n_ := Aside0.mk (HS.out.next hb); clear HS; have HS := n_; clear n_ hb
              refine hK.out _ _ ⟨(HS.out.cell m2_).1, (HS.out.cell m2_).2.1, (HS.out.cell m2_).2.2, (HS.out.cell m3_).1, (HS.out.cell m3_).2.1, (HS.out.cell m3_).2.2, (HS.out.cell m4_).1, (HS.out.cell m4_).2.1, (HS.out.cell m4_).2.2⟩ (fun hHeld => ?_)
              clear hK K
              refine nO_ 96 ?_
              refine pV_ 18 97 (mB 28 524287) HT_ ?_
              refine tV_ 19 98 (mB 28 1048575) HT_ HW_ hHeld ?_
              refine tV_ 20 99 (mB 28 2097151) HT_ HW_ hHeld ?_
              refine tV_ 22 101 (mB 28 6291455) HT_ HW_ hHeld ?_
              refine tV_ 23 102 (mB 28 14680063) HT_ HW_ hHeld ?_
              refine one_ (i := 21) (N := some 100) (mB 28 16777215) rfl rfl (one_of HT_.out (by kernel_rfl)) (by decide) (fun K hK => ?_)
              refine goes_ Try.func38 (by kernel_rfl) rfl #[Y.val, X.val] (by rfl) rfl rfl vL ?_
              with_reducible refine (leq_at (LS.oc HS m3_) (LS.oc HS m2_) (LS.bel HS) OY.out OX.out G6.out).mono ?_
              rintro e wk ⟨rfl, hb⟩; refine ⟨_, rfl, ?_⟩
              have n_ := Aside0.mk (HS.out.next hb); clear HS; have HS := n_; clear n_ hb
              refine hK.out _ _ ⟨(HS.out.cell m2_).1, (HS.out.cell m2_).2.1, (HS.out.cell m2_).2.2, (HS.out.cell m3_).1, (HS.out.cell m3_).2.1, (HS.out.cell m3_).2.2, (HS.out.cell m4_).1, (HS.out.cell m4_).2.1, (HS.out.cell m4_).2.2⟩ (fun hHeld => ?_)
              clear hK K
              refine nO_ 100 ?_
              refine one_ (i := 24) (N := some 103) (mB 28 33554431) rfl rfl (one_of HT_.out (by kernel_rfl)) (by decide) (fun K hK => ?_)
              refine goes_ Try.func39 (by kernel_rfl) rfl #[X.val, Y.val] (by rfl) rfl rfl vL ?_
              with_reducible refine (same_at (LS.oc HS m2_) (LS.oc HS m3_) (LS.bel HS) OX.out OY.out G5.out G6.out).mono ?_
              rintro e wk ⟨rfl, hb⟩; refine ⟨_, rfl, ?_⟩
              have n_ := Aside0.mk (HS.out.next hb); clear HS; have HS := n_; clear n_ hb
              refine hK.out _ _ ⟨(HS.out.cell m2_).1, (HS.out.cell m2_).2.1, (HS.out.cell m2_).2.2, (HS.out.cell m3_).1, (HS.out.cell m3_).2.1, (HS.out.cell m3_).2.2, (HS.out.cell m4_).1, (HS.out.cell m4_).2.1, (HS.out.cell m4_).2.2⟩ (fun hHeld => ?_)
              clear hK K
              refine nO_ 103 ?_
              refine pV_ 25 104 (mB 28 67108863) HT_ ?_
              refine pV_ 26 105 (mB 28 134217727) HT_ ?_
              refine pV_ 27 106 (mB 28 268435455) HT_ ?_
              refine done_ (done_of HT_.out (by kernel_rfl)) ?_
              clear HT_ HW_ hHeld
              try go_wp2
              go_meet
              case rel => exact ⟨rfl, ⟨HS.out⟩⟩
            · 
              refine start_ (n := 28) (S := fun w' => w'.cell? ⟨ga, 0, none⟩ = some (.slice X.P X.v.length X.p) ∧ w'.cell? ⟨ga, 1, none⟩ = some (.slice X.Q X.m.length X.q) ∧ w'.cell? ⟨ga, 2, none⟩ = some (.bool X.e) ∧ w'.cell? ⟨gb, 0, none⟩ = some (.slice Y.P Y.v.length Y.p) ∧ w'.cell? ⟨gb, 1, none⟩ = some (.slice Y.Q Y.m.length Y.q) ∧ w'.cell? ⟨gb, 2, none⟩ = some (.bool Y.e) ∧ w'.cell? ⟨gc, 0, none⟩ = some (.slice Z.P Z.v.length Z.p) ∧ w'.cell? ⟨gc, 1, none⟩ = some (.slice Z.Q Z.m.length Z.q) ∧ w'.cell? ⟨gc, 2, none⟩ = some (.bool Z.e)) (ds := []) (mB 28 0) (by kernel_rfl) rfl (by kernel_rfl) ⟨(HS.out.drew.cell m2_).1, (HS.out.drew.cell m2_).2.1, (HS.out.drew.cell m2_).2.2, (HS.out.drew.cell m3_).1, (HS.out.drew.cell m3_).2.1, (HS.out.drew.cell m3_).2.2, (HS.out.drew.cell m4_).1, (HS.out.drew.cell m4_).2.1, (HS.out.drew.cell m4_).2.2⟩ (fun hHeld => ?_)
              refine with_tabW octLattice_tab8 octLattice_bits8 (fun HT_ HW_ => ?_)
              have n_ := Aside0.mk HS.out.drew; clear HS; have HS := n_; clear n_
              generalize hWd : World.drew _ = Wd at HS hHeld ⊢; clear hWd
              refine tV_ 0 79 (mB 28 1) HT_ HW_ hHeld ?_
              refine tV_ 1 80 (mB 28 3) HT_ HW_ hHeld ?_
              refine one_ (i := 2) (N := some 81) (mB 28 7) rfl rfl (one_of HT_.out (by kernel_rfl)) (by decide) (fun K hK => ?_)
              refine goes_ Try.func38 (by kernel_rfl) rfl #[X.val, Y.val] (by rfl) rfl rfl vL ?_
              with_reducible refine (leq_at (LS.oc HS m2_) (LS.oc HS m3_) (LS.bel HS) OX.out OY.out G5.out).mono ?_
              rintro e wk ⟨rfl, hb⟩; refine ⟨_, rfl, ?_⟩
              have n_ := Aside0.mk (HS.out.next hb); clear HS; have HS := n_; clear n_ hb
              refine hK.out _ _ ⟨(HS.out.cell m2_).1, (HS.out.cell m2_).2.1, (HS.out.cell m2_).2.2, (HS.out.cell m3_).1, (HS.out.cell m3_).2.1, (HS.out.cell m3_).2.2, (HS.out.cell m4_).1, (HS.out.cell m4_).2.1, (HS.out.cell m4_).2.2⟩ (fun hHeld => ?_)
              clear hK K
              refine nO_ 81 ?_
              refine pV_ 3 82 (mB 28 15) HT_ ?_
              refine tV_ 4 83 (mB 28 31) HT_ HW_ hHeld ?_
              refine tV_ 5 84 (mB 28 63) HT_ HW_ hHeld ?_
              refine one_ (i := 6) (N := some 85) (mB 28 127) rfl rfl (one_of HT_.out (by kernel_rfl)) (by decide) (fun K hK => ?_)
              refine goes_ Try.func38 (by kernel_rfl) rfl #[Y.val, Z.val] (by rfl) rfl rfl vL ?_
              with_reducible refine (leq_at (LS.oc HS m3_) (LS.oc HS m4_) (LS.bel HS) OY.out OZ.out G2.out).mono ?_
              rintro e wk ⟨rfl, hb⟩; refine ⟨_, rfl, ?_⟩
              have n_ := Aside0.mk (HS.out.next hb); clear HS; have HS := n_; clear n_ hb
              refine hK.out _ _ ⟨(HS.out.cell m2_).1, (HS.out.cell m2_).2.1, (HS.out.cell m2_).2.2, (HS.out.cell m3_).1, (HS.out.cell m3_).2.1, (HS.out.cell m3_).2.2, (HS.out.cell m4_).1, (HS.out.cell m4_).2.1, (HS.out.cell m4_).2.2⟩ (fun hHeld => ?_)
              clear hK K
              refine nO_ 85 ?_
              refine pV_ 7 86 (mB 28 255) HT_ ?_
              refine pV_ 8 87 (mB 28 511) HT_ ?_
              refine pU_ 9 88 (mB 28 1023) HT_ ?_
              refine pU_ 10 89 (mB 28 2047) HT_ ?_
              refine pU_ 11 90 (mB 28 4095) HT_ ?_
              refine pU_ 12 91 (mB 28 8191) HT_ ?_
              refine pV_ 13 92 (mB 28 16383) HT_ ?_
              refine pV_ 14 93 (mB 28 32767) HT_ ?_
              refine tV_ 15 94 (mB 28 65535) HT_ HW_ hHeld ?_
              refine tV_ 16 95 (mB 28 131071) HT_ HW_ hHeld ?_
              refine one_ (i := 17) (N := some 96) (mB 28 262143) rfl rfl (one_of HT_.out (by kernel_rfl)) (by decide) (fun K hK => ?_)
              refine goes_ Try.func38 (by kernel_rfl) rfl #[X.val, Y.val] (by rfl) rfl rfl vL ?_
              with_reducible refine (leq_at (LS.oc HS m2_) (LS.oc HS m3_) (LS.bel HS) OX.out OY.out G5.out).mono ?_
              rintro e wk ⟨rfl, hb⟩; refine ⟨_, rfl, ?_⟩
              have n_ := Aside0.mk (HS.out.next hb); clear HS; have HS := n_; clear n_ hb
              refine hK.out _ _ ⟨(HS.out.cell m2_).1, (HS.out.cell m2_).2.1, (HS.out.cell m2_).2.2, (HS.out.cell m3_).1, (HS.out.cell m3_).2.1, (HS.out.cell m3_).2.2, (HS.out.cell m4_).1, (HS.out.cell m4_).2.1, (HS.out.cell m4_).2.2⟩ (fun hHeld => ?_)
              clear hK K
              refine nO_ 96 ?_
              refine pV_ 18 97 (mB 28 524287) HT_ ?_
              refine tV_ 19 98 (mB 28 1048575) HT_ HW_ hHeld ?_
              refine tV_ 20 99 (mB 28 2097151) HT_ HW_ hHeld ?_
              refine tV_ 22 101 (mB 28 6291455) HT_ HW_ hHeld ?_
              refine tV_ 23 102 (mB 28 14680063) HT_ HW_ hHeld ?_
              refine one_ (i := 21) (N := some 100) (mB 28 16777215) rfl rfl (one_of HT_.out (by kernel_rfl)) (by decide) (fun K hK => ?_)
              refine goes_ Try.func38 (by kernel_rfl) rfl #[Y.val, X.val] (by rfl) rfl rfl vL ?_
              with_reducible refine (leq_at (LS.oc HS m3_) (LS.oc HS m2_) (LS.bel HS) OY.out OX.out G6.out).mono ?_
              rintro e wk ⟨rfl, hb⟩; refine ⟨_, rfl, ?_⟩
              have n_ := Aside0.mk (HS.out.next hb); clear HS; have HS := n_; clear n_ hb
              refine hK.out _ _ ⟨(HS.out.cell m2_).1, (HS.out.cell m2_).2.1, (HS.out.cell m2_).2.2, (HS.out.cell m3_).1, (HS.out.cell m3_).2.1, (HS.out.cell m3_).2.2, (HS.out.cell m4_).1, (HS.out.cell m4_).2.1, (HS.out.cell m4_).2.2⟩ (fun hHeld => ?_)
              clear hK K
              refine nO_ 100 ?_
              refine one_ (i := 24) (N := some 103) (mB 28 33554431) rfl rfl (one_of HT_.out (by kernel_rfl)) (by decide) (fun K hK => ?_)
              refine goes_ Try.func39 (by kernel_rfl) rfl #[X.val, Y.val] (by rfl) rfl rfl vL ?_
              with_reducible refine (same_at (LS.oc HS m2_) (LS.oc HS m3_) (LS.bel HS) OX.out OY.out G5.out G6.out).mono ?_
              rintro e wk ⟨rfl, hb⟩; refine ⟨_, rfl, ?_⟩
              have n_ := Aside0.mk (HS.out.next hb); clear HS; have HS := n_; clear n_ hb
              refine hK.out _ _ ⟨(HS.out.cell m2_).1, (HS.out.cell m2_).2.1, (HS.out.cell m2_).2.2, (HS.out.cell m3_).1, (HS.out.cell m3_).2.1, (HS.out.cell m3_).2.2, (HS.out.cell m4_).1, (HS.out.cell m4_).2.1, (HS.out.cell m4_).2.2⟩ (fun hHeld => ?_)
              clear hK K
              refine nO_ 103 ?_
              refine pV_ 25 104 (mB 28 67108863) HT_ ?_
              refine pV_ 26 105 (mB 28 134217727) HT_ ?_
              refine pV_ 27 106 (mB 28 268435455) HT_ ?_
              refine done_ (done_of HT_.out (by kernel_rfl)) ?_
              clear HT_ HW_ hHeld
              try go_wp2
              go_meet
              case rel => exact ⟨rfl, ⟨HS.out⟩⟩
          · rcases lba with _ | _
            · 
              refine start_ (n := 28) (S := fun w' => w'.cell? ⟨ga, 0, none⟩ = some (.slice X.P X.v.length X.p) ∧ w'.cell? ⟨ga, 1, none⟩ = some (.slice X.Q X.m.length X.q) ∧ w'.cell? ⟨ga, 2, none⟩ = some (.bool X.e) ∧ w'.cell? ⟨gb, 0, none⟩ = some (.slice Y.P Y.v.length Y.p) ∧ w'.cell? ⟨gb, 1, none⟩ = some (.slice Y.Q Y.m.length Y.q) ∧ w'.cell? ⟨gb, 2, none⟩ = some (.bool Y.e) ∧ w'.cell? ⟨gc, 0, none⟩ = some (.slice Z.P Z.v.length Z.p) ∧ w'.cell? ⟨gc, 1, none⟩ = some (.slice Z.Q Z.m.length Z.q) ∧ w'.cell? ⟨gc, 2, none⟩ = some (.bool Z.e)) (ds := []) (mB 28 0) (by kernel_rfl) rfl (by kernel_rfl) ⟨(HS.out.drew.cell m2_).1, (HS.out.drew.cell m2_).2.1, (HS.out.drew.cell m2_).2.2, (HS.out.drew.cell m3_).1, (HS.out.drew.cell m3_).2.1, (HS.out.drew.cell m3_).2.2, (HS.out.drew.cell m4_).1, (HS.out.drew.cell m4_).2.1, (HS.out.drew.cell m4_).2.2⟩ (fun hHeld => ?_)
              refine with_tabW octLattice_tab8 octLattice_bits8 (fun HT_ HW_ => ?_)
              have n_ := Aside0.mk HS.out.drew; clear HS; have HS := n_; clear n_
              generalize hWd : World.drew _ = Wd at HS hHeld ⊢; clear hWd
              refine tV_ 0 79 (mB 28 1) HT_ HW_ hHeld ?_
              refine tV_ 1 80 (mB 28 3) HT_ HW_ hHeld ?_
              refine one_ (i := 2) (N := some 81) (mB 28 7) rfl rfl (one_of HT_.out (by kernel_rfl)) (by decide) (fun K hK => ?_)
              refine goes_ Try.func38 (by kernel_rfl) rfl #[X.val, Y.val] (by rfl) rfl rfl vL ?_
              with_reducible refine (leq_at (LS.oc HS m2_) (LS.oc HS m3_) (LS.bel HS) OX.out OY.out G5.out).mono ?_
              rintro e wk ⟨rfl, hb⟩; refine ⟨_, rfl, ?_⟩
              have n_ := Aside0.mk (HS.out.next hb); clear HS; have HS := n_; clear n_ hb
              refine hK.out _ _ ⟨(HS.out.cell m2_).1, (HS.out.cell m2_).2.1, (HS.out.cell m2_).2.2, (HS.out.cell m3_).1, (HS.out.cell m3_).2.1, (HS.out.cell m3_).2.2, (HS.out.cell m4_).1, (HS.out.cell m4_).2.1, (HS.out.cell m4_).2.2⟩ (fun hHeld => ?_)
              clear hK K
              refine nO_ 81 ?_
              refine pV_ 3 82 (mB 28 15) HT_ ?_
              refine tV_ 4 83 (mB 28 31) HT_ HW_ hHeld ?_
              refine tV_ 5 84 (mB 28 63) HT_ HW_ hHeld ?_
              refine one_ (i := 6) (N := some 85) (mB 28 127) rfl rfl (one_of HT_.out (by kernel_rfl)) (by decide) (fun K hK => ?_)
              refine goes_ Try.func38 (by kernel_rfl) rfl #[Y.val, Z.val] (by rfl) rfl rfl vL ?_
              with_reducible refine (leq_at (LS.oc HS m3_) (LS.oc HS m4_) (LS.bel HS) OY.out OZ.out G2.out).mono ?_
              rintro e wk ⟨rfl, hb⟩; refine ⟨_, rfl, ?_⟩
              have n_ := Aside0.mk (HS.out.next hb); clear HS; have HS := n_; clear n_ hb
              refine hK.out _ _ ⟨(HS.out.cell m2_).1, (HS.out.cell m2_).2.1, (HS.out.cell m2_).2.2, (HS.out.cell m3_).1, (HS.out.cell m3_).2.1, (HS.out.cell m3_).2.2, (HS.out.cell m4_).1, (HS.out.cell m4_).2.1, (HS.out.cell m4_).2.2⟩ (fun hHeld => ?_)
              clear hK K
              refine nO_ 85 ?_
              refine pV_ 7 86 (mB 28 255) HT_ ?_
              refine pV_ 8 87 (mB 28 511) HT_ ?_
              refine tV_ 9 88 (mB 28 1023) HT_ HW_ hHeld ?_
              refine tV_ 10 89 (mB 28 2047) HT_ HW_ hHeld ?_
              refine one_ (i := 11) (N := some 90) (mB 28 4095) rfl rfl (one_of HT_.out (by kernel_rfl)) (by decide) (fun K hK => ?_)
              refine goes_ Try.func38 (by kernel_rfl) rfl #[X.val, Z.val] (by rfl) rfl rfl vL ?_
              with_reducible refine (leq_at (LS.oc HS m2_) (LS.oc HS m4_) (LS.bel HS) OX.out OZ.out (LAW.out.2.2.2 G5.out G2.out)).mono ?_
              rintro e wk ⟨rfl, hb⟩; refine ⟨_, rfl, ?_⟩
              have n_ := Aside0.mk (HS.out.next hb); clear HS; have HS := n_; clear n_ hb
              refine hK.out _ _ ⟨(HS.out.cell m2_).1, (HS.out.cell m2_).2.1, (HS.out.cell m2_).2.2, (HS.out.cell m3_).1, (HS.out.cell m3_).2.1, (HS.out.cell m3_).2.2, (HS.out.cell m4_).1, (HS.out.cell m4_).2.1, (HS.out.cell m4_).2.2⟩ (fun hHeld => ?_)
              clear hK K
              refine nO_ 90 ?_
              refine pV_ 12 91 (mB 28 8191) HT_ ?_
              refine pV_ 13 92 (mB 28 16383) HT_ ?_
              refine pV_ 14 93 (mB 28 32767) HT_ ?_
              refine tV_ 15 94 (mB 28 65535) HT_ HW_ hHeld ?_
              refine tV_ 16 95 (mB 28 131071) HT_ HW_ hHeld ?_
              refine one_ (i := 17) (N := some 96) (mB 28 262143) rfl rfl (one_of HT_.out (by kernel_rfl)) (by decide) (fun K hK => ?_)
              refine goes_ Try.func38 (by kernel_rfl) rfl #[X.val, Y.val] (by rfl) rfl rfl vL ?_
              with_reducible refine (leq_at (LS.oc HS m2_) (LS.oc HS m3_) (LS.bel HS) OX.out OY.out G5.out).mono ?_
              rintro e wk ⟨rfl, hb⟩; refine ⟨_, rfl, ?_⟩
              have n_ := Aside0.mk (HS.out.next hb); clear HS; have HS := n_; clear n_ hb
              refine hK.out _ _ ⟨(HS.out.cell m2_).1, (HS.out.cell m2_).2.1, (HS.out.cell m2_).2.2, (HS.out.cell m3_).1, (HS.out.cell m3_).2.1, (HS.out.cell m3_).2.2, (HS.out.cell m4_).1, (HS.out.cell m4_).2.1, (HS.out.cell m4_).2.2⟩ (fun hHeld => ?_)
              clear hK K
              refine nO_ 96 ?_
              refine pV_ 18 97 (mB 28 524287) HT_ ?_
              refine tV_ 19 98 (mB 28 1048575) HT_ HW_ hHeld ?_
              refine tV_ 20 99 (mB 28 2097151) HT_ HW_ hHeld ?_
              refine tV_ 22 101 (mB 28 6291455) HT_ HW_ hHeld ?_
              refine tV_ 23 102 (mB 28 14680063) HT_ HW_ hHeld ?_
              refine one_ (i := 21) (N := some 100) (mB 28 16777215) rfl rfl (one_of HT_.out (by kernel_rfl)) (by decide) (fun K hK => ?_)
              refine goes_ Try.func38 (by kernel_rfl) rfl #[Y.val, X.val] (by rfl) rfl rfl vL ?_
              with_reducible refine (leq_at (LS.oc HS m3_) (LS.oc HS m2_) (LS.bel HS) OY.out OX.out G6.out).mono ?_
              rintro e wk ⟨rfl, hb⟩; refine ⟨_, rfl, ?_⟩
              have n_ := Aside0.mk (HS.out.next hb); clear HS; have HS := n_; clear n_ hb
              refine hK.out _ _ ⟨(HS.out.cell m2_).1, (HS.out.cell m2_).2.1, (HS.out.cell m2_).2.2, (HS.out.cell m3_).1, (HS.out.cell m3_).2.1, (HS.out.cell m3_).2.2, (HS.out.cell m4_).1, (HS.out.cell m4_).2.1, (HS.out.cell m4_).2.2⟩ (fun hHeld => ?_)
              clear hK K
              refine nO_ 100 ?_
              refine one_ (i := 24) (N := some 103) (mB 28 33554431) rfl rfl (one_of HT_.out (by kernel_rfl)) (by decide) (fun K hK => ?_)
              refine goes_ Try.func39 (by kernel_rfl) rfl #[X.val, Y.val] (by rfl) rfl rfl vL ?_
              with_reducible refine (same_at (LS.oc HS m2_) (LS.oc HS m3_) (LS.bel HS) OX.out OY.out G5.out G6.out).mono ?_
              rintro e wk ⟨rfl, hb⟩; refine ⟨_, rfl, ?_⟩
              have n_ := Aside0.mk (HS.out.next hb); clear HS; have HS := n_; clear n_ hb
              refine hK.out _ _ ⟨(HS.out.cell m2_).1, (HS.out.cell m2_).2.1, (HS.out.cell m2_).2.2, (HS.out.cell m3_).1, (HS.out.cell m3_).2.1, (HS.out.cell m3_).2.2, (HS.out.cell m4_).1, (HS.out.cell m4_).2.1, (HS.out.cell m4_).2.2⟩ (fun hHeld => ?_)
              clear hK K
              refine nO_ 103 ?_
              refine pV_ 25 104 (mB 28 67108863) HT_ ?_
              refine pV_ 26 105 (mB 28 134217727) HT_ ?_
              refine pV_ 27 106 (mB 28 268435455) HT_ ?_
              refine done_ (done_of HT_.out (by kernel_rfl)) ?_
              clear HT_ HW_ hHeld
              try go_wp2
              go_meet
              case rel => exact ⟨rfl, ⟨HS.out⟩⟩
            · 
              refine start_ (n := 28) (S := fun w' => w'.cell? ⟨ga, 0, none⟩ = some (.slice X.P X.v.length X.p) ∧ w'.cell? ⟨ga, 1, none⟩ = some (.slice X.Q X.m.length X.q) ∧ w'.cell? ⟨ga, 2, none⟩ = some (.bool X.e) ∧ w'.cell? ⟨gb, 0, none⟩ = some (.slice Y.P Y.v.length Y.p) ∧ w'.cell? ⟨gb, 1, none⟩ = some (.slice Y.Q Y.m.length Y.q) ∧ w'.cell? ⟨gb, 2, none⟩ = some (.bool Y.e) ∧ w'.cell? ⟨gc, 0, none⟩ = some (.slice Z.P Z.v.length Z.p) ∧ w'.cell? ⟨gc, 1, none⟩ = some (.slice Z.Q Z.m.length Z.q) ∧ w'.cell? ⟨gc, 2, none⟩ = some (.bool Z.e)) (ds := []) (mB 28 0) (by kernel_rfl) rfl (by kernel_rfl) ⟨(HS.out.drew.cell m2_).1, (HS.out.drew.cell m2_).2.1, (HS.out.drew.cell m2_).2.2, (HS.out.drew.cell m3_).1, (HS.out.drew.cell m3_).2.1, (HS.out.drew.cell m3_).2.2, (HS.out.drew.cell m4_).1, (HS.out.drew.cell m4_).2.1, (HS.out.drew.cell m4_).2.2⟩ (fun hHeld => ?_)
              refine with_tabW octLattice_tab8 octLattice_bits8 (fun HT_ HW_ => ?_)
              have n_ := Aside0.mk HS.out.drew; clear HS; have HS := n_; clear n_
              generalize hWd : World.drew _ = Wd at HS hHeld ⊢; clear hWd
              refine tV_ 0 79 (mB 28 1) HT_ HW_ hHeld ?_
              refine tV_ 1 80 (mB 28 3) HT_ HW_ hHeld ?_
              refine one_ (i := 2) (N := some 81) (mB 28 7) rfl rfl (one_of HT_.out (by kernel_rfl)) (by decide) (fun K hK => ?_)
              refine goes_ Try.func38 (by kernel_rfl) rfl #[X.val, Y.val] (by rfl) rfl rfl vL ?_
              with_reducible refine (leq_at (LS.oc HS m2_) (LS.oc HS m3_) (LS.bel HS) OX.out OY.out G5.out).mono ?_
              rintro e wk ⟨rfl, hb⟩; refine ⟨_, rfl, ?_⟩
              have n_ := Aside0.mk (HS.out.next hb); clear HS; have HS := n_; clear n_ hb
              refine hK.out _ _ ⟨(HS.out.cell m2_).1, (HS.out.cell m2_).2.1, (HS.out.cell m2_).2.2, (HS.out.cell m3_).1, (HS.out.cell m3_).2.1, (HS.out.cell m3_).2.2, (HS.out.cell m4_).1, (HS.out.cell m4_).2.1, (HS.out.cell m4_).2.2⟩ (fun hHeld => ?_)
              clear hK K
              refine nO_ 81 ?_
              refine pV_ 3 82 (mB 28 15) HT_ ?_
              refine tV_ 4 83 (mB 28 31) HT_ HW_ hHeld ?_
              refine tV_ 5 84 (mB 28 63) HT_ HW_ hHeld ?_
              refine one_ (i := 6) (N := some 85) (mB 28 127) rfl rfl (one_of HT_.out (by kernel_rfl)) (by decide) (fun K hK => ?_)
              refine goes_ Try.func38 (by kernel_rfl) rfl #[Y.val, Z.val] (by rfl) rfl rfl vL ?_
              with_reducible refine (leq_at (LS.oc HS m3_) (LS.oc HS m4_) (LS.bel HS) OY.out OZ.out G2.out).mono ?_
              rintro e wk ⟨rfl, hb⟩; refine ⟨_, rfl, ?_⟩
              have n_ := Aside0.mk (HS.out.next hb); clear HS; have HS := n_; clear n_ hb
              refine hK.out _ _ ⟨(HS.out.cell m2_).1, (HS.out.cell m2_).2.1, (HS.out.cell m2_).2.2, (HS.out.cell m3_).1, (HS.out.cell m3_).2.1, (HS.out.cell m3_).2.2, (HS.out.cell m4_).1, (HS.out.cell m4_).2.1, (HS.out.cell m4_).2.2⟩ (fun hHeld => ?_)
              clear hK K
              refine nO_ 85 ?_
              refine pV_ 7 86 (mB 28 255) HT_ ?_
              refine pV_ 8 87 (mB 28 511) HT_ ?_
              refine tV_ 9 88 (mB 28 1023) HT_ HW_ hHeld ?_
              refine tV_ 10 89 (mB 28 2047) HT_ HW_ hHeld ?_
              refine one_ (i := 11) (N := some 90) (mB 28 4095) rfl rfl (one_of HT_.out (by kernel_rfl)) (by decide) (fun K hK => ?_)
              refine goes_ Try.func38 (by kernel_rfl) rfl #[X.val, Z.val] (by rfl) rfl rfl vL ?_
              with_reducible refine (leq_at (LS.oc HS m2_) (LS.oc HS m4_) (LS.bel HS) OX.out OZ.out (LAW.out.2.2.2 G5.out G2.out)).mono ?_
              rintro e wk ⟨rfl, hb⟩; refine ⟨_, rfl, ?_⟩
              have n_ := Aside0.mk (HS.out.next hb); clear HS; have HS := n_; clear n_ hb
              refine hK.out _ _ ⟨(HS.out.cell m2_).1, (HS.out.cell m2_).2.1, (HS.out.cell m2_).2.2, (HS.out.cell m3_).1, (HS.out.cell m3_).2.1, (HS.out.cell m3_).2.2, (HS.out.cell m4_).1, (HS.out.cell m4_).2.1, (HS.out.cell m4_).2.2⟩ (fun hHeld => ?_)
              clear hK K
              refine nO_ 90 ?_
              refine pV_ 12 91 (mB 28 8191) HT_ ?_
              refine pV_ 13 92 (mB 28 16383) HT_ ?_
              refine pV_ 14 93 (mB 28 32767) HT_ ?_
              refine tV_ 15 94 (mB 28 65535) HT_ HW_ hHeld ?_
              refine tV_ 16 95 (mB 28 131071) HT_ HW_ hHeld ?_
              refine one_ (i := 17) (N := some 96) (mB 28 262143) rfl rfl (one_of HT_.out (by kernel_rfl)) (by decide) (fun K hK => ?_)
              refine goes_ Try.func38 (by kernel_rfl) rfl #[X.val, Y.val] (by rfl) rfl rfl vL ?_
              with_reducible refine (leq_at (LS.oc HS m2_) (LS.oc HS m3_) (LS.bel HS) OX.out OY.out G5.out).mono ?_
              rintro e wk ⟨rfl, hb⟩; refine ⟨_, rfl, ?_⟩
              have n_ := Aside0.mk (HS.out.next hb); clear HS; have HS := n_; clear n_ hb
              refine hK.out _ _ ⟨(HS.out.cell m2_).1, (HS.out.cell m2_).2.1, (HS.out.cell m2_).2.2, (HS.out.cell m3_).1, (HS.out.cell m3_).2.1, (HS.out.cell m3_).2.2, (HS.out.cell m4_).1, (HS.out.cell m4_).2.1, (HS.out.cell m4_).2.2⟩ (fun hHeld => ?_)
              clear hK K
              refine nO_ 96 ?_
              refine pV_ 18 97 (mB 28 524287) HT_ ?_
              refine tV_ 19 98 (mB 28 1048575) HT_ HW_ hHeld ?_
              refine tV_ 20 99 (mB 28 2097151) HT_ HW_ hHeld ?_
              refine tV_ 22 101 (mB 28 6291455) HT_ HW_ hHeld ?_
              refine tV_ 23 102 (mB 28 14680063) HT_ HW_ hHeld ?_
              refine one_ (i := 21) (N := some 100) (mB 28 16777215) rfl rfl (one_of HT_.out (by kernel_rfl)) (by decide) (fun K hK => ?_)
              refine goes_ Try.func38 (by kernel_rfl) rfl #[Y.val, X.val] (by rfl) rfl rfl vL ?_
              with_reducible refine (leq_at (LS.oc HS m3_) (LS.oc HS m2_) (LS.bel HS) OY.out OX.out G6.out).mono ?_
              rintro e wk ⟨rfl, hb⟩; refine ⟨_, rfl, ?_⟩
              have n_ := Aside0.mk (HS.out.next hb); clear HS; have HS := n_; clear n_ hb
              refine hK.out _ _ ⟨(HS.out.cell m2_).1, (HS.out.cell m2_).2.1, (HS.out.cell m2_).2.2, (HS.out.cell m3_).1, (HS.out.cell m3_).2.1, (HS.out.cell m3_).2.2, (HS.out.cell m4_).1, (HS.out.cell m4_).2.1, (HS.out.cell m4_).2.2⟩ (fun hHeld => ?_)
              clear hK K
              refine nO_ 100 ?_
              refine one_ (i := 24) (N := some 103) (mB 28 33554431) rfl rfl (one_of HT_.out (by kernel_rfl)) (by decide) (fun K hK => ?_)
              refine goes_ Try.func39 (by kernel_rfl) rfl #[X.val, Y.val] (by rfl) rfl rfl vL ?_
              with_reducible refine (same_at (LS.oc HS m2_) (LS.oc HS m3_) (LS.bel HS) OX.out OY.out G5.out G6.out).mono ?_
              rintro e wk ⟨rfl, hb⟩; refine ⟨_, rfl, ?_⟩
              have n_ := Aside0.mk (HS.out.next hb); clear HS; have HS := n_; clear n_ hb
              refine hK.out _ _ ⟨(HS.out.cell m2_).1, (HS.out.cell m2_).2.1, (HS.out.cell m2_).2.2, (HS.out.cell m3_).1, (HS.out.cell m3_).2.1, (HS.out.cell m3_).2.2, (HS.out.cell m4_).1, (HS.out.cell m4_).2.1, (HS.out.cell m4_).2.2⟩ (fun hHeld => ?_)
              clear hK K
              refine nO_ 103 ?_
              refine pV_ 25 104 (mB 28 67108863) HT_ ?_
              refine pV_ 26 105 (mB 28 134217727) HT_ ?_
              refine pV_ 27 106 (mB 28 268435455) HT_ ?_
              refine done_ (done_of HT_.out (by kernel_rfl)) ?_
              clear HT_ HW_ hHeld
              try go_wp2
              go_meet
              case rel => exact ⟨rfl, ⟨HS.out⟩⟩
      case rest =>
        clear HS
        obtain ⟨rfl, HS⟩ := hcut
        obtain ⟨⟨km0, km1, km2⟩, fm0, fm1, fm2⟩ := LS.cells HS m0_; obtain ⟨⟨kj0, kj1, kj2⟩, fj0, fj1, fj2⟩ := LS.cells HS m1_; obtain ⟨⟨ka0, ka1, ka2⟩, fa0, fa1, fa2⟩ := LS.cells HS m2_; obtain ⟨⟨kb0, kb1, kb2⟩, fb0, fb1, fb2⟩ := LS.cells HS m3_; obtain ⟨⟨kc0, kc1, kc2⟩, fc0, fc1, fc2⟩ := LS.cells HS m4_
        go_upto_region 11 with (first | (go_at_call 22; (with_reducible refine (close_o (LS.oc HS m2_) (LS.bel HS) OX.out.1).mono ?_); rintro e wk ⟨dv, rfl, hd, ho, hb⟩; have n_ := Aside0.mk ((LS.to HS).call hb ho); clear HS; have HS := n_; clear n_ hb ho; clear km0 km1 km2 fm0 fm1 fm2; obtain ⟨⟨km0, km1, km2⟩, fm0, fm1, fm2⟩ := LS.cells HS m0_; clear kj0 kj1 kj2 fj0 fj1 fj2; obtain ⟨⟨kj0, kj1, kj2⟩, fj0, fj1, fj2⟩ := LS.cells HS m1_; clear ka0 ka1 ka2 fa0 fa1 fa2; obtain ⟨⟨ka0, ka1, ka2⟩, fa0, fa1, fa2⟩ := LS.cells HS m2_; clear kb0 kb1 kb2 fb0 fb1 fb2; obtain ⟨⟨kb0, kb1, kb2⟩, fb0, fb1, fb2⟩ := LS.cells HS m3_; clear kc0 kc1 kc2 fc0 fc1 fc2; obtain ⟨⟨kc0, kc1, kc2⟩, fc0, fc1, fc2⟩ := LS.cells HS m4_) | ((with_reducible refine gate_dst (N := 9) rfl ?_); refine box_event ?hg (N := 9) ?hd (cs := #[.slice none 0 0, .slice none 0 0, .bool false]) (t := 25) ?hr ?_; (case hd => rfl); (case hg => rfl); (case hr => first | (go_simp; done) | (go_simp; rfl)); intro gd hg wk hbox hb; have n_ := Aside0.mk ((LS.to HS).made hg hbox hb); clear HS; have HS := n_; clear n_ hg hbox hb; obtain ⟨p0, p1, p2, p3, p4, p5⟩ := LS.one_new HS))
        have n_ := Aside0.mk (HS.out.put0 m0_)
        clear HS
        have HS := n_
        clear n_
        generalize hW : (((World.setCell _ ⟨gd, 0, none⟩ (.slice dv.P dv.v.length dv.p)).setCell ⟨gd, 1, none⟩ (.slice dv.Q dv.m.length dv.q)).setCell ⟨gd, 2, none⟩ (.bool dv.e)) = W9 at HS ⊢
        clear hW p0 p1 p2 p3 p4 p5
        have CL := Aside0.mk (close_law OX.out.1)
        have OD := Aside0.mk (OkV.of hd CL.out.1.1 CL.out.1.2)
        have ed : (closeF X.v X.m X.e).2.1 = dv.m ∧ (closeF X.v X.m X.e).2.2 = dv.e := by rw [← hd]; exact ⟨rfl, rfl⟩
        have LD := Aside0.mk CL.out.2
        rw [ed.1, ed.2] at LD
        have HD : Aside0 (∀ z : OV, z.o = closeF dv.v dv.m dv.e → z.o = dv.o) := ⟨fun z hz => by rw [hz, OD.out.2, LD.out.2.2]; exact hd.symm⟩
        have HLN : Aside0 (∀ z : OV, z.o = closeF dv.v dv.m dv.e → z.v.length < 4611686018427387904 ∧ z.m.length < 4611686018427387904) := ⟨fun z hz => by
          have h := closeF_len OD.out.1; rw [← hz] at h; exact h⟩
        clear CL ed hd
        refine start_ (n := 13) (S := fun w' => w'.cell? ⟨ga, 0, none⟩ = some (.slice X.P X.v.length X.p) ∧ w'.cell? ⟨ga, 1, none⟩ = some (.slice X.Q X.m.length X.q) ∧ w'.cell? ⟨ga, 2, none⟩ = some (.bool X.e) ∧ w'.cell? ⟨gd, 0, none⟩ = some (.slice dv.P dv.v.length dv.p) ∧ w'.cell? ⟨gd, 1, none⟩ = some (.slice dv.Q dv.m.length dv.q) ∧ w'.cell? ⟨gd, 2, none⟩ = some (.bool dv.e)) (ds := []) (mB 13 0) (by kernel_rfl) rfl (by kernel_rfl) ⟨(HS.out.drew.cell m3_).1, (HS.out.drew.cell m3_).2.1, (HS.out.drew.cell m3_).2.2, (HS.out.drew.cell m0_).1, (HS.out.drew.cell m0_).2.1, (HS.out.drew.cell m0_).2.2⟩ (fun hHeld => ?_)
        refine with_tabW octLattice_tab11 octLattice_bits11 (fun HT_ HW_ => ?_)
        have n_ := Aside0.mk HS.out.drew; clear HS; have HS := n_; clear n_
        generalize hWd : World.drew _ = Wd at HS hHeld ⊢; clear hWd
        refine tV_ 0 109 (mB 13 1) HT_ HW_ hHeld ?_
        refine tV_ 1 110 (mB 13 3) HT_ HW_ hHeld ?_
        refine one_ (i := 2) (N := some 111) (mB 13 7) rfl rfl (one_of HT_.out (by kernel_rfl)) (by decide) (fun K hK => ?_)
        refine goes_ Try.func39 (by kernel_rfl) rfl #[X.val, dv.val] (by rfl) rfl rfl vL ?_
        with_reducible refine (same_at (LS.oc HS m3_) (LS.oc HS m0_) (LS.bel HS) OX.out OD.out LD.out.1 LD.out.2.1).mono ?_
        rintro e wk ⟨rfl, hb⟩; refine ⟨_, rfl, ?_⟩
        have n_ := Aside0.mk (HS.out.next hb); clear HS; have HS := n_; clear n_ hb
        refine hK.out _ _ ⟨(HS.out.cell m3_).1, (HS.out.cell m3_).2.1, (HS.out.cell m3_).2.2, (HS.out.cell m0_).1, (HS.out.cell m0_).2.1, (HS.out.cell m0_).2.2⟩ (fun hHeld => ?_)
        clear hK K
        refine nO_ 111 ?_
        refine pV_ 3 112 (mB 13 15) HT_ ?_
        refine tV_ 4 113 (mB 13 31) HT_ HW_ hHeld ?_
        refine tV_ 6 115 (mB 13 95) HT_ HW_ hHeld ?_
        refine one_ (i := 5) (N := some 114) (mB 13 127) rfl rfl (one_of HT_.out (by kernel_rfl)) (by decide) (fun K hK => ?_)
        refine goes_ Try.func22 (by kernel_rfl) rfl #[dv.val] (by rfl) rfl rfl vL ?_
        with_reducible refine (close_o (LS.oc HS m0_) (LS.bel HS) OD.out.1).mono ?_
        rintro e wk ⟨zv, rfl, hz, ho, hb⟩; refine ⟨_, rfl, ?_⟩
        have n_ := Aside0.mk (HS.out.call hb ho); clear HS; have HS := n_; clear n_ ho hb
        refine hK.out _ _ ⟨(HS.out.cell m3_).1, (HS.out.cell m3_).2.1, (HS.out.cell m3_).2.2, (HS.out.cell m0_).1, (HS.out.cell m0_).2.1, (HS.out.cell m0_).2.2⟩ (fun hHeld => ?_)
        clear hK K
        refine nO_ 114 ?_
        refine one_ (i := 7) (N := some 116) (mB 13 255) rfl rfl (one_of HT_.out (by kernel_rfl)) (by decide) (fun K hK => ?_)
        refine goes_ Try.func15 (by kernel_rfl) rfl #[zv.val, dv.val] (by rfl) rfl rfl vL ?_
        with_reducible refine (equal_o (LS.ov HS m0_) (LS.oc HS m0_) (LS.bel HS) (HD.out _ hz) (HLN.out _ hz).1 (HLN.out _ hz).2).mono ?_
        rintro e wk ⟨rfl, hb⟩; refine ⟨_, rfl, ?_⟩
        have n_ := Aside0.mk (HS.out.next hb); clear HS; have HS := n_; clear n_ hb
        refine hK.out _ _ ⟨(HS.out.cell m3_).1, (HS.out.cell m3_).2.1, (HS.out.cell m3_).2.2, (HS.out.cell m0_).1, (HS.out.cell m0_).2.1, (HS.out.cell m0_).2.2⟩ (fun hHeld => ?_)
        clear hK K
        refine nO_ 116 ?_
        refine pV_ 8 117 (mB 13 511) HT_ ?_
        refine pV_ 9 118 (mB 13 1023) HT_ ?_
        refine one_ (i := 10) (N := some 119) (mB 13 2047) rfl rfl (one_of HT_.out (by kernel_rfl)) (by decide) (fun K hK => ?_)
        refine goes_ Try.func20 (by kernel_rfl) rfl #[] (by rfl) rfl rfl vL ?_
        with_reducible refine (awake_o).mono ?_
        rintro e wk ⟨rfl, hb⟩; refine ⟨_, rfl, ?_⟩
        have n_ := Aside0.mk (HS.out.next hb); clear HS; have HS := n_; clear n_ hb
        refine hK.out _ _ ⟨(HS.out.cell m3_).1, (HS.out.cell m3_).2.1, (HS.out.cell m3_).2.2, (HS.out.cell m0_).1, (HS.out.cell m0_).2.1, (HS.out.cell m0_).2.2⟩ (fun hHeld => ?_)
        clear hK K
        refine nO_ 119 ?_
        refine pV_ 11 120 (mB 13 4095) HT_ ?_
        refine pV_ 12 6 (mB 13 8191) HT_ ?_
        refine done_ (done_of HT_.out (by kernel_rfl)) ?_
        clear HT_ HW_ hHeld
        try go_wp2
        go_ret
        exact ⟨rfl, LS.bel HS⟩
  · cases b with
    | false =>
      clear hbe
      go_wp2_with (first | (go_at_call 32; (with_reducible refine (B2.out (LS.oc HS m0_) (LS.oc HS m1_) (LS.bel HS)).mono ?_); rintro e wk ⟨rfl, hb⟩; have n_ := Aside0.mk ((LS.to HS).next hb); clear HS; have HS := n_; clear n_ hb; clear ka0 ka1 ka2 fa0 fa1 fa2; obtain ⟨⟨ka0, ka1, ka2⟩, fa0, fa1, fa2⟩ := LS.cells HS m0_; clear kb0 kb1 kb2 fb0 fb1 fb2; obtain ⟨⟨kb0, kb1, kb2⟩, fb0, fb1, fb2⟩ := LS.cells HS m1_; clear kc0 kc1 kc2 fc0 fc1 fc2; obtain ⟨⟨kc0, kc1, kc2⟩, fc0, fc1, fc2⟩ := LS.cells HS m2_) | (go_at_call 20; (with_reducible refine (awake_o).mono ?_); rintro e wk ⟨rfl, hb⟩; have n_ := Aside0.mk ((LS.to HS).next hb); clear HS; have HS := n_; clear n_ hb; clear ka0 ka1 ka2 fa0 fa1 fa2; obtain ⟨⟨ka0, ka1, ka2⟩, fa0, fa1, fa2⟩ := LS.cells HS m0_; clear kb0 kb1 kb2 fb0 fb1 fb2; obtain ⟨⟨kb0, kb1, kb2⟩, fb0, fb1, fb2⟩ := LS.cells HS m1_; clear kc0 kc1 kc2 fc0 fc1 fc2; obtain ⟨⟨kc0, kc1, kc2⟩, fc0, fc1, fc2⟩ := LS.cells HS m2_))
      go_ret
      exact ⟨rfl, LS.bel HS⟩
    | true =>
      have he : e = false := by cases e <;> simp_all
      subst he
      clear hbe
      go_wp2_with (first | (go_at_call 32; (with_reducible refine (B2.out (LS.oc HS m0_) (LS.oc HS m1_) (LS.bel HS)).mono ?_); rintro e wk ⟨rfl, hb⟩; have n_ := Aside0.mk ((LS.to HS).next hb); clear HS; have HS := n_; clear n_ hb; clear ka0 ka1 ka2 fa0 fa1 fa2; obtain ⟨⟨ka0, ka1, ka2⟩, fa0, fa1, fa2⟩ := LS.cells HS m0_; clear kb0 kb1 kb2 fb0 fb1 fb2; obtain ⟨⟨kb0, kb1, kb2⟩, fb0, fb1, fb2⟩ := LS.cells HS m1_; clear kc0 kc1 kc2 fc0 fc1 fc2; obtain ⟨⟨kc0, kc1, kc2⟩, fc0, fc1, fc2⟩ := LS.cells HS m2_) | (go_at_call 32; (with_reducible refine (E2.out (LS.oc HS m1_) (LS.oc HS m2_) (LS.bel HS)).mono ?_); rintro e wk ⟨rfl, hb⟩; have n_ := Aside0.mk ((LS.to HS).next hb); clear HS; have HS := n_; clear n_ hb; clear ka0 ka1 ka2 fa0 fa1 fa2; obtain ⟨⟨ka0, ka1, ka2⟩, fa0, fa1, fa2⟩ := LS.cells HS m0_; clear kb0 kb1 kb2 fb0 fb1 fb2; obtain ⟨⟨kb0, kb1, kb2⟩, fb0, fb1, fb2⟩ := LS.cells HS m1_; clear kc0 kc1 kc2 fc0 fc1 fc2; obtain ⟨⟨kc0, kc1, kc2⟩, fc0, fc1, fc2⟩ := LS.cells HS m2_) | (go_at_call 20; (with_reducible refine (awake_o).mono ?_); rintro e wk ⟨rfl, hb⟩; have n_ := Aside0.mk ((LS.to HS).next hb); clear HS; have HS := n_; clear n_ hb; clear ka0 ka1 ka2 fa0 fa1 fa2; obtain ⟨⟨ka0, ka1, ka2⟩, fa0, fa1, fa2⟩ := LS.cells HS m0_; clear kb0 kb1 kb2 fb0 fb1 fb2; obtain ⟨⟨kb0, kb1, kb2⟩, fb0, fb1, fb2⟩ := LS.cells HS m1_; clear kc0 kc1 kc2 fc0 fc1 fc2; obtain ⟨⟨kc0, kc1, kc2⟩, fc0, fc1, fc2⟩ := LS.cells HS m2_))
      go_ret
      exact ⟨rfl, LS.bel HS⟩
end Go.Proofs.Ytomgebmimgaojaa.QO
end
end
section
/- What a reading of an argument tells of its cells, kind by kind: for the rows of laws over structs and nested slices. -/
namespace Go.Proofs.Ytomgebmimgaojaa.Open
open Go.RowKit Go.ChangeShapes Go.WideShapes Go.Proofs.YtomgebmimgaojaaW.PrintWords Go.Proofs.YtomgebmimgaojaaW.PrintMore
/-- every reading of type t tells of an a of which R and Q hold -/
def Opens {α : Type} (P : Program) (t : TypeId) (R : World → α → List Value → Prop) (Q : α → Prop) : Prop :=
  ∀ (H : Type) (enc : TypeId × Value → H) (w : World) (base : Nat) (spare : Nat → Bool) (held : Bool) (fuel : Nat) (cs : List Value) (x : DataW H × List MemPlace),
    DataW.trod enc P w base spare held fuel t cs = some x → (∀ n ∈ DataW.weights P t x.1, n ≤ 140737488351232) → ∃ a : α, R w a cs ∧ Q a
variable {P : Program} {t e : TypeId}
theorem opens_int {k : IntKind} (ht : P.underlying t = some (.int k)) : Opens P t (Kd.int k).K (fun n => (Lit.int k n).wf = true) := by
  intro H enc w base spare held fuel cs x h _
  obtain ⟨n, rfl, _, hw⟩ := DataW.trod_int ht h
  exact ⟨n, rfl, hw⟩
theorem opens_bool (ht : P.underlying t = some .bool) : Opens P t Kd.bool.K (fun _ => True) := by
  intro H enc w base spare held fuel cs x h _
  obtain ⟨n, rfl, _⟩ := DataW.trod_bool ht h
  exact ⟨n, rfl, trivial⟩
theorem opens_string (ht : P.underlying t = some .string) : Opens P t Kd.string.K (fun s => s.size ≤ 140737488351232) := by
  intro H enc w base spare held fuel cs x h hw
  obtain ⟨s, rfl, rfl, _⟩ := DataW.trod_string ht h
  refine ⟨s, rfl, ?_⟩
  have := hw s.data.toList.length (by simp [DataW.weights])
  simpa using this
theorem weightsAll_mem {H : Type} {l : List (DataW H)} {d : DataW H} (hd : d ∈ l) {n : Nat} (hn : n ∈ DataW.weights P e d) : n ∈ DataW.weightsAll P e l := by
  induction l with
  | nil => cases hd
  | cons y r ih =>
    unfold DataW.weightsAll
    rcases List.mem_cons.1 hd with rfl | h
    · exact List.mem_append_left _ hn
    · exact List.mem_append_right _ (ih h)
theorem weightsEach_mem {H : Type} : ∀ {ts : List TypeId} {l : List (DataW H)} {i : Nat} {t : TypeId} {d : DataW H}, ts[i]? = some t → l[i]? = some d → ∀ {n : Nat}, n ∈ DataW.weights P t d → n ∈ DataW.weightsEach P ts l
  | [], _, i, _, _, h, _, _, _ => by simp at h
  | _ :: _, [], i, _, _, _, h, _, _ => by simp at h
  | t' :: ts, d' :: l, 0, t, d, h1, h2, n, hn => by
    simp at h1 h2; subst h1; subst h2
    unfold DataW.weightsEach; exact List.mem_append_left _ hn
  | t' :: ts, d' :: l, i + 1, t, d, h1, h2, n, hn => by
    simp at h1 h2
    unfold DataW.weightsEach; exact List.mem_append_right _ (weightsEach_mem h1 h2 hn)
theorem all_some {α β : Type} {Q : Nat → α → β → Prop} : ∀ (xs : List β) (_ : ∀ i y, xs[i]? = some y → ∃ a, Q i a y), ∃ l : List α, l.length = xs.length ∧ ∀ i a, l[i]? = some a → ∃ y, xs[i]? = some y ∧ Q i a y
  | [], _ => ⟨[], rfl, fun i a h => by simp at h⟩
  | y :: r, h => by
    obtain ⟨a0, h0⟩ := h 0 y rfl
    obtain ⟨l, hl, hr⟩ := all_some (Q := fun i a y => Q (i + 1) a y) r (fun i y hy => h (i + 1) y (by simpa using hy))
    refine ⟨a0 :: l, by simp [hl], fun i a hi => ?_⟩
    cases i with
    | zero => simp at hi; subst hi; exact ⟨y, rfl, h0⟩
    | succ i => obtain ⟨z, hz, hq⟩ := hr i a (by simpa using hi); exact ⟨z, by simpa using hz, hq⟩
theorem opens_slice {α : Type} {d : Kd α} {Q : α → Prop} {B : Nat} (ht : P.underlying t = some (.slice e)) (hs : P.cellsOf e = d.sz) (hB : P.bytesOf e = B) (ho : Opens P e d.K Q) :
    Opens P t (Kd.slice e d).K (fun l => l.length * B ≤ 140737488351232 ∧ l.length ≤ maxLen ∧ ∀ x ∈ l, Q x) := by
  intro H enc w base spare held fuel cs x h hw
  rcases DataW.trod_slice ht h with ⟨rfl, _⟩ | ⟨a, len, cap, elems, rest, n, _, rfl, rfl, hb, hl, hc, hlen, hel, _, _⟩
  · exact ⟨[], ⟨none, 0, rfl, Nat.le_refl _, ⟨rfl, by simp, fun h => absurd h (by simp)⟩⟩, by simp, by simp, fun x hx => by cases hx⟩
  · have hwt : ∀ m ∈ DataW.weights P t (.slice (elems.map (·.1)) (rest.map (·.1))), m ≤ 140737488351232 := hw
    have each : ∀ i y, elems[i]? = some y → ∃ a' : α, (∃ c : List Value, c.length = d.sz ∧ d.K w a' c ∧ ∀ j u, c[j]? = some u → w.cell? (a.add (i * d.sz + j)) = some u) ∧ Q a' := by
      intro i y hy
      have hi : i < len := by rw [← hlen]; exact (List.getElem?_eq_some_iff.1 hy).1
      have h1 := hel i hi
      rw [hy] at h1
      obtain ⟨c, hc1, hc2⟩ := Option.bind_eq_some_iff.1 h1
      obtain ⟨a', hk, hq⟩ := ho H enc w base spare held n c y hc2 (fun m hm => hwt m (by
        simp only [DataW.weights, ht]
        exact List.mem_cons_of_mem _ (List.mem_append_left _ (weightsAll_mem (List.mem_map_of_mem (List.mem_of_getElem? hy)) hm))))
      refine ⟨a', ⟨c, d.K_len hk, hk, fun j u hj => ?_⟩, hq⟩
      unfold World.cells? at hc1
      split at hc1
      · have hlc := mapM_some_length hc1
        have hj' : j < P.cellsOf e := by have := (List.getElem?_eq_some_iff.1 hj).1; rw [List.length_range] at hlc; omega
        have := mapM_some_get hc1 j j (by simp [hj'])
        rw [hj] at this
        rw [← hs, ← Addr.add_add]
        exact this
      · cases hc1
    obtain ⟨l, hll, hlr⟩ := all_some elems each
    refine ⟨l, ⟨some a, cap, ?_, by omega, ⟨rfl, ?_, fun _ => ⟨a, rfl, fun j p hj => ?_⟩⟩⟩, ?_, by omega, fun x hx => ?_⟩
    · rw [hll, hlen]
    · unfold maxLen at hc; omega
    · obtain ⟨_, _, ⟨c, h1, h2, h3⟩, _⟩ := hlr j p hj
      exact ⟨c, h1, h2, h3⟩
    · have := hwt (((elems.map (·.1)).length + (rest.map (·.1)).length) * P.bytesOf e) (by simp only [DataW.weights, ht]; exact List.mem_cons_self ..)
      rw [hB] at this
      simp only [List.length_map] at this
      rw [hll]
      exact Nat.le_trans (Nat.mul_le_mul_right _ (by omega)) this
    · obtain ⟨i, hi⟩ := List.getElem?_of_mem hx
      obtain ⟨_, _, _, hq⟩ := hlr i x hi
      exact hq
/-- one field of a struct -/
theorem open_field {H : Type} {enc : TypeId × Value → H} {w : World} {base : Nat} {spare : Nat → Bool} {held : Bool} {fs : Array Field} {xs : List (DataW H × List MemPlace)} {n : Nat} {cs : List Value}
    (ht : P.underlying t = some (.struct fs)) (hw : ∀ m ∈ DataW.weights P t (.agg (xs.map (·.1))), m ≤ 140737488351232) (hx : xs.length = fs.size)
    (hf : ∀ (i : Nat) (f : Field), fs[i]? = some f → DataW.trod enc P w base spare held n f.type ((cs.drop f.offset).take (P.cellsOf f.type)) = xs[i]?)
    (i : Nat) (f : Field) (hi : fs[i]? = some f) (o s : Nat) (eo : f.offset = o) (es : P.cellsOf f.type = s) {α : Type} {R : World → α → List Value → Prop} {Q : α → Prop} (ho : Opens P f.type R Q) : ∃ a : α, R w a ((cs.drop o).take s) ∧ Q a := by
  have h1 := hf i f hi
  rw [eo, es] at h1
  have hlt : i < xs.length := by rw [hx]; exact (Array.getElem?_eq_some_iff.1 hi).1
  rw [List.getElem?_eq_getElem hlt] at h1
  refine ho H enc w base spare held n _ _ h1 (fun m hm => hw m ?_)
  simp only [DataW.weights, ht]
  refine weightsEach_mem (i := i) (t := f.type) (d := xs[i].1) ?_ ?_ hm
  · simp only [List.getElem?_map, Array.getElem?_toList, hi, Option.map_some]
  · simp only [List.getElem?_map, List.getElem?_eq_getElem hlt, Option.map_some]
/-- an argument's slice -/
theorem arg_slice {H : Type} {enc : TypeId × Value → H} {w : World} {base : Nat} {spare : Nat → Bool} {held : Bool} {v : Value} {dd : DataW H} {ps : List MemPlace} {α : Type} {d : Kd α} {Q : List α → Prop}
    (ho : Opens P t (Kd.slice e d).K Q) (h : DataW.Trod enc P w base spare held t v dd ps) (hw : ∀ m ∈ DataW.weights P t dd, m ≤ 140737488351232) (hv : ∃ a n c, v = .slice a n c) :
    ∃ A c l, v = .slice A l.length c ∧ l.length ≤ c ∧ Kd.C d w A l.length l ∧ Q l := by
  obtain ⟨fuel, hf⟩ := h
  obtain ⟨l, ⟨A, c, hc, hl, hr⟩, hq⟩ := ho H enc w base spare held fuel _ _ hf hw
  obtain ⟨a, n, c', rfl⟩ := hv
  simp [Value.cells] at hc
  obtain ⟨rfl, rfl, rfl⟩ := hc
  exact ⟨_, _, l, rfl, hl, hr, hq⟩
/-- a row's data bear their weights one by one -/
theorem weights_at {H : Type} {ts : List TypeId} {ds : List (DataW H)} (hsz : (DataW.weightsEach P ts ds).all (· ≤ reachBytes) = true) {j : Nat} {d : DataW H} (h1 : ts[j]? = some t) (h2 : ds[j]? = some d) : ∀ m ∈ DataW.weights P t d, m ≤ 140737488351232 := by
  intro m hm
  exact of_decide_eq_true (List.all_eq_true.1 hsz m (weightsEach_mem h1 h2 hm))
end Go.Proofs.Ytomgebmimgaojaa.Open
end
