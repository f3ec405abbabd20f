/- Own texts of this claim, joined: Leq, Mixed, Join, Coh, Tgt, Lat, Meet, O, QOx1067, QOx1033, QOx1035, QOx1090, QOx1069, QOx1034, Vals, Ev, Holds -/
import Derived.Test.YtomgebmimgaojaaBOO0
import Derived.Test.YtomgebmimgaojaaBOO1
import Derived.Deep.RegionHeld3
section
/- oct.Leq walked. Written by a program of this session. -/
noncomputable section
namespace Go.Proofs.Ytomgebmimgaojaa.QO
open Go.RowKit Go.Shelf Go.Proofs.YtomgebmimgaojaaW.PrintWords Go.Proofs.YtomgebmimgaojaaW.PrintLast Go.Proofs.YtomgebmimgaojaaW.PrintMore
attribute [local go_sem] Oper.semAt_some
attribute [local go_sem ↓] Go.wp_at_zero Go.wp_at_succ
set_option linter.unusedVariables false
set_option linter.unusedSimpArgs false
def leq_T : Bool × List (List Nat × List Nat) := (true, [([], []), ([0], [0]), ([], []), ([2, 1], [2]), ([], []), ([], []), ([4, 1, 3, 0, 1, 4, 5], [1, 4]), ([5, 3, 6, 0, 1, 2, 3, 4, 5, 6], [3, 5])])
def leq_B : List Nat := [0, 1, 0, 7, 0, 0, 63, 127]
theorem leq_tab : rtab .any (opsOf Try.f38 1) = leq_T := by kernel_rfl
theorem leq_bits : waitsOk leq_T.2 leq_B = true := by kernel_rfl
theorem close_shape {vars m : List Int} {e : Bool} (h : OFit vars m e) (he : (closeF vars m e).2.2 = false) : (closeF vars m e).1 = vars ∧ vars.length ≤ 8 ∧ ((closeF vars m e).2.1.length : Int) = (2 * (vars.length : Int)) * (2 * (vars.length : Int)) := by
  refine ⟨by unfold closeF; split <;> rfl, h.1.1, ?_⟩
  unfold closeF at he ⊢
  split
  · rename_i h1; rw [if_pos h1] at he; cases he
  · rename_i h1
    rw [if_neg h1] at he
    have hb : closeB (2 * vars.length) (lowM vars.length m) = true := by simpa using he
    show ((closeL _ _).length : Int) = _
    unfold closeL; rw [if_pos hb, lst_length]; push_cast; rfl
/-- is each entry at most the other one? -/
def leqL (n2 : Nat) (m1 m2 : List Int) : Bool := (List.range (n2 * n2)).all fun k => decide ((pairAt n2 m1 m2 k).2.1 ≤ (pairAt n2 m1 m2 k).2.2)
/-- what Leq answers to sound octagons over the same scalars -/
def leqF (vars m1 : List Int) (e1 : Bool) (m2 : List Int) (e2 : Bool) : Bool := if (closeF vars m1 e1).2.2 = true ∨ (closeF vars m2 e2).2.2 = true then (closeF vars m1 e1).2.2 else leqL (2 * vars.length) (closeF vars m1 e1).2.1 (closeF vars m2 e2).2.1
set_option maxHeartbeats 16000000 in
set_option maxRecDepth 100000 in
theorem oct_Leq_any (A0 : Option Addr) (c0 : Nat) (vars : List Int) (A1 : Option Addr) (c1 : Nat) (m1 : List Int) (e1 : Bool) (A2 : Option Addr) (c2 : Nat) (vars2 : List Int) (A3 : Option Addr) (c3 : Nat) (m2 : List Int) (e2 : Bool) (w : World)
    (hr0 : Kd.C (Kd.int .i64) w A0 vars.length vars) (hc0 : vars.length ≤ c0) (hr1 : Kd.C (Kd.int .i64) w A1 m1.length m1) (hc1 : m1.length ≤ c1)
    (hr2 : Kd.C (Kd.int .i64) w A2 vars2.length vars2) (hc2 : vars2.length ≤ c2) (hr3 : Kd.C (Kd.int .i64) w A3 m2.length m2) (hc3 : m2.length ≤ c3)
    (hf1 : OFit vars m1 e1) (hf2 : OFit vars2 m2 e2) (hvv : vars2 = vars) : Calls Try.prog 38 #[.agg #[.slice A0 vars.length c0, .slice A1 m1.length c1, .bool e1], .agg #[.slice A2 vars2.length c2, .slice A3 m2.length c3, .bool e2]] w fun e w' => e = .returned (.bool (leqF vars m1 e1 m2 e2)) ∧ Below w.heap.size w w' := by
  obtain ⟨ans, hans⟩ : ∃ a, leqF vars m1 e1 m2 e2 = a := ⟨_, rfl⟩
  rw [hans]
  have HAN := Aside0.mk hans
  clear hans
  have hu25 := Try.underlying25
  have hms := meth_size
  have HF := Aside0.mk (And.intro hf1 (And.intro hf2 hvv))
  obtain ⟨C1, hC1⟩ : ∃ C, closeF vars m1 e1 = C := ⟨_, rfl⟩
  obtain ⟨C2, hC2⟩ : ∃ C, closeF vars2 m2 e2 = C := ⟨_, rfl⟩
  have HC1 := Aside0.mk hC1
  have HC2 := Aside0.mk hC2
  have CLO1 := Aside0.mk (fun (W : World) (hW : Below w.heap.size w W) => oct_Close_any A0 c0 vars A1 c1 m1 e1 W (Kd.C_below hr0 hW) hc0 (Kd.C_below hr1 hW) hc1 hf1)
  have CLO2 := Aside0.mk (fun (W : World) (hW : Below w.heap.size w W) => oct_Close_any A2 c2 vars2 A3 c3 m2 e2 W (Kd.C_below hr2 hW) hc2 (Kd.C_below hr3 hW) hc3 hf2)
  rw [hC1] at CLO1
  rw [hC2] at CLO2
  clear hr0 hr1 hr2 hr3 hc0 hc1 hc2 hc3 hf1 hf2 hvv
  refine (callsIn_wide (n := 6)).1 ?_
  refine callsIn_of_wp_marks Try.func38 rfl trivial ?_ rfl
  simp only [Try.ntmps38, List.size_toArray, List.length_cons, List.length_nil, Nat.reduceAdd, Nat.reduceSub, Array.replicate_succ, Array.replicate_zero, List.push_toArray, List.append_toArray, List.nil_append, List.cons_append]
  refine wpIn_wide.2 ?_
  go_wp2
  obtain ⟨W3, hW3⟩ : ∃ W3, ((w.alloc (.cells #[.slice A0 vars.length c0, .slice A1 m1.length c1, .bool e1] 25)).alloc (.cells #[.slice A2 vars2.length c2, .slice A3 m2.length c3, .bool e2] 25)).alloc (.cells #[.bool false] 4) = W3 := ⟨_, rfl⟩
  obtain ⟨ba, hba⟩ : ∃ b, w.heap.size = b := ⟨_, rfl⟩
  obtain ⟨bb, hbb⟩ : ∃ b, w.heap.size + 1 = b := ⟨_, rfl⟩
  obtain ⟨br, hbr⟩ : ∃ b, w.heap.size + 1 + 1 = b := ⟨_, rfl⟩
  obtain ⟨ro, hro⟩ : ∃ ro : Obj, Obj.cells #[.bool false] 4 (0, 0) = ro := ⟨_, rfl⟩
  have HRO := Aside0.mk hro
  have HX0 : Aside0 (PX w ba bb br #[.slice A0 vars.length c0, .slice A1 m1.length c1, .bool e1] #[.slice A2 vars2.length c2, .slice A3 m2.length c3, .bool e2] ro undef undef undef undef C1.1 C1.2.1 C2.1 C2.2.1 0 0 0 false false false false W3.drew) := ⟨by
    rw [← hW3, ← hba, ← hbb, ← hbr, ← hro]
    refine ⟨below_drew (below_alloc (below_alloc (below_alloc (Below.refl _ _) _) _) _), blk_drew (blk_alloc (blk_alloc (blk_new _ _) _) _), blk_drew (blk_alloc ?_ _), blk_drew ?_, fun e => (by cases e), fun e => (by cases e), fun e => (by cases e), fun e => (by cases e), fun e => (by cases e)⟩
    · have h := blk_new (w.alloc (.cells #[.slice A0 vars.length c0, .slice A1 m1.length c1, .bool e1] 25)) (.cells #[.slice A2 vars2.length c2, .slice A3 m2.length c3, .bool e2] 25); simpa using h
    · have h := blk_new ((w.alloc (.cells #[.slice A0 vars.length c0, .slice A1 m1.length c1, .bool e1] 25)).alloc (.cells #[.slice A2 vars2.length c2, .slice A3 m2.length c3, .bool e2] 25)) (.cells #[.bool false] 4); simpa using h⟩
  have HBR : Aside0 (w.heap.size ≤ br) := ⟨by omega⟩
  rw [hW3]
  rw [hbr, hbb, hba]
  clear hW3 hbr hbb hba hC1 hC2 hro
  refine startN_ (n := 8) (S := fun w' => w'.cell? ⟨ba, 0, none⟩ = some (.slice A0 vars.length c0) ∧ w'.cell? ⟨ba, 1, none⟩ = some (.slice A1 m1.length c1) ∧ w'.cell? ⟨ba, 2, none⟩ = some (.bool e1) ∧ w'.cell? ⟨bb, 0, none⟩ = some (.slice A2 vars2.length c2) ∧ w'.cell? ⟨bb, 1, none⟩ = some (.slice A3 m2.length c3) ∧ w'.cell? ⟨bb, 2, none⟩ = some (.bool e2)) (ds := [6, 7]) (mB 8 0) (by kernel_rfl) rfl (by kernel_rfl) HX0.out.held (fun hHeld => ?_)
  refine with_tabW leq_tab leq_bits (fun HT_ HW_ => ?_)
  generalize W3.drew = Wd at HX0 hHeld ⊢
  refine tV_ 0 9 (mB 8 1) HT_ HW_ hHeld ?_
  refine tV_ 2 11 (mB 8 5) HT_ HW_ hHeld ?_
  refine join_ (σ := Value × Value × Value × Value × Nat × Nat × Nat) 2 (mB 8 63) (fun s_ => [(10, .agg #[s_.1, s_.2.1, .bool C1.2.2]), (12, .agg #[s_.2.2.1, s_.2.2.2.1, .bool C2.2.2]), (5, .pointer (some ⟨s_.2.2.2.2.1, 0, none⟩)), (6, .pointer (some ⟨s_.2.2.2.2.2.1, 0, none⟩))]) (fun s_ w' => PX w ba bb br #[.slice A0 vars.length c0, .slice A1 m1.length c1, .bool e1] #[.slice A2 vars2.length c2, .slice A3 m2.length c3, .bool e2] ro s_.1 s_.2.1 s_.2.2.1 s_.2.2.2.1 C1.1 C1.2.1 C2.1 C2.2.1 s_.2.2.2.2.1 s_.2.2.2.2.2.1 s_.2.2.2.2.2.2 true true true true w') ?_ ?_
  rotate_left
  · intro hJ
    refine three_ (i := 1) (j := 4) (k := 5) (Ni := some 10) (Nj := some 5) (Nk := some 6) (mB 8 7) (mB 8 21) (mB 8 37) rfl rfl rfl rfl rfl rfl (three_of HT_.out (by kernel_rfl)) (by decide) (by decide) (by decide) (fun K hK => ?_) (fun K hK => ?_) (fun K hK => ?_)
    ·
     refine goes_ Try.func22 (by kernel_rfl) rfl #[.agg #[.slice A0 vars.length c0, .slice A1 m1.length c1, .bool e1]] (by rfl) rfl rfl vL ?_
     with_reducible refine (CLO1.out _ HX0.out.below).mono ?_
     rintro e w1 ⟨u1_, t1_, rfl, h1, h2, hb⟩; refine ⟨_, rfl, ?_⟩
     have HX1 := Aside0.mk (PX.c1 HX0.out h1 h2 hb)
     refine hK.out _ _ HX1.out.held (fun hHeld => ?_)
     clear hK K hb h1 h2
     refine nO_ 10 ?_
     refine three_ (i := 3) (j := 4) (k := 5) (Ni := some 12) (Nj := some 5) (Nk := some 6) (mB 8 15) (mB 8 23) (mB 8 39) rfl rfl rfl rfl rfl rfl (three_of HT_.out (by kernel_rfl)) (by decide) (by decide) (by decide) (fun K hK => ?_) (fun K hK => ?_) (fun K hK => ?_)
     ·
      refine goes_ Try.func22 (by kernel_rfl) rfl #[.agg #[.slice A2 vars2.length c2, .slice A3 m2.length c3, .bool e2]] (by rfl) rfl rfl vL ?_
      with_reducible refine (CLO2.out _ HX1.out.below).mono ?_
      rintro e w2 ⟨u2_, t2_, rfl, h1, h2, hb⟩; refine ⟨_, rfl, ?_⟩
      have HX2 := Aside0.mk (PX.c3 HX1.out h1 h2 hb)
      refine hK.out _ _ HX2.out.held (fun hHeld => ?_)
      clear hK K hb h1 h2
      refine nO_ 12 ?_
      refine two_ (i := 4) (j := 5) (Ni := some 5) (Nj := some 6) (mB 8 31) (mB 8 47) rfl rfl rfl rfl (two_of HT_.out (by kernel_rfl)) (by decide) (by decide) (fun K hK => ?_) (fun K hK => ?_)
      ·
       refine box_step ?hg (N := 5) ?hd (cs := #[.slice none 0 0, .slice none 0 0, .bool false]) (t := 25) ?hr ?_; (case hd => rfl); (case hg => rfl); (case hr => first | (go_simp; done) | (go_simp; rfl))
       intro g3_ hg w3 hbox hb
       have HX3 := Aside0.mk (PX.a4 HX2.out hg hbox hb)
       refine hK.out _ _ HX3.out.held (fun hHeld => ?_)
       clear hK K hb hg hbox
       refine nO_ 5 ?_
       refine one_ (i := 5) (N := some 6) (mB 8 63) rfl rfl (one_of HT_.out (by kernel_rfl)) (by decide) (fun K hK => ?_)
       refine box_step ?hg (N := 6) ?hd (cs := #[.slice none 0 0, .slice none 0 0, .bool false]) (t := 25) ?hr ?_; (case hd => rfl); (case hg => rfl); (case hr => first | (go_simp; done) | (go_simp; rfl))
       intro g4_ hg w4 hbox hb
       have HX4 := Aside0.mk (PX.a5 HX3.out hg hbox hb)
       refine hK.out _ _ HX4.out.held (fun hHeld => ?_)
       clear hK K hb hg hbox
       refine nO_ 6 ?_
       exact nP_ (hJ (u1_, t1_, u2_, t2_, g3_, g4_, w1.heap.size) _ HX4.out)
      ·
       refine box_step ?hg (N := 6) ?hd (cs := #[.slice none 0 0, .slice none 0 0, .bool false]) (t := 25) ?hr ?_; (case hd => rfl); (case hg => rfl); (case hr => first | (go_simp; done) | (go_simp; rfl))
       intro g5_ hg w5 hbox hb
       have HX5 := Aside0.mk (PX.a5 HX2.out hg hbox hb)
       refine hK.out _ _ HX5.out.held (fun hHeld => ?_)
       clear hK K hb hg hbox
       refine nO_ 6 ?_
       refine one_ (i := 4) (N := some 5) (mB 8 63) rfl rfl (one_of HT_.out (by kernel_rfl)) (by decide) (fun K hK => ?_)
       refine box_step ?hg (N := 5) ?hd (cs := #[.slice none 0 0, .slice none 0 0, .bool false]) (t := 25) ?hr ?_; (case hd => rfl); (case hg => rfl); (case hr => first | (go_simp; done) | (go_simp; rfl))
       intro g6_ hg w6 hbox hb
       have HX6 := Aside0.mk (PX.a4 HX5.out hg hbox hb)
       refine hK.out _ _ HX6.out.held (fun hHeld => ?_)
       clear hK K hb hg hbox
       refine nO_ 5 ?_
       exact nP_ (hJ (u1_, t1_, u2_, t2_, g6_, g5_, w1.heap.size) _ HX6.out)
     ·
      refine box_step ?hg (N := 5) ?hd (cs := #[.slice none 0 0, .slice none 0 0, .bool false]) (t := 25) ?hr ?_; (case hd => rfl); (case hg => rfl); (case hr => first | (go_simp; done) | (go_simp; rfl))
      intro g7_ hg w7 hbox hb
      have HX7 := Aside0.mk (PX.a4 HX1.out hg hbox hb)
      refine hK.out _ _ HX7.out.held (fun hHeld => ?_)
      clear hK K hb hg hbox
      refine nO_ 5 ?_
      refine two_ (i := 3) (j := 5) (Ni := some 12) (Nj := some 6) (mB 8 31) (mB 8 55) rfl rfl rfl rfl (two_of HT_.out (by kernel_rfl)) (by decide) (by decide) (fun K hK => ?_) (fun K hK => ?_)
      ·
       refine goes_ Try.func22 (by kernel_rfl) rfl #[.agg #[.slice A2 vars2.length c2, .slice A3 m2.length c3, .bool e2]] (by rfl) rfl rfl vL ?_
       with_reducible refine (CLO2.out _ HX7.out.below).mono ?_
       rintro e w8 ⟨u8_, t8_, rfl, h1, h2, hb⟩; refine ⟨_, rfl, ?_⟩
       have HX8 := Aside0.mk (PX.c3 HX7.out h1 h2 hb)
       refine hK.out _ _ HX8.out.held (fun hHeld => ?_)
       clear hK K hb h1 h2
       refine nO_ 12 ?_
       refine one_ (i := 5) (N := some 6) (mB 8 63) rfl rfl (one_of HT_.out (by kernel_rfl)) (by decide) (fun K hK => ?_)
       refine box_step ?hg (N := 6) ?hd (cs := #[.slice none 0 0, .slice none 0 0, .bool false]) (t := 25) ?hr ?_; (case hd => rfl); (case hg => rfl); (case hr => first | (go_simp; done) | (go_simp; rfl))
       intro g9_ hg w9 hbox hb
       have HX9 := Aside0.mk (PX.a5 HX8.out hg hbox hb)
       refine hK.out _ _ HX9.out.held (fun hHeld => ?_)
       clear hK K hb hg hbox
       refine nO_ 6 ?_
       exact nP_ (hJ (u1_, t1_, u8_, t8_, g7_, g9_, w1.heap.size) _ HX9.out)
      ·
       refine box_step ?hg (N := 6) ?hd (cs := #[.slice none 0 0, .slice none 0 0, .bool false]) (t := 25) ?hr ?_; (case hd => rfl); (case hg => rfl); (case hr => first | (go_simp; done) | (go_simp; rfl))
       intro g10_ hg w10 hbox hb
       have HX10 := Aside0.mk (PX.a5 HX7.out hg hbox hb)
       refine hK.out _ _ HX10.out.held (fun hHeld => ?_)
       clear hK K hb hg hbox
       refine nO_ 6 ?_
       refine one_ (i := 3) (N := some 12) (mB 8 63) rfl rfl (one_of HT_.out (by kernel_rfl)) (by decide) (fun K hK => ?_)
       refine goes_ Try.func22 (by kernel_rfl) rfl #[.agg #[.slice A2 vars2.length c2, .slice A3 m2.length c3, .bool e2]] (by rfl) rfl rfl vL ?_
       with_reducible refine (CLO2.out _ HX10.out.below).mono ?_
       rintro e w11 ⟨u11_, t11_, rfl, h1, h2, hb⟩; refine ⟨_, rfl, ?_⟩
       have HX11 := Aside0.mk (PX.c3 HX10.out h1 h2 hb)
       refine hK.out _ _ HX11.out.held (fun hHeld => ?_)
       clear hK K hb h1 h2
       refine nO_ 12 ?_
       exact nP_ (hJ (u1_, t1_, u11_, t11_, g7_, g10_, w1.heap.size) _ HX11.out)
     ·
      refine box_step ?hg (N := 6) ?hd (cs := #[.slice none 0 0, .slice none 0 0, .bool false]) (t := 25) ?hr ?_; (case hd => rfl); (case hg => rfl); (case hr => first | (go_simp; done) | (go_simp; rfl))
      intro g12_ hg w12 hbox hb
      have HX12 := Aside0.mk (PX.a5 HX1.out hg hbox hb)
      refine hK.out _ _ HX12.out.held (fun hHeld => ?_)
      clear hK K hb hg hbox
      refine nO_ 6 ?_
      refine two_ (i := 3) (j := 4) (Ni := some 12) (Nj := some 5) (mB 8 47) (mB 8 55) rfl rfl rfl rfl (two_of HT_.out (by kernel_rfl)) (by decide) (by decide) (fun K hK => ?_) (fun K hK => ?_)
      ·
       refine goes_ Try.func22 (by kernel_rfl) rfl #[.agg #[.slice A2 vars2.length c2, .slice A3 m2.length c3, .bool e2]] (by rfl) rfl rfl vL ?_
       with_reducible refine (CLO2.out _ HX12.out.below).mono ?_
       rintro e w13 ⟨u13_, t13_, rfl, h1, h2, hb⟩; refine ⟨_, rfl, ?_⟩
       have HX13 := Aside0.mk (PX.c3 HX12.out h1 h2 hb)
       refine hK.out _ _ HX13.out.held (fun hHeld => ?_)
       clear hK K hb h1 h2
       refine nO_ 12 ?_
       refine one_ (i := 4) (N := some 5) (mB 8 63) rfl rfl (one_of HT_.out (by kernel_rfl)) (by decide) (fun K hK => ?_)
       refine box_step ?hg (N := 5) ?hd (cs := #[.slice none 0 0, .slice none 0 0, .bool false]) (t := 25) ?hr ?_; (case hd => rfl); (case hg => rfl); (case hr => first | (go_simp; done) | (go_simp; rfl))
       intro g14_ hg w14 hbox hb
       have HX14 := Aside0.mk (PX.a4 HX13.out hg hbox hb)
       refine hK.out _ _ HX14.out.held (fun hHeld => ?_)
       clear hK K hb hg hbox
       refine nO_ 5 ?_
       exact nP_ (hJ (u1_, t1_, u13_, t13_, g14_, g12_, w1.heap.size) _ HX14.out)
      ·
       refine box_step ?hg (N := 5) ?hd (cs := #[.slice none 0 0, .slice none 0 0, .bool false]) (t := 25) ?hr ?_; (case hd => rfl); (case hg => rfl); (case hr => first | (go_simp; done) | (go_simp; rfl))
       intro g15_ hg w15 hbox hb
       have HX15 := Aside0.mk (PX.a4 HX12.out hg hbox hb)
       refine hK.out _ _ HX15.out.held (fun hHeld => ?_)
       clear hK K hb hg hbox
       refine nO_ 5 ?_
       refine one_ (i := 3) (N := some 12) (mB 8 63) rfl rfl (one_of HT_.out (by kernel_rfl)) (by decide) (fun K hK => ?_)
       refine goes_ Try.func22 (by kernel_rfl) rfl #[.agg #[.slice A2 vars2.length c2, .slice A3 m2.length c3, .bool e2]] (by rfl) rfl rfl vL ?_
       with_reducible refine (CLO2.out _ HX15.out.below).mono ?_
       rintro e w16 ⟨u16_, t16_, rfl, h1, h2, hb⟩; refine ⟨_, rfl, ?_⟩
       have HX16 := Aside0.mk (PX.c3 HX15.out h1 h2 hb)
       refine hK.out _ _ HX16.out.held (fun hHeld => ?_)
       clear hK K hb h1 h2
       refine nO_ 12 ?_
       exact nP_ (hJ (u1_, t1_, u16_, t16_, g15_, g12_, w1.heap.size) _ HX16.out)
    ·
     refine box_step ?hg (N := 5) ?hd (cs := #[.slice none 0 0, .slice none 0 0, .bool false]) (t := 25) ?hr ?_; (case hd => rfl); (case hg => rfl); (case hr => first | (go_simp; done) | (go_simp; rfl))
     intro g17_ hg w17 hbox hb
     have HX17 := Aside0.mk (PX.a4 HX0.out hg hbox hb)
     refine hK.out _ _ HX17.out.held (fun hHeld => ?_)
     clear hK K hb hg hbox
     refine nO_ 5 ?_
     refine two_ (i := 1) (j := 5) (Ni := some 10) (Nj := some 6) (mB 8 23) (mB 8 53) rfl rfl rfl rfl (two_of HT_.out (by kernel_rfl)) (by decide) (by decide) (fun K hK => ?_) (fun K hK => ?_)
     ·
      refine goes_ Try.func22 (by kernel_rfl) rfl #[.agg #[.slice A0 vars.length c0, .slice A1 m1.length c1, .bool e1]] (by rfl) rfl rfl vL ?_
      with_reducible refine (CLO1.out _ HX17.out.below).mono ?_
      rintro e w18 ⟨u18_, t18_, rfl, h1, h2, hb⟩; refine ⟨_, rfl, ?_⟩
      have HX18 := Aside0.mk (PX.c1 HX17.out h1 h2 hb)
      refine hK.out _ _ HX18.out.held (fun hHeld => ?_)
      clear hK K hb h1 h2
      refine nO_ 10 ?_
      refine two_ (i := 3) (j := 5) (Ni := some 12) (Nj := some 6) (mB 8 31) (mB 8 55) rfl rfl rfl rfl (two_of HT_.out (by kernel_rfl)) (by decide) (by decide) (fun K hK => ?_) (fun K hK => ?_)
      ·
       refine goes_ Try.func22 (by kernel_rfl) rfl #[.agg #[.slice A2 vars2.length c2, .slice A3 m2.length c3, .bool e2]] (by rfl) rfl rfl vL ?_
       with_reducible refine (CLO2.out _ HX18.out.below).mono ?_
       rintro e w19 ⟨u19_, t19_, rfl, h1, h2, hb⟩; refine ⟨_, rfl, ?_⟩
       have HX19 := Aside0.mk (PX.c3 HX18.out h1 h2 hb)
       refine hK.out _ _ HX19.out.held (fun hHeld => ?_)
       clear hK K hb h1 h2
       refine nO_ 12 ?_
       refine one_ (i := 5) (N := some 6) (mB 8 63) rfl rfl (one_of HT_.out (by kernel_rfl)) (by decide) (fun K hK => ?_)
       refine box_step ?hg (N := 6) ?hd (cs := #[.slice none 0 0, .slice none 0 0, .bool false]) (t := 25) ?hr ?_; (case hd => rfl); (case hg => rfl); (case hr => first | (go_simp; done) | (go_simp; rfl))
       intro g20_ hg w20 hbox hb
       have HX20 := Aside0.mk (PX.a5 HX19.out hg hbox hb)
       refine hK.out _ _ HX20.out.held (fun hHeld => ?_)
       clear hK K hb hg hbox
       refine nO_ 6 ?_
       exact nP_ (hJ (u18_, t18_, u19_, t19_, g17_, g20_, w18.heap.size) _ HX20.out)
      ·
       refine box_step ?hg (N := 6) ?hd (cs := #[.slice none 0 0, .slice none 0 0, .bool false]) (t := 25) ?hr ?_; (case hd => rfl); (case hg => rfl); (case hr => first | (go_simp; done) | (go_simp; rfl))
       intro g21_ hg w21 hbox hb
       have HX21 := Aside0.mk (PX.a5 HX18.out hg hbox hb)
       refine hK.out _ _ HX21.out.held (fun hHeld => ?_)
       clear hK K hb hg hbox
       refine nO_ 6 ?_
       refine one_ (i := 3) (N := some 12) (mB 8 63) rfl rfl (one_of HT_.out (by kernel_rfl)) (by decide) (fun K hK => ?_)
       refine goes_ Try.func22 (by kernel_rfl) rfl #[.agg #[.slice A2 vars2.length c2, .slice A3 m2.length c3, .bool e2]] (by rfl) rfl rfl vL ?_
       with_reducible refine (CLO2.out _ HX21.out.below).mono ?_
       rintro e w22 ⟨u22_, t22_, rfl, h1, h2, hb⟩; refine ⟨_, rfl, ?_⟩
       have HX22 := Aside0.mk (PX.c3 HX21.out h1 h2 hb)
       refine hK.out _ _ HX22.out.held (fun hHeld => ?_)
       clear hK K hb h1 h2
       refine nO_ 12 ?_
       exact nP_ (hJ (u18_, t18_, u22_, t22_, g17_, g21_, w18.heap.size) _ HX22.out)
     ·
      refine box_step ?hg (N := 6) ?hd (cs := #[.slice none 0 0, .slice none 0 0, .bool false]) (t := 25) ?hr ?_; (case hd => rfl); (case hg => rfl); (case hr => first | (go_simp; done) | (go_simp; rfl))
      intro g23_ hg w23 hbox hb
      have HX23 := Aside0.mk (PX.a5 HX17.out hg hbox hb)
      refine hK.out _ _ HX23.out.held (fun hHeld => ?_)
      clear hK K hb hg hbox
      refine nO_ 6 ?_
      refine one_ (i := 1) (N := some 10) (mB 8 55) rfl rfl (one_of HT_.out (by kernel_rfl)) (by decide) (fun K hK => ?_)
      refine goes_ Try.func22 (by kernel_rfl) rfl #[.agg #[.slice A0 vars.length c0, .slice A1 m1.length c1, .bool e1]] (by rfl) rfl rfl vL ?_
      with_reducible refine (CLO1.out _ HX23.out.below).mono ?_
      rintro e w24 ⟨u24_, t24_, rfl, h1, h2, hb⟩; refine ⟨_, rfl, ?_⟩
      have HX24 := Aside0.mk (PX.c1 HX23.out h1 h2 hb)
      refine hK.out _ _ HX24.out.held (fun hHeld => ?_)
      clear hK K hb h1 h2
      refine nO_ 10 ?_
      refine one_ (i := 3) (N := some 12) (mB 8 63) rfl rfl (one_of HT_.out (by kernel_rfl)) (by decide) (fun K hK => ?_)
      refine goes_ Try.func22 (by kernel_rfl) rfl #[.agg #[.slice A2 vars2.length c2, .slice A3 m2.length c3, .bool e2]] (by rfl) rfl rfl vL ?_
      with_reducible refine (CLO2.out _ HX24.out.below).mono ?_
      rintro e w25 ⟨u25_, t25_, rfl, h1, h2, hb⟩; refine ⟨_, rfl, ?_⟩
      have HX25 := Aside0.mk (PX.c3 HX24.out h1 h2 hb)
      refine hK.out _ _ HX25.out.held (fun hHeld => ?_)
      clear hK K hb h1 h2
      refine nO_ 12 ?_
      exact nP_ (hJ (u24_, t24_, u25_, t25_, g17_, g23_, w24.heap.size) _ HX25.out)
    ·
     refine box_step ?hg (N := 6) ?hd (cs := #[.slice none 0 0, .slice none 0 0, .bool false]) (t := 25) ?hr ?_; (case hd => rfl); (case hg => rfl); (case hr => first | (go_simp; done) | (go_simp; rfl))
     intro g26_ hg w26 hbox hb
     have HX26 := Aside0.mk (PX.a5 HX0.out hg hbox hb)
     refine hK.out _ _ HX26.out.held (fun hHeld => ?_)
     clear hK K hb hg hbox
     refine nO_ 6 ?_
     refine two_ (i := 1) (j := 4) (Ni := some 10) (Nj := some 5) (mB 8 39) (mB 8 53) rfl rfl rfl rfl (two_of HT_.out (by kernel_rfl)) (by decide) (by decide) (fun K hK => ?_) (fun K hK => ?_)
     ·
      refine goes_ Try.func22 (by kernel_rfl) rfl #[.agg #[.slice A0 vars.length c0, .slice A1 m1.length c1, .bool e1]] (by rfl) rfl rfl vL ?_
      with_reducible refine (CLO1.out _ HX26.out.below).mono ?_
      rintro e w27 ⟨u27_, t27_, rfl, h1, h2, hb⟩; refine ⟨_, rfl, ?_⟩
      have HX27 := Aside0.mk (PX.c1 HX26.out h1 h2 hb)
      refine hK.out _ _ HX27.out.held (fun hHeld => ?_)
      clear hK K hb h1 h2
      refine nO_ 10 ?_
      refine two_ (i := 3) (j := 4) (Ni := some 12) (Nj := some 5) (mB 8 47) (mB 8 55) rfl rfl rfl rfl (two_of HT_.out (by kernel_rfl)) (by decide) (by decide) (fun K hK => ?_) (fun K hK => ?_)
      ·
       refine goes_ Try.func22 (by kernel_rfl) rfl #[.agg #[.slice A2 vars2.length c2, .slice A3 m2.length c3, .bool e2]] (by rfl) rfl rfl vL ?_
       with_reducible refine (CLO2.out _ HX27.out.below).mono ?_
       rintro e w28 ⟨u28_, t28_, rfl, h1, h2, hb⟩; refine ⟨_, rfl, ?_⟩
       have HX28 := Aside0.mk (PX.c3 HX27.out h1 h2 hb)
       refine hK.out _ _ HX28.out.held (fun hHeld => ?_)
       clear hK K hb h1 h2
       refine nO_ 12 ?_
       refine one_ (i := 4) (N := some 5) (mB 8 63) rfl rfl (one_of HT_.out (by kernel_rfl)) (by decide) (fun K hK => ?_)
       refine box_step ?hg (N := 5) ?hd (cs := #[.slice none 0 0, .slice none 0 0, .bool false]) (t := 25) ?hr ?_; (case hd => rfl); (case hg => rfl); (case hr => first | (go_simp; done) | (go_simp; rfl))
       intro g29_ hg w29 hbox hb
       have HX29 := Aside0.mk (PX.a4 HX28.out hg hbox hb)
       refine hK.out _ _ HX29.out.held (fun hHeld => ?_)
       clear hK K hb hg hbox
       refine nO_ 5 ?_
       exact nP_ (hJ (u27_, t27_, u28_, t28_, g29_, g26_, w27.heap.size) _ HX29.out)
      ·
       refine box_step ?hg (N := 5) ?hd (cs := #[.slice none 0 0, .slice none 0 0, .bool false]) (t := 25) ?hr ?_; (case hd => rfl); (case hg => rfl); (case hr => first | (go_simp; done) | (go_simp; rfl))
       intro g30_ hg w30 hbox hb
       have HX30 := Aside0.mk (PX.a4 HX27.out hg hbox hb)
       refine hK.out _ _ HX30.out.held (fun hHeld => ?_)
       clear hK K hb hg hbox
       refine nO_ 5 ?_
       refine one_ (i := 3) (N := some 12) (mB 8 63) rfl rfl (one_of HT_.out (by kernel_rfl)) (by decide) (fun K hK => ?_)
       refine goes_ Try.func22 (by kernel_rfl) rfl #[.agg #[.slice A2 vars2.length c2, .slice A3 m2.length c3, .bool e2]] (by rfl) rfl rfl vL ?_
       with_reducible refine (CLO2.out _ HX30.out.below).mono ?_
       rintro e w31 ⟨u31_, t31_, rfl, h1, h2, hb⟩; refine ⟨_, rfl, ?_⟩
       have HX31 := Aside0.mk (PX.c3 HX30.out h1 h2 hb)
       refine hK.out _ _ HX31.out.held (fun hHeld => ?_)
       clear hK K hb h1 h2
       refine nO_ 12 ?_
       exact nP_ (hJ (u27_, t27_, u31_, t31_, g30_, g26_, w27.heap.size) _ HX31.out)
     ·
      refine box_step ?hg (N := 5) ?hd (cs := #[.slice none 0 0, .slice none 0 0, .bool false]) (t := 25) ?hr ?_; (case hd => rfl); (case hg => rfl); (case hr => first | (go_simp; done) | (go_simp; rfl))
      intro g32_ hg w32 hbox hb
      have HX32 := Aside0.mk (PX.a4 HX26.out hg hbox hb)
      refine hK.out _ _ HX32.out.held (fun hHeld => ?_)
      clear hK K hb hg hbox
      refine nO_ 5 ?_
      refine one_ (i := 1) (N := some 10) (mB 8 55) rfl rfl (one_of HT_.out (by kernel_rfl)) (by decide) (fun K hK => ?_)
      refine goes_ Try.func22 (by kernel_rfl) rfl #[.agg #[.slice A0 vars.length c0, .slice A1 m1.length c1, .bool e1]] (by rfl) rfl rfl vL ?_
      with_reducible refine (CLO1.out _ HX32.out.below).mono ?_
      rintro e w33 ⟨u33_, t33_, rfl, h1, h2, hb⟩; refine ⟨_, rfl, ?_⟩
      have HX33 := Aside0.mk (PX.c1 HX32.out h1 h2 hb)
      refine hK.out _ _ HX33.out.held (fun hHeld => ?_)
      clear hK K hb h1 h2
      refine nO_ 10 ?_
      refine one_ (i := 3) (N := some 12) (mB 8 63) rfl rfl (one_of HT_.out (by kernel_rfl)) (by decide) (fun K hK => ?_)
      refine goes_ Try.func22 (by kernel_rfl) rfl #[.agg #[.slice A2 vars2.length c2, .slice A3 m2.length c3, .bool e2]] (by rfl) rfl rfl vL ?_
      with_reducible refine (CLO2.out _ HX33.out.below).mono ?_
      rintro e w34 ⟨u34_, t34_, rfl, h1, h2, hb⟩; refine ⟨_, rfl, ?_⟩
      have HX34 := Aside0.mk (PX.c3 HX33.out h1 h2 hb)
      refine hK.out _ _ HX34.out.held (fun hHeld => ?_)
      clear hK K hb h1 h2
      refine nO_ 12 ?_
      exact nP_ (hJ (u33_, t33_, u34_, t34_, g32_, g26_, w33.heap.size) _ HX34.out)
  rintro ⟨v1, v2, v3, v4, b5, b6, s⟩ W4 HX4
  dsimp only at HX4
  obtain ⟨P1, p1, q1⟩ := Kd.R_slice (HX4.r1 rfl).1
  obtain ⟨P2, p2, q2⟩ := Kd.R_slice (HX4.r1 rfl).2.1
  obtain ⟨P3, p3, q3⟩ := Kd.R_slice (HX4.r3 rfl).1
  obtain ⟨P4, p4, q4⟩ := Kd.R_slice (HX4.r3 rfl).2
  subst q1 q2 q3 q4
  have HX5 := Aside0.mk HX4
  obtain ⟨k5, _⟩ := HX4.x5 rfl
  obtain ⟨k6, _⟩ := HX4.x6 rfl
  have kne := HX4.ne rfl rfl
  have kne' := fun e => kne (Eq.symm e)
  have k50 := blk_cell k5 0
  have k51 := blk_cell k5 1
  have k52 := blk_cell k5 2
  have k60 := blk_cell k6 0
  have k61 := blk_cell k6 1
  have k62 := blk_cell k6 2
  have f50 := blk_frozen k5 0
  have f51 := blk_frozen k5 1
  have f52 := blk_frozen k5 2
  have f60 := blk_frozen k6 0
  have f61 := blk_frozen k6 1
  have f62 := blk_frozen k6 2
  clear HX4 k5 k6 hHeld HX0
  dsimp only at *
  refine nS_ ?_
  refine last_ (i := 6) (N := none) (mB 8 127) rfl rfl (one_of HT_.out (by kernel_rfl)) (by decide) (fun K hK => ?_)
  refine skip_ (w1 := ?_) (by rfl) rfl ?_ ?_
  rotate_left
  · go_simp
    rfl
  refine hK.out _ _ ?_
  clear hK K
  refine last_ (i := 7) (N := none) (mB 8 255) rfl rfl (one_of HT_.out (by kernel_rfl)) (by decide) (fun K hK => ?_)
  refine skip_ (w1 := ?_) (by rfl) rfl ?_ ?_
  rotate_left
  · go_simp
    rfl
  refine hK.out _ _ ?_
  clear hK K
  refine done_ (done_of HT_.out (by kernel_rfl)) ?_
  clear k50 k51 k52 k60 k61 k62 f50 f51 f52 f60 f61 f62 kne kne' HT_ HW_
  unfold OnlyN
  have HZ := Aside0.mk (PX.stored HX5.out C1.2.2 C2.2.2)
  generalize ((((((W4.setCell ⟨b5, 0, none⟩ (.slice P1 C1.1.length p1)).setCell ⟨b5, 1, none⟩ (.slice P2 C1.2.1.length p2)).setCell ⟨b5, 2, none⟩ (.bool C1.2.2)).setCell ⟨b6, 0, none⟩ (.slice P3 C2.1.length p3)).setCell ⟨b6, 1, none⟩ (.slice P4 C2.2.1.length p4)).setCell ⟨b6, 2, none⟩ (.bool C2.2.2)) = W5 at HZ ⊢
  clear HX5
  obtain ⟨t1, M1, x1⟩ := C1
  obtain ⟨t2, M2, x2⟩ := C2
  dsimp only at HZ ⊢
  have hx0 := blk_cell HZ.out.x 0
  have hx1 := blk_cell HZ.out.x 1
  have hx2 := blk_cell HZ.out.x 2
  have hy0 := blk_cell HZ.out.y 0
  have hy1 := blk_cell HZ.out.y 1
  have hy2 := blk_cell HZ.out.y 2
  have hrr := HZ.out.r
  rw [← HRO.out] at hrr
  have hr0 := blk_cell hrr 0
  have hr1 := blk_frozen hrr 0
  have HANS : Aside0 (ans = if x1 = true ∨ x2 = true then x1 else leqL (2 * vars.length) M1 M2) := ⟨by
    have h3 := HF.out.2.2
    have h1 := HC1.out; have h2 := HC2.out
    subst h3
    rw [← HAN.out]
    unfold leqF; rw [h1, h2]⟩
  have RES : ∀ (tm : Array Value) (W : World) (b : Bool), tm.getD 4 undef = .pointer (some ⟨br, 0, none⟩) → W.heap[br]? = some (.cells #[.bool b] 4 (0, 0)) → (results Try.f38 tm).run Try.prog W = .ok (.bool b) W := fun tm W b h1 h2 => by
    have h3 := blk_cell h2 0
    have h1' : tm[4]?.getD undef = .pointer (some ⟨br, 0, none⟩) := by simpa using h1
    have h4 := Try.underlying4
    simp [results, Try.f38, h1', asAddr, go_sem, h3, h4]
  have FIN : ∀ (W : World) (b : Bool), W.heap[br]? = some (.cells #[.bool false] 4 (0, 0)) → (W.setCell ⟨br, 0, none⟩ (.bool b)).heap[br]? = some (.cells #[.bool b] 4 (0, 0)) := fun W b h => blk_put h 0 _ rfl
  cases x1 with
  | true =>
    go_wp2
    exact ⟨_, RES _ _ true rfl (FIN _ _ hrr), by have h := HANS.out; rw [if_pos (by simp)] at h; rw [h], below_set HZ.out.below HBR.out⟩
  | false =>
    cases x2 with
    | true =>
      go_wp2
      exact ⟨_, RES _ _ false rfl (FIN _ _ hrr), by have h := HANS.out; rw [if_pos (by simp)] at h; rw [h], below_set HZ.out.below HBR.out⟩
    | false =>
      have HAN2 : Aside0 (ans = leqL (2 * vars.length) M1 M2) := ⟨by have h := HANS.out; rw [if_neg (by rintro (h | h) <;> cases h)] at h; exact h⟩
      have HSH := Aside0.mk (And.intro (close_shape HF.out.1 (HC1.out ▸ rfl)) (close_shape HF.out.2.1 (HC2.out ▸ rfl)))
      rw [HC1.out, HC2.out] at HSH
      dsimp only at HSH
      have hvv := HF.out.2.2
      have HT : Aside0 (t1.length = vars.length ∧ t2.length = vars.length ∧ vars.length ≤ 8 ∧ (M1.length : Int) = (2 * (vars.length : Int)) * (2 * (vars.length : Int)) ∧ (M2.length : Int) = (2 * (vars.length : Int)) * (2 * (vars.length : Int))) := ⟨by
        have h := HSH.out
        rw [hvv] at h
        exact ⟨by rw [h.1.1], by rw [h.2.1], h.1.2.1, h.1.2.2, h.2.2.2⟩⟩
      clear hvv HSH HANS
      obtain ⟨n2, hn2⟩ : ∃ n2, n2 = 2 * vars.length := ⟨_, rfl⟩
      have HN2 := Aside0.mk hn2
      obtain ⟨NN, hNN⟩ : ∃ NN, n2 * n2 = NN := ⟨_, rfl⟩
      have HNN := Aside0.mk hNN
      have hl1 := HT.out.1
      have hl2 := HT.out.2.1
      have HOB := Aside0.mk (oct_both_in (2 * (vars.length : Int)) (2 * (vars.length : Int)) P2 P4 M1.length p2 M2.length p4)
      rw [hl1] at hx0 HZ
      rw [hl2] at hy0 HZ
      rw [hl1, hl2]
      have HZD := Aside0.mk (HZ.out.next (below_drew (Below.refl _ _)))
      clear hn2 hNN hl1 hl2 hrr hr0 hr1
      go_wp2
      go_region_held3 (fun w' => (w'.cell? ⟨b5, 0, none⟩ = some (.slice P1 vars.length p1) ∧ w'.cell? ⟨b5, 1, none⟩ = some (.slice P2 M1.length p2) ∧ w'.cell? ⟨b5, 2, none⟩ = some (.bool false)) ∧ w'.cell? ⟨b6, 0, none⟩ = some (.slice P3 vars.length p3) ∧ w'.cell? ⟨b6, 1, none⟩ = some (.slice P4 M2.length p4) ∧ w'.cell? ⟨b6, 2, none⟩ = some (.bool false)) (first | go_keep | exact KX)
        (first
         | (go_at_call 55; (with_reducible refine (oct_of_any _ _ _ _ _ _ _ _ (Nat.le_trans HT.out.2.2.1 (by decide))).mono ?_); rintro e w1 ⟨rfl, hb⟩; (first | (have HY2 := Aside0.mk (HY1.out.next hb); clear HY1) | have HY1 := Aside0.mk (HZD.out.next hb)); clear hb; (first | have KX := And.intro (And.intro (blk_cell HY2.out.x 0) (And.intro (blk_cell HY2.out.x 1) (blk_cell HY2.out.x 2))) (And.intro (blk_cell HY2.out.y 0) (And.intro (blk_cell HY2.out.y 1) (blk_cell HY2.out.y 2))) | have KX := And.intro (And.intro (blk_cell HY1.out.x 0) (And.intro (blk_cell HY1.out.x 1) (blk_cell HY1.out.x 2))) (And.intro (blk_cell HY1.out.y 0) (And.intro (blk_cell HY1.out.y 1) (blk_cell HY1.out.y 2)))))
         | (go_at_call 73; (with_reducible refine (callsIn_wide.1 (HOB.out _)).mono ?_); rintro e w' ⟨rfl, rfl⟩))
      go_wp2_with fail
      obtain ⟨s0, hs⟩ : ∃ s0, w1.heap.size = s0 := ⟨_, rfl⟩
      rw [hs]
      obtain ⟨W0, hW0⟩ : ∃ W0, ((w1.alloc (.cells #[tableV (2 * (vars.length : Int)) P2 M1.length p2] 64)).alloc (.cells #[tableV (2 * (vars.length : Int)) P4 M2.length p4] 64)) = W0 := ⟨_, rfl⟩
      rw [hW0]
      have hS0 : Aside0 (W0.heap.size = s0 + 2) := ⟨by rw [← hW0]; simp [hs]⟩
      have HSS := Aside0.mk hs
      have hB0 : Aside0 (BP w1 w1.heap.size s0 (s0 + 1) (2 * (vars.length : Int)) P2 M1.length p2 P4 M2.length p4 W0) := ⟨by
        refine ⟨by rw [← hW0]; exact below_alloc (below_alloc (Below.refl _ _) _) _, ?_, ?_⟩
        · have := (Boxed.new w1 64 (tableV (2 * (vars.length : Int)) P2 M1.length p2)).alloc (.cells #[tableV (2 * (vars.length : Int)) P4 M2.length p4] 64)
          rw [hs] at this; rw [← hW0]; exact this
        · have := Boxed.new (w1.alloc (.cells #[tableV (2 * (vars.length : Int)) P2 M1.length p2] 64)) 64 (tableV (2 * (vars.length : Int)) P4 M2.length p4)
          rw [World.size_alloc, hs] at this; rw [← hW0]; exact this⟩
      clear hW0 hs HOB hx0 hx1 hx2 hy0 hy1 hy2 KX
      have e2 := Kd.R_reads' HY2.out.r2
      have e4 := Kd.R_reads' HY2.out.r4
      have ST := oct_both_stops s0 (s0 + 1) P2 P4 p2 p4 M1 M2 vars.length n2 w1 W0 HT.out.2.2.1 HN2.out HT.out.2.2.2.1 HT.out.2.2.2.2 e2.2.1 e4.2.1 e2.2.2 e4.2.2 hB0.out
      rw [HNN.out] at ST
      clear e2 e4
      obtain ⟨fa, hfa⟩ : ∃ f : Nat → Int, (fun k => (pairAt n2 M1 M2 k).2.1) = f := ⟨_, rfl⟩
      obtain ⟨fb, hfb⟩ : ∃ f : Nat → Int, (fun k => (pairAt n2 M1 M2 k).2.2) = f := ⟨_, rfl⟩
      have HFV : Aside0 (∀ k, (pairAt n2 M1 M2 k).2.1 = fa k ∧ (pairAt n2 M1 M2 k).2.2 = fb k) := ⟨fun k => ⟨congrFun hfa k, congrFun hfb k⟩⟩
      clear hfa hfb
      refine (wpIn_wide (n := 6)).1 ?_
      refine wpIn_rangeFunc_ownH rfl (by omega) (gf := 91) (lb := #[.pointer (some ⟨s0, 0, none⟩), .pointer (some ⟨s0 + 1, 0, none⟩)]) rfl trivial (enters_of Try.func91 (by kernel_rfl) rfl)
        ST KeepBoxes.trans (keepBoxes_b (w := W0) (by have := hB0.out.below.size; omega) (by have := hS0.out; omega) (by have := hS0.out; omega)) (Below.refl _ _) (fun _ => rfl)
        (fun pre W => BP w1 w1.heap.size s0 (s0 + 1) (2 * (vars.length : Int)) P2 M1.length p2 P4 M2.length p4 W ∧ ∀ x ∈ pre, fa x.1 ≤ fb x.1)
        (fun c _ W => c = .ret ∧ (W.heap[br]? = some (.cells #[.bool false] 4 (0, 0)) ∧ Below w.heap.size w W) ∧ ∃ x : Fin NN, ¬ fa x.1 ≤ fb x.1)
        (fun pre X Y row hs' hg hr' => ⟨⟨hs'.1.below.grown hg hs'.1.below.size (fun k e => by have := (hr' k e).1; have := hS0.out; have := HSS.out; omega), Boxed.kept hs'.1.box1 hg (fun e => by have := (hr' _ e.symm).1; have := hS0.out; omega), Boxed.kept hs'.1.box2 hg (fun e => by have := (hr' _ e.symm).1; have := hS0.out; omega)⟩, hs'.2⟩)
        (fun c pre X Y row hs' hg hr' => ⟨hs'.1, ⟨blk_grown hs'.2.1.1 hg (fun e => by have := (hr' _ e.symm).1; have := hS0.out; have := HSS.out; have := blk_lt HY2.out.r; omega), hs'.2.1.2.grown hg hs'.2.1.2.size (fun k e => by have := (hr' k e).1; have := hS0.out; have := HSS.out; have := HY2.out.below.size; omega)⟩, hs'.2.2⟩)
        ⟨hB0.out, fun x hx => (by cases hx)⟩
        (fun x a' W => ∃ Bx, s0 + 2 ≤ Bx ∧ W.heap[Bx]? = some (.cells #[.int .i64 (pairAt n2 M1 M2 x.1).2.1, .int .i64 (pairAt n2 M1 M2 x.1).2.2] 76 (0, 0)) ∧ ∃ z, a' = { tmps := #[.agg #[.slice A0 vars.length c0, .slice A1 m1.length c1, .bool e1], .agg #[.slice A2 vars2.length c2, .slice A3 m2.length c3, .bool e2], .pointer (some ⟨ba, 0, none⟩), .pointer (some ⟨bb, 0, none⟩), .pointer (some ⟨br, 0, none⟩), .pointer (some ⟨b5, 0, none⟩), .pointer (some ⟨b6, 0, none⟩), undef, .pointer (some ⟨Bx, 0, none⟩), .agg #[.slice A0 vars.length c0, .slice A1 m1.length c1, .bool e1], .agg #[.slice P1 vars.length p1, .slice P2 M1.length p2, .bool false], .agg #[.slice A2 vars2.length c2, .slice A3 m2.length c3, .bool e2], .agg #[.slice P3 vars.length p3, .slice P4 M2.length p4, .bool false], .pointer (some ⟨b5, 2, none⟩), .bool false, .bool false, .pointer (some ⟨b6, 2, none⟩), .bool false, .bool false, undef, undef, .agg #[.slice P1 vars.length p1, .slice P2 M1.length p2, .bool false], tableV (2 * (vars.length : Int)) P2 M1.length p2, .agg #[.slice P3 vars.length p3, .slice P4 M2.length p4, .bool false], tableV (2 * (vars.length : Int)) P4 M2.length p4, .func (.func 91) #[] #[.pointer (some ⟨s0, 0, none⟩), .pointer (some ⟨s0 + 1, 0, none⟩)], z, .agg #[.int .i64 (pairAt n2 M1 M2 x.1).2.1, .int .i64 (pairAt n2 M1 M2 x.1).2.2], undef, undef, undef, undef, undef], defers := [] })
        (fun x a' _ X Y row hs' hg hr' => by obtain ⟨Bx, h1, h2, h3⟩ := hs'; exact ⟨Bx, h1, (hg.block Bx (Array.getElem?_eq_some_iff.1 h2).1 (fun e => by obtain ⟨_, o, ho, hc⟩ := hr' Bx e.symm; rw [h2] at ho; cases ho; cases hc)).trans h2, h3⟩)
        ?assign ?body ?done ?stop
      case assign =>
        rintro l pre x W K hI hK
        have hu76 := Try.underlying76
        gi_wp2
        have hsz := hI.1.below.size
        have l1' := Boxed.lt hI.1.box1
        have l2' := Boxed.lt hI.1.box2
        exact hK _ _ ((KeepsOthers.alloc _ _).from _) (keepBoxes_of (Below.refl _ _ |>.alloc (Nat.le_refl _) _) hsz l1' l2') ⟨hI.1.next hsz ((Below.refl _ _).alloc (Nat.le_refl _) _), hI.2⟩ ⟨W.heap.size, by omega, World.alloc_heap_new W _, _, rfl⟩
      case body =>
        rintro l pre x a' W hl ⟨r, hr⟩ hI ⟨Bx, hBx, bX, z0, rfl⟩ hlt
        obtain ⟨y, hy⟩ : ∃ y : Int, (pairAt n2 M1 M2 x.1).2.1 = y := ⟨_, rfl⟩
        obtain ⟨z, hz⟩ : ∃ y : Int, (pairAt n2 M1 M2 x.1).2.2 = y := ⟨_, rfl⟩
        have HVV : Aside0 (fa x.1 = y ∧ fb x.1 = z) := ⟨⟨(HFV.out x.1).1.symm.trans hy, (HFV.out x.1).2.symm.trans hz⟩⟩
        rw [hy, hz] at bX ⊢
        have cX0 := blk_cell bX 0
        have cX1 := blk_cell bX 1
        have HI := Aside0.mk hI
        have hz5 := HY2.out.r
        rw [← HRO.out] at hz5
        have hbr := (hI.1.below.block br (blk_lt hz5)).trans hz5
        have hrc := blk_cell hbr 0
        have hrf := blk_frozen hbr 0
        have HBQ := Aside0.mk hbr
        have HXX := Aside0.mk bX
        clear ST hI hy hz hz5 hbr hr bX
        by_cases hyz : z < y
        · have f1 : decide (z < y) = true := decide_eq_true hyz
          have f2 : decide (y > z) = true := decide_eq_true hyz
          have HYZ := Aside0.mk hyz
          clear hyz
          gi_wp2
          refine ⟨(KeepsOthers.setCell _ _ _).from _, rfl, ⟨FIN _ _ HBQ.out, ?_⟩, x, by have := HVV.out; have := HYZ.out; omega⟩
          exact below_set (HY2.out.below.trans (HI.out.1.below.mono HY2.out.below.size)) HBR.out
        · have f1 : decide (z < y) = false := decide_eq_false hyz
          have f2 : decide (y > z) = false := decide_eq_false hyz
          have HYZ := Aside0.mk hyz
          clear hyz
          gi_wp2
          refine ⟨(KeepsOthers.refl _).from _, keepBoxes_of (Below.refl _ _) HI.out.1.below.size (Boxed.lt HI.out.1.box1) (Boxed.lt HI.out.1.box2), HI.out.1, fun q hq => ?_⟩
          rcases List.mem_append.1 hq with hq | hq
          · exact HI.out.2 q hq
          · obtain rfl := List.mem_singleton.1 hq
            have := HVV.out; have := HYZ.out; omega
      case done =>
        rintro D ys W hD rfl hI hK
        have HI := Aside0.mk hI
        have HK := Aside0.mk hK
        have HD' := Aside0.mk hD
        have hz5 := HY2.out.r
        rw [← HRO.out] at hz5
        have hbr := (hI.1.below.block br (blk_lt hz5)).trans hz5
        have hrc := blk_cell hbr 0
        have hrf := blk_frozen hbr 0
        have HBQ := Aside0.mk hbr
        clear hI hK hD ST hz5 hbr
        gi_wp2
        go_wp2
        have hbD : br < D := by have := HD'.out; have := hS0.out; have := HSS.out; have := blk_lt HY2.out.r; omega
        have hwD : w.heap.size ≤ D := by have := HBR.out; omega
        have hD3 : (W.setCell ⟨br, 0, none⟩ (.bool true)).heap[D]? = some (.deferred (some [])) := (Below.heap_setCell _ _ _ _ (by simp; omega)).trans HK.out
        refine ⟨by simp, .inl ⟨_, _, rfl, run_takeDeferred hD3, ?_⟩⟩
        refine ⟨_, RES _ _ true rfl ((World.putObj_heap_other (by omega)).trans (FIN _ _ HBQ.out)), ?_, ?_⟩
        · have h : leqL (2 * vars.length) M1 M2 = true := by
            unfold leqL
            rw [← HN2.out, HNN.out, List.all_eq_true]
            intro k hk
            have hk' : k < NN := by simpa using hk
            have := HI.out.2 ⟨k, hk'⟩ (List.mem_finRange _)
            rw [(HFV.out k).1, (HFV.out k).2]
            exact decide_eq_true this
          rw [HAN2.out, h]
        · exact (below_set (HY2.out.below.trans (HI.out.1.below.mono HY2.out.below.size)) HBR.out).trans (belowK_b (w := w) (Nat.le_refl _) _ D _ _ hwD hD3 rfl rfl)
      case stop =>
        rintro D c' pre W hD _ ⟨rfl, ⟨h1, h2⟩, x, hx⟩ hK
        have HD' := Aside0.mk hD
        have H1 := Aside0.mk h1
        have H2 := Aside0.mk h2
        have HX := Aside0.mk hx
        have HK := Aside0.mk hK
        clear h1 h2 hx hK hD ST
        gi_wp2
        have hbD : br < D := by have := HD'.out; have := hS0.out; have := HSS.out; have := blk_lt HY2.out.r; omega
        have hwD : w.heap.size ≤ D := by have := HBR.out; omega
        refine ⟨by simp, .inl ⟨_, _, rfl, run_takeDeferred HK.out, ?_⟩⟩
        refine ⟨_, RES _ _ false rfl ((World.putObj_heap_other (by omega)).trans H1.out), ?_, ?_⟩
        · have h : leqL (2 * vars.length) M1 M2 = false := by
            unfold leqL
            rw [← HN2.out, HNN.out, List.all_eq_false]
            refine ⟨x.1, by simp, ?_⟩
            rw [(HFV.out x.1).1, (HFV.out x.1).2]
            simpa using HX.out
          rw [HAN2.out, h]
        · exact H2.out.trans (belowK_b (w := w) (Nat.le_refl _) _ D _ _ hwD HK.out rfl rfl)
end Go.Proofs.Ytomgebmimgaojaa.QO
end
end
section
/- oct.mixed: entry by entry, what a function makes of two octagons, walked for the two functions that are handed to it (the greater, the lesser). Written by a program of this session. -/
noncomputable section
namespace Go.Proofs.Ytomgebmimgaojaa.QO
open Go.RowKit Go.Shelf Go.Proofs.YtomgebmimgaojaaW.PrintWords Go.Proofs.YtomgebmimgaojaaW.PrintLast Go.Proofs.YtomgebmimgaojaaW.PrintMore
attribute [local go_sem] Oper.semAt_some
attribute [local go_sem] max2_int min2_int max_two min_two
attribute [local go_sem ↓] Go.wp_at_zero Go.wp_at_succ
set_option linter.unusedVariables false
set_option linter.unusedSimpArgs false
/-- the boxes of two octagons and a function, and the result's -/
structure MX (w : World) (bx bY bf br : Nat) (xv yv : Array Value) (fv : Value) (W : World) : Prop where
  below : Below w.heap.size w W
  x : W.heap[bx]? = some (.cells xv 25 (0, 0))
  y : W.heap[bY]? = some (.cells yv 25 (0, 0))
  f : W.heap[bf]? = some (.cells #[fv] 77 (0, 0))
  r : W.heap[br]? = some (.cells #[.slice none 0 0, .slice none 0 0, .bool false] 25 (0, 0))
  rb : w.heap.size ≤ br
theorem MX.next {w : World} {bx bY bf br : Nat} {xv yv : Array Value} {fv : Value} {W W' : World} (h : MX w bx bY bf br xv yv fv W) (hb : Below W.heap.size W W') : MX w bx bY bf br xv yv fv W' :=
  ⟨h.below.trans (hb.mono h.below.size), blk_below h.x hb, blk_below h.y hb, blk_below h.f hb, blk_below h.r hb, h.rb⟩
/-- .. and the answer under way -/
structure MY (w : World) (bx bY bf br bo : Nat) (xv yv : Array Value) (fv vv vc : Value) (vars : List Int) (W : World) (rowc : List Int) : Prop where
  mx : MX w bx bY bf br xv yv fv W
  o : W.heap[bo]? = some (.cells #[vv, vc, .bool false] 25 (0, 0))
  rv : Kd.R (Kd.int .i64) 3 W w.heap.size (fun _ => True) vv vars
  rc : Kd.R (Kd.int .i64) 2 W w.heap.size (fun _ => True) vc rowc
  ob : w.heap.size ≤ bo
  ne : br ≠ bo
theorem MY.next {w : World} {bx bY bf br bo : Nat} {xv yv : Array Value} {fv vv vc : Value} {vars : List Int} {W W' : World} {rowc : List Int} (h : MY w bx bY bf br bo xv yv fv vv vc vars W rowc) (hb : Below W.heap.size W W') : MY w bx bY bf br bo xv yv fv vv vc vars W' rowc :=
  ⟨h.mx.next hb, blk_below h.o hb, Kd.R_below h.rv hb, Kd.R_below h.rc hb, h.ob, h.ne⟩
/-- .. whose box has just been made -/
theorem MY.made {w : World} {bx bY bf br : Nat} {xv yv : Array Value} {fv vv vc : Value} {vars : List Int} {W : World} {rowc : List Int} (h : MX w bx bY bf br xv yv fv W) (rv : Kd.R (Kd.int .i64) 3 W w.heap.size (fun _ => True) vv vars) (rc : Kd.R (Kd.int .i64) 2 W w.heap.size (fun _ => True) vc rowc) :
    MY w bx bY bf br W.heap.size xv yv fv vv vc vars (W.alloc (.cells #[vv, vc, .bool false] 25)) rowc :=
  ⟨h.next (below_alloc (Below.refl _ _) _), blk_new _ _, Kd.R_alloc rv _, Kd.R_alloc rc _, h.below.size, Nat.ne_of_lt (blk_lt h.r)⟩
theorem MX.far {w : World} {bx bY bf br : Nat} {xv yv : Array Value} {fv : Value} {W : World} (h : MX w bx bY bf br xv yv fv W) {bc : Nat} (hb : W.heap[bc]? = some (.cells #[.slice none 0 0, .slice none 0 0, .bool false] 25 (0, 0))) (h1 : bx ≠ bc) (h2 : bY ≠ bc) (h3 : br ≠ bc) (h4 : w.heap.size ≤ bc) (a b c : Value) : MX w bx bY bf br xv yv fv (((W.setCell ⟨bc, 0, none⟩ a).setCell ⟨bc, 1, none⟩ b).setCell ⟨bc, 2, none⟩ c) :=
  ⟨below_set (below_set (below_set h.below h4) h4) h4, ((store3 hb _ _ _).2 _ h1).trans h.x, ((store3 hb _ _ _).2 _ h2).trans h.y, ((store3 hb _ _ _).2 _ (typed_ne h.f hb (by decide))).trans h.f, ((store3 hb _ _ _).2 _ h3).trans h.r, h.rb⟩
/-- .. whose box was made before -/
theorem MY.filled {w : World} {bx bY bf br bc : Nat} {xv yv : Array Value} {fv vv vc : Value} {vars : List Int} {W : World} {rowc : List Int} (h : MX w bx bY bf br xv yv fv W) (rv : Kd.R (Kd.int .i64) 3 W w.heap.size (fun _ => True) vv vars) (rc : Kd.R (Kd.int .i64) 2 W w.heap.size (fun _ => True) vc rowc)
    (hb : W.heap[bc]? = some (.cells #[.slice none 0 0, .slice none 0 0, .bool false] 25 (0, 0))) (h1 : bx ≠ bc) (h2 : bY ≠ bc) (h3 : br ≠ bc) (h4 : w.heap.size ≤ bc) :
    MY w bx bY bf br bc xv yv fv vv vc vars (((W.setCell ⟨bc, 0, none⟩ vv).setCell ⟨bc, 1, none⟩ vc).setCell ⟨bc, 2, none⟩ (.bool false)) rowc :=
  ⟨h.far hb h1 h2 h3 h4 _ _ _, (store3 hb _ _ _).1, row_store3 hb rv (by decide) _ _ _, row_store3 hb rc (by decide) _ _ _, h4, h3⟩
def mixT : Bool × List (List Nat × List Nat) := (true, [([], []), ([0], [0]), ([], []), ([], []), ([], []), ([3, 4], [3, 4]), ([1, 2, 0, 1, 2, 3, 4, 5], [1, 2]), ([6, 5, 5, 0, 1, 2, 3, 4, 5], [5, 6])])
def mixB : List Nat := [0, 1, 0, 0, 0, 24, 63, 127]
theorem mix_tab : rtab .any (opsOf Try.f70 5) = mixT := by kernel_rfl
theorem mix_bits : waitsOk mixT.2 mixB = true := by kernel_rfl
/-- two matrices' entries, pair by pair -/
def mixL (g : Int → Int → Int) (n2 : Nat) (m1 m2 : List Int) : List Int := (List.range (n2 * n2)).map (fun k => g (pairAt n2 m1 m2 k).2.1 (pairAt n2 m1 m2 k).2.2)
/-- what the rounds know of a world: the answer's box, the entries so far, the function's box, the result's, the tables' -/
structure MI (w : World) (s bf br bo : Nat) (fv vv vc : Value) (vars : List Int) (n : Int) (A1 : Option Addr) (l1 c1 : Nat) (A2 : Option Addr) (l2 c2 : Nat) (W : World) (rowc : List Int) : Prop where
  f : W.heap[bf]? = some (.cells #[fv] 77 (0, 0))
  r : W.heap[br]? = some (.cells #[.slice none 0 0, .slice none 0 0, .bool false] 25 (0, 0))
  o : W.heap[bo]? = some (.cells #[vv, vc, .bool false] 25 (0, 0))
  rv : Kd.R (Kd.int .i64) 3 W w.heap.size (fun k => k < s) vv vars
  rc : Kd.R (Kd.int .i64) 2 W w.heap.size (fun k => k < s) vc rowc
  bp : BP w w.heap.size s (s + 1) n A1 l1 c1 A2 l2 c2 W
  lt : bf < s ∧ br < s ∧ bo < s
  lo : w.heap.size ≤ br ∧ w.heap.size ≤ bo
  ne : br ≠ bo
theorem MI.next {w : World} {s bf br bo : Nat} {fv vv vc : Value} {vars : List Int} {n : Int} {A1 : Option Addr} {l1 c1 : Nat} {A2 : Option Addr} {l2 c2 : Nat} {W W' : World} {rowc : List Int} (h : MI w s bf br bo fv vv vc vars n A1 l1 c1 A2 l2 c2 W rowc) (hb : Below W.heap.size W W') : MI w s bf br bo fv vv vc vars n A1 l1 c1 A2 l2 c2 W' rowc :=
  ⟨blk_below h.f hb, blk_below h.r hb, blk_below h.o hb, Kd.R_below h.rv hb, Kd.R_below h.rc hb, h.bp.next h.bp.below.size hb, h.lt, h.lo, h.ne⟩
theorem MI.grown {w : World} {s bf br bo : Nat} {fv vv vc : Value} {vars : List Int} {n : Int} {A1 : Option Addr} {l1 c1 : Nat} {A2 : Option Addr} {l2 c2 : Nat} {W W' : World} {rowc : List Int} {row : Option Nat} (h : MI w s bf br bo fv vv vc vars n A1 l1 c1 A2 l2 c2 W rowc) (hg : W.grownBy W' row) (hr : ∀ k, row = some k → s + 2 ≤ k) : MI w s bf br bo fv vv vc vars n A1 l1 c1 A2 l2 c2 W' rowc := by
  have hs := Boxed.lt h.bp.box1
  have hw : w.heap.size ≤ s := Nat.le_trans h.lo.1 (Nat.le_of_lt h.lt.2.1)
  exact ⟨blk_grown h.f hg (fun e => by have := hr _ e.symm; have := h.lt; omega), blk_grown h.r hg (fun e => by have := hr _ e.symm; have := h.lt; omega), blk_grown h.o hg (fun e => by have := hr _ e.symm; have := h.lt; omega),
    Kd.R_grown h.rv hg (fun k hk e => by have := hr k e.symm; omega), Kd.R_grown h.rc hg (fun k hk e => by have := hr k e.symm; omega),
    ⟨h.bp.below.grown hg h.bp.below.size (fun k e => by have := hr k e; omega), Boxed.kept h.bp.box1 hg (fun e => by have := hr _ e.symm; omega), Boxed.kept h.bp.box2 hg (fun e => by have := hr _ e.symm; omega)⟩, h.lt, h.lo, h.ne⟩
/-- an entry is put -/
theorem MI.put {w : World} {s bf br bo g len cap : Nat} {fv vv : Value} {vars : List Int} {n : Int} {A1 : Option Addr} {l1 c1 : Nat} {A2 : Option Addr} {l2 c2 : Nat} {W : World} {rowc : List Int} (h : MI w s bf br bo fv vv (.slice (some ⟨g, 0, none⟩) len cap) vars n A1 l1 c1 A2 l2 c2 W rowc) (hp : 0 < rowc.length) (i v : Int) :
    MI w s bf br bo fv vv (.slice (some ⟨g, 0, none⟩) len cap) vars n A1 l1 c1 A2 l2 c2 (W.setCell ⟨g, i.toNat, none⟩ (.int .i64 v)) (rowc.set i.toNat v) := by
  obtain ⟨hg, cells, hc⟩ := row_block h.rc hp
  have hgs : g < s := by
    obtain ⟨g', cap', e, _, _, _⟩ := Kd.R_form h.rc hp
    exact h.rc.1 g (by simp [Value.ownBlock])
  exact ⟨blk_far h.f (typed_ne h.f hc (by decide)) _, blk_far h.r (typed_ne h.r hc (by decide)) _, blk_far h.o (typed_ne h.o hc (by decide)) _, Kd.R_set h.rv hc (fun q hq => by
      rcases List.mem_cons.1 hq with rfl | hq
      · decide
      · cases hq) _ _, (Kd.R_putg h.rc i v).1,
    ⟨below_set h.bp.below hg, (Below.heap_setCell _ ⟨g, i.toNat, none⟩ _ _ (by simp; omega)).trans h.bp.box1, (Below.heap_setCell _ ⟨g, i.toNat, none⟩ _ _ (by simp; omega)).trans h.bp.box2⟩, h.lt, h.lo, h.ne⟩
theorem oct_pickmx (a b : Int) (W : World) : Calls Try.prog 71 #[.agg #[.int .i64 a, .int .i64 b]] W fun e w' => e = .returned (.int .i64 (mx a b)) ∧ Below W.heap.size W w' := by
  go_enter Try.func71, Try.ntmps71
  go_wp2
  all_goals
    go_ret
    refine ⟨?_, below_alloc (Below.refl _ _) _⟩
    show Ending.returned (.int .i64 _) = _
    unfold mx
    first | rw [if_pos (by omega)] | rw [if_neg (by omega)]
set_option maxHeartbeats 16000000 in
set_option maxRecDepth 100000 in
theorem oct_mixedmx_any (A0 : Option Addr) (c0 : Nat) (vars : List Int) (A1 : Option Addr) (c1 : Nat) (m1 : List Int) (e1 : Bool) (A2 : Option Addr) (c2 : Nat) (A3 : Option Addr) (c3 : Nat) (m2 : List Int) (e2 : Bool) (w : World)
    (hr0 : Kd.C (Kd.int .i64) w A0 vars.length vars) (hc0 : vars.length ≤ c0) (hr1 : Kd.C (Kd.int .i64) w A1 m1.length m1) (hc1 : m1.length ≤ c1) (hr3 : Kd.C (Kd.int .i64) w A3 m2.length m2) (hc3 : m2.length ≤ c3)
    (hn : vars.length ≤ 8) (hm1 : (m1.length : Int) = (2 * (vars.length : Int)) * (2 * (vars.length : Int))) (hm2 : (m2.length : Int) = (2 * (vars.length : Int)) * (2 * (vars.length : Int))) :
    Calls Try.prog 70 #[.agg #[.slice A0 vars.length c0, .slice A1 m1.length c1, .bool e1], .agg #[.slice A2 vars.length c2, .slice A3 m2.length c3, .bool e2], .func (.func 71) #[] #[]] w fun e w' => ∃ v0_ v1_ : Value, e = .returned (.agg #[v0_, v1_, .bool false]) ∧
      Kd.R (Kd.int .i64) 3 w' w.heap.size (fun _ => True) v0_ vars ∧ Kd.R (Kd.int .i64) 2 w' w.heap.size (fun _ => True) v1_ (mixL mx (2 * vars.length) m1 m2) ∧ Below w.heap.size w w' := by
  have hu25 := Try.underlying25
  have hms := meth_size
  have HR0 := Aside0.mk hr0
  have HR1 := Aside0.mk hr1
  have HR3 := Aside0.mk hr3
  have HC0 := Aside0.mk hc0
  have HC1 := Aside0.mk hc1
  have HC3 := Aside0.mk hc3
  have HN := Aside0.mk hn
  obtain ⟨n2, hn2⟩ : ∃ n2, n2 = 2 * vars.length := ⟨_, rfl⟩
  rw [← hn2]
  have HN2 := Aside0.mk hn2
  have h5 : n2 * n2 ≤ 256 := Nat.le_trans (Nat.mul_le_mul (show n2 ≤ 16 by omega) (show n2 ≤ 16 by omega)) (by omega)
  have h6 : (2 * (vars.length : Int)) * (2 * (vars.length : Int)) = ((n2 * n2 : Nat) : Int) := by rw [hn2]; push_cast; rfl
  obtain ⟨NN, hNN⟩ : ∃ NN, n2 * n2 = NN := ⟨_, rfl⟩
  rw [hNN] at h5 h6
  have HM := Aside0.mk (And.intro hm1 hm2)
  have el1 : m1.length = NN := by rw [h6] at hm1; exact_mod_cast hm1
  have HL := Aside0.mk h5
  have HNN := Aside0.mk hNN
  have HE := Aside0.mk el1
  have CLN : Aside0 (∀ W, Below w.heap.size w W → Calls Try.prog 47 #[.slice A0 vars.length c0] W fun e w' => ∃ v0_ : Value, e = .returned (v0_) ∧ Kd.R (Kd.int .i64) 3 w' W.heap.size (fun _ => True) v0_ vars ∧ Below W.heap.size W w') := ⟨fun W hW => slices_Clone_int_int.calls A0 c0 vars vars W (Kd.C_below hr0 hW) hc0 (by unfold slices_Clone_int_int.f; rw [if_pos (by omega)])⟩
  obtain ⟨mc, mk1, mk2⟩ := make64 NN h5
  have HMK := Aside0.mk mk2
  clear hr0 hr1 hr3 hc0 hc1 hc3 hn hm1 hm2 h5 hNN h6 hn2 mk2
  obtain ⟨l1, hl1⟩ : ∃ l1, m1.length = l1 := ⟨_, rfl⟩
  obtain ⟨l2, hl2⟩ : ∃ l2, m2.length = l2 := ⟨_, rfl⟩
  have HLL := Aside0.mk (And.intro hl1 hl2)
  rw [hl1] at el1 ⊢
  rw [hl2]
  subst el1
  clear hl1 hl2
  refine (callsIn_wide (n := 6)).1 ?_
  refine callsIn_of_wp_marks Try.func70 rfl trivial ?_ rfl
  simp only [Try.ntmps70, List.size_toArray, List.length_cons, List.length_nil, Nat.reduceAdd, Nat.reduceSub, Array.replicate_succ, Array.replicate_zero, List.push_toArray, List.append_toArray, List.nil_append, List.cons_append]
  refine wpIn_wide.2 ?_
  go_wp2
  obtain ⟨W4, hW4⟩ : ∃ W4, (((w.alloc (.cells #[.slice A0 vars.length c0, .slice A1 l1 c1, .bool e1] 25)).alloc (.cells #[.slice A2 vars.length c2, .slice A3 l2 c3, .bool e2] 25)).alloc (.cells #[.func (.func 71) #[] #[]] 77)).alloc (.cells #[.slice none 0 0, .slice none 0 0, .bool false] 25) = W4 := ⟨_, rfl⟩
  obtain ⟨bx, hbx⟩ : ∃ b, w.heap.size = b := ⟨_, rfl⟩
  obtain ⟨bY, hbY⟩ : ∃ b, w.heap.size + 1 = b := ⟨_, rfl⟩
  obtain ⟨bf, hbf⟩ : ∃ b, w.heap.size + 1 + 1 = b := ⟨_, rfl⟩
  obtain ⟨br, hbr⟩ : ∃ b, w.heap.size + 1 + 1 + 1 = b := ⟨_, rfl⟩
  have HX : Aside0 (MX w bx bY bf br #[.slice A0 vars.length c0, .slice A1 l1 c1, .bool e1] #[.slice A2 vars.length c2, .slice A3 l2 c3, .bool e2] (.func (.func 71) #[] #[]) W4) := ⟨by
    rw [← hW4, ← hbx, ← hbY, ← hbf, ← hbr]
    refine ⟨below_alloc (below_alloc (below_alloc (below_alloc (Below.refl _ _) _) _) _) _, blk_alloc (blk_alloc (blk_alloc (blk_new _ _) _) _) _, blk_alloc (blk_alloc ?_ _) _, blk_alloc ?_ _, ?_, by omega⟩
    · have h := blk_new (w.alloc (.cells #[.slice A0 vars.length c0, .slice A1 l1 c1, .bool e1] 25)) (.cells #[.slice A2 vars.length c2, .slice A3 l2 c3, .bool e2] 25); simpa using h
    · have h := blk_new ((w.alloc (.cells #[.slice A0 vars.length c0, .slice A1 l1 c1, .bool e1] 25)).alloc (.cells #[.slice A2 vars.length c2, .slice A3 l2 c3, .bool e2] 25)) (.cells #[.func (.func 71) #[] #[]] 77); simpa using h
    · have h := blk_new (((w.alloc (.cells #[.slice A0 vars.length c0, .slice A1 l1 c1, .bool e1] 25)).alloc (.cells #[.slice A2 vars.length c2, .slice A3 l2 c3, .bool e2] 25)).alloc (.cells #[.func (.func 71) #[] #[]] 77)) (.cells #[.slice none 0 0, .slice none 0 0, .bool false] 25); simpa using h⟩
  have HD : Aside0 (bx < bY ∧ bY < bf ∧ bf < br ∧ bx = w.heap.size) := ⟨by omega⟩
  rw [hW4]
  rw [hbr, hbf, hbY, hbx]
  clear hW4 hbr hbf hbY hbx
  have HXC := HX.out
  have hx0 := blk_cell HXC.x 0
  have hx1 := blk_cell HXC.x 1
  go_cut [7] from 10 to 17 (fun v7 wc => ∃ (bo : Nat) (Av Ac : Option Addr) (cv cc : Nat), v7 = .pointer (some ⟨bo, 0, none⟩) ∧ Aside0 (MY w bx bY bf br bo #[.slice A0 vars.length c0, .slice A1 l1 c1, .bool e1] #[.slice A2 vars.length c2, .slice A3 l2 c3, .bool e2] (.func (.func 71) #[] #[]) (.slice Av vars.length cv) (.slice Ac l1 cc) vars wc (List.replicate l1 0)))
  case first =>
    have BD : Below W4.heap.size W4 W4.drew := below_drew (Below.refl _ _)
    have WS : w.heap.size ≤ W4.heap.size := HX.out.below.size
    have BA : ∀ (W : World) (o : Obj), Below W.heap.size W (W.alloc o) := fun W o => below_alloc (Below.refl _ _) o
    have bx1 := blk_lt HX.out.x
    have bY1 := blk_lt HX.out.y
    have br1 := blk_lt HX.out.r
    have kb1 : bx ≠ W4.heap.size := Nat.ne_of_lt bx1
    have kb2 : bx ≠ W4.heap.size + 1 := by omega
    have kb3 : W4.heap.size ≠ bx := fun e => kb1 e.symm
    have kb4 : W4.heap.size + 1 ≠ bx := fun e => kb2 e.symm
    have HBB := Aside0.mk (And.intro BD (And.intro WS (And.intro BA (And.intro bx1 (And.intro bY1 br1)))))
    clear BD WS BA bx1 bY1 br1 HXC
    go_region_held3 (fun w' => w'.cell? ⟨bx, 0, none⟩ = some (.slice A0 vars.length c0) ∧ w'.cell? ⟨bx, 1, none⟩ = some (.slice A1 l1 c1)) (first | go_keep | exact KX)
      (first
       | (go_at_call 47; (with_reducible refine (CLN.out _ ?s1).mono ?_); (case s1 => first | exact (HX.out.next HBB.out.1).below | exact ((HX.out.next HBB.out.1).next (HBB.out.2.2.1 _ _)).below | exact (((HX.out.next HBB.out.1).next (HBB.out.2.2.1 _ _)).next (HBB.out.2.2.1 _ _)).below); rintro e w1 ⟨v0, rfl, h0, hb⟩; obtain ⟨Av, cv, ev⟩ := Kd.R_slice h0; subst ev; have KX : w1.cell? ⟨bx, 0, none⟩ = some (.slice A0 vars.length c0) ∧ w1.cell? ⟨bx, 1, none⟩ = some (.slice A1 l1 c1) := (by first | exact ⟨blk_cell ((HX.out.next HBB.out.1).next hb).x 0, blk_cell ((HX.out.next HBB.out.1).next hb).x 1⟩ | exact ⟨blk_cell (((HX.out.next HBB.out.1).next (HBB.out.2.2.1 _ _)).next hb).x 0, blk_cell (((HX.out.next HBB.out.1).next (HBB.out.2.2.1 _ _)).next hb).x 1⟩ | exact ⟨blk_cell ((((HX.out.next HBB.out.1).next (HBB.out.2.2.1 _ _)).next (HBB.out.2.2.1 _ _)).next hb).x 0, blk_cell ((((HX.out.next HBB.out.1).next (HBB.out.2.2.1 _ _)).next (HBB.out.2.2.1 _ _)).next hb).x 1⟩); have KN := World.new_ne _ _ KX.1; have H0 := Aside0.mk h0; have HB := Aside0.mk hb; clear h0; (first | (have hbx := blk_below (blk_new W4.drew (.cells #[.slice none 0 0, .slice none 0 0, .bool false] 25)) hb) | (have hbx := blk_below (blk_new (W4.drew.alloc (.cells mc 2)) (.cells #[.slice none 0 0, .slice none 0 0, .bool false] 25)) hb) | (have hbx := blk_below (blk_alloc (blk_new W4.drew (.cells #[.slice none 0 0, .slice none 0 0, .bool false] 25)) (.cells mc 2)) hb) | skip); (try (have hcx0 := blk_cell hbx 0; have hcx1 := blk_cell hbx 1; have hcx2 := blk_cell hbx 2; have hfx0 := blk_frozen hbx 0; have hfx1 := blk_frozen hbx 1; have hfx2 := blk_frozen hbx 2; have HBX := Aside0.mk hbx; have hcy0 := fun o => blk_cell (blk_alloc hbx o) 0; have hcy1 := fun o => blk_cell (blk_alloc hbx o) 1; have hcy2 := fun o => blk_cell (blk_alloc hbx o) 2; have hfy0 := fun o => blk_frozen (blk_alloc hbx o) 0; have hfy1 := fun o => blk_frozen (blk_alloc hbx o) 1; have hfy2 := fun o => blk_frozen (blk_alloc hbx o) 2; clear hbx; simp at hcx0 hcx1 hcx2 hfx0 hfx1 hfx2 hcy0 hcy1 hcy2 hfy0 hfy1 hfy2)); clear hb))
    all_goals go_wp2
    all_goals go_meet
    all_goals obtain ⟨BD, WS, BA, bx1, bY1, br1⟩ := HBB.out
    all_goals have HBS := HB.out.size
    · have h := MY.made (((HX.out.next BD).next HB.out).next (BA _ (.cells mc 2))) (Kd.R_alloc (Kd.R_lower H0.out WS) _) (HMK.out w1 w.heap.size (Nat.le_trans WS HBS))
      rw [World.size_alloc] at h
      exact ⟨_, _, _, _, _, rfl, ⟨h⟩⟩
    · exact ⟨_, _, _, _, _, rfl, ⟨⟨(((HX.out.next BD).next HB.out).next (BA _ _)).next (BA _ _), blk_alloc (blk_new _ _) _, Kd.R_alloc (Kd.R_alloc (Kd.R_lower H0.out WS) _) _, by have := HMK.out (w1.alloc (.cells #[.slice Av vars.length cv, .slice (some ⟨w1.heap.size + 1, 0, none⟩) l1 l1, .bool false] 25)) w.heap.size (by simp; have := Nat.le_trans WS HBS; omega); simpa using this, Nat.le_trans WS HBS, Nat.ne_of_lt (Nat.lt_of_lt_of_le br1 HBS)⟩⟩⟩
    · exact ⟨_, _, _, _, _, rfl, ⟨MY.made (((HX.out.next BD).next (BA _ _)).next HB.out) (Kd.R_lower H0.out (Nat.le_trans WS (BA _ _).size)) (Kd.R_below (Kd.R_drew (HMK.out W4 w.heap.size WS)) HB.out)⟩⟩
    · exact ⟨_, _, _, _, _, rfl, ⟨MY.filled ((((HX.out.next BD).next (BA _ _)).next (BA _ _)).next HB.out) (Kd.R_lower H0.out (Nat.le_trans WS (Nat.le_trans (BA _ _).size (BA _ _).size))) (Kd.R_below (Kd.R_drew (Kd.R_alloc (HMK.out W4 w.heap.size WS) _)) HB.out) (by simpa using HBX.out) (by omega) (by omega) (by omega) (by omega)⟩⟩
    · exact ⟨_, _, _, _, _, rfl, ⟨MY.filled ((((HX.out.next BD).next (BA _ _)).next HB.out).next (BA _ _)) (Kd.R_alloc (Kd.R_lower H0.out (Nat.le_trans WS (BA _ _).size)) _) (HMK.out _ _ (Nat.le_trans WS (Nat.le_trans (BA _ _).size HBS))) (blk_alloc (by simpa using HBX.out) _) (by omega) (by omega) (by omega) (by omega)⟩⟩
    · exact ⟨_, _, _, _, _, rfl, ⟨MY.filled ((((HX.out.next BD).next (BA _ _)).next (BA _ _)).next HB.out) (Kd.R_lower H0.out (Nat.le_trans WS (Nat.le_trans (BA _ _).size (BA _ _).size))) (by have := HMK.out (W4.alloc (.cells #[.slice none 0 0, .slice none 0 0, .bool false] 25)) w.heap.size (by simp; omega); exact Kd.R_below (Kd.R_drew (by simpa using this)) HB.out) (by simpa using HBX.out) (by omega) (by omega) (by omega) (by omega)⟩⟩
  case rest =>
    clear HX HXC hx0 hx1 HMK mk1 CLN
    obtain ⟨bo, Av, Ac, cv, cc, rfl, HY⟩ := hcut
    have hx0 := blk_cell HY.out.mx.x 0
    have hx1 := blk_cell HY.out.mx.x 1
    have hx2 := blk_cell HY.out.mx.x 2
    have hy0 := blk_cell HY.out.mx.y 0
    have hy1 := blk_cell HY.out.mx.y 1
    have hy2 := blk_cell HY.out.mx.y 2
    have HOB := Aside0.mk (oct_both_in (2 * (vars.length : Int)) (2 * (vars.length : Int)) A1 A3 l1 c1 l2 c3)
    go_wp2
    go_region_held3 (fun w' => (w'.cell? ⟨bx, 0, none⟩ = some (.slice A0 vars.length c0) ∧ w'.cell? ⟨bx, 1, none⟩ = some (.slice A1 l1 c1) ∧ w'.cell? ⟨bx, 2, none⟩ = some (.bool e1)) ∧ w'.cell? ⟨bY, 0, none⟩ = some (.slice A2 vars.length c2) ∧ w'.cell? ⟨bY, 1, none⟩ = some (.slice A3 l2 c3) ∧ w'.cell? ⟨bY, 2, none⟩ = some (.bool e2)) (first | go_keep | exact KX)
      (first
       | (go_at_call 55; (with_reducible refine (oct_of_any _ _ _ _ _ _ _ _ (Nat.le_trans HN.out (by decide))).mono ?_); rintro e w1 ⟨rfl, hb⟩; (first | (have HY2 := Aside0.mk (HY1.out.next hb); clear HY1) | have HY1 := Aside0.mk ((HY.out.next (below_drew (Below.refl _ _))).next hb)); clear hb; (first | have KX := And.intro (And.intro (blk_cell HY2.out.mx.x 0) (And.intro (blk_cell HY2.out.mx.x 1) (blk_cell HY2.out.mx.x 2))) (And.intro (blk_cell HY2.out.mx.y 0) (And.intro (blk_cell HY2.out.mx.y 1) (blk_cell HY2.out.mx.y 2))) | have KX := And.intro (And.intro (blk_cell HY1.out.mx.x 0) (And.intro (blk_cell HY1.out.mx.x 1) (blk_cell HY1.out.mx.x 2))) (And.intro (blk_cell HY1.out.mx.y 0) (And.intro (blk_cell HY1.out.mx.y 1) (blk_cell HY1.out.mx.y 2)))))
       | (go_at_call 73; (with_reducible refine (callsIn_wide.1 (HOB.out _)).mono ?_); rintro e w' ⟨rfl, rfl⟩))
    go_wp2_with fail
    obtain ⟨s, hs⟩ : ∃ s, w1.heap.size = s := ⟨_, rfl⟩
    rw [hs]
    obtain ⟨W0, hW0⟩ : ∃ W0, ((w1.alloc (.cells #[tableV (2 * (vars.length : Int)) A1 l1 c1] 64)).alloc (.cells #[tableV (2 * (vars.length : Int)) A3 l2 c3] 64)) = W0 := ⟨_, rfl⟩
    rw [hW0]
    have hS0 : Aside0 (W0.heap.size = s + 2) := ⟨by rw [← hW0]; simp [hs]⟩
    have hI0 : Aside0 (MI w s bf br bo (.func (.func 71) #[] #[]) (.slice Av vars.length cv) (.slice Ac l1 cc) vars (2 * (vars.length : Int)) A1 l1 c1 A3 l2 c3 W0 (putAll (fun k => mx (pairAt n2 m1 m2 k).2.1 (pairAt n2 m1 m2 k).2.2) (N := l1) [] (List.replicate l1 0))) := ⟨by
      have h := HY2.out
      have hT1 : TBox W0 s (2 * (vars.length : Int)) A1 l1 c1 := by
        have := (Boxed.new w1 64 (tableV (2 * (vars.length : Int)) A1 l1 c1)).alloc (.cells #[tableV (2 * (vars.length : Int)) A3 l2 c3] 64)
        rw [hs] at this; rw [← hW0]; exact this
      have hT2 : TBox W0 (s + 1) (2 * (vars.length : Int)) A3 l2 c3 := by
        have := Boxed.new (w1.alloc (.cells #[tableV (2 * (vars.length : Int)) A1 l1 c1] 64)) 64 (tableV (2 * (vars.length : Int)) A3 l2 c3)
        rw [World.size_alloc, hs] at this; rw [← hW0]; exact this
      have hB : Below w1.heap.size w1 W0 := by rw [← hW0]; exact below_alloc (below_alloc (Below.refl _ _) _) _
      have h' := h.next hB
      refine ⟨h'.mx.f, h'.mx.r, h'.o, Kd.R_below (Kd.R_mono (Kd.R_bound h.rv) (fun k hk => by have := hk.2.2.1; omega)) hB, Kd.R_below (Kd.R_mono (Kd.R_bound h.rc) (fun k hk => by have := hk.2.2.1; omega)) hB, ⟨h'.mx.below, hT1, hT2⟩, ⟨?_, ?_, ?_⟩, ⟨h.mx.rb, h.ob⟩, h.ne⟩
      · have := blk_lt h.mx.f; omega
      · have := blk_lt h.mx.r; omega
      · have := blk_lt h.o; omega⟩
    clear hW0 HY2 HOB hx0 hx1 hx2 hy0 hy1 hy2 KX
    have ST := oct_both_stops s (s + 1) A1 A3 c1 c3 m1 m2 vars.length n2 w W0 HN.out HN2.out HM.out.1 HM.out.2 HC1.out HC3.out HR1.out HR3.out (by rw [HLL.out.1, HLL.out.2]; exact hI0.out.bp)
    rw [HNN.out] at ST
    obtain ⟨fv, hfv⟩ : ∃ fv : Nat → Int, (fun k => mx (pairAt n2 m1 m2 k).2.1 (pairAt n2 m1 m2 k).2.2) = fv := ⟨_, rfl⟩
    rw [hfv] at hI0
    have HFV : Aside0 (∀ k, mx (pairAt n2 m1 m2 k).2.1 (pairAt n2 m1 m2 k).2.2 = fv k) := ⟨fun k => congrFun hfv k⟩
    refine (wpIn_wide (n := 6)).1 ?_
    refine wpIn_rangeFunc_ownH rfl (by omega) (gf := 91) (lb := #[.pointer (some ⟨s, 0, none⟩), .pointer (some ⟨s + 1, 0, none⟩)]) rfl trivial (enters_of Try.func91 (by kernel_rfl) rfl)
      ST KeepBoxes.trans (keepBoxes_b (w := W0) (by have := hI0.out.bp.below.size; have := hS0.out; omega) (by have := hS0.out; omega) (by have := hS0.out; omega)) (Below.refl _ _) (fun _ => rfl)
      (fun pre W => MI w s bf br bo (.func (.func 71) #[] #[]) (.slice Av vars.length cv) (.slice Ac l1 cc) vars (2 * (vars.length : Int)) A1 l1 c1 A3 l2 c3 W (putAll fv pre (List.replicate l1 0)))
      (fun _ _ _ => False)
      (fun pre X Y row hs' hg hr' => MI.grown hs' hg (fun k e => by have := (hr' k e).1; have := hS0.out; omega))
      (fun _ _ _ _ _ hs' _ _ => hs')
      hI0.out
      (fun x a' W => ∃ Bx, s + 2 ≤ Bx ∧ W.heap[Bx]? = some (.cells #[.int .i64 (pairAt n2 m1 m2 x.1).2.1, .int .i64 (pairAt n2 m1 m2 x.1).2.2] 76 (0, 0)) ∧ a' = { tmps := #[.agg #[.slice A0 vars.length c0, .slice A1 l1 c1, .bool e1], .agg #[.slice A2 vars.length c2, .slice A3 l2 c3, .bool e2], .func (.func 71) #[] #[], .pointer (some ⟨bx, 0, none⟩), .pointer (some ⟨bY, 0, none⟩), .pointer (some ⟨bf, 0, none⟩), .pointer (some ⟨br, 0, none⟩), .pointer (some ⟨bo, 0, none⟩), .int .i64 (pairAt n2 m1 m2 x.1).1, .pointer (some ⟨Bx, 0, none⟩), u10, u11, u12, u13, u14, u15, u16, u17, .agg #[.slice A0 vars.length c0, .slice A1 l1 c1, .bool e1], tableV (2 * (vars.length : Int)) A1 l1 c1, .agg #[.slice A2 vars.length c2, .slice A3 l2 c3, .bool e2], tableV (2 * (vars.length : Int)) A3 l2 c3, .func (.func 91) #[] #[.pointer (some ⟨s, 0, none⟩), .pointer (some ⟨s + 1, 0, none⟩)], .int .i64 (pairAt n2 m1 m2 x.1).1, .agg #[.int .i64 (pairAt n2 m1 m2 x.1).2.1, .int .i64 (pairAt n2 m1 m2 x.1).2.2], undef, undef, undef, undef, undef, undef, undef, undef], defers := [] })
      (fun x a' _ X Y row hs' hg hr' => by obtain ⟨Bx, h1, h2, h3⟩ := hs'; exact ⟨Bx, h1, (hg.block Bx (Array.getElem?_eq_some_iff.1 h2).1 (fun e => by obtain ⟨_, o, ho, hc⟩ := hr' Bx e.symm; rw [h2] at ho; cases ho; cases hc)).trans h2, h3⟩)
      ?assign ?body ?done ?stop
    case assign =>
      rintro l pre x W K hI hK
      have hu76 := Try.underlying76
      gi_wp2
      have hsz := hI.bp.below.size
      have l1' := Boxed.lt hI.bp.box1
      have l2' := Boxed.lt hI.bp.box2
      exact hK _ _ ((KeepsOthers.alloc _ _).from _) (keepBoxes_of (Below.refl _ _ |>.alloc (Nat.le_refl _) _) hsz l1' l2') (hI.next ((Below.refl _ _).alloc (Nat.le_refl _) _)) ⟨W.heap.size, by omega, World.alloc_heap_new W _, rfl⟩
    case body =>
      rintro l pre x a' W hl ⟨r, hr⟩ hI ⟨Bx, hBx, bX, rfl⟩ hlt
      have hN0 : 0 < (putAll fv pre (List.replicate l1 (0 : Int))).length := by rw [putAll_length]; simp; have := x.2; omega
      obtain ⟨g, cap, eg, hg1, _, _⟩ := Kd.R_form hI.rc hN0
      injection eg with e1 e2 e3
      subst e1
      have HN0 := Aside0.mk hN0
      obtain ⟨i, hi⟩ : ∃ i : Int, (pairAt n2 m1 m2 x.1).1 = i := ⟨_, rfl⟩
      have hi' : i = (x.1 : Int) := hi.symm
      obtain ⟨y, hy⟩ : ∃ y : Int, (pairAt n2 m1 m2 x.1).2.1 = y := ⟨_, rfl⟩
      obtain ⟨z, hz⟩ : ∃ y : Int, (pairAt n2 m1 m2 x.1).2.2 = y := ⟨_, rfl⟩
      obtain ⟨v, hv⟩ : ∃ v, mx y z = v := ⟨_, rfl⟩
      have HVV : Aside0 (fv x.1 = v) := ⟨by rw [← HFV.out, hy, hz]; exact hv⟩
      have p0 : 0 ≤ i := by omega
      have q0 : i < (l1 : Int) := by have := x.2; omega
      have HPQ := Aside0.mk (And.intro p0 q0)
      have CF := Aside0.mk (fun W => oct_pickmx y z W)
      rw [hv] at CF
      have cO := blk_cell hI.o 1
      have cF := blk_cell hI.f 0
      rw [hy, hz] at bX
      have cX0 := blk_cell bX 0
      have cX1 := blk_cell bX 1
      have HI := Aside0.mk hI
      have HX := Aside0.mk hi'
      have HBX := Aside0.mk hBx
      have HID : Aside0 (MI w s bf br bo (.func (.func 71) #[] #[]) (.slice Av vars.length cv) (.slice (some ⟨g, 0, none⟩) l1 cc) vars (2 * (vars.length : Int)) A1 l1 c1 A3 l2 c3 W.drew (putAll fv pre (List.replicate l1 0))) := ⟨hI.next (below_drew (Below.refl _ _))⟩
      have HBX0 := Aside0.mk bX
      rw [hi, hy, hz]
      clear hI hi' hi hy hz hBx bX hr hN0 hv e2 e3 hg1 cap
      replace p0 := eq_true p0
      replace q0 := eq_true q0
      clear ST hI0 hS0 hms hu25
      gi_wp2
      refine startR_ (n := 8) (S := fun w' => w'.cell? ⟨bo, 1, none⟩ = some (.slice (some ⟨g, 0, none⟩) l1 cc) ∧ w'.cell? ⟨bf, 0, none⟩ = some (.func (.func 71) #[] #[]) ∧ w'.cell? ⟨Bx, 0, none⟩ = some (.int .i64 y) ∧ w'.cell? ⟨Bx, 1, none⟩ = some (.int .i64 z)) (ds := [7]) (mB 8 0) (by kernel_rfl) rfl (by kernel_rfl) (by kernel_rfl) ⟨cO, cF, cX0, cX1⟩ (fun hHeld => ?_)
      refine with_tabW mix_tab mix_bits (fun HT_ HW_ => ?_)
      have hWd : Below W.heap.size W W.drew := below_drew (Below.refl _ _)
      generalize W.drew = Wd at HID hHeld hWd ⊢
      refine pV_ 0 25 (mB 8 1) HT_ ?_
      refine pV_ 2 27 (mB 8 5) HT_ ?_
      refine tV_ 1 26 (mB 8 7) HT_ HW_ hHeld ?_
      refine tV_ 3 28 (mB 8 15) HT_ HW_ hHeld ?_
      refine tV_ 4 29 (mB 8 31) HT_ HW_ hHeld ?_
      refine one_ (i := 5) (N := some 30) (mB 8 63) rfl rfl (one_of HT_.out (by kernel_rfl)) (by decide) (fun K hK => ?_)
      refine call_ 71 #[.agg #[.int .i64 y, .int .i64 z]] (by rfl) rfl (by have he := enters_ Try.func71 (by kernel_rfl) rfl #[.agg #[.int .i64 y, .int .i64 z]] Wd; unfold execOp; simp [resolve, Deferred.ofValue, invoke, Act.eval, he]) ?_
      with_reducible refine (CF.out Wd).mono ?_
      rintro e w2 ⟨rfl, hb⟩
      refine ⟨_, rfl, ?_⟩
      have HI2 := Aside0.mk (MI.next HID.out hb)
      have bX2 := blk_below (blk_below HBX0.out hWd) hb
      obtain ⟨hc0, hf0⟩ := Kd.R_celln 0 HI2.out.rc i HPQ.out.1 HPQ.out.2
      refine hK.out _ _ ⟨blk_cell HI2.out.o 1, blk_cell HI2.out.f 0, blk_cell bX2 0, blk_cell bX2 1⟩ (fun hHeld => ?_)
      have HBW := Aside0.mk (And.intro hWd hb)
      clear hK K hb bX2 hWd
      refine norm_ (a' := ?_) ?_ ?_
      rotate_left
      · show Act.put _ (some 30) _ = _
        simp only [Act.put, List.setIfInBounds_toArray, List.set_cons_zero, List.set_cons_succ, i64_w, i32_w]
        rfl
      refine pV_ 6 31 (mB 8 127) HT_ ?_
      refine last_ (i := 7) (N := none) (mB 8 255) rfl rfl (one_of HT_.out (by kernel_rfl)) (by decide) (fun K hK => ?_)
      refine skip_ (w1 := ?_) (by rfl) rfl ?_ ?_
      rotate_left
      · go_simp
        rfl
      refine hK.out _ _ ?_
      clear hK K
      refine done_ (done_of HT_.out (by kernel_rfl)) ?_
      unfold OnlyN
      gi_wp2
      have h := HI2.out
      have hsz := HI.out.bp.below.size
      have l1' := Boxed.lt HI.out.bp.box1
      have l2' := Boxed.lt HI.out.bp.box2
      have hszd := HID.out.bp.below.size
      have l1d := Boxed.lt HID.out.bp.box1
      have l2d := Boxed.lt HID.out.bp.box2
      obtain ⟨hg1, cells, hgc⟩ := row_block h.rc HN0.out
      have hgs : g < s := h.rc.1 g (by simp [Value.ownBlock])
      refine ⟨((KeepsOthers.of_grownBy (grown_of_below HBW.out.1 none) (fun _ _ e => by cases e)).trans ((KeepsOthers.of_grownBy (grown_of_below HBW.out.2 none) (fun _ _ e => by cases e)).trans (KeepsOthers.setCell _ _ _))).from _, ?_, ?_⟩
      · exact (keepBoxes_of HBW.out.1 hsz l1' l2').trans ((keepBoxes_of HBW.out.2 hszd l1d l2d).trans ⟨(Below.refl w.heap.size w2).setCell (p := ⟨g, i.toNat, none⟩) hg1 _, Below.heap_setCell _ _ _ _ (by simp; omega), Below.heap_setCell _ _ _ _ (by simp; omega)⟩)
      · have h2 := MI.put h HN0.out i v
        show MI _ _ _ _ _ _ _ _ _ _ _ _ _ _ _ _ _ _
        rw [putAll_snoc, HVV.out, show x.1 = i.toNat by have := HX.out; omega]
        exact h2
    case done =>
      rintro D ys W hD rfl hI hK
      rw [putAll_all] at hI
      have HI := Aside0.mk hI
      have HK := Aside0.mk hK
      have HD' := Aside0.mk hD
      have o0 := blk_cell hI.o 0
      have o1 := blk_cell hI.o 1
      have o2 := blk_cell hI.o 2
      have r0 := blk_cell hI.r 0
      have r1 := blk_cell hI.r 1
      have r2 := blk_cell hI.r 2
      have f0 := blk_frozen hI.r 0
      have f1 := blk_frozen hI.r 1
      have f2 := blk_frozen hI.r 2
      clear hI hK hD ST hI0
      gi_wp2
      go_wp2
      have h := HI.out
      have hDs : s + 2 ≤ D := by have := HD'.out; have := hS0.out; omega
      have hlt := h.lt
      have S3 := store3 h.r (.slice Av vars.length cv) (.slice Ac l1 cc) (.bool false)
      obtain ⟨W3, hW3⟩ : ∃ W3, (((W.setCell ⟨br, 0, none⟩ (.slice Av vars.length cv)).setCell ⟨br, 1, none⟩ (.slice Ac l1 cc)).setCell ⟨br, 2, none⟩ (.bool false)) = W3 := ⟨_, rfl⟩
      have hv := row_store3 h.r h.rv (by decide) (.slice Av vars.length cv) (.slice Ac l1 cc) (.bool false)
      have hc := row_store3 h.r h.rc (by decide) (.slice Av vars.length cv) (.slice Ac l1 cc) (.bool false)
      have hb : Below w.heap.size w (((W.setCell ⟨br, 0, none⟩ (.slice Av vars.length cv)).setCell ⟨br, 1, none⟩ (.slice Ac l1 cc)).setCell ⟨br, 2, none⟩ (.bool false)) := below_set (below_set (below_set h.bp.below h.lo.1) h.lo.1) h.lo.1
      rw [hW3] at S3 hv hc hb ⊢
      have hD3 : W3.heap[D]? = some (.deferred (some [])) := (S3.2 D (by omega)).trans HK.out
      refine ⟨by simp, .inl ⟨_, _, rfl, run_takeDeferred hD3, ?_⟩⟩
      refine ⟨_, results_cell_row rfl _ _ br 25 #[.slice Av vars.length cv, .slice Ac l1 cc, .bool false] (0, 0) _ rfl ((World.putObj_heap_other (by omega)).trans S3.1) Try.underlying25 rfl (by kernel_rfl), ?_⟩
      refine ⟨.slice Av vars.length cv, .slice Ac l1 cc, rfl, ?_, ?_, ?_⟩
      · exact Kd.R_mono (Kd.R_grown hv (grownBy_putObj' _ D (.deferred none)) (fun k hk e => by cases e; omega)) (fun _ _ => trivial)
      · have e : mixL mx n2 m1 m2 = (List.range l1).map fv := by
          unfold mixL; rw [HNN.out]; exact List.map_congr_left (fun k _ => HFV.out k)
        rw [e]
        exact Kd.R_mono (Kd.R_grown hc (grownBy_putObj' _ D (.deferred none)) (fun k hk e => by cases e; omega)) (fun _ _ => trivial)
      · exact hb.trans (belowK_b (w := w) (Nat.le_refl _) _ D _ _ (by have := h.bp.below.size; have := h.lo; omega) hD3 rfl rfl)
    case stop =>
      rintro D c' pre W _ _ h _
      exact h.elim
theorem oct_pickmn (a b : Int) (W : World) : Calls Try.prog 72 #[.agg #[.int .i64 a, .int .i64 b]] W fun e w' => e = .returned (.int .i64 (mn a b)) ∧ Below W.heap.size W w' := by
  go_enter Try.func72, Try.ntmps72
  go_wp2
  all_goals
    go_ret
    refine ⟨?_, below_alloc (Below.refl _ _) _⟩
    show Ending.returned (.int .i64 _) = _
    unfold mn
    first | rw [if_pos (by omega)] | rw [if_neg (by omega)]
set_option maxHeartbeats 16000000 in
set_option maxRecDepth 100000 in
theorem oct_mixedmn_any (A0 : Option Addr) (c0 : Nat) (vars : List Int) (A1 : Option Addr) (c1 : Nat) (m1 : List Int) (e1 : Bool) (A2 : Option Addr) (c2 : Nat) (A3 : Option Addr) (c3 : Nat) (m2 : List Int) (e2 : Bool) (w : World)
    (hr0 : Kd.C (Kd.int .i64) w A0 vars.length vars) (hc0 : vars.length ≤ c0) (hr1 : Kd.C (Kd.int .i64) w A1 m1.length m1) (hc1 : m1.length ≤ c1) (hr3 : Kd.C (Kd.int .i64) w A3 m2.length m2) (hc3 : m2.length ≤ c3)
    (hn : vars.length ≤ 8) (hm1 : (m1.length : Int) = (2 * (vars.length : Int)) * (2 * (vars.length : Int))) (hm2 : (m2.length : Int) = (2 * (vars.length : Int)) * (2 * (vars.length : Int))) :
    Calls Try.prog 70 #[.agg #[.slice A0 vars.length c0, .slice A1 m1.length c1, .bool e1], .agg #[.slice A2 vars.length c2, .slice A3 m2.length c3, .bool e2], .func (.func 72) #[] #[]] w fun e w' => ∃ v0_ v1_ : Value, e = .returned (.agg #[v0_, v1_, .bool false]) ∧
      Kd.R (Kd.int .i64) 3 w' w.heap.size (fun _ => True) v0_ vars ∧ Kd.R (Kd.int .i64) 2 w' w.heap.size (fun _ => True) v1_ (mixL mn (2 * vars.length) m1 m2) ∧ Below w.heap.size w w' := by
  have hu25 := Try.underlying25
  have hms := meth_size
  have HR0 := Aside0.mk hr0
  have HR1 := Aside0.mk hr1
  have HR3 := Aside0.mk hr3
  have HC0 := Aside0.mk hc0
  have HC1 := Aside0.mk hc1
  have HC3 := Aside0.mk hc3
  have HN := Aside0.mk hn
  obtain ⟨n2, hn2⟩ : ∃ n2, n2 = 2 * vars.length := ⟨_, rfl⟩
  rw [← hn2]
  have HN2 := Aside0.mk hn2
  have h5 : n2 * n2 ≤ 256 := Nat.le_trans (Nat.mul_le_mul (show n2 ≤ 16 by omega) (show n2 ≤ 16 by omega)) (by omega)
  have h6 : (2 * (vars.length : Int)) * (2 * (vars.length : Int)) = ((n2 * n2 : Nat) : Int) := by rw [hn2]; push_cast; rfl
  obtain ⟨NN, hNN⟩ : ∃ NN, n2 * n2 = NN := ⟨_, rfl⟩
  rw [hNN] at h5 h6
  have HM := Aside0.mk (And.intro hm1 hm2)
  have el1 : m1.length = NN := by rw [h6] at hm1; exact_mod_cast hm1
  have HL := Aside0.mk h5
  have HNN := Aside0.mk hNN
  have HE := Aside0.mk el1
  have CLN : Aside0 (∀ W, Below w.heap.size w W → Calls Try.prog 47 #[.slice A0 vars.length c0] W fun e w' => ∃ v0_ : Value, e = .returned (v0_) ∧ Kd.R (Kd.int .i64) 3 w' W.heap.size (fun _ => True) v0_ vars ∧ Below W.heap.size W w') := ⟨fun W hW => slices_Clone_int_int.calls A0 c0 vars vars W (Kd.C_below hr0 hW) hc0 (by unfold slices_Clone_int_int.f; rw [if_pos (by omega)])⟩
  obtain ⟨mc, mk1, mk2⟩ := make64 NN h5
  have HMK := Aside0.mk mk2
  clear hr0 hr1 hr3 hc0 hc1 hc3 hn hm1 hm2 h5 hNN h6 hn2 mk2
  obtain ⟨l1, hl1⟩ : ∃ l1, m1.length = l1 := ⟨_, rfl⟩
  obtain ⟨l2, hl2⟩ : ∃ l2, m2.length = l2 := ⟨_, rfl⟩
  have HLL := Aside0.mk (And.intro hl1 hl2)
  rw [hl1] at el1 ⊢
  rw [hl2]
  subst el1
  clear hl1 hl2
  refine (callsIn_wide (n := 6)).1 ?_
  refine callsIn_of_wp_marks Try.func70 rfl trivial ?_ rfl
  simp only [Try.ntmps70, List.size_toArray, List.length_cons, List.length_nil, Nat.reduceAdd, Nat.reduceSub, Array.replicate_succ, Array.replicate_zero, List.push_toArray, List.append_toArray, List.nil_append, List.cons_append]
  refine wpIn_wide.2 ?_
  go_wp2
  obtain ⟨W4, hW4⟩ : ∃ W4, (((w.alloc (.cells #[.slice A0 vars.length c0, .slice A1 l1 c1, .bool e1] 25)).alloc (.cells #[.slice A2 vars.length c2, .slice A3 l2 c3, .bool e2] 25)).alloc (.cells #[.func (.func 72) #[] #[]] 77)).alloc (.cells #[.slice none 0 0, .slice none 0 0, .bool false] 25) = W4 := ⟨_, rfl⟩
  obtain ⟨bx, hbx⟩ : ∃ b, w.heap.size = b := ⟨_, rfl⟩
  obtain ⟨bY, hbY⟩ : ∃ b, w.heap.size + 1 = b := ⟨_, rfl⟩
  obtain ⟨bf, hbf⟩ : ∃ b, w.heap.size + 1 + 1 = b := ⟨_, rfl⟩
  obtain ⟨br, hbr⟩ : ∃ b, w.heap.size + 1 + 1 + 1 = b := ⟨_, rfl⟩
  have HX : Aside0 (MX w bx bY bf br #[.slice A0 vars.length c0, .slice A1 l1 c1, .bool e1] #[.slice A2 vars.length c2, .slice A3 l2 c3, .bool e2] (.func (.func 72) #[] #[]) W4) := ⟨by
    rw [← hW4, ← hbx, ← hbY, ← hbf, ← hbr]
    refine ⟨below_alloc (below_alloc (below_alloc (below_alloc (Below.refl _ _) _) _) _) _, blk_alloc (blk_alloc (blk_alloc (blk_new _ _) _) _) _, blk_alloc (blk_alloc ?_ _) _, blk_alloc ?_ _, ?_, by omega⟩
    · have h := blk_new (w.alloc (.cells #[.slice A0 vars.length c0, .slice A1 l1 c1, .bool e1] 25)) (.cells #[.slice A2 vars.length c2, .slice A3 l2 c3, .bool e2] 25); simpa using h
    · have h := blk_new ((w.alloc (.cells #[.slice A0 vars.length c0, .slice A1 l1 c1, .bool e1] 25)).alloc (.cells #[.slice A2 vars.length c2, .slice A3 l2 c3, .bool e2] 25)) (.cells #[.func (.func 72) #[] #[]] 77); simpa using h
    · have h := blk_new (((w.alloc (.cells #[.slice A0 vars.length c0, .slice A1 l1 c1, .bool e1] 25)).alloc (.cells #[.slice A2 vars.length c2, .slice A3 l2 c3, .bool e2] 25)).alloc (.cells #[.func (.func 72) #[] #[]] 77)) (.cells #[.slice none 0 0, .slice none 0 0, .bool false] 25); simpa using h⟩
  have HD : Aside0 (bx < bY ∧ bY < bf ∧ bf < br ∧ bx = w.heap.size) := ⟨by omega⟩
  rw [hW4]
  rw [hbr, hbf, hbY, hbx]
  clear hW4 hbr hbf hbY hbx
  have HXC := HX.out
  have hx0 := blk_cell HXC.x 0
  have hx1 := blk_cell HXC.x 1
  go_cut [7] from 10 to 17 (fun v7 wc => ∃ (bo : Nat) (Av Ac : Option Addr) (cv cc : Nat), v7 = .pointer (some ⟨bo, 0, none⟩) ∧ Aside0 (MY w bx bY bf br bo #[.slice A0 vars.length c0, .slice A1 l1 c1, .bool e1] #[.slice A2 vars.length c2, .slice A3 l2 c3, .bool e2] (.func (.func 72) #[] #[]) (.slice Av vars.length cv) (.slice Ac l1 cc) vars wc (List.replicate l1 0)))
  case first =>
    have BD : Below W4.heap.size W4 W4.drew := below_drew (Below.refl _ _)
    have WS : w.heap.size ≤ W4.heap.size := HX.out.below.size
    have BA : ∀ (W : World) (o : Obj), Below W.heap.size W (W.alloc o) := fun W o => below_alloc (Below.refl _ _) o
    have bx1 := blk_lt HX.out.x
    have bY1 := blk_lt HX.out.y
    have br1 := blk_lt HX.out.r
    have kb1 : bx ≠ W4.heap.size := Nat.ne_of_lt bx1
    have kb2 : bx ≠ W4.heap.size + 1 := by omega
    have kb3 : W4.heap.size ≠ bx := fun e => kb1 e.symm
    have kb4 : W4.heap.size + 1 ≠ bx := fun e => kb2 e.symm
    have HBB := Aside0.mk (And.intro BD (And.intro WS (And.intro BA (And.intro bx1 (And.intro bY1 br1)))))
    clear BD WS BA bx1 bY1 br1 HXC
    go_region_held3 (fun w' => w'.cell? ⟨bx, 0, none⟩ = some (.slice A0 vars.length c0) ∧ w'.cell? ⟨bx, 1, none⟩ = some (.slice A1 l1 c1)) (first | go_keep | exact KX)
      (first
       | (go_at_call 47; (with_reducible refine (CLN.out _ ?s1).mono ?_); (case s1 => first | exact (HX.out.next HBB.out.1).below | exact ((HX.out.next HBB.out.1).next (HBB.out.2.2.1 _ _)).below | exact (((HX.out.next HBB.out.1).next (HBB.out.2.2.1 _ _)).next (HBB.out.2.2.1 _ _)).below); rintro e w1 ⟨v0, rfl, h0, hb⟩; obtain ⟨Av, cv, ev⟩ := Kd.R_slice h0; subst ev; have KX : w1.cell? ⟨bx, 0, none⟩ = some (.slice A0 vars.length c0) ∧ w1.cell? ⟨bx, 1, none⟩ = some (.slice A1 l1 c1) := (by first | exact ⟨blk_cell ((HX.out.next HBB.out.1).next hb).x 0, blk_cell ((HX.out.next HBB.out.1).next hb).x 1⟩ | exact ⟨blk_cell (((HX.out.next HBB.out.1).next (HBB.out.2.2.1 _ _)).next hb).x 0, blk_cell (((HX.out.next HBB.out.1).next (HBB.out.2.2.1 _ _)).next hb).x 1⟩ | exact ⟨blk_cell ((((HX.out.next HBB.out.1).next (HBB.out.2.2.1 _ _)).next (HBB.out.2.2.1 _ _)).next hb).x 0, blk_cell ((((HX.out.next HBB.out.1).next (HBB.out.2.2.1 _ _)).next (HBB.out.2.2.1 _ _)).next hb).x 1⟩); have KN := World.new_ne _ _ KX.1; have H0 := Aside0.mk h0; have HB := Aside0.mk hb; clear h0; (first | (have hbx := blk_below (blk_new W4.drew (.cells #[.slice none 0 0, .slice none 0 0, .bool false] 25)) hb) | (have hbx := blk_below (blk_new (W4.drew.alloc (.cells mc 2)) (.cells #[.slice none 0 0, .slice none 0 0, .bool false] 25)) hb) | (have hbx := blk_below (blk_alloc (blk_new W4.drew (.cells #[.slice none 0 0, .slice none 0 0, .bool false] 25)) (.cells mc 2)) hb) | skip); (try (have hcx0 := blk_cell hbx 0; have hcx1 := blk_cell hbx 1; have hcx2 := blk_cell hbx 2; have hfx0 := blk_frozen hbx 0; have hfx1 := blk_frozen hbx 1; have hfx2 := blk_frozen hbx 2; have HBX := Aside0.mk hbx; have hcy0 := fun o => blk_cell (blk_alloc hbx o) 0; have hcy1 := fun o => blk_cell (blk_alloc hbx o) 1; have hcy2 := fun o => blk_cell (blk_alloc hbx o) 2; have hfy0 := fun o => blk_frozen (blk_alloc hbx o) 0; have hfy1 := fun o => blk_frozen (blk_alloc hbx o) 1; have hfy2 := fun o => blk_frozen (blk_alloc hbx o) 2; clear hbx; simp at hcx0 hcx1 hcx2 hfx0 hfx1 hfx2 hcy0 hcy1 hcy2 hfy0 hfy1 hfy2)); clear hb))
    all_goals go_wp2
    all_goals go_meet
    all_goals obtain ⟨BD, WS, BA, bx1, bY1, br1⟩ := HBB.out
    all_goals have HBS := HB.out.size
    · have h := MY.made (((HX.out.next BD).next HB.out).next (BA _ (.cells mc 2))) (Kd.R_alloc (Kd.R_lower H0.out WS) _) (HMK.out w1 w.heap.size (Nat.le_trans WS HBS))
      rw [World.size_alloc] at h
      exact ⟨_, _, _, _, _, rfl, ⟨h⟩⟩
    · exact ⟨_, _, _, _, _, rfl, ⟨⟨(((HX.out.next BD).next HB.out).next (BA _ _)).next (BA _ _), blk_alloc (blk_new _ _) _, Kd.R_alloc (Kd.R_alloc (Kd.R_lower H0.out WS) _) _, by have := HMK.out (w1.alloc (.cells #[.slice Av vars.length cv, .slice (some ⟨w1.heap.size + 1, 0, none⟩) l1 l1, .bool false] 25)) w.heap.size (by simp; have := Nat.le_trans WS HBS; omega); simpa using this, Nat.le_trans WS HBS, Nat.ne_of_lt (Nat.lt_of_lt_of_le br1 HBS)⟩⟩⟩
    · exact ⟨_, _, _, _, _, rfl, ⟨MY.made (((HX.out.next BD).next (BA _ _)).next HB.out) (Kd.R_lower H0.out (Nat.le_trans WS (BA _ _).size)) (Kd.R_below (Kd.R_drew (HMK.out W4 w.heap.size WS)) HB.out)⟩⟩
    · exact ⟨_, _, _, _, _, rfl, ⟨MY.filled ((((HX.out.next BD).next (BA _ _)).next (BA _ _)).next HB.out) (Kd.R_lower H0.out (Nat.le_trans WS (Nat.le_trans (BA _ _).size (BA _ _).size))) (Kd.R_below (Kd.R_drew (Kd.R_alloc (HMK.out W4 w.heap.size WS) _)) HB.out) (by simpa using HBX.out) (by omega) (by omega) (by omega) (by omega)⟩⟩
    · exact ⟨_, _, _, _, _, rfl, ⟨MY.filled ((((HX.out.next BD).next (BA _ _)).next HB.out).next (BA _ _)) (Kd.R_alloc (Kd.R_lower H0.out (Nat.le_trans WS (BA _ _).size)) _) (HMK.out _ _ (Nat.le_trans WS (Nat.le_trans (BA _ _).size HBS))) (blk_alloc (by simpa using HBX.out) _) (by omega) (by omega) (by omega) (by omega)⟩⟩
    · exact ⟨_, _, _, _, _, rfl, ⟨MY.filled ((((HX.out.next BD).next (BA _ _)).next (BA _ _)).next HB.out) (Kd.R_lower H0.out (Nat.le_trans WS (Nat.le_trans (BA _ _).size (BA _ _).size))) (by have := HMK.out (W4.alloc (.cells #[.slice none 0 0, .slice none 0 0, .bool false] 25)) w.heap.size (by simp; omega); exact Kd.R_below (Kd.R_drew (by simpa using this)) HB.out) (by simpa using HBX.out) (by omega) (by omega) (by omega) (by omega)⟩⟩
  case rest =>
    clear HX HXC hx0 hx1 HMK mk1 CLN
    obtain ⟨bo, Av, Ac, cv, cc, rfl, HY⟩ := hcut
    have hx0 := blk_cell HY.out.mx.x 0
    have hx1 := blk_cell HY.out.mx.x 1
    have hx2 := blk_cell HY.out.mx.x 2
    have hy0 := blk_cell HY.out.mx.y 0
    have hy1 := blk_cell HY.out.mx.y 1
    have hy2 := blk_cell HY.out.mx.y 2
    have HOB := Aside0.mk (oct_both_in (2 * (vars.length : Int)) (2 * (vars.length : Int)) A1 A3 l1 c1 l2 c3)
    go_wp2
    go_region_held3 (fun w' => (w'.cell? ⟨bx, 0, none⟩ = some (.slice A0 vars.length c0) ∧ w'.cell? ⟨bx, 1, none⟩ = some (.slice A1 l1 c1) ∧ w'.cell? ⟨bx, 2, none⟩ = some (.bool e1)) ∧ w'.cell? ⟨bY, 0, none⟩ = some (.slice A2 vars.length c2) ∧ w'.cell? ⟨bY, 1, none⟩ = some (.slice A3 l2 c3) ∧ w'.cell? ⟨bY, 2, none⟩ = some (.bool e2)) (first | go_keep | exact KX)
      (first
       | (go_at_call 55; (with_reducible refine (oct_of_any _ _ _ _ _ _ _ _ (Nat.le_trans HN.out (by decide))).mono ?_); rintro e w1 ⟨rfl, hb⟩; (first | (have HY2 := Aside0.mk (HY1.out.next hb); clear HY1) | have HY1 := Aside0.mk ((HY.out.next (below_drew (Below.refl _ _))).next hb)); clear hb; (first | have KX := And.intro (And.intro (blk_cell HY2.out.mx.x 0) (And.intro (blk_cell HY2.out.mx.x 1) (blk_cell HY2.out.mx.x 2))) (And.intro (blk_cell HY2.out.mx.y 0) (And.intro (blk_cell HY2.out.mx.y 1) (blk_cell HY2.out.mx.y 2))) | have KX := And.intro (And.intro (blk_cell HY1.out.mx.x 0) (And.intro (blk_cell HY1.out.mx.x 1) (blk_cell HY1.out.mx.x 2))) (And.intro (blk_cell HY1.out.mx.y 0) (And.intro (blk_cell HY1.out.mx.y 1) (blk_cell HY1.out.mx.y 2)))))
       | (go_at_call 73; (with_reducible refine (callsIn_wide.1 (HOB.out _)).mono ?_); rintro e w' ⟨rfl, rfl⟩))
    go_wp2_with fail
    obtain ⟨s, hs⟩ : ∃ s, w1.heap.size = s := ⟨_, rfl⟩
    rw [hs]
    obtain ⟨W0, hW0⟩ : ∃ W0, ((w1.alloc (.cells #[tableV (2 * (vars.length : Int)) A1 l1 c1] 64)).alloc (.cells #[tableV (2 * (vars.length : Int)) A3 l2 c3] 64)) = W0 := ⟨_, rfl⟩
    rw [hW0]
    have hS0 : Aside0 (W0.heap.size = s + 2) := ⟨by rw [← hW0]; simp [hs]⟩
    have hI0 : Aside0 (MI w s bf br bo (.func (.func 72) #[] #[]) (.slice Av vars.length cv) (.slice Ac l1 cc) vars (2 * (vars.length : Int)) A1 l1 c1 A3 l2 c3 W0 (putAll (fun k => mn (pairAt n2 m1 m2 k).2.1 (pairAt n2 m1 m2 k).2.2) (N := l1) [] (List.replicate l1 0))) := ⟨by
      have h := HY2.out
      have hT1 : TBox W0 s (2 * (vars.length : Int)) A1 l1 c1 := by
        have := (Boxed.new w1 64 (tableV (2 * (vars.length : Int)) A1 l1 c1)).alloc (.cells #[tableV (2 * (vars.length : Int)) A3 l2 c3] 64)
        rw [hs] at this; rw [← hW0]; exact this
      have hT2 : TBox W0 (s + 1) (2 * (vars.length : Int)) A3 l2 c3 := by
        have := Boxed.new (w1.alloc (.cells #[tableV (2 * (vars.length : Int)) A1 l1 c1] 64)) 64 (tableV (2 * (vars.length : Int)) A3 l2 c3)
        rw [World.size_alloc, hs] at this; rw [← hW0]; exact this
      have hB : Below w1.heap.size w1 W0 := by rw [← hW0]; exact below_alloc (below_alloc (Below.refl _ _) _) _
      have h' := h.next hB
      refine ⟨h'.mx.f, h'.mx.r, h'.o, Kd.R_below (Kd.R_mono (Kd.R_bound h.rv) (fun k hk => by have := hk.2.2.1; omega)) hB, Kd.R_below (Kd.R_mono (Kd.R_bound h.rc) (fun k hk => by have := hk.2.2.1; omega)) hB, ⟨h'.mx.below, hT1, hT2⟩, ⟨?_, ?_, ?_⟩, ⟨h.mx.rb, h.ob⟩, h.ne⟩
      · have := blk_lt h.mx.f; omega
      · have := blk_lt h.mx.r; omega
      · have := blk_lt h.o; omega⟩
    clear hW0 HY2 HOB hx0 hx1 hx2 hy0 hy1 hy2 KX
    have ST := oct_both_stops s (s + 1) A1 A3 c1 c3 m1 m2 vars.length n2 w W0 HN.out HN2.out HM.out.1 HM.out.2 HC1.out HC3.out HR1.out HR3.out (by rw [HLL.out.1, HLL.out.2]; exact hI0.out.bp)
    rw [HNN.out] at ST
    obtain ⟨fv, hfv⟩ : ∃ fv : Nat → Int, (fun k => mn (pairAt n2 m1 m2 k).2.1 (pairAt n2 m1 m2 k).2.2) = fv := ⟨_, rfl⟩
    rw [hfv] at hI0
    have HFV : Aside0 (∀ k, mn (pairAt n2 m1 m2 k).2.1 (pairAt n2 m1 m2 k).2.2 = fv k) := ⟨fun k => congrFun hfv k⟩
    refine (wpIn_wide (n := 6)).1 ?_
    refine wpIn_rangeFunc_ownH rfl (by omega) (gf := 91) (lb := #[.pointer (some ⟨s, 0, none⟩), .pointer (some ⟨s + 1, 0, none⟩)]) rfl trivial (enters_of Try.func91 (by kernel_rfl) rfl)
      ST KeepBoxes.trans (keepBoxes_b (w := W0) (by have := hI0.out.bp.below.size; have := hS0.out; omega) (by have := hS0.out; omega) (by have := hS0.out; omega)) (Below.refl _ _) (fun _ => rfl)
      (fun pre W => MI w s bf br bo (.func (.func 72) #[] #[]) (.slice Av vars.length cv) (.slice Ac l1 cc) vars (2 * (vars.length : Int)) A1 l1 c1 A3 l2 c3 W (putAll fv pre (List.replicate l1 0)))
      (fun _ _ _ => False)
      (fun pre X Y row hs' hg hr' => MI.grown hs' hg (fun k e => by have := (hr' k e).1; have := hS0.out; omega))
      (fun _ _ _ _ _ hs' _ _ => hs')
      hI0.out
      (fun x a' W => ∃ Bx, s + 2 ≤ Bx ∧ W.heap[Bx]? = some (.cells #[.int .i64 (pairAt n2 m1 m2 x.1).2.1, .int .i64 (pairAt n2 m1 m2 x.1).2.2] 76 (0, 0)) ∧ a' = { tmps := #[.agg #[.slice A0 vars.length c0, .slice A1 l1 c1, .bool e1], .agg #[.slice A2 vars.length c2, .slice A3 l2 c3, .bool e2], .func (.func 72) #[] #[], .pointer (some ⟨bx, 0, none⟩), .pointer (some ⟨bY, 0, none⟩), .pointer (some ⟨bf, 0, none⟩), .pointer (some ⟨br, 0, none⟩), .pointer (some ⟨bo, 0, none⟩), .int .i64 (pairAt n2 m1 m2 x.1).1, .pointer (some ⟨Bx, 0, none⟩), u10, u11, u12, u13, u14, u15, u16, u17, .agg #[.slice A0 vars.length c0, .slice A1 l1 c1, .bool e1], tableV (2 * (vars.length : Int)) A1 l1 c1, .agg #[.slice A2 vars.length c2, .slice A3 l2 c3, .bool e2], tableV (2 * (vars.length : Int)) A3 l2 c3, .func (.func 91) #[] #[.pointer (some ⟨s, 0, none⟩), .pointer (some ⟨s + 1, 0, none⟩)], .int .i64 (pairAt n2 m1 m2 x.1).1, .agg #[.int .i64 (pairAt n2 m1 m2 x.1).2.1, .int .i64 (pairAt n2 m1 m2 x.1).2.2], undef, undef, undef, undef, undef, undef, undef, undef], defers := [] })
      (fun x a' _ X Y row hs' hg hr' => by obtain ⟨Bx, h1, h2, h3⟩ := hs'; exact ⟨Bx, h1, (hg.block Bx (Array.getElem?_eq_some_iff.1 h2).1 (fun e => by obtain ⟨_, o, ho, hc⟩ := hr' Bx e.symm; rw [h2] at ho; cases ho; cases hc)).trans h2, h3⟩)
      ?assign ?body ?done ?stop
    case assign =>
      rintro l pre x W K hI hK
      have hu76 := Try.underlying76
      gi_wp2
      have hsz := hI.bp.below.size
      have l1' := Boxed.lt hI.bp.box1
      have l2' := Boxed.lt hI.bp.box2
      exact hK _ _ ((KeepsOthers.alloc _ _).from _) (keepBoxes_of (Below.refl _ _ |>.alloc (Nat.le_refl _) _) hsz l1' l2') (hI.next ((Below.refl _ _).alloc (Nat.le_refl _) _)) ⟨W.heap.size, by omega, World.alloc_heap_new W _, rfl⟩
    case body =>
      rintro l pre x a' W hl ⟨r, hr⟩ hI ⟨Bx, hBx, bX, rfl⟩ hlt
      have hN0 : 0 < (putAll fv pre (List.replicate l1 (0 : Int))).length := by rw [putAll_length]; simp; have := x.2; omega
      obtain ⟨g, cap, eg, hg1, _, _⟩ := Kd.R_form hI.rc hN0
      injection eg with e1 e2 e3
      subst e1
      have HN0 := Aside0.mk hN0
      obtain ⟨i, hi⟩ : ∃ i : Int, (pairAt n2 m1 m2 x.1).1 = i := ⟨_, rfl⟩
      have hi' : i = (x.1 : Int) := hi.symm
      obtain ⟨y, hy⟩ : ∃ y : Int, (pairAt n2 m1 m2 x.1).2.1 = y := ⟨_, rfl⟩
      obtain ⟨z, hz⟩ : ∃ y : Int, (pairAt n2 m1 m2 x.1).2.2 = y := ⟨_, rfl⟩
      obtain ⟨v, hv⟩ : ∃ v, mn y z = v := ⟨_, rfl⟩
      have HVV : Aside0 (fv x.1 = v) := ⟨by rw [← HFV.out, hy, hz]; exact hv⟩
      have p0 : 0 ≤ i := by omega
      have q0 : i < (l1 : Int) := by have := x.2; omega
      have HPQ := Aside0.mk (And.intro p0 q0)
      have CF := Aside0.mk (fun W => oct_pickmn y z W)
      rw [hv] at CF
      have cO := blk_cell hI.o 1
      have cF := blk_cell hI.f 0
      rw [hy, hz] at bX
      have cX0 := blk_cell bX 0
      have cX1 := blk_cell bX 1
      have HI := Aside0.mk hI
      have HX := Aside0.mk hi'
      have HBX := Aside0.mk hBx
      have HID : Aside0 (MI w s bf br bo (.func (.func 72) #[] #[]) (.slice Av vars.length cv) (.slice (some ⟨g, 0, none⟩) l1 cc) vars (2 * (vars.length : Int)) A1 l1 c1 A3 l2 c3 W.drew (putAll fv pre (List.replicate l1 0))) := ⟨hI.next (below_drew (Below.refl _ _))⟩
      have HBX0 := Aside0.mk bX
      rw [hi, hy, hz]
      clear hI hi' hi hy hz hBx bX hr hN0 hv e2 e3 hg1 cap
      replace p0 := eq_true p0
      replace q0 := eq_true q0
      clear ST hI0 hS0 hms hu25
      gi_wp2
      refine startR_ (n := 8) (S := fun w' => w'.cell? ⟨bo, 1, none⟩ = some (.slice (some ⟨g, 0, none⟩) l1 cc) ∧ w'.cell? ⟨bf, 0, none⟩ = some (.func (.func 72) #[] #[]) ∧ w'.cell? ⟨Bx, 0, none⟩ = some (.int .i64 y) ∧ w'.cell? ⟨Bx, 1, none⟩ = some (.int .i64 z)) (ds := [7]) (mB 8 0) (by kernel_rfl) rfl (by kernel_rfl) (by kernel_rfl) ⟨cO, cF, cX0, cX1⟩ (fun hHeld => ?_)
      refine with_tabW mix_tab mix_bits (fun HT_ HW_ => ?_)
      have hWd : Below W.heap.size W W.drew := below_drew (Below.refl _ _)
      generalize W.drew = Wd at HID hHeld hWd ⊢
      refine pV_ 0 25 (mB 8 1) HT_ ?_
      refine pV_ 2 27 (mB 8 5) HT_ ?_
      refine tV_ 1 26 (mB 8 7) HT_ HW_ hHeld ?_
      refine tV_ 3 28 (mB 8 15) HT_ HW_ hHeld ?_
      refine tV_ 4 29 (mB 8 31) HT_ HW_ hHeld ?_
      refine one_ (i := 5) (N := some 30) (mB 8 63) rfl rfl (one_of HT_.out (by kernel_rfl)) (by decide) (fun K hK => ?_)
      refine call_ 72 #[.agg #[.int .i64 y, .int .i64 z]] (by rfl) rfl (by have he := enters_ Try.func72 (by kernel_rfl) rfl #[.agg #[.int .i64 y, .int .i64 z]] Wd; unfold execOp; simp [resolve, Deferred.ofValue, invoke, Act.eval, he]) ?_
      with_reducible refine (CF.out Wd).mono ?_
      rintro e w2 ⟨rfl, hb⟩
      refine ⟨_, rfl, ?_⟩
      have HI2 := Aside0.mk (MI.next HID.out hb)
      have bX2 := blk_below (blk_below HBX0.out hWd) hb
      obtain ⟨hc0, hf0⟩ := Kd.R_celln 0 HI2.out.rc i HPQ.out.1 HPQ.out.2
      refine hK.out _ _ ⟨blk_cell HI2.out.o 1, blk_cell HI2.out.f 0, blk_cell bX2 0, blk_cell bX2 1⟩ (fun hHeld => ?_)
      have HBW := Aside0.mk (And.intro hWd hb)
      clear hK K hb bX2 hWd
      refine norm_ (a' := ?_) ?_ ?_
      rotate_left
      · show Act.put _ (some 30) _ = _
        simp only [Act.put, List.setIfInBounds_toArray, List.set_cons_zero, List.set_cons_succ, i64_w, i32_w]
        rfl
      refine pV_ 6 31 (mB 8 127) HT_ ?_
      refine last_ (i := 7) (N := none) (mB 8 255) rfl rfl (one_of HT_.out (by kernel_rfl)) (by decide) (fun K hK => ?_)
      refine skip_ (w1 := ?_) (by rfl) rfl ?_ ?_
      rotate_left
      · go_simp
        rfl
      refine hK.out _ _ ?_
      clear hK K
      refine done_ (done_of HT_.out (by kernel_rfl)) ?_
      unfold OnlyN
      gi_wp2
      have h := HI2.out
      have hsz := HI.out.bp.below.size
      have l1' := Boxed.lt HI.out.bp.box1
      have l2' := Boxed.lt HI.out.bp.box2
      have hszd := HID.out.bp.below.size
      have l1d := Boxed.lt HID.out.bp.box1
      have l2d := Boxed.lt HID.out.bp.box2
      obtain ⟨hg1, cells, hgc⟩ := row_block h.rc HN0.out
      have hgs : g < s := h.rc.1 g (by simp [Value.ownBlock])
      refine ⟨((KeepsOthers.of_grownBy (grown_of_below HBW.out.1 none) (fun _ _ e => by cases e)).trans ((KeepsOthers.of_grownBy (grown_of_below HBW.out.2 none) (fun _ _ e => by cases e)).trans (KeepsOthers.setCell _ _ _))).from _, ?_, ?_⟩
      · exact (keepBoxes_of HBW.out.1 hsz l1' l2').trans ((keepBoxes_of HBW.out.2 hszd l1d l2d).trans ⟨(Below.refl w.heap.size w2).setCell (p := ⟨g, i.toNat, none⟩) hg1 _, Below.heap_setCell _ _ _ _ (by simp; omega), Below.heap_setCell _ _ _ _ (by simp; omega)⟩)
      · have h2 := MI.put h HN0.out i v
        show MI _ _ _ _ _ _ _ _ _ _ _ _ _ _ _ _ _ _
        rw [putAll_snoc, HVV.out, show x.1 = i.toNat by have := HX.out; omega]
        exact h2
    case done =>
      rintro D ys W hD rfl hI hK
      rw [putAll_all] at hI
      have HI := Aside0.mk hI
      have HK := Aside0.mk hK
      have HD' := Aside0.mk hD
      have o0 := blk_cell hI.o 0
      have o1 := blk_cell hI.o 1
      have o2 := blk_cell hI.o 2
      have r0 := blk_cell hI.r 0
      have r1 := blk_cell hI.r 1
      have r2 := blk_cell hI.r 2
      have f0 := blk_frozen hI.r 0
      have f1 := blk_frozen hI.r 1
      have f2 := blk_frozen hI.r 2
      clear hI hK hD ST hI0
      gi_wp2
      go_wp2
      have h := HI.out
      have hDs : s + 2 ≤ D := by have := HD'.out; have := hS0.out; omega
      have hlt := h.lt
      have S3 := store3 h.r (.slice Av vars.length cv) (.slice Ac l1 cc) (.bool false)
      obtain ⟨W3, hW3⟩ : ∃ W3, (((W.setCell ⟨br, 0, none⟩ (.slice Av vars.length cv)).setCell ⟨br, 1, none⟩ (.slice Ac l1 cc)).setCell ⟨br, 2, none⟩ (.bool false)) = W3 := ⟨_, rfl⟩
      have hv := row_store3 h.r h.rv (by decide) (.slice Av vars.length cv) (.slice Ac l1 cc) (.bool false)
      have hc := row_store3 h.r h.rc (by decide) (.slice Av vars.length cv) (.slice Ac l1 cc) (.bool false)
      have hb : Below w.heap.size w (((W.setCell ⟨br, 0, none⟩ (.slice Av vars.length cv)).setCell ⟨br, 1, none⟩ (.slice Ac l1 cc)).setCell ⟨br, 2, none⟩ (.bool false)) := below_set (below_set (below_set h.bp.below h.lo.1) h.lo.1) h.lo.1
      rw [hW3] at S3 hv hc hb ⊢
      have hD3 : W3.heap[D]? = some (.deferred (some [])) := (S3.2 D (by omega)).trans HK.out
      refine ⟨by simp, .inl ⟨_, _, rfl, run_takeDeferred hD3, ?_⟩⟩
      refine ⟨_, results_cell_row rfl _ _ br 25 #[.slice Av vars.length cv, .slice Ac l1 cc, .bool false] (0, 0) _ rfl ((World.putObj_heap_other (by omega)).trans S3.1) Try.underlying25 rfl (by kernel_rfl), ?_⟩
      refine ⟨.slice Av vars.length cv, .slice Ac l1 cc, rfl, ?_, ?_, ?_⟩
      · exact Kd.R_mono (Kd.R_grown hv (grownBy_putObj' _ D (.deferred none)) (fun k hk e => by cases e; omega)) (fun _ _ => trivial)
      · have e : mixL mn n2 m1 m2 = (List.range l1).map fv := by
          unfold mixL; rw [HNN.out]; exact List.map_congr_left (fun k _ => HFV.out k)
        rw [e]
        exact Kd.R_mono (Kd.R_grown hc (grownBy_putObj' _ D (.deferred none)) (fun k hk e => by cases e; omega)) (fun _ _ => trivial)
      · exact hb.trans (belowK_b (w := w) (Nat.le_refl _) _ D _ _ (by have := h.bp.below.size; have := h.lo; omega) hD3 rfl rfl)
    case stop =>
      rintro D c' pre W _ _ h _
      exact h.elim
end Go.Proofs.Ytomgebmimgaojaa.QO
end
end
section
/- oct.Join and oct.Meet walked. Written by a program of this session. -/
noncomputable section
namespace Go.Proofs.Ytomgebmimgaojaa.QO
open Go.RowKit Go.Shelf Go.Proofs.YtomgebmimgaojaaW.PrintWords Go.Proofs.YtomgebmimgaojaaW.PrintLast Go.Proofs.YtomgebmimgaojaaW.PrintMore
attribute [local go_sem] Oper.semAt_some
attribute [local go_sem ↓] Go.wp_at_zero Go.wp_at_succ
set_option linter.unusedVariables false
set_option linter.unusedSimpArgs false
def join_T : Bool × List (List Nat × List Nat) := (true, [([], []), ([0], [0]), ([], []), ([2, 1], [2]), ([], []), ([], []), ([4, 1, 3, 0, 1, 4, 5], [1, 4]), ([5, 3, 6, 0, 1, 2, 3, 4, 5, 6], [3, 5])])
def join_B : List Nat := [0, 1, 0, 7, 0, 0, 63, 127]
theorem join_tab : rtab .any (opsOf Try.f36 1) = join_T := by kernel_rfl
theorem join_bits : waitsOk join_T.2 join_B = true := by kernel_rfl
/-- what Join answers to sound octagons over the same scalars -/
def joinF (vars m1 : List Int) (e1 : Bool) (m2 : List Int) (e2 : Bool) : List Int × List Int × Bool :=
  if (closeF vars m1 e1).2.2 = true then closeF vars m2 e2 else if (closeF vars m2 e2).2.2 = true then closeF vars m1 e1 else (vars, mixL mx (2 * vars.length) (closeF vars m1 e1).2.1 (closeF vars m2 e2).2.1, false)
/-- what Meet answers -/
def meetF (vars m1 : List Int) (e1 : Bool) (m2 : List Int) (e2 : Bool) : List Int × List Int × Bool :=
  if e1 = true ∨ e2 = true then (vars, [], true) else closeF vars (mixL mn (2 * vars.length) m1 m2) false
/-- what is answered lies in the result's box -/
theorem answer_ {w W1 : World} {br : Nat} (h : W1.heap[br]? = some (.cells #[.slice none 0 0, .slice none 0 0, .bool false] 25 (0, 0))) (hb : Below w.heap.size w W1) (hbr : w.heap.size ≤ br) {v0 v1 : Value} {r1 r2 : List Int} (h0 : Kd.R (Kd.int .i64) 3 W1 w.heap.size (fun _ => True) v0 r1) (h1 : Kd.R (Kd.int .i64) 2 W1 w.heap.size (fun _ => True) v1 r2) (b : Value) :
    Kd.R (Kd.int .i64) 3 (((W1.setCell ⟨br, 0, none⟩ v0).setCell ⟨br, 1, none⟩ v1).setCell ⟨br, 2, none⟩ b) w.heap.size (fun _ => True) v0 r1 ∧ Kd.R (Kd.int .i64) 2 (((W1.setCell ⟨br, 0, none⟩ v0).setCell ⟨br, 1, none⟩ v1).setCell ⟨br, 2, none⟩ b) w.heap.size (fun _ => True) v1 r2 ∧
      Below w.heap.size w (((W1.setCell ⟨br, 0, none⟩ v0).setCell ⟨br, 1, none⟩ v1).setCell ⟨br, 2, none⟩ b) :=
  ⟨row_store3 h h0 (by decide) _ _ _, row_store3 h h1 (by decide) _ _ _, below_set (below_set (below_set hb hbr) hbr) hbr⟩
set_option maxHeartbeats 16000000 in
set_option maxRecDepth 100000 in
theorem oct_Join_any (A0 : Option Addr) (c0 : Nat) (vars : List Int) (A1 : Option Addr) (c1 : Nat) (m1 : List Int) (e1 : Bool) (A2 : Option Addr) (c2 : Nat) (vars2 : List Int) (A3 : Option Addr) (c3 : Nat) (m2 : List Int) (e2 : Bool) (w : World)
    (hr0 : Kd.C (Kd.int .i64) w A0 vars.length vars) (hc0 : vars.length ≤ c0) (hr1 : Kd.C (Kd.int .i64) w A1 m1.length m1) (hc1 : m1.length ≤ c1)
    (hr2 : Kd.C (Kd.int .i64) w A2 vars2.length vars2) (hc2 : vars2.length ≤ c2) (hr3 : Kd.C (Kd.int .i64) w A3 m2.length m2) (hc3 : m2.length ≤ c3)
    (hf1 : OFit vars m1 e1) (hf2 : OFit vars2 m2 e2) (hvv : vars2 = vars) : Calls Try.prog 36 #[.agg #[.slice A0 vars.length c0, .slice A1 m1.length c1, .bool e1], .agg #[.slice A2 vars2.length c2, .slice A3 m2.length c3, .bool e2]] w fun e w' => ∃ v0_ v1_ : Value, e = .returned (.agg #[v0_, v1_, .bool (joinF vars m1 e1 m2 e2).2.2]) ∧
      Kd.R (Kd.int .i64) 3 w' w.heap.size (fun _ => True) v0_ (joinF vars m1 e1 m2 e2).1 ∧ Kd.R (Kd.int .i64) 2 w' w.heap.size (fun _ => True) v1_ (joinF vars m1 e1 m2 e2).2.1 ∧ Below w.heap.size w w' := by
  obtain ⟨ans, hans⟩ : ∃ a, joinF vars m1 e1 m2 e2 = a := ⟨_, rfl⟩
  rw [hans]
  have HAN := Aside0.mk hans
  clear hans
  have hu25 := Try.underlying25
  have hms := meth_size
  have HF := Aside0.mk (And.intro hf1 (And.intro hf2 hvv))
  obtain ⟨C1, hC1⟩ : ∃ C, closeF vars m1 e1 = C := ⟨_, rfl⟩
  obtain ⟨C2, hC2⟩ : ∃ C, closeF vars2 m2 e2 = C := ⟨_, rfl⟩
  have HC1 := Aside0.mk hC1
  have HC2 := Aside0.mk hC2
  have CLO1 := Aside0.mk (fun (W : World) (hW : Below w.heap.size w W) => oct_Close_any A0 c0 vars A1 c1 m1 e1 W (Kd.C_below hr0 hW) hc0 (Kd.C_below hr1 hW) hc1 hf1)
  have CLO2 := Aside0.mk (fun (W : World) (hW : Below w.heap.size w W) => oct_Close_any A2 c2 vars2 A3 c3 m2 e2 W (Kd.C_below hr2 hW) hc2 (Kd.C_below hr3 hW) hc3 hf2)
  rw [hC1] at CLO1
  rw [hC2] at CLO2
  clear hr0 hr1 hr2 hr3 hc0 hc1 hc2 hc3 hf1 hf2 hvv
  go_enter Try.func36, Try.ntmps36
  go_wp2
  obtain ⟨W3, hW3⟩ : ∃ W3, ((w.alloc (.cells #[.slice A0 vars.length c0, .slice A1 m1.length c1, .bool e1] 25)).alloc (.cells #[.slice A2 vars2.length c2, .slice A3 m2.length c3, .bool e2] 25)).alloc (.cells #[.slice none 0 0, .slice none 0 0, .bool false] 25) = W3 := ⟨_, rfl⟩
  obtain ⟨ba, hba⟩ : ∃ b, w.heap.size = b := ⟨_, rfl⟩
  obtain ⟨bb, hbb⟩ : ∃ b, w.heap.size + 1 = b := ⟨_, rfl⟩
  obtain ⟨br, hbr⟩ : ∃ b, w.heap.size + 1 + 1 = b := ⟨_, rfl⟩
  obtain ⟨ro, hro⟩ : ∃ ro : Obj, Obj.cells #[.slice none 0 0, .slice none 0 0, .bool false] 25 (0, 0) = ro := ⟨_, rfl⟩
  have HRO := Aside0.mk hro
  have HX0 : Aside0 (PX w ba bb br #[.slice A0 vars.length c0, .slice A1 m1.length c1, .bool e1] #[.slice A2 vars2.length c2, .slice A3 m2.length c3, .bool e2] ro undef undef undef undef C1.1 C1.2.1 C2.1 C2.2.1 0 0 0 false false false false W3.drew) := ⟨by
    rw [← hW3, ← hba, ← hbb, ← hbr, ← hro]
    refine ⟨below_drew (below_alloc (below_alloc (below_alloc (Below.refl _ _) _) _) _), blk_drew (blk_alloc (blk_alloc (blk_new _ _) _) _), blk_drew (blk_alloc ?_ _), blk_drew ?_, fun e => (by cases e), fun e => (by cases e), fun e => (by cases e), fun e => (by cases e), fun e => (by cases e)⟩
    · have h := blk_new (w.alloc (.cells #[.slice A0 vars.length c0, .slice A1 m1.length c1, .bool e1] 25)) (.cells #[.slice A2 vars2.length c2, .slice A3 m2.length c3, .bool e2] 25); simpa using h
    · have h := blk_new ((w.alloc (.cells #[.slice A0 vars.length c0, .slice A1 m1.length c1, .bool e1] 25)).alloc (.cells #[.slice A2 vars2.length c2, .slice A3 m2.length c3, .bool e2] 25)) (.cells #[.slice none 0 0, .slice none 0 0, .bool false] 25); simpa using h⟩
  have HBR : Aside0 (w.heap.size ≤ br) := ⟨by omega⟩
  rw [hW3]
  rw [hbr, hbb, hba]
  clear hW3 hbr hbb hba hC1 hC2 hro
  refine startN_ (n := 8) (S := fun w' => w'.cell? ⟨ba, 0, none⟩ = some (.slice A0 vars.length c0) ∧ w'.cell? ⟨ba, 1, none⟩ = some (.slice A1 m1.length c1) ∧ w'.cell? ⟨ba, 2, none⟩ = some (.bool e1) ∧ w'.cell? ⟨bb, 0, none⟩ = some (.slice A2 vars2.length c2) ∧ w'.cell? ⟨bb, 1, none⟩ = some (.slice A3 m2.length c3) ∧ w'.cell? ⟨bb, 2, none⟩ = some (.bool e2)) (ds := [6, 7]) (mB 8 0) (by kernel_rfl) rfl (by kernel_rfl) HX0.out.held (fun hHeld => ?_)
  refine with_tabW join_tab join_bits (fun HT_ HW_ => ?_)
  generalize W3.drew = Wd at HX0 hHeld ⊢
  refine tV_ 0 7 (mB 8 1) HT_ HW_ hHeld ?_
  refine tV_ 2 9 (mB 8 5) HT_ HW_ hHeld ?_
  refine join_ (σ := Value × Value × Value × Value × Nat × Nat × Nat) 2 (mB 8 63) (fun s_ => [(8, .agg #[s_.1, s_.2.1, .bool C1.2.2]), (10, .agg #[s_.2.2.1, s_.2.2.2.1, .bool C2.2.2]), (5, .pointer (some ⟨s_.2.2.2.2.1, 0, none⟩)), (6, .pointer (some ⟨s_.2.2.2.2.2.1, 0, none⟩))]) (fun s_ w' => PX w ba bb br #[.slice A0 vars.length c0, .slice A1 m1.length c1, .bool e1] #[.slice A2 vars2.length c2, .slice A3 m2.length c3, .bool e2] ro s_.1 s_.2.1 s_.2.2.1 s_.2.2.2.1 C1.1 C1.2.1 C2.1 C2.2.1 s_.2.2.2.2.1 s_.2.2.2.2.2.1 s_.2.2.2.2.2.2 true true true true w') ?_ ?_
  rotate_left
  · intro hJ
    refine three_ (i := 1) (j := 4) (k := 5) (Ni := some 8) (Nj := some 5) (Nk := some 6) (mB 8 7) (mB 8 21) (mB 8 37) rfl rfl rfl rfl rfl rfl (three_of HT_.out (by kernel_rfl)) (by decide) (by decide) (by decide) (fun K hK => ?_) (fun K hK => ?_) (fun K hK => ?_)
    ·
     refine goes_ Try.func22 (by kernel_rfl) rfl #[.agg #[.slice A0 vars.length c0, .slice A1 m1.length c1, .bool e1]] (by rfl) rfl rfl vL ?_
     with_reducible refine (CLO1.out _ HX0.out.below).mono ?_
     rintro e w1 ⟨u1_, t1_, rfl, h1, h2, hb⟩; refine ⟨_, rfl, ?_⟩
     have HX1 := Aside0.mk (PX.c1 HX0.out h1 h2 hb)
     refine hK.out _ _ HX1.out.held (fun hHeld => ?_)
     clear hK K hb h1 h2
     refine nO_ 8 ?_
     refine three_ (i := 3) (j := 4) (k := 5) (Ni := some 10) (Nj := some 5) (Nk := some 6) (mB 8 15) (mB 8 23) (mB 8 39) rfl rfl rfl rfl rfl rfl (three_of HT_.out (by kernel_rfl)) (by decide) (by decide) (by decide) (fun K hK => ?_) (fun K hK => ?_) (fun K hK => ?_)
     ·
      refine goes_ Try.func22 (by kernel_rfl) rfl #[.agg #[.slice A2 vars2.length c2, .slice A3 m2.length c3, .bool e2]] (by rfl) rfl rfl vL ?_
      with_reducible refine (CLO2.out _ HX1.out.below).mono ?_
      rintro e w2 ⟨u2_, t2_, rfl, h1, h2, hb⟩; refine ⟨_, rfl, ?_⟩
      have HX2 := Aside0.mk (PX.c3 HX1.out h1 h2 hb)
      refine hK.out _ _ HX2.out.held (fun hHeld => ?_)
      clear hK K hb h1 h2
      refine nO_ 10 ?_
      refine two_ (i := 4) (j := 5) (Ni := some 5) (Nj := some 6) (mB 8 31) (mB 8 47) rfl rfl rfl rfl (two_of HT_.out (by kernel_rfl)) (by decide) (by decide) (fun K hK => ?_) (fun K hK => ?_)
      ·
       refine box_step ?hg (N := 5) ?hd (cs := #[.slice none 0 0, .slice none 0 0, .bool false]) (t := 25) ?hr ?_; (case hd => rfl); (case hg => rfl); (case hr => first | (go_simp; done) | (go_simp; rfl))
       intro g3_ hg w3 hbox hb
       have HX3 := Aside0.mk (PX.a4 HX2.out hg hbox hb)
       refine hK.out _ _ HX3.out.held (fun hHeld => ?_)
       clear hK K hb hg hbox
       refine nO_ 5 ?_
       refine one_ (i := 5) (N := some 6) (mB 8 63) rfl rfl (one_of HT_.out (by kernel_rfl)) (by decide) (fun K hK => ?_)
       refine box_step ?hg (N := 6) ?hd (cs := #[.slice none 0 0, .slice none 0 0, .bool false]) (t := 25) ?hr ?_; (case hd => rfl); (case hg => rfl); (case hr => first | (go_simp; done) | (go_simp; rfl))
       intro g4_ hg w4 hbox hb
       have HX4 := Aside0.mk (PX.a5 HX3.out hg hbox hb)
       refine hK.out _ _ HX4.out.held (fun hHeld => ?_)
       clear hK K hb hg hbox
       refine nO_ 6 ?_
       exact nP_ (hJ (u1_, t1_, u2_, t2_, g3_, g4_, w1.heap.size) _ HX4.out)
      ·
       refine box_step ?hg (N := 6) ?hd (cs := #[.slice none 0 0, .slice none 0 0, .bool false]) (t := 25) ?hr ?_; (case hd => rfl); (case hg => rfl); (case hr => first | (go_simp; done) | (go_simp; rfl))
       intro g5_ hg w5 hbox hb
       have HX5 := Aside0.mk (PX.a5 HX2.out hg hbox hb)
       refine hK.out _ _ HX5.out.held (fun hHeld => ?_)
       clear hK K hb hg hbox
       refine nO_ 6 ?_
       refine one_ (i := 4) (N := some 5) (mB 8 63) rfl rfl (one_of HT_.out (by kernel_rfl)) (by decide) (fun K hK => ?_)
       refine box_step ?hg (N := 5) ?hd (cs := #[.slice none 0 0, .slice none 0 0, .bool false]) (t := 25) ?hr ?_; (case hd => rfl); (case hg => rfl); (case hr => first | (go_simp; done) | (go_simp; rfl))
       intro g6_ hg w6 hbox hb
       have HX6 := Aside0.mk (PX.a4 HX5.out hg hbox hb)
       refine hK.out _ _ HX6.out.held (fun hHeld => ?_)
       clear hK K hb hg hbox
       refine nO_ 5 ?_
       exact nP_ (hJ (u1_, t1_, u2_, t2_, g6_, g5_, w1.heap.size) _ HX6.out)
     ·
      refine box_step ?hg (N := 5) ?hd (cs := #[.slice none 0 0, .slice none 0 0, .bool false]) (t := 25) ?hr ?_; (case hd => rfl); (case hg => rfl); (case hr => first | (go_simp; done) | (go_simp; rfl))
      intro g7_ hg w7 hbox hb
      have HX7 := Aside0.mk (PX.a4 HX1.out hg hbox hb)
      refine hK.out _ _ HX7.out.held (fun hHeld => ?_)
      clear hK K hb hg hbox
      refine nO_ 5 ?_
      refine two_ (i := 3) (j := 5) (Ni := some 10) (Nj := some 6) (mB 8 31) (mB 8 55) rfl rfl rfl rfl (two_of HT_.out (by kernel_rfl)) (by decide) (by decide) (fun K hK => ?_) (fun K hK => ?_)
      ·
       refine goes_ Try.func22 (by kernel_rfl) rfl #[.agg #[.slice A2 vars2.length c2, .slice A3 m2.length c3, .bool e2]] (by rfl) rfl rfl vL ?_
       with_reducible refine (CLO2.out _ HX7.out.below).mono ?_
       rintro e w8 ⟨u8_, t8_, rfl, h1, h2, hb⟩; refine ⟨_, rfl, ?_⟩
       have HX8 := Aside0.mk (PX.c3 HX7.out h1 h2 hb)
       refine hK.out _ _ HX8.out.held (fun hHeld => ?_)
       clear hK K hb h1 h2
       refine nO_ 10 ?_
       refine one_ (i := 5) (N := some 6) (mB 8 63) rfl rfl (one_of HT_.out (by kernel_rfl)) (by decide) (fun K hK => ?_)
       refine box_step ?hg (N := 6) ?hd (cs := #[.slice none 0 0, .slice none 0 0, .bool false]) (t := 25) ?hr ?_; (case hd => rfl); (case hg => rfl); (case hr => first | (go_simp; done) | (go_simp; rfl))
       intro g9_ hg w9 hbox hb
       have HX9 := Aside0.mk (PX.a5 HX8.out hg hbox hb)
       refine hK.out _ _ HX9.out.held (fun hHeld => ?_)
       clear hK K hb hg hbox
       refine nO_ 6 ?_
       exact nP_ (hJ (u1_, t1_, u8_, t8_, g7_, g9_, w1.heap.size) _ HX9.out)
      ·
       refine box_step ?hg (N := 6) ?hd (cs := #[.slice none 0 0, .slice none 0 0, .bool false]) (t := 25) ?hr ?_; (case hd => rfl); (case hg => rfl); (case hr => first | (go_simp; done) | (go_simp; rfl))
       intro g10_ hg w10 hbox hb
       have HX10 := Aside0.mk (PX.a5 HX7.out hg hbox hb)
       refine hK.out _ _ HX10.out.held (fun hHeld => ?_)
       clear hK K hb hg hbox
       refine nO_ 6 ?_
       refine one_ (i := 3) (N := some 10) (mB 8 63) rfl rfl (one_of HT_.out (by kernel_rfl)) (by decide) (fun K hK => ?_)
       refine goes_ Try.func22 (by kernel_rfl) rfl #[.agg #[.slice A2 vars2.length c2, .slice A3 m2.length c3, .bool e2]] (by rfl) rfl rfl vL ?_
       with_reducible refine (CLO2.out _ HX10.out.below).mono ?_
       rintro e w11 ⟨u11_, t11_, rfl, h1, h2, hb⟩; refine ⟨_, rfl, ?_⟩
       have HX11 := Aside0.mk (PX.c3 HX10.out h1 h2 hb)
       refine hK.out _ _ HX11.out.held (fun hHeld => ?_)
       clear hK K hb h1 h2
       refine nO_ 10 ?_
       exact nP_ (hJ (u1_, t1_, u11_, t11_, g7_, g10_, w1.heap.size) _ HX11.out)
     ·
      refine box_step ?hg (N := 6) ?hd (cs := #[.slice none 0 0, .slice none 0 0, .bool false]) (t := 25) ?hr ?_; (case hd => rfl); (case hg => rfl); (case hr => first | (go_simp; done) | (go_simp; rfl))
      intro g12_ hg w12 hbox hb
      have HX12 := Aside0.mk (PX.a5 HX1.out hg hbox hb)
      refine hK.out _ _ HX12.out.held (fun hHeld => ?_)
      clear hK K hb hg hbox
      refine nO_ 6 ?_
      refine two_ (i := 3) (j := 4) (Ni := some 10) (Nj := some 5) (mB 8 47) (mB 8 55) rfl rfl rfl rfl (two_of HT_.out (by kernel_rfl)) (by decide) (by decide) (fun K hK => ?_) (fun K hK => ?_)
      ·
       refine goes_ Try.func22 (by kernel_rfl) rfl #[.agg #[.slice A2 vars2.length c2, .slice A3 m2.length c3, .bool e2]] (by rfl) rfl rfl vL ?_
       with_reducible refine (CLO2.out _ HX12.out.below).mono ?_
       rintro e w13 ⟨u13_, t13_, rfl, h1, h2, hb⟩; refine ⟨_, rfl, ?_⟩
       have HX13 := Aside0.mk (PX.c3 HX12.out h1 h2 hb)
       refine hK.out _ _ HX13.out.held (fun hHeld => ?_)
       clear hK K hb h1 h2
       refine nO_ 10 ?_
       refine one_ (i := 4) (N := some 5) (mB 8 63) rfl rfl (one_of HT_.out (by kernel_rfl)) (by decide) (fun K hK => ?_)
       refine box_step ?hg (N := 5) ?hd (cs := #[.slice none 0 0, .slice none 0 0, .bool false]) (t := 25) ?hr ?_; (case hd => rfl); (case hg => rfl); (case hr => first | (go_simp; done) | (go_simp; rfl))
       intro g14_ hg w14 hbox hb
       have HX14 := Aside0.mk (PX.a4 HX13.out hg hbox hb)
       refine hK.out _ _ HX14.out.held (fun hHeld => ?_)
       clear hK K hb hg hbox
       refine nO_ 5 ?_
       exact nP_ (hJ (u1_, t1_, u13_, t13_, g14_, g12_, w1.heap.size) _ HX14.out)
      ·
       refine box_step ?hg (N := 5) ?hd (cs := #[.slice none 0 0, .slice none 0 0, .bool false]) (t := 25) ?hr ?_; (case hd => rfl); (case hg => rfl); (case hr => first | (go_simp; done) | (go_simp; rfl))
       intro g15_ hg w15 hbox hb
       have HX15 := Aside0.mk (PX.a4 HX12.out hg hbox hb)
       refine hK.out _ _ HX15.out.held (fun hHeld => ?_)
       clear hK K hb hg hbox
       refine nO_ 5 ?_
       refine one_ (i := 3) (N := some 10) (mB 8 63) rfl rfl (one_of HT_.out (by kernel_rfl)) (by decide) (fun K hK => ?_)
       refine goes_ Try.func22 (by kernel_rfl) rfl #[.agg #[.slice A2 vars2.length c2, .slice A3 m2.length c3, .bool e2]] (by rfl) rfl rfl vL ?_
       with_reducible refine (CLO2.out _ HX15.out.below).mono ?_
       rintro e w16 ⟨u16_, t16_, rfl, h1, h2, hb⟩; refine ⟨_, rfl, ?_⟩
       have HX16 := Aside0.mk (PX.c3 HX15.out h1 h2 hb)
       refine hK.out _ _ HX16.out.held (fun hHeld => ?_)
       clear hK K hb h1 h2
       refine nO_ 10 ?_
       exact nP_ (hJ (u1_, t1_, u16_, t16_, g15_, g12_, w1.heap.size) _ HX16.out)
    ·
     refine box_step ?hg (N := 5) ?hd (cs := #[.slice none 0 0, .slice none 0 0, .bool false]) (t := 25) ?hr ?_; (case hd => rfl); (case hg => rfl); (case hr => first | (go_simp; done) | (go_simp; rfl))
     intro g17_ hg w17 hbox hb
     have HX17 := Aside0.mk (PX.a4 HX0.out hg hbox hb)
     refine hK.out _ _ HX17.out.held (fun hHeld => ?_)
     clear hK K hb hg hbox
     refine nO_ 5 ?_
     refine two_ (i := 1) (j := 5) (Ni := some 8) (Nj := some 6) (mB 8 23) (mB 8 53) rfl rfl rfl rfl (two_of HT_.out (by kernel_rfl)) (by decide) (by decide) (fun K hK => ?_) (fun K hK => ?_)
     ·
      refine goes_ Try.func22 (by kernel_rfl) rfl #[.agg #[.slice A0 vars.length c0, .slice A1 m1.length c1, .bool e1]] (by rfl) rfl rfl vL ?_
      with_reducible refine (CLO1.out _ HX17.out.below).mono ?_
      rintro e w18 ⟨u18_, t18_, rfl, h1, h2, hb⟩; refine ⟨_, rfl, ?_⟩
      have HX18 := Aside0.mk (PX.c1 HX17.out h1 h2 hb)
      refine hK.out _ _ HX18.out.held (fun hHeld => ?_)
      clear hK K hb h1 h2
      refine nO_ 8 ?_
      refine two_ (i := 3) (j := 5) (Ni := some 10) (Nj := some 6) (mB 8 31) (mB 8 55) rfl rfl rfl rfl (two_of HT_.out (by kernel_rfl)) (by decide) (by decide) (fun K hK => ?_) (fun K hK => ?_)
      ·
       refine goes_ Try.func22 (by kernel_rfl) rfl #[.agg #[.slice A2 vars2.length c2, .slice A3 m2.length c3, .bool e2]] (by rfl) rfl rfl vL ?_
       with_reducible refine (CLO2.out _ HX18.out.below).mono ?_
       rintro e w19 ⟨u19_, t19_, rfl, h1, h2, hb⟩; refine ⟨_, rfl, ?_⟩
       have HX19 := Aside0.mk (PX.c3 HX18.out h1 h2 hb)
       refine hK.out _ _ HX19.out.held (fun hHeld => ?_)
       clear hK K hb h1 h2
       refine nO_ 10 ?_
       refine one_ (i := 5) (N := some 6) (mB 8 63) rfl rfl (one_of HT_.out (by kernel_rfl)) (by decide) (fun K hK => ?_)
       refine box_step ?hg (N := 6) ?hd (cs := #[.slice none 0 0, .slice none 0 0, .bool false]) (t := 25) ?hr ?_; (case hd => rfl); (case hg => rfl); (case hr => first | (go_simp; done) | (go_simp; rfl))
       intro g20_ hg w20 hbox hb
       have HX20 := Aside0.mk (PX.a5 HX19.out hg hbox hb)
       refine hK.out _ _ HX20.out.held (fun hHeld => ?_)
       clear hK K hb hg hbox
       refine nO_ 6 ?_
       exact nP_ (hJ (u18_, t18_, u19_, t19_, g17_, g20_, w18.heap.size) _ HX20.out)
      ·
       refine box_step ?hg (N := 6) ?hd (cs := #[.slice none 0 0, .slice none 0 0, .bool false]) (t := 25) ?hr ?_; (case hd => rfl); (case hg => rfl); (case hr => first | (go_simp; done) | (go_simp; rfl))
       intro g21_ hg w21 hbox hb
       have HX21 := Aside0.mk (PX.a5 HX18.out hg hbox hb)
       refine hK.out _ _ HX21.out.held (fun hHeld => ?_)
       clear hK K hb hg hbox
       refine nO_ 6 ?_
       refine one_ (i := 3) (N := some 10) (mB 8 63) rfl rfl (one_of HT_.out (by kernel_rfl)) (by decide) (fun K hK => ?_)
       refine goes_ Try.func22 (by kernel_rfl) rfl #[.agg #[.slice A2 vars2.length c2, .slice A3 m2.length c3, .bool e2]] (by rfl) rfl rfl vL ?_
       with_reducible refine (CLO2.out _ HX21.out.below).mono ?_
       rintro e w22 ⟨u22_, t22_, rfl, h1, h2, hb⟩; refine ⟨_, rfl, ?_⟩
       have HX22 := Aside0.mk (PX.c3 HX21.out h1 h2 hb)
       refine hK.out _ _ HX22.out.held (fun hHeld => ?_)
       clear hK K hb h1 h2
       refine nO_ 10 ?_
       exact nP_ (hJ (u18_, t18_, u22_, t22_, g17_, g21_, w18.heap.size) _ HX22.out)
     ·
      refine box_step ?hg (N := 6) ?hd (cs := #[.slice none 0 0, .slice none 0 0, .bool false]) (t := 25) ?hr ?_; (case hd => rfl); (case hg => rfl); (case hr => first | (go_simp; done) | (go_simp; rfl))
      intro g23_ hg w23 hbox hb
      have HX23 := Aside0.mk (PX.a5 HX17.out hg hbox hb)
      refine hK.out _ _ HX23.out.held (fun hHeld => ?_)
      clear hK K hb hg hbox
      refine nO_ 6 ?_
      refine one_ (i := 1) (N := some 8) (mB 8 55) rfl rfl (one_of HT_.out (by kernel_rfl)) (by decide) (fun K hK => ?_)
      refine goes_ Try.func22 (by kernel_rfl) rfl #[.agg #[.slice A0 vars.length c0, .slice A1 m1.length c1, .bool e1]] (by rfl) rfl rfl vL ?_
      with_reducible refine (CLO1.out _ HX23.out.below).mono ?_
      rintro e w24 ⟨u24_, t24_, rfl, h1, h2, hb⟩; refine ⟨_, rfl, ?_⟩
      have HX24 := Aside0.mk (PX.c1 HX23.out h1 h2 hb)
      refine hK.out _ _ HX24.out.held (fun hHeld => ?_)
      clear hK K hb h1 h2
      refine nO_ 8 ?_
      refine one_ (i := 3) (N := some 10) (mB 8 63) rfl rfl (one_of HT_.out (by kernel_rfl)) (by decide) (fun K hK => ?_)
      refine goes_ Try.func22 (by kernel_rfl) rfl #[.agg #[.slice A2 vars2.length c2, .slice A3 m2.length c3, .bool e2]] (by rfl) rfl rfl vL ?_
      with_reducible refine (CLO2.out _ HX24.out.below).mono ?_
      rintro e w25 ⟨u25_, t25_, rfl, h1, h2, hb⟩; refine ⟨_, rfl, ?_⟩
      have HX25 := Aside0.mk (PX.c3 HX24.out h1 h2 hb)
      refine hK.out _ _ HX25.out.held (fun hHeld => ?_)
      clear hK K hb h1 h2
      refine nO_ 10 ?_
      exact nP_ (hJ (u24_, t24_, u25_, t25_, g17_, g23_, w24.heap.size) _ HX25.out)
    ·
     refine box_step ?hg (N := 6) ?hd (cs := #[.slice none 0 0, .slice none 0 0, .bool false]) (t := 25) ?hr ?_; (case hd => rfl); (case hg => rfl); (case hr => first | (go_simp; done) | (go_simp; rfl))
     intro g26_ hg w26 hbox hb
     have HX26 := Aside0.mk (PX.a5 HX0.out hg hbox hb)
     refine hK.out _ _ HX26.out.held (fun hHeld => ?_)
     clear hK K hb hg hbox
     refine nO_ 6 ?_
     refine two_ (i := 1) (j := 4) (Ni := some 8) (Nj := some 5) (mB 8 39) (mB 8 53) rfl rfl rfl rfl (two_of HT_.out (by kernel_rfl)) (by decide) (by decide) (fun K hK => ?_) (fun K hK => ?_)
     ·
      refine goes_ Try.func22 (by kernel_rfl) rfl #[.agg #[.slice A0 vars.length c0, .slice A1 m1.length c1, .bool e1]] (by rfl) rfl rfl vL ?_
      with_reducible refine (CLO1.out _ HX26.out.below).mono ?_
      rintro e w27 ⟨u27_, t27_, rfl, h1, h2, hb⟩; refine ⟨_, rfl, ?_⟩
      have HX27 := Aside0.mk (PX.c1 HX26.out h1 h2 hb)
      refine hK.out _ _ HX27.out.held (fun hHeld => ?_)
      clear hK K hb h1 h2
      refine nO_ 8 ?_
      refine two_ (i := 3) (j := 4) (Ni := some 10) (Nj := some 5) (mB 8 47) (mB 8 55) rfl rfl rfl rfl (two_of HT_.out (by kernel_rfl)) (by decide) (by decide) (fun K hK => ?_) (fun K hK => ?_)
      ·
       refine goes_ Try.func22 (by kernel_rfl) rfl #[.agg #[.slice A2 vars2.length c2, .slice A3 m2.length c3, .bool e2]] (by rfl) rfl rfl vL ?_
       with_reducible refine (CLO2.out _ HX27.out.below).mono ?_
       rintro e w28 ⟨u28_, t28_, rfl, h1, h2, hb⟩; refine ⟨_, rfl, ?_⟩
       have HX28 := Aside0.mk (PX.c3 HX27.out h1 h2 hb)
       refine hK.out _ _ HX28.out.held (fun hHeld => ?_)
       clear hK K hb h1 h2
       refine nO_ 10 ?_
       refine one_ (i := 4) (N := some 5) (mB 8 63) rfl rfl (one_of HT_.out (by kernel_rfl)) (by decide) (fun K hK => ?_)
       refine box_step ?hg (N := 5) ?hd (cs := #[.slice none 0 0, .slice none 0 0, .bool false]) (t := 25) ?hr ?_; (case hd => rfl); (case hg => rfl); (case hr => first | (go_simp; done) | (go_simp; rfl))
       intro g29_ hg w29 hbox hb
       have HX29 := Aside0.mk (PX.a4 HX28.out hg hbox hb)
       refine hK.out _ _ HX29.out.held (fun hHeld => ?_)
       clear hK K hb hg hbox
       refine nO_ 5 ?_
       exact nP_ (hJ (u27_, t27_, u28_, t28_, g29_, g26_, w27.heap.size) _ HX29.out)
      ·
       refine box_step ?hg (N := 5) ?hd (cs := #[.slice none 0 0, .slice none 0 0, .bool false]) (t := 25) ?hr ?_; (case hd => rfl); (case hg => rfl); (case hr => first | (go_simp; done) | (go_simp; rfl))
       intro g30_ hg w30 hbox hb
       have HX30 := Aside0.mk (PX.a4 HX27.out hg hbox hb)
       refine hK.out _ _ HX30.out.held (fun hHeld => ?_)
       clear hK K hb hg hbox
       refine nO_ 5 ?_
       refine one_ (i := 3) (N := some 10) (mB 8 63) rfl rfl (one_of HT_.out (by kernel_rfl)) (by decide) (fun K hK => ?_)
       refine goes_ Try.func22 (by kernel_rfl) rfl #[.agg #[.slice A2 vars2.length c2, .slice A3 m2.length c3, .bool e2]] (by rfl) rfl rfl vL ?_
       with_reducible refine (CLO2.out _ HX30.out.below).mono ?_
       rintro e w31 ⟨u31_, t31_, rfl, h1, h2, hb⟩; refine ⟨_, rfl, ?_⟩
       have HX31 := Aside0.mk (PX.c3 HX30.out h1 h2 hb)
       refine hK.out _ _ HX31.out.held (fun hHeld => ?_)
       clear hK K hb h1 h2
       refine nO_ 10 ?_
       exact nP_ (hJ (u27_, t27_, u31_, t31_, g30_, g26_, w27.heap.size) _ HX31.out)
     ·
      refine box_step ?hg (N := 5) ?hd (cs := #[.slice none 0 0, .slice none 0 0, .bool false]) (t := 25) ?hr ?_; (case hd => rfl); (case hg => rfl); (case hr => first | (go_simp; done) | (go_simp; rfl))
      intro g32_ hg w32 hbox hb
      have HX32 := Aside0.mk (PX.a4 HX26.out hg hbox hb)
      refine hK.out _ _ HX32.out.held (fun hHeld => ?_)
      clear hK K hb hg hbox
      refine nO_ 5 ?_
      refine one_ (i := 1) (N := some 8) (mB 8 55) rfl rfl (one_of HT_.out (by kernel_rfl)) (by decide) (fun K hK => ?_)
      refine goes_ Try.func22 (by kernel_rfl) rfl #[.agg #[.slice A0 vars.length c0, .slice A1 m1.length c1, .bool e1]] (by rfl) rfl rfl vL ?_
      with_reducible refine (CLO1.out _ HX32.out.below).mono ?_
      rintro e w33 ⟨u33_, t33_, rfl, h1, h2, hb⟩; refine ⟨_, rfl, ?_⟩
      have HX33 := Aside0.mk (PX.c1 HX32.out h1 h2 hb)
      refine hK.out _ _ HX33.out.held (fun hHeld => ?_)
      clear hK K hb h1 h2
      refine nO_ 8 ?_
      refine one_ (i := 3) (N := some 10) (mB 8 63) rfl rfl (one_of HT_.out (by kernel_rfl)) (by decide) (fun K hK => ?_)
      refine goes_ Try.func22 (by kernel_rfl) rfl #[.agg #[.slice A2 vars2.length c2, .slice A3 m2.length c3, .bool e2]] (by rfl) rfl rfl vL ?_
      with_reducible refine (CLO2.out _ HX33.out.below).mono ?_
      rintro e w34 ⟨u34_, t34_, rfl, h1, h2, hb⟩; refine ⟨_, rfl, ?_⟩
      have HX34 := Aside0.mk (PX.c3 HX33.out h1 h2 hb)
      refine hK.out _ _ HX34.out.held (fun hHeld => ?_)
      clear hK K hb h1 h2
      refine nO_ 10 ?_
      exact nP_ (hJ (u33_, t33_, u34_, t34_, g32_, g26_, w33.heap.size) _ HX34.out)
  rintro ⟨v1, v2, v3, v4, b5, b6, s⟩ W4 HX4
  dsimp only at HX4
  obtain ⟨P1, p1, q1⟩ := Kd.R_slice (HX4.r1 rfl).1
  obtain ⟨P2, p2, q2⟩ := Kd.R_slice (HX4.r1 rfl).2.1
  obtain ⟨P3, p3, q3⟩ := Kd.R_slice (HX4.r3 rfl).1
  obtain ⟨P4, p4, q4⟩ := Kd.R_slice (HX4.r3 rfl).2
  subst q1 q2 q3 q4
  have HX5 := Aside0.mk HX4
  obtain ⟨k5, _⟩ := HX4.x5 rfl
  obtain ⟨k6, _⟩ := HX4.x6 rfl
  have kne := HX4.ne rfl rfl
  have kne' := fun e => kne (Eq.symm e)
  have k50 := blk_cell k5 0
  have k51 := blk_cell k5 1
  have k52 := blk_cell k5 2
  have k60 := blk_cell k6 0
  have k61 := blk_cell k6 1
  have k62 := blk_cell k6 2
  have f50 := blk_frozen k5 0
  have f51 := blk_frozen k5 1
  have f52 := blk_frozen k5 2
  have f60 := blk_frozen k6 0
  have f61 := blk_frozen k6 1
  have f62 := blk_frozen k6 2
  clear HX4 k5 k6 hHeld HX0
  dsimp only at *
  refine nS_ ?_
  refine last_ (i := 6) (N := none) (mB 8 127) rfl rfl (one_of HT_.out (by kernel_rfl)) (by decide) (fun K hK => ?_)
  refine skip_ (w1 := ?_) (by rfl) rfl ?_ ?_
  rotate_left
  · go_simp
    rfl
  refine hK.out _ _ ?_
  clear hK K
  refine last_ (i := 7) (N := none) (mB 8 255) rfl rfl (one_of HT_.out (by kernel_rfl)) (by decide) (fun K hK => ?_)
  refine skip_ (w1 := ?_) (by rfl) rfl ?_ ?_
  rotate_left
  · go_simp
    rfl
  refine hK.out _ _ ?_
  clear hK K
  refine done_ (done_of HT_.out (by kernel_rfl)) ?_
  clear k50 k51 k52 k60 k61 k62 f50 f51 f52 f60 f61 f62 kne kne' HT_ HW_
  unfold OnlyN
  have HZ := Aside0.mk (PX.stored HX5.out C1.2.2 C2.2.2)
  generalize ((((((W4.setCell ⟨b5, 0, none⟩ (.slice P1 C1.1.length p1)).setCell ⟨b5, 1, none⟩ (.slice P2 C1.2.1.length p2)).setCell ⟨b5, 2, none⟩ (.bool C1.2.2)).setCell ⟨b6, 0, none⟩ (.slice P3 C2.1.length p3)).setCell ⟨b6, 1, none⟩ (.slice P4 C2.2.1.length p4)).setCell ⟨b6, 2, none⟩ (.bool C2.2.2)) = W5 at HZ ⊢
  clear HX5
  obtain ⟨t1, M1, x1⟩ := C1
  obtain ⟨t2, M2, x2⟩ := C2
  dsimp only at HZ ⊢
  have hx0 := blk_cell HZ.out.x 0
  have hx1 := blk_cell HZ.out.x 1
  have hx2 := blk_cell HZ.out.x 2
  have hy0 := blk_cell HZ.out.y 0
  have hy1 := blk_cell HZ.out.y 1
  have hy2 := blk_cell HZ.out.y 2
  have hrr := HZ.out.r
  rw [← HRO.out] at hrr
  have HRR := Aside0.mk hrr
  have hr0 := blk_cell hrr 0
  have hr1 := blk_cell hrr 1
  have hr2 := blk_cell hrr 2
  have fr0 := blk_frozen hrr 0
  have fr1 := blk_frozen hrr 1
  have fr2 := blk_frozen hrr 2
  have HANS : Aside0 (ans = if x1 = true then (t2, M2, x2) else if x2 = true then (t1, M1, x1) else (vars, mixL mx (2 * vars.length) M1 M2, false)) := ⟨by
    have h3 := HF.out.2.2
    have h1 := HC1.out; have h2 := HC2.out
    subst h3
    rw [← HAN.out]
    unfold joinF; rw [h1, h2]⟩
  clear hrr
  cases x1 with
  | true =>
    go_wp2
    have ha : ans = (t2, M2, x2) := by have h := HANS.out; rw [if_pos (by simp)] at h; exact h
    subst ha
    refine bodyPost_ret (results_cell_row rfl _ _ br 25 #[.slice P3 t2.length p3, .slice P4 M2.length p4, .bool x2] (0, 0) _ rfl (store3 HRR.out _ _ _).1 Try.underlying25 rfl (by kernel_rfl)) rfl ?_
    exact ⟨_, _, rfl, answer_ HRR.out HZ.out.below HBR.out (Kd.R_lower HZ.out.r3 HZ.out.lo.2.2) (Kd.R_lower HZ.out.r4 HZ.out.lo.2.2) _⟩
  | false =>
    cases x2 with
    | true =>
      go_wp2
      have ha : ans = (t1, M1, false) := by have h := HANS.out; rw [if_neg (by simp), if_pos (by simp)] at h; exact h
      subst ha
      refine bodyPost_ret (results_cell_row rfl _ _ br 25 #[.slice P1 t1.length p1, .slice P2 M1.length p2, .bool false] (0, 0) _ rfl (store3 HRR.out _ _ _).1 Try.underlying25 rfl (by kernel_rfl)) rfl ?_
      exact ⟨_, _, rfl, answer_ HRR.out HZ.out.below HBR.out (Kd.R_mono HZ.out.r1 (fun _ _ => trivial)) (Kd.R_mono HZ.out.r2 (fun _ _ => trivial)) _⟩
    | false =>
      have ha : ans = (vars, mixL mx (2 * vars.length) M1 M2, false) := by have h := HANS.out; rw [if_neg (by simp), if_neg (by simp)] at h; exact h
      subst ha
      have HSH := Aside0.mk (And.intro (close_shape HF.out.1 (HC1.out ▸ rfl)) (close_shape HF.out.2.1 (HC2.out ▸ rfl)))
      rw [HC1.out, HC2.out] at HSH
      dsimp only at HSH
      have hvv := HF.out.2.2
      have HT : Aside0 (t1 = vars ∧ t2.length = vars.length ∧ vars.length ≤ 8 ∧ (M1.length : Int) = (2 * (vars.length : Int)) * (2 * (vars.length : Int)) ∧ (M2.length : Int) = (2 * (vars.length : Int)) * (2 * (vars.length : Int))) := ⟨by
        have h := HSH.out
        rw [hvv] at h
        exact ⟨h.1.1, by rw [h.2.1], h.1.2.1, h.1.2.2, h.2.2.2⟩⟩
      have hl1 := HT.out.1
      have hl2 := HT.out.2.1
      clear hvv HSH HANS
      rw [hl1] at hx0 HZ
      rw [hl2] at hy0 HZ
      rw [hl1, hl2]
      have MIX := Aside0.mk (oct_mixedmx_any P1 p1 vars P2 p2 M1 false P3 p3 P4 p4 M2 false W5 (Kd.R_reads' HZ.out.r1).2.2 (Kd.R_reads' HZ.out.r1).2.1 (Kd.R_reads' HZ.out.r2).2.2 (Kd.R_reads' HZ.out.r2).2.1 (Kd.R_reads' HZ.out.r4).2.2 (Kd.R_reads' HZ.out.r4).2.1 HT.out.2.2.1 HT.out.2.2.2.1 HT.out.2.2.2.2)
      clear hl1 hl2
      go_wp2_with (go_at_call 70; (with_reducible refine MIX.out.mono ?_); rintro e W6 ⟨v0, v1, rfl, h0, h1, hb⟩; obtain ⟨Ao, co, eo⟩ := Kd.R_slice h0; subst eo; obtain ⟨Ap, cp, ep⟩ := Kd.R_slice h1; subst ep; have H0 := Aside0.mk h0; have H1 := Aside0.mk h1; have HZ6 := Aside0.mk (HZ.out.next hb); have HBS := Aside0.mk hb.size; clear hx0 hx1 hx2 hy0 hy1 hy2 hr0 hr1 hr2 fr0 fr1 fr2 HRR h0 h1 hb; have hrr := HZ6.out.r; rw [← HRO.out] at hrr; have HRR := Aside0.mk hrr; have hr0 := blk_cell hrr 0; have hr1 := blk_cell hrr 1; have hr2 := blk_cell hrr 2; have fr0 := blk_frozen hrr 0; have fr1 := blk_frozen hrr 1; have fr2 := blk_frozen hrr 2; clear hrr)
      refine bodyPost_ret (results_cell_row rfl _ _ br 25 #[.slice Ao vars.length co, .slice Ap (mixL mx (2 * vars.length) M1 M2).length cp, .bool false] (0, 0) _ rfl (store3 HRR.out _ _ _).1 Try.underlying25 rfl (by kernel_rfl)) rfl ?_
      exact ⟨_, _, rfl, answer_ HRR.out HZ6.out.below HBR.out (Kd.R_lower H0.out HZ.out.below.size) (Kd.R_lower H1.out HZ.out.below.size) _⟩
end Go.Proofs.Ytomgebmimgaojaa.QO
end
end
section
/- Closed matrices and their mirror image: plain laws. -/
noncomputable section
namespace Go.Proofs.Ytomgebmimgaojaa.QO
open Go.RowKit Go.Proofs.YtomgebmimgaojaaW.PrintWords Go.Proofs.YtomgebmimgaojaaW.PrintLast Go.Proofs.YtomgebmimgaojaaW.PrintMore
open OctMath (over overs plus Bd Fin' Top62 Closed Le IsClosure)
theorem clipV_range (x : Int) : clipV x = 4611686018427387904 ∨ (-1099511627776 ≤ clipV x ∧ clipV x ≤ 1099511627776) := by
  unfold clipV; split
  · exact .inl rfl
  · split <;> (right; omega)
/-- a matrix that is its own mirror image -/
def Coh (n : Nat) (m : Nat → Nat → Int) : Prop := ∀ i j, i < n → j < n → m i j = m (nb j) (nb i)
theorem lowM_coh {vars m : List Int} (h : OFit vars m false) : Coh (2 * vars.length) (lowM vars.length m) := by
  intro i j hi hj
  have hbi := nb_lt hi; have hbj := nb_lt hj
  have e := ((h.2.2 rfl).2 (i : Int) (j : Int) (by omega) (by omega) (by omega) (by omega)).2.2
  unfold lowM
  rw [lowAt_same h (by omega) (by omega) (by omega) (by omega), lowAt_same h (by omega) (by omega) (by omega) (by omega), e, nbar_nb, nbar_nb]
theorem closure_coh {n : Nat} {m d : Nat → Nat → Int} (hn : ∀ i, i < n → nb i < n) (hm : Coh n m) (hd : IsClosure n m true d) (td : Top62 n d) : Coh n d := by
  obtain ⟨hc, hl, hg⟩ := hd.1 rfl
  have h2 : IsClosure n m true (fun i j => d (nb j) (nb i)) := by
    refine ⟨fun _ => ⟨⟨fun i hi => hc.1 _ (hn i hi), fun i j k hi hj hk => ?_⟩, fun i j hi hj => ?_, fun c cc tc lc i j hi hj => ?_⟩, fun h => (by cases h)⟩
    · have := hc.2 (nb j) (nb i) (nb k) (hn j hj) (hn i hi) (hn k hk)
      rw [OctMath.plus_comm] at this; exact this
    · show d (nb j) (nb i) ≤ m i j
      rw [hm i j hi hj]; exact hl _ _ (hn j hj) (hn i hi)
    · have h3 := hg (fun a b => c (nb b) (nb a)) ⟨fun a ha => cc.1 _ (hn a ha), fun a b k ha hb hk => by
        have := cc.2 (nb b) (nb a) (nb k) (hn b hb) (hn a ha) (hn k hk)
        rw [OctMath.plus_comm] at this; exact this⟩ (fun a b ha hb => tc _ _ (hn b hb) (hn a ha)) (fun a b ha hb => by
          show c (nb b) (nb a) ≤ m a b
          rw [hm a b ha hb]; exact lc _ _ (hn b hb) (hn a ha)) (nb j) (nb i) (hn j hj) (hn i hi)
      simp only [nb_nb] at h3
      exact h3
  intro i j hi hj
  exact (OctMath.closure_unique hd h2 (fun _ => td) (fun _ a b ha hb => td _ _ (hn b hb) (hn a ha))).2 rfl i j hi hj
theorem tig_coh {n : Nat} {d : Nat → Nat → Int} (h : Coh n d) : Coh n (tig d) := by
  intro i j hi hj
  unfold tig
  by_cases e : j = nb i
  · subst e; simp only [nb_nb]
  · have e2 : ¬ (nb i = nb (nb j)) := by rw [nb_nb]; exact fun h => e h.symm
    rw [if_neg e, if_neg e2]; exact h i j hi hj
theorem strg_coh {n : Nat} {t : Nat → Nat → Int} (h : Coh n t) : Coh n (strg t) := by
  intro i j hi hj
  unfold strg
  rw [nb_nb, nb_nb, h i j hi hj, OctMath.plus_comm (t (nb j) j)]
theorem ok_closure {vars m : List Int} (h : OFit vars m false) (hf : FloydOk (2 * vars.length) (lowM vars.length m)) : IsClosure (2 * vars.length) (lowM vars.length m) true (overs (lowM vars.length m) (2 * vars.length)) ∧ Bd (2 * vars.length) 72057594037927936 (overs (lowM vars.length m) (2 * vars.length)) := by
  obtain ⟨hM, hd⟩ := lowM_ok h
  have h8 := h.1.1
  have pw : (2 : Int) ^ (2 * vars.length) ≤ 2 ^ 16 := by
    have := Nat.pow_le_pow_right (n := 2) (by decide) (show 2 * vars.length ≤ 16 by omega)
    exact_mod_cast this
  have h16 : (1099511627776 : Int) * 2 ^ (2 * vars.length) ≤ 1099511627776 * 2 ^ 16 := Int.mul_le_mul_of_nonneg_left pw (by decide)
  exact ⟨OctMath.overs_closure hM (by decide) (by omega) hd (fun k i hk hi => hf k i hk hi), overs_bd hM (by omega)⟩
/-- the closed entries: their mirror image, their diagonal, their halves -/
theorem closeM_law {vars m : List Int} (h : OFit vars m false) (hc : CloseOk (2 * vars.length) (lowM vars.length m)) :
    Coh (2 * vars.length) (closeM (2 * vars.length) (lowM vars.length m)) ∧ (∀ i, i < 2 * vars.length → closeM (2 * vars.length) (lowM vars.length m) i i = 0) ∧
      (∀ i, i < 2 * vars.length → ∃ z, closeM (2 * vars.length) (lowM vars.length m) i (nb i) = 2 * z) := by
  obtain ⟨hcl, hbd⟩ := ok_closure h hc.1
  have hn : ∀ i, i < 2 * vars.length → nb i < 2 * vars.length := fun i hi => nb_lt hi
  have c0 := closure_coh hn (lowM_coh h) hcl (OctMath.fin_of_low hbd (by decide))
  have c1 := strg_coh (tig_coh c0)
  refine ⟨fun i j hi hj => ?_, fun i hi => ?_, fun i hi => ?_⟩
  · unfold closeM; rw [c1 i j hi hj]
  · have h0 := (hcl.1 rfl).1.1 i hi
    have hs := hc.2 i hi
    have ht : tig (overs (lowM vars.length m) (2 * vars.length)) i i = 0 := by
      unfold tig; rw [if_neg (fun e => nb_ne i e.symm)]; exact h0
    have hp : 0 ≤ half (plus (tig (overs (lowM vars.length m) (2 * vars.length)) i (nb i)) (tig (overs (lowM vars.length m) (2 * vars.length)) (nb i) i)) := by
      unfold half; split
      · exact hs
      · omega
    have e : strg (tig (overs (lowM vars.length m) (2 * vars.length))) i i = 0 := by
      unfold strg mn; rw [ht, if_neg (by omega)]
    unfold closeM; rw [e]; rfl
  · obtain ⟨x, hx⟩ : ∃ x, tig (overs (lowM vars.length m) (2 * vars.length)) i (nb i) = x := ⟨_, rfl⟩
    have hev : x = 4611686018427387904 ∨ ∃ z, x = 2 * z := by
      rw [← hx]; unfold tig; rw [if_pos rfl]; split
      · exact .inl rfl
      · exact .inr ⟨_, rfl⟩
    have hb : Fin' 72057594037927938 x := by rw [← hx]; exact tig_bd hbd (by decide) i (nb i) hi (hn i hi)
    have e : strg (tig (overs (lowM vars.length m) (2 * vars.length))) i (nb i) = x := by
      unfold strg; rw [nb_nb, hx]
      have hp : half (plus x x) = x := by
        unfold Fin' at hb
        by_cases hi : x = 4611686018427387904
        · have hpl : plus x x = 4611686018427387904 := by unfold plus; rw [if_pos (.inl hi)]
          unfold half; rw [if_pos hpl, hpl]; exact hi.symm
        · have hpl : plus x x = x + x := by unfold plus; rw [if_neg (by omega)]
          unfold half; rw [hpl, if_neg (by omega)]; omega
      rw [hp]; unfold mn; simp
    unfold closeM; rw [e]
    unfold clipV
    split
    · exact ⟨2305843009213693952, by decide⟩
    · split
      · exact ⟨-549755813888, by decide⟩
      · rcases hev with e | ⟨z, e⟩
        · exact ⟨2305843009213693952, e⟩
        · exact ⟨z, e⟩
end Go.Proofs.Ytomgebmimgaojaa.QO
end
end
section
/- Tight matrices: what Close computes, before it is clipped, is the greatest tight matrix below the given one. Plain mathematics. -/
noncomputable section
namespace Go.Proofs.Ytomgebmimgaojaa.QO
open Go.RowKit Go.Proofs.YtomgebmimgaojaaW.PrintWords Go.Proofs.YtomgebmimgaojaaW.PrintLast Go.Proofs.YtomgebmimgaojaaW.PrintMore
open OctMath (over overs plus Bd Fin' Top62 Closed Le IsClosure)
/-- closed, its own mirror image, even where a scalar stands alone, and nothing to be won by way of the scalars' own bounds -/
structure Tgt (n : Nat) (c : Nat → Nat → Int) : Prop where
  cl : Closed n c
  coh : Coh n c
  bd : Bd n 288230376151711744 c
  ev : ∀ i, i < n → c i (nb i) = 4611686018427387904 ∨ ∃ z, c i (nb i) = 2 * z
  st : ∀ i j, i < n → j < n → c i j ≤ half (plus (c i (nb i)) (c (nb j) j))
/-- the entries before they are clipped -/
def tgtM (n : Nat) (m : Nat → Nat → Int) : Nat → Nat → Int := strg (tig (overs m n))
theorem closeM_eq (n : Nat) (m : Nat → Nat → Int) (i j : Nat) : closeM n m i j = clipV (tgtM n m i j) := rfl
/-- a sound octagon's matrix -/
structure Snd (n : Nat) (m : Nat → Nat → Int) : Prop where
  ev : ∃ v, n = 2 * v ∧ v ≤ 8
  bd : Bd n 1099511627776 m
  coh : Coh n m
  dg : ∀ i, i < n → m i i = 0
theorem Snd.n16 {n : Nat} {m : Nat → Nat → Int} (h : Snd n m) : n ≤ 16 := by obtain ⟨v, h1, h2⟩ := h.ev; omega
theorem Snd.nb {n : Nat} {m : Nat → Nat → Int} (h : Snd n m) : ∀ i, i < n → QO.nb i < n := by
  obtain ⟨v, h1, h2⟩ := h.ev
  intro i hi; subst h1; exact nb_lt hi
theorem snd_of_fit {vars m : List Int} (h : OFit vars m false) : Snd (2 * vars.length) (lowM vars.length m) :=
  ⟨⟨vars.length, rfl, h.1.1⟩, (lowM_ok h).1, lowM_coh h, (lowM_ok h).2⟩
theorem snd_closure {n : Nat} {m : Nat → Nat → Int} (h : Snd n m) (hf : FloydOk n m) : IsClosure n m true (overs m n) ∧ Bd n 72057594037927936 (overs m n) ∧ Coh n (overs m n) := by
  have h16 := h.n16
  have pw : (2 : Int) ^ n ≤ 2 ^ 16 := by
    have := Nat.pow_le_pow_right (n := 2) (by decide) h16
    exact_mod_cast this
  have h2 : (1099511627776 : Int) * 2 ^ n ≤ 1099511627776 * 2 ^ 16 := Int.mul_le_mul_of_nonneg_left pw (by decide)
  have c := OctMath.overs_closure h.bd (by decide) (by omega) h.dg (fun k i hk hi => hf k i hk hi)
  have b := overs_bd h.bd h16
  exact ⟨c, b, closure_coh h.nb h.coh c (OctMath.fin_of_low b (by decide))⟩
/-- half of a sum of two even bounds -/
theorem half_plus {a b : Int} (ha : a = 4611686018427387904 ∨ ∃ z, a = 2 * z) (hb : b = 4611686018427387904 ∨ ∃ z, b = 2 * z) (fa : Fin' 288230376151711744 a) (fb : Fin' 288230376151711744 b) :
    ((a = 4611686018427387904 ∨ b = 4611686018427387904) ∧ half (plus a b) = 4611686018427387904) ∨ ((a ≠ 4611686018427387904 ∧ b ≠ 4611686018427387904) ∧ 2 * half (plus a b) = a + b) := by
  by_cases h : a = 4611686018427387904 ∨ b = 4611686018427387904
  · left; refine ⟨h, ?_⟩; unfold plus; rw [if_pos h]; rfl
  · right
    obtain ⟨x, hx⟩ : ∃ x, a = 2 * x := by rcases ha with e | e; exact absurd (.inl e) h; exact e
    obtain ⟨y, hy⟩ : ∃ x, b = 2 * x := by rcases hb with e | e; exact absurd (.inr e) h; exact e
    refine ⟨⟨fun e => h (.inl e), fun e => h (.inr e)⟩, ?_⟩
    unfold plus; rw [if_neg h]; unfold half Fin' at *
    rw [if_neg (by omega)]; omega
theorem plus_cases (a b : Int) : ((a = 4611686018427387904 ∨ b = 4611686018427387904) ∧ plus a b = 4611686018427387904) ∨ ((a ≠ 4611686018427387904 ∧ b ≠ 4611686018427387904) ∧ plus a b = a + b) := by
  unfold plus
  by_cases h : a = 4611686018427387904 ∨ b = 4611686018427387904
  · rw [if_pos h]; exact .inl ⟨h, rfl⟩
  · rw [if_neg h]; exact .inr ⟨⟨fun e => h (.inl e), fun e => h (.inr e)⟩, rfl⟩
theorem mn_cases (a b : Int) : (mn a b = a ∧ a ≤ b) ∨ (mn a b = b ∧ b ≤ a) := by unfold mn; split <;> omega
theorem half_mono {a b : Int} (h : a ≤ b) (hb : b ≤ 4611686018427387904) (_hc : Fin' 1152921504606846976 a) : half a ≤ half b := by
  unfold half; split <;> split <;> omega
theorem plus_mono' {a b c d : Int} (h : a ≤ c) (h' : b ≤ d) (fa : Fin' 288230376151711744 a) (fb : Fin' 288230376151711744 b) (fc : Fin' 288230376151711744 c) (fd : Fin' 288230376151711744 d) : plus a b ≤ plus c d := by
  unfold Fin' at *; unfold plus; split <;> split <;> omega
theorem plus_fin' {a b : Int} (fa : Fin' 288230376151711744 a) (fb : Fin' 288230376151711744 b) : Fin' 1152921504606846976 (plus a b) := by unfold Fin' plus at *; split <;> omega
theorem tig_le {d : Nat → Nat → Int} {i j : Nat} : tig d i j ≤ d i j := by unfold tig; split <;> (try split) <;> omega
theorem tig_bar (d : Nat → Nat → Int) (i : Nat) : tig d i (nb i) = if d i (nb i) = 4611686018427387904 then 4611686018427387904 else 2 * (d i (nb i) / 2) := by unfold tig; rw [if_pos rfl]
theorem tig_even (d : Nat → Nat → Int) (i : Nat) : tig d i (nb i) = 4611686018427387904 ∨ ∃ z, tig d i (nb i) = 2 * z := by
  rw [tig_bar]; split
  · exact .inl rfl
  · exact .inr ⟨_, rfl⟩
theorem tig_even' (d : Nat → Nat → Int) (j : Nat) : tig d (nb j) j = 4611686018427387904 ∨ ∃ z, tig d (nb j) j = 2 * z := by
  have := tig_even d (nb j); rw [nb_nb] at this; exact this
theorem tig_fin {n : Nat} {d : Nat → Nat → Int} (hb : Bd n 72057594037927936 d) (i j : Nat) (hi : i < n) (hj : j < n) : Fin' 144115188075855872 (tig d i j) := by
  have := hb i j hi hj
  unfold Fin' at *; unfold tig; split
  · split <;> omega
  · omega
theorem fin2 {a : Int} (h : Fin' 144115188075855872 a) : Fin' 288230376151711744 a := OctMath.fin_mono h (by decide)
/-- a scalar's bound by way of another one's -/
theorem tig_way {n : Nat} {d : Nat → Nat → Int} (hcl : Closed n d) (hcoh : Coh n d) (hbd : Bd n 72057594037927936 d) (hn : ∀ i, i < n → nb i < n) (hs : StrOk n (tig d)) (i k : Nat) (hi : i < n) (hk : k < n) :
    tig d i k ≠ 4611686018427387904 → tig d k (nb k) ≠ 4611686018427387904 → tig d i (nb i) ≠ 4611686018427387904 ∧ tig d i (nb i) ≤ 2 * tig d i k + tig d k (nb k) := by
  intro h1 h2
  by_cases e : k = nb i
  · subst e
    refine ⟨h1, ?_⟩
    have := hs i hi
    rw [nb_nb] at h2 ⊢
    unfold plus at this; rw [if_neg (by omega)] at this; omega
  · have e1 : tig d i k = d i k := by unfold tig; rw [if_neg e]
    rw [e1] at h1 ⊢
    have a1 := hcl.2 i (nb i) k hi (hn i hi) hk
    have a2 := hcl.2 k (nb i) (nb k) hk (hn i hi) (hn k hk)
    have a3 := hcoh i k hi hk
    rw [tig_bar] at h2 ⊢
    rw [tig_bar]
    have f2 : d k (nb k) ≠ 4611686018427387904 := fun h => by rw [if_pos h] at h2; exact h2 rfl
    rw [if_neg f2] at h2 ⊢
    have b1 := hbd i k hi hk; have b2 := hbd k (nb k) hk (hn k hk); have b3 := hbd i (nb i) hi (hn i hi); have b4 := hbd k (nb i) hk (hn i hi)
    unfold Fin' at b1 b2 b3 b4
    rw [← a3] at a2
    have q1 := plus_cases (d i k) (d k (nb i))
    have q2 := plus_cases (d k (nb k)) (d i k)
    generalize d i k = x at *
    generalize d k (nb i) = y at *
    generalize d k (nb k) = z at *
    generalize d i (nb i) = u at *
    generalize plus x y = p at *
    generalize plus z x = q at *
    have f3 : u ≠ 4611686018427387904 := by omega
    rw [if_neg f3]
    constructor <;> omega
theorem strg_le (t : Nat → Nat → Int) (i j : Nat) : strg t i j ≤ t i j := by unfold strg mn; split <;> omega
theorem way_num {sij sik skj hij hik hkj tik tkj ui uk ukb ujb pkk : Int}
    (h1 : ((ui = 4611686018427387904 ∨ ujb = 4611686018427387904) ∧ hij = 4611686018427387904) ∨ ((ui ≠ 4611686018427387904 ∧ ujb ≠ 4611686018427387904) ∧ 2 * hij = ui + ujb))
    (h2 : ((ui = 4611686018427387904 ∨ ukb = 4611686018427387904) ∧ hik = 4611686018427387904) ∨ ((ui ≠ 4611686018427387904 ∧ ukb ≠ 4611686018427387904) ∧ 2 * hik = ui + ukb))
    (h3 : ((uk = 4611686018427387904 ∨ ujb = 4611686018427387904) ∧ hkj = 4611686018427387904) ∨ ((uk ≠ 4611686018427387904 ∧ ujb ≠ 4611686018427387904) ∧ 2 * hkj = uk + ujb))
    (w1 : tik ≠ 4611686018427387904 → uk ≠ 4611686018427387904 → ui ≠ 4611686018427387904 ∧ ui ≤ 2 * tik + uk)
    (w2 : tkj ≠ 4611686018427387904 → ukb ≠ 4611686018427387904 → ujb ≠ 4611686018427387904 ∧ ujb ≤ 2 * tkj + ukb)
    (sk : 0 ≤ pkk) (pk : ((uk = 4611686018427387904 ∨ ukb = 4611686018427387904) ∧ pkk = 4611686018427387904) ∨ ((uk ≠ 4611686018427387904 ∧ ukb ≠ 4611686018427387904) ∧ pkk = uk + ukb))
    (f1 : tik ≠ 4611686018427387904 → tkj ≠ 4611686018427387904 → sij ≤ tik + tkj)
    (c1 : (sik = tik ∧ tik ≤ hik) ∨ (sik = hik ∧ hik ≤ tik)) (c2 : (skj = tkj ∧ tkj ≤ hkj) ∨ (skj = hkj ∧ hkj ≤ tkj)) (e0 : sij ≤ hij) (top : sij ≤ 4611686018427387904) : sij ≤ plus sik skj := by
  unfold plus
  by_cases hx : sik = 4611686018427387904 ∨ skj = 4611686018427387904
  · rw [if_pos hx]; exact top
  · rw [if_neg hx]
    have x1 : sik ≠ 4611686018427387904 := fun h => hx (.inl h)
    have x2 : skj ≠ 4611686018427387904 := fun h => hx (.inr h)
    clear hx
    rcases c1 with ⟨rfl, c1⟩ | ⟨rfl, c1⟩ <;> rcases c2 with ⟨rfl, c2⟩ | ⟨rfl, c2⟩
    · exact f1 x1 x2
    · rcases h3 with h3 | ⟨⟨h3, h4⟩, h5⟩
      · exact absurd h3.2 x2
      · have := w1 x1 h3
        clear w1 w2 f1 h2 pk
        omega
    · rcases h2 with h2 | ⟨⟨h2, h4⟩, h5⟩
      · exact absurd h2.2 x1
      · have := w2 x2 h4
        clear w1 w2 f1 h3 pk
        omega
    · rcases h2 with h2 | ⟨⟨h2, h4⟩, h5⟩
      · exact absurd h2.2 x1
      · rcases h3 with h3 | ⟨⟨h3, h6⟩, h7⟩
        · exact absurd h3.2 x2
        · clear w1 w2 f1
          omega
theorem strg_tgt {n : Nat} {d : Nat → Nat → Int} (hcl : Closed n d) (hcoh : Coh n d) (hbd : Bd n 72057594037927936 d) (hn : ∀ i, i < n → nb i < n) (hs : StrOk n (tig d)) : Tgt n (strg (tig d)) := by
  have tcoh := tig_coh hcoh
  have tf := fun i j hi hj => fin2 (tig_fin hbd i j hi hj)
  have HP := fun i j (hi : i < n) (hj : j < n) => half_plus (tig_even d i) (tig_even' d j) (tf i (nb i) hi (hn i hi)) (tf (nb j) j (hn j hj) hj)
  have way := tig_way hcl hcoh hbd hn hs
  -- the same from the other side
  have way' : ∀ k j, k < n → j < n → tig d k j ≠ 4611686018427387904 → tig d (nb k) k ≠ 4611686018427387904 → tig d (nb j) j ≠ 4611686018427387904 ∧ tig d (nb j) j ≤ 2 * tig d k j + tig d (nb k) k := by
    intro k j hk hj h1 h2
    have := way (nb j) (nb k) (hn j hj) (hn k hk)
    rw [nb_nb, nb_nb, ← tcoh k j hk hj] at this
    exact this h1 h2
  have hbarv : ∀ i, i < n → strg (tig d) i (nb i) = tig d i (nb i) := by
    intro i hi
    have h := HP i (nb i) hi (hn i hi)
    rw [nb_nb] at h
    unfold strg; rw [nb_nb]
    rcases mn_cases (tig d i (nb i)) (half (plus (tig d i (nb i)) (tig d i (nb i)))) with q | q <;> omega
  refine ⟨⟨fun i hi => ?_, fun i j k hi hj hk => ?_⟩, strg_coh tcoh, fun i j hi hj => ?_, fun i hi => ?_, fun i j hi hj => ?_⟩
  · have h := HP i i hi hi
    have hz : tig d i i = 0 := by unfold tig; rw [if_neg (fun e => nb_ne i e.symm)]; exact hcl.1 i hi
    have hp := hs i hi
    have q := plus_cases (tig d i (nb i)) (tig d (nb i) i)
    unfold strg
    rcases mn_cases (tig d i i) (half (plus (tig d i (nb i)) (tig d (nb i) i))) with r | r <;> omega
  · have h1 := HP i j hi hj
    have h2 := HP i k hi hk
    have h3 := HP k j hk hj
    have w1 := way i k hi hk
    have w2 := way' k j hk hj
    have sk := hs k hk
    have pk := plus_cases (tig d k (nb k)) (tig d (nb k) k)
    have fij := tf i j hi hj; have fik := tf i k hi hk; have fkj := tf k j hk hj
    -- by way of entries alone
    have f1 : tig d i k ≠ 4611686018427387904 → tig d k j ≠ 4611686018427387904 → strg (tig d) i j ≤ tig d i k + tig d k j := by
      intro g1 g2
      by_cases e1 : k = nb i
      · subst e1
        have := w2 g2 (by rw [nb_nb]; exact g1)
        rw [nb_nb] at this
        unfold strg
        rcases mn_cases (tig d i j) (half (plus (tig d i (nb i)) (tig d (nb j) j))) with r | r <;> omega
      · by_cases e2 : j = nb k
        · subst e2
          have := w1 g1 g2
          rw [nb_nb] at h1
          unfold strg; rw [nb_nb]
          rcases mn_cases (tig d i (nb k)) (half (plus (tig d i (nb i)) (tig d k (nb k)))) with r | r <;> omega
        · have a1 : tig d i k = d i k := by unfold tig; rw [if_neg e1]
          have a2 : tig d k j = d k j := by unfold tig; rw [if_neg e2]
          have a3 := hcl.2 i j k hi hj hk
          have a4 := tig_le (d := d) (i := i) (j := j)
          have a5 := plus_cases (d i k) (d k j)
          rw [a1] at g1 ⊢; rw [a2] at g2 ⊢
          unfold strg
          rcases mn_cases (tig d i j) (half (plus (tig d i (nb i)) (tig d (nb j) j))) with r | r <;> omega
    have c1 := mn_cases (tig d i k) (half (plus (tig d i (nb i)) (tig d (nb k) k)))
    have c2 := mn_cases (tig d k j) (half (plus (tig d k (nb k)) (tig d (nb j) j)))
    have e0 : strg (tig d) i j ≤ half (plus (tig d i (nb i)) (tig d (nb j) j)) := by
      unfold strg mn; split <;> omega
    have e1 : strg (tig d) i k = mn (tig d i k) (half (plus (tig d i (nb i)) (tig d (nb k) k))) := rfl
    have e2 : strg (tig d) k j = mn (tig d k j) (half (plus (tig d k (nb k)) (tig d (nb j) j))) := rfl
    have top : strg (tig d) i j ≤ 4611686018427387904 := Int.le_trans (strg_le _ i j) (by unfold Fin' at fij; omega)
    rw [← e1] at c1
    rw [← e2] at c2
    exact way_num h1 h2 h3 w1 w2 sk pk f1 c1 c2 e0 top
  · have := tf i j hi hj
    have h := HP i j hi hj
    have h1 := tf i (nb i) hi (hn i hi); have h2 := tf (nb j) j (hn j hj) hj
    have c0 := mn_cases (tig d i j) (half (plus (tig d i (nb i)) (tig d (nb j) j)))
    unfold strg
    unfold Fin' at *; omega
  · rw [hbarv i hi]; exact tig_even d i
  · have e2 : strg (tig d) (nb j) j = tig d (nb j) j := by
      have := hbarv (nb j) (hn j hj); rw [nb_nb] at this; exact this
    rw [hbarv i hi, e2]
    unfold strg mn; split <;> omega
/-- **what Close computes is tight** -/
theorem tgt_of {n : Nat} {m : Nat → Nat → Int} (h : Snd n m) (hc : CloseOk n m) : Tgt n (tgtM n m) := by
  obtain ⟨c, b, co⟩ := snd_closure h hc.1
  exact strg_tgt (c.1 rfl).1 co b h.nb hc.2
/-- .. below what was given -/
theorem tgt_le {n : Nat} {m : Nat → Nat → Int} (h : Snd n m) (hc : CloseOk n m) : Le n (tgtM n m) m := by
  intro i j hi hj
  have := (((snd_closure h hc.1).1).1 rfl).2.1 i j hi hj
  exact Int.le_trans (strg_le _ i j) (Int.le_trans tig_le this)
/-- .. and the greatest such -/
theorem tgt_great {n : Nat} {m c : Nat → Nat → Int} (h : Snd n m) (t : Tgt n c) (l : Le n c m) : CloseOk n m ∧ Le n c (tgtM n m) := by
  have tc : Top62 n c := OctMath.fin_of_low t.bd (by decide)
  have hm : Top62 n m := OctMath.fin_of_low h.bd (by decide)
  have hf : FloydOk n m := by
    intro k i hk hi
    have h1 := OctMath.overs_low t.cl tc hm l k hk i i hi hi
    have h2 := t.cl.1 i hi
    omega
  obtain ⟨c0, b, co⟩ := snd_closure h hf
  have l1 := (c0.1 rfl).2.2 c t.cl tc l
  have tb := fun i j hi hj => fin2 (tig_fin b i j hi hj)
  have l2 : Le n c (tig (overs m n)) := by
    intro i j hi hj
    have := l1 i j hi hj
    have f := t.bd i j hi hj
    unfold tig
    by_cases e : j = nb i
    · subst e
      rw [if_pos rfl]
      have ev := t.ev i hi
      unfold Fin' at f
      split
      · omega
      · rcases ev with ev | ⟨z, ev⟩ <;> omega
    · rw [if_neg e]; exact this
  have hs : StrOk n (tig (overs m n)) := by
    intro i hi
    have a1 := l2 i (nb i) hi (h.nb i hi); have a2 := l2 (nb i) i (h.nb i hi) hi
    have a3 := t.cl.2 i i (nb i) hi hi (h.nb i hi)
    have a4 := t.cl.1 i hi
    have := plus_mono' a1 a2 (t.bd i (nb i) hi (h.nb i hi)) (t.bd (nb i) i (h.nb i hi) hi) (tb i (nb i) hi (h.nb i hi)) (tb (nb i) i (h.nb i hi) hi)
    omega
  refine ⟨⟨hf, hs⟩, fun i j hi hj => ?_⟩
  have a1 := l2 i j hi hj
  have a2 := t.st i j hi hj
  have hi' := h.nb i hi; have hj' := h.nb j hj
  have fa := t.bd i (nb i) hi hi'; have fb := t.bd (nb j) j hj' hj
  have fc := tb i (nb i) hi hi'; have fd := tb (nb j) j hj' hj
  have a3 := plus_mono' (l2 i (nb i) hi hi') (l2 (nb j) j hj' hj) fa fb fc fd
  have a4 := half_mono a3 (by have := plus_fin' fc fd; unfold Fin' at this; omega) (plus_fin' fa fb)
  unfold tgtM strg mn; split <;> omega
/-! ### clipped -/
theorem clip_mono {a b : Int} (h : a ≤ b) (_hb : b ≤ 4611686018427387904) : clipV a ≤ clipV b := by
  unfold clipV
  repeat' split
  all_goals omega
theorem clip_ge {a : Int} (h : a ≤ 4611686018427387904) : a ≤ clipV a := by
  unfold clipV
  repeat' split
  all_goals omega
theorem clip_id {a : Int} (h : Fin' 1099511627776 a) : clipV a = a := by
  unfold Fin' at h; unfold clipV
  repeat' split
  all_goals omega
theorem clip_bd (a : Int) : Fin' 1099511627776 (clipV a) := by
  rcases clipV_range a with h | h
  · exact .inl h
  · exact .inr h
theorem clip_clipV (a : Int) : clipV (clipV a) = clipV a := clip_id (clip_bd a)
/-- **a closed octagon is a sound one** -/
theorem snd_close {n : Nat} {m : Nat → Nat → Int} (h : Snd n m) (hc : CloseOk n m) : Snd n (closeM n m) := by
  have t := tgt_of h hc
  refine ⟨h.ev, fun i j _ _ => clip_bd _, fun i j hi hj => ?_, fun i hi => ?_⟩
  · rw [closeM_eq, closeM_eq, t.coh i j hi hj]
  · rw [closeM_eq, t.cl.1 i hi]; rfl
theorem tgt_top {n : Nat} {m : Nat → Nat → Int} (h : Snd n m) (hc : CloseOk n m) (i j : Nat) (hi : i < n) (hj : j < n) : tgtM n m i j ≤ 4611686018427387904 := by
  have := (tgt_of h hc).bd i j hi hj; unfold Fin' at this; omega
/-- **more is known of what lies below** -/
theorem close_mono {n : Nat} {m m' : Nat → Nat → Int} (h : Snd n m) (h' : Snd n m') (hc : CloseOk n m) (l : Le n (tgtM n m) m') : CloseOk n m' ∧ Le n (tgtM n m) (tgtM n m') ∧ Le n (closeM n m) (closeM n m') := by
  obtain ⟨g1, g2⟩ := tgt_great h' (tgt_of h hc) l
  exact ⟨g1, g2, fun i j hi hj => clip_mono (g2 i j hi hj) (tgt_top h' g1 i j hi hj)⟩
theorem tgt_close {n : Nat} {m : Nat → Nat → Int} (h : Snd n m) (hc : CloseOk n m) : Le n (tgtM n m) (closeM n m) := fun i j hi hj => clip_ge (tgt_top h hc i j hi hj)
theorem close_le {n : Nat} {m : Nat → Nat → Int} (h : Snd n m) (hc : CloseOk n m) : Le n (closeM n m) m := by
  intro i j hi hj
  have h1 := clip_mono (tgt_le h hc i j hi hj) (by have := h.bd i j hi hj; unfold Fin' at this; omega)
  rw [clip_id (h.bd i j hi hj)] at h1; exact h1
/-- **closed once for all** -/
theorem close_twice {n : Nat} {m : Nat → Nat → Int} (h : Snd n m) (hc : CloseOk n m) : CloseOk n (closeM n m) ∧ ∀ i j, i < n → j < n → closeM n (closeM n m) i j = closeM n m i j := by
  obtain ⟨c1, _, c3⟩ := close_mono h (snd_close h hc) hc (tgt_close h hc)
  exact ⟨c1, fun i j hi hj => Int.le_antisymm (close_le (snd_close h hc) c1 i j hi hj) (c3 i j hi hj)⟩
end Go.Proofs.Ytomgebmimgaojaa.QO
end
end
section
/- Octagons as matrices, and back: entry by entry the lesser of two sound octagons is a sound one; an octagon's matrix is read as it was written. -/
noncomputable section
namespace Go.Proofs.Ytomgebmimgaojaa.QO
open Go.RowKit Go.Proofs.YtomgebmimgaojaaW.PrintWords Go.Proofs.YtomgebmimgaojaaW.PrintLast Go.Proofs.YtomgebmimgaojaaW.PrintMore
open OctMath (over overs plus Bd Fin' Top62 Closed Le IsClosure)
theorem fit_of_snd {vars : List Int} {M : Nat → Nat → Int} (hv : VarsOk vars) (h : Snd (2 * vars.length) M) : OFit vars (lst (2 * vars.length) M) false := by
  refine ⟨hv, fun h => (by cases h), fun _ => ⟨by rw [lst_length]; push_cast; rfl, fun i j h0 h1 h2 h3 => ?_⟩⟩
  obtain ⟨a, rfl⟩ : ∃ a : Nat, i = (a : Int) := ⟨i.toNat, by omega⟩
  obtain ⟨b, rfl⟩ : ∃ b : Nat, j = (b : Int) := ⟨j.toNat, by omega⟩
  have ha : a < 2 * vars.length := by omega
  have hb : b < 2 * vars.length := by omega
  have e1 : (a : Int) * (2 * (vars.length : Int)) + (b : Int) = ((a * (2 * vars.length) + b : Nat) : Int) := by push_cast; rfl
  have e2 : nbar (b : Int) * (2 * (vars.length : Int)) + nbar (a : Int) = ((nb b * (2 * vars.length) + nb a : Nat) : Int) := by rw [nbar_nb, nbar_nb]; push_cast; rfl
  unfold EntryOk
  rw [lst_rd ha hb e1, lst_rd (nb_lt hb) (nb_lt ha) e2]
  refine ⟨h.bd a b ha hb, fun e => ?_, h.coh a b ha hb⟩
  have : a = b := by omega
  subst this; exact h.dg a ha
/-- an octagon's matrix is read as it was written -/
theorem lowM_lst {vars : List Int} {M : Nat → Nat → Int} (hv : VarsOk vars) (h : Snd (2 * vars.length) M) (i j : Nat) (hi : i < 2 * vars.length) (hj : j < 2 * vars.length) : lowM vars.length (lst (2 * vars.length) M) i j = M i j := by
  unfold lowM
  rw [lowAt_same (fit_of_snd hv h) (by omega) (by omega) (by omega) (by omega)]
  exact lst_rd hi hj (by push_cast; rfl)
theorem mixL_lst (g : Int → Int → Int) (nv : Nat) (m1 m2 : List Int) : mixL g (2 * nv) m1 m2 = lst (2 * nv) (fun i j => g (lowM nv m1 i j) (lowM nv m2 i j)) := by
  unfold mixL lst lowM pairAt
  rw [show ((2 * nv : Nat) : Int) = 2 * (nv : Int) by push_cast; rfl]
/-- the lesser, the greater of two sound matrices -/
theorem snd_mn {n : Nat} {a b : Nat → Nat → Int} (ha : Snd n a) (hb : Snd n b) : Snd n (fun i j => mn (a i j) (b i j)) := by
  refine ⟨ha.ev, fun i j hi hj => ?_, fun i j hi hj => ?_, fun i hi => ?_⟩
  · have h1 := ha.bd i j hi hj; have h2 := hb.bd i j hi hj
    unfold mn; split
    · exact h2
    · exact h1
  · show mn _ _ = mn _ _
    rw [ha.coh i j hi hj, hb.coh i j hi hj]
  · show mn _ _ = _
    rw [ha.dg i hi, hb.dg i hi]; rfl
theorem snd_mx {n : Nat} {a b : Nat → Nat → Int} (ha : Snd n a) (hb : Snd n b) : Snd n (fun i j => mx (a i j) (b i j)) := by
  refine ⟨ha.ev, fun i j hi hj => ?_, fun i j hi hj => ?_, fun i hi => ?_⟩
  · have h1 := ha.bd i j hi hj; have h2 := hb.bd i j hi hj
    unfold mx; split
    · exact h2
    · exact h1
  · show mx _ _ = mx _ _
    rw [ha.coh i j hi hj, hb.coh i j hi hj]
  · show mx _ _ = _
    rw [ha.dg i hi, hb.dg i hi]; rfl
theorem min_fit {vars m1 m2 : List Int} (h1 : OFit vars m1 false) (h2 : OFit vars m2 false) : OFit vars (mixL mn (2 * vars.length) m1 m2) false := by
  rw [mixL_lst]; exact fit_of_snd h1.1 (snd_mn (snd_of_fit h1) (snd_of_fit h2))
end Go.Proofs.Ytomgebmimgaojaa.QO
end
end
section
/- oct.Meet walked. Written by a program of this session. -/
noncomputable section
namespace Go.Proofs.Ytomgebmimgaojaa.QO
open Go.RowKit Go.Shelf Go.Proofs.YtomgebmimgaojaaW.PrintWords Go.Proofs.YtomgebmimgaojaaW.PrintLast Go.Proofs.YtomgebmimgaojaaW.PrintMore
attribute [local go_sem] Oper.semAt_some
attribute [local go_sem ↓] Go.wp_at_zero Go.wp_at_succ
set_option linter.unusedVariables false
set_option linter.unusedSimpArgs false
/-- two octagons' boxes and the result's -/
structure ME (w : World) (ba bb br : Nat) (xa xb : Array Value) (W : World) : Prop where
  below : Below w.heap.size w W
  a : W.heap[ba]? = some (.cells xa 25 (0, 0))
  b : W.heap[bb]? = some (.cells xb 25 (0, 0))
  r : W.heap[br]? = some (.cells #[.slice none 0 0, .slice none 0 0, .bool false] 25 (0, 0))
  rb : w.heap.size ≤ br
theorem ME.next {w : World} {ba bb br : Nat} {xa xb : Array Value} {W W' : World} (h : ME w ba bb br xa xb W) (hb : Below W.heap.size W W') : ME w ba bb br xa xb W' :=
  ⟨h.below.trans (hb.mono h.below.size), blk_below h.a hb, blk_below h.b hb, blk_below h.r hb, h.rb⟩
theorem ME.made {w wa wb wc : World} {ba bb br : Nat} {xa xb : Array Value} (h1 : ba = w.heap.size) (h2 : wa.heap[ba]? = some (.cells xa 25 (0, 0))) (h3 : Below w.heap.size w wa)
    (k1 : bb = wa.heap.size) (k2 : wb.heap[bb]? = some (.cells xb 25 (0, 0))) (k3 : Below wa.heap.size wa wb) (q1 : br = wb.heap.size) (q2 : wc.heap[br]? = some (.cells #[.slice none 0 0, .slice none 0 0, .bool false] 25 (0, 0))) (q3 : Below wb.heap.size wb wc) : ME w ba bb br xa xb wc :=
  ⟨(h3.trans (k3.mono h3.size)).trans (q3.mono (Nat.le_trans h3.size k3.size)), blk_below (blk_below h2 k3) q3, blk_below k2 q3, q2, by rw [q1]; exact Nat.le_trans h3.size k3.size⟩
theorem ME.cells {w : World} {ba bb br : Nat} {x0 x1 x2 y0 y1 y2 : Value} {W : World} (h : ME w ba bb br #[x0, x1, x2] #[y0, y1, y2] W) : W.cell? ⟨ba, 0, none⟩ = some x0 ∧ W.cell? ⟨ba, 1, none⟩ = some x1 ∧ W.cell? ⟨ba, 2, none⟩ = some x2 ∧ W.cell? ⟨bb, 0, none⟩ = some y0 ∧ W.cell? ⟨bb, 1, none⟩ = some y1 ∧ W.cell? ⟨bb, 2, none⟩ = some y2 ∧ W.cell? ⟨br, 0, none⟩ = some (.slice none 0 0) ∧ W.cell? ⟨br, 1, none⟩ = some (.slice none 0 0) ∧ W.cell? ⟨br, 2, none⟩ = some (.bool false) ∧ W.frozen? ⟨br, 0, none⟩ = false ∧ W.frozen? ⟨br, 1, none⟩ = false ∧ W.frozen? ⟨br, 2, none⟩ = false :=
  ⟨blk_cell h.a 0, blk_cell h.a 1, blk_cell h.a 2, blk_cell h.b 0, blk_cell h.b 1, blk_cell h.b 2, blk_cell h.r 0, blk_cell h.r 1, blk_cell h.r 2, blk_frozen h.r 0, blk_frozen h.r 1, blk_frozen h.r 2⟩
set_option maxHeartbeats 16000000 in
set_option maxRecDepth 100000 in
theorem oct_Meet_any (A0 : Option Addr) (c0 : Nat) (vars : List Int) (A1 : Option Addr) (c1 : Nat) (m1 : List Int) (e1 : Bool) (A2 : Option Addr) (c2 : Nat) (vars2 : List Int) (A3 : Option Addr) (c3 : Nat) (m2 : List Int) (e2 : Bool) (w : World)
    (hr0 : Kd.C (Kd.int .i64) w A0 vars.length vars) (hc0 : vars.length ≤ c0) (hr1 : Kd.C (Kd.int .i64) w A1 m1.length m1) (hc1 : m1.length ≤ c1)
    (hr2 : Kd.C (Kd.int .i64) w A2 vars2.length vars2) (hc2 : vars2.length ≤ c2) (hr3 : Kd.C (Kd.int .i64) w A3 m2.length m2) (hc3 : m2.length ≤ c3)
    (hf1 : OFit vars m1 e1) (hf2 : OFit vars2 m2 e2) (hvv : vars2 = vars) : Calls Try.prog 37 #[.agg #[.slice A0 vars.length c0, .slice A1 m1.length c1, .bool e1], .agg #[.slice A2 vars2.length c2, .slice A3 m2.length c3, .bool e2]] w fun e w' => ∃ v0_ v1_ : Value, e = .returned (.agg #[v0_, v1_, .bool (meetF vars m1 e1 m2 e2).2.2]) ∧
      Kd.R (Kd.int .i64) 3 w' w.heap.size (fun _ => True) v0_ (meetF vars m1 e1 m2 e2).1 ∧ Kd.R (Kd.int .i64) 2 w' w.heap.size (fun _ => True) v1_ (meetF vars m1 e1 m2 e2).2.1 ∧ Below w.heap.size w w' := by
  have hu25 := Try.underlying25
  subst hvv
  obtain ⟨ans, hans⟩ : ∃ a, meetF vars2 m1 e1 m2 e2 = a := ⟨_, rfl⟩
  rw [hans]
  have HAN := Aside0.mk hans
  have HR0 := Aside0.mk hr0
  have HR1 := Aside0.mk hr1
  have HR3 := Aside0.mk hr3
  have HC := Aside0.mk (And.intro hc0 (And.intro hc1 hc3))
  have HFF := Aside0.mk (And.intro hf1 hf2)
  have BOT := Aside0.mk (fun (W : World) (hW : Below w.heap.size w W) => oct_Bottom.calls A0 c0 vars2 vars2 [] true W (Kd.C_below hr0 hW) hc0 (bottom_f hf1.1))
  have FIT1 := Aside0.mk (fun (W : World) (hW : Below w.heap.size w W) => oct_Fit.calls A0 c0 vars2 A1 c1 m1 e1 true W (Kd.C_below hr0 hW) hc0 (Kd.C_below hr1 hW) hc1 (by unfold oct_Fit.f; rw [if_pos (show vars2.length ≤ 17592186044416 by have := hf1.1.1; omega), ofitB_true.2 hf1]))
  have FIT2 := Aside0.mk (fun (W : World) (hW : Below w.heap.size w W) => oct_Fit.calls A2 c2 vars2 A3 c3 m2 e2 true W (Kd.C_below hr2 hW) hc2 (Kd.C_below hr3 hW) hc3 (by unfold oct_Fit.f; rw [if_pos (show vars2.length ≤ 17592186044416 by have := hf2.1.1; omega), ofitB_true.2 hf2]))
  clear hans hr0 hr1 hr2 hr3 hc0 hc1 hc2 hc3 hf1 hf2
  cases e1 with
  | true =>
    have ha : ans = (vars2, [], true) := by rw [← HAN.out]; unfold meetF; rw [if_pos (.inl rfl)]
    subst ha
    go_enter Try.func37, Try.ntmps37
    go_wp2_with (first
      | ((with_reducible refine gate_dst (N := 2) rfl ?_); refine box_event ?hg (N := 2) ?hd (cs := #[.slice A0 vars2.length c0, .slice A1 m1.length c1, .bool true]) (t := 25) ?hr ?_; (case hd => rfl); (case hg => rfl); (case hr => first | (go_simp; done) | (go_simp; rfl)); intro ba hga wa hba hb0; have HBA := Aside0.mk (And.intro hga (And.intro hba hb0)); clear hga hba hb0)
      | ((with_reducible refine gate_dst (N := 3) rfl ?_); refine box_event ?hg (N := 3) ?hd (cs := #[.slice A2 vars2.length c2, .slice A3 m2.length c3, .bool e2]) (t := 25) ?hr ?_; (case hd => rfl); (case hg => rfl); (case hr => first | (go_simp; done) | (go_simp; rfl)); intro bb hgb wb hbb hb1; have HBB := Aside0.mk (And.intro hgb (And.intro hbb hb1)); clear hgb hbb hb1)
      | ((with_reducible refine gate_dst (N := 4) rfl ?_); refine box_event ?hg (N := 4) ?hd (cs := #[.slice none 0 0, .slice none 0 0, .bool false]) (t := 25) ?hr ?_; (case hd => rfl); (case hg => rfl); (case hr => first | (go_simp; done) | (go_simp; rfl)); intro br hgr wc hbr hb2; have HM : Aside0 (ME w ba bb br #[.slice A0 vars2.length c0, .slice A1 m1.length c1, .bool true] #[.slice A2 vars2.length c2, .slice A3 m2.length c3, .bool e2] wc) := ⟨ME.made HBA.out.1 HBA.out.2.1 HBA.out.2.2 HBB.out.1 HBB.out.2.1 HBB.out.2.2 hgr hbr hb2⟩; clear hgr hbr hb2 HBA HBB; obtain ⟨a0, a1, a2, b0, b1, b2, r0, r1, r2, f0, f1, f2⟩ := HM.out.cells)
      | (go_at_call 14; (with_reducible refine (BOT.out _ ?s1).mono ?_); (case s1 => exact HM.out.below); rintro e w1 ⟨v0, v1, rfl, h0, h1, hb⟩; obtain ⟨Ao, co, eo⟩ := Kd.R_slice h0; subst eo; obtain ⟨Ap, cp, ep⟩ := Kd.R_slice h1; subst ep; have H0 := Aside0.mk h0; have H1 := Aside0.mk h1; have HM1 := Aside0.mk (ME.next HM.out hb); clear h0 h1 hb a0 a1 a2 b0 b1 b2 r0 r1 r2 f0 f1 f2; obtain ⟨a0, a1, a2, b0, b1, b2, r0, r1, r2, f0, f1, f2⟩ := HM1.out.cells))
    refine bodyPost_ret (results_cell_row rfl _ _ br 25 #[.slice Ao vars2.length co, .slice Ap 0 cp, .bool true] (0, 0) _ rfl (store3 HM1.out.r _ _ _).1 Try.underlying25 rfl (by kernel_rfl)) rfl ?_
    exact ⟨_, _, rfl, answer_ HM1.out.r HM1.out.below HM1.out.rb (Kd.R_lower H0.out HM.out.below.size) (Kd.R_lower H1.out HM.out.below.size) _⟩
  | false =>
    cases e2 with
    | true =>
      have ha : ans = (vars2, [], true) := by rw [← HAN.out]; unfold meetF; rw [if_pos (.inr rfl)]
      subst ha
      go_enter Try.func37, Try.ntmps37
      go_wp2_with (first
        | ((with_reducible refine gate_dst (N := 2) rfl ?_); refine box_event ?hg (N := 2) ?hd (cs := #[.slice A0 vars2.length c0, .slice A1 m1.length c1, .bool false]) (t := 25) ?hr ?_; (case hd => rfl); (case hg => rfl); (case hr => first | (go_simp; done) | (go_simp; rfl)); intro ba hga wa hba hb0; have HBA := Aside0.mk (And.intro hga (And.intro hba hb0)); clear hga hba hb0)
        | ((with_reducible refine gate_dst (N := 3) rfl ?_); refine box_event ?hg (N := 3) ?hd (cs := #[.slice A2 vars2.length c2, .slice A3 m2.length c3, .bool true]) (t := 25) ?hr ?_; (case hd => rfl); (case hg => rfl); (case hr => first | (go_simp; done) | (go_simp; rfl)); intro bb hgb wb hbb hb1; have HBB := Aside0.mk (And.intro hgb (And.intro hbb hb1)); clear hgb hbb hb1)
        | ((with_reducible refine gate_dst (N := 4) rfl ?_); refine box_event ?hg (N := 4) ?hd (cs := #[.slice none 0 0, .slice none 0 0, .bool false]) (t := 25) ?hr ?_; (case hd => rfl); (case hg => rfl); (case hr => first | (go_simp; done) | (go_simp; rfl)); intro br hgr wc hbr hb2; have HM : Aside0 (ME w ba bb br #[.slice A0 vars2.length c0, .slice A1 m1.length c1, .bool false] #[.slice A2 vars2.length c2, .slice A3 m2.length c3, .bool true] wc) := ⟨ME.made HBA.out.1 HBA.out.2.1 HBA.out.2.2 HBB.out.1 HBB.out.2.1 HBB.out.2.2 hgr hbr hb2⟩; clear hgr hbr hb2 HBA HBB; obtain ⟨a0, a1, a2, b0, b1, b2, r0, r1, r2, f0, f1, f2⟩ := HM.out.cells)
        | (go_at_call 14; (with_reducible refine (BOT.out _ ?s1).mono ?_); (case s1 => exact HM.out.below); rintro e w1 ⟨v0, v1, rfl, h0, h1, hb⟩; obtain ⟨Ao, co, eo⟩ := Kd.R_slice h0; subst eo; obtain ⟨Ap, cp, ep⟩ := Kd.R_slice h1; subst ep; have H0 := Aside0.mk h0; have H1 := Aside0.mk h1; have HM1 := Aside0.mk (ME.next HM.out hb); clear h0 h1 hb a0 a1 a2 b0 b1 b2 r0 r1 r2 f0 f1 f2; obtain ⟨a0, a1, a2, b0, b1, b2, r0, r1, r2, f0, f1, f2⟩ := HM1.out.cells))
      refine bodyPost_ret (results_cell_row rfl _ _ br 25 #[.slice Ao vars2.length co, .slice Ap 0 cp, .bool true] (0, 0) _ rfl (store3 HM1.out.r _ _ _).1 Try.underlying25 rfl (by kernel_rfl)) rfl ?_
      exact ⟨_, _, rfl, answer_ HM1.out.r HM1.out.below HM1.out.rb (Kd.R_lower H0.out HM.out.below.size) (Kd.R_lower H1.out HM.out.below.size) _⟩
    | false =>
      have ha : ans = closeF vars2 (mixL mn (2 * vars2.length) m1 m2) false := by rw [← HAN.out]; unfold meetF; rw [if_neg (by simp)]
      have MIX := Aside0.mk (fun (W : World) (hW : Below w.heap.size w W) => oct_mixedmn_any A0 c0 vars2 A1 c1 m1 false A2 c2 A3 c3 m2 false W (Kd.C_below HR0.out hW) HC.out.1 (Kd.C_below HR1.out hW) HC.out.2.1 (Kd.C_below HR3.out hW) HC.out.2.2 HFF.out.1.1.1 (HFF.out.1.2.2 rfl).1 (HFF.out.2.2.2 rfl).1)
      have HMF := Aside0.mk (min_fit HFF.out.1 HFF.out.2)
      have HLN : Aside0 ((m1.length : Int) = (m2.length : Int)) := ⟨(HFF.out.1.2.2 rfl).1.trans (HFF.out.2.2.2 rfl).1.symm⟩
      obtain ⟨mm, hmm⟩ : ∃ mm, mixL mn (2 * vars2.length) m1 m2 = mm := ⟨_, rfl⟩
      rw [hmm] at MIX HMF ha
      obtain ⟨r0_, r1_, r2_⟩ := ans
      have CLO := Aside0.mk (fun (A : Option Addr) (c : Nat) (A' : Option Addr) (c' : Nat) (W : World) (h0 : Kd.C (Kd.int .i64) W A vars2.length vars2) (h1 : vars2.length ≤ c) (h2 : Kd.C (Kd.int .i64) W A' mm.length mm) (h3 : mm.length ≤ c') => oct_Close_any A c vars2 A' c' mm false W h0 h1 h2 h3 HMF.out)
      rw [← ha] at CLO
      dsimp only at CLO
      have l1 : ((m1.length : Int) != (m2.length : Int)) = false := by rw [HLN.out]; simp
      clear ha hmm
      go_enter Try.func37, Try.ntmps37
      go_wp2_with (first
        | ((with_reducible refine gate_dst (N := 2) rfl ?_); refine box_event ?hg (N := 2) ?hd (cs := #[.slice A0 vars2.length c0, .slice A1 m1.length c1, .bool false]) (t := 25) ?hr ?_; (case hd => rfl); (case hg => rfl); (case hr => first | (go_simp; done) | (go_simp; rfl)); intro ba hga wa hba hb0; have HBA := Aside0.mk (And.intro hga (And.intro hba hb0)); clear hga hba hb0)
        | ((with_reducible refine gate_dst (N := 3) rfl ?_); refine box_event ?hg (N := 3) ?hd (cs := #[.slice A2 vars2.length c2, .slice A3 m2.length c3, .bool false]) (t := 25) ?hr ?_; (case hd => rfl); (case hg => rfl); (case hr => first | (go_simp; done) | (go_simp; rfl)); intro bb hgb wb hbb hb1; have HBB := Aside0.mk (And.intro hgb (And.intro hbb hb1)); clear hgb hbb hb1)
        | ((with_reducible refine gate_dst (N := 4) rfl ?_); refine box_event ?hg (N := 4) ?hd (cs := #[.slice none 0 0, .slice none 0 0, .bool false]) (t := 25) ?hr ?_; (case hd => rfl); (case hg => rfl); (case hr => first | (go_simp; done) | (go_simp; rfl)); intro br hgr wc hbr hb2; have HM : Aside0 (ME w ba bb br #[.slice A0 vars2.length c0, .slice A1 m1.length c1, .bool false] #[.slice A2 vars2.length c2, .slice A3 m2.length c3, .bool false] wc) := ⟨ME.made HBA.out.1 HBA.out.2.1 HBA.out.2.2 HBB.out.1 HBB.out.2.1 HBB.out.2.2 hgr hbr hb2⟩; clear hgr hbr hb2 HBA HBB; obtain ⟨a0, a1, a2, b0, b1, b2, r0, r1, r2, f0, f1, f2⟩ := HM.out.cells)
        | (go_at_call 18; (with_reducible refine (FIT1.out _ ?s1).mono ?_); (case s1 => exact HM.out.below); rintro e w1 ⟨rfl, hb⟩; have HM1 := Aside0.mk (ME.next HM.out hb); clear hb HM FIT1 a0 a1 a2 b0 b1 b2 r0 r1 r2 f0 f1 f2; obtain ⟨a0, a1, a2, b0, b1, b2, r0, r1, r2, f0, f1, f2⟩ := HM1.out.cells)
        | (go_at_call 18; (with_reducible refine (FIT2.out _ ?s1).mono ?_); (case s1 => exact HM1.out.below); rintro e w2 ⟨rfl, hb⟩; have HM2 := Aside0.mk (ME.next HM1.out hb); clear hb HM1 FIT2 a0 a1 a2 b0 b1 b2 r0 r1 r2 f0 f1 f2; obtain ⟨a0, a1, a2, b0, b1, b2, r0, r1, r2, f0, f1, f2⟩ := HM2.out.cells)
        | (go_at_call 70; (with_reducible refine (MIX.out _ ?s1).mono ?_); (case s1 => exact HM2.out.below); rintro e w3 ⟨v0, v1, rfl, h0, h1, hb⟩; obtain ⟨Ao, co, eo⟩ := Kd.R_slice h0; subst eo; obtain ⟨Ap, cp, ep⟩ := Kd.R_slice h1; subst ep; have H0 := Aside0.mk (Kd.R_reads' h0); have H1 := Aside0.mk (Kd.R_reads' h1); have HM3 := Aside0.mk (ME.next HM2.out hb); clear h0 h1 hb HM2 MIX a0 a1 a2 b0 b1 b2 r0 r1 r2 f0 f1 f2; obtain ⟨a0, a1, a2, b0, b1, b2, r0, r1, r2, f0, f1, f2⟩ := HM3.out.cells)
        | (go_at_call 22; (with_reducible refine (CLO.out _ _ _ _ _ H0.out.2.2 H0.out.2.1 H1.out.2.2 H1.out.2.1).mono ?_); rintro e w4 ⟨v2, v3, rfl, h2, h3, hb⟩; obtain ⟨Aq, cq, eq⟩ := Kd.R_slice h2; subst eq; obtain ⟨As, cs, es⟩ := Kd.R_slice h3; subst es; have H2 := Aside0.mk (Kd.R_lower h2 HM3.out.below.size); have H3 := Aside0.mk (Kd.R_lower h3 HM3.out.below.size); have HM4 := Aside0.mk (ME.next HM3.out hb); clear h2 h3 hb a0 a1 a2 b0 b1 b2 r0 r1 r2 f0 f1 f2; obtain ⟨a0, a1, a2, b0, b1, b2, r0, r1, r2, f0, f1, f2⟩ := HM4.out.cells))
      refine bodyPost_ret (results_cell_row rfl _ _ br 25 #[.slice Aq r0_.length cq, .slice As r1_.length cs, .bool r2_] (0, 0) _ rfl (store3 HM4.out.r _ _ _).1 Try.underlying25 rfl (by kernel_rfl)) rfl ?_
      exact ⟨_, _, rfl, answer_ HM4.out.r HM4.out.below HM4.out.rb H2.out H3.out _⟩
end Go.Proofs.Ytomgebmimgaojaa.QO
end
end
section
/- Octagons as values of a law's walk: which are held, in boxes and beside, whatever is called, made and stored; and what the program's functions answer to them. -/
noncomputable section
namespace Go.Proofs.Ytomgebmimgaojaa.QO
open Go.RowKit Go.Shelf Go.Proofs.YtomgebmimgaojaaW.PrintWords Go.Proofs.YtomgebmimgaojaaW.PrintLast Go.Proofs.YtomgebmimgaojaaW.PrintMore
set_option linter.unusedVariables false
/-- an octagon as it is held -/
structure OV where
  P : Option Addr
  p : Nat
  Q : Option Addr
  q : Nat
  v : List Int
  m : List Int
  e : Bool
abbrev OV.o (x : OV) : List Int × List Int × Bool := (x.v, x.m, x.e)
/-- a row, read since w or made since -/
structure Row (w W : World) (t : Nat) (A : Option Addr) (c : Nat) (xs : List Int) : Prop where
  le : xs.length ≤ c
  k : Kd.C (Kd.int .i64) w A xs.length xs ∨ Kd.R (Kd.int .i64) t W 0 (fun _ => True) (.slice A xs.length c) xs
section
variable {w W W' : World} {t c g : Nat} {A : Option Addr} {xs : List Int} {cs : Array Value}
theorem Row.next (h : Row w W t A c xs) (hb : Below W.heap.size W W') : Row w W' t A c xs := ⟨h.le, h.k.imp id (fun h => Kd.R_below h hb)⟩
theorem Row.set (h : Row w W t A c xs) (hg : W.heap[g]? = some (.cells cs 25 (0, 0))) (ht : t ≠ 25) (j : Nat) (u : Value) : Row w (W.setCell ⟨g, j, none⟩ u) t A c xs :=
  ⟨h.le, h.k.imp id (fun h => Kd.R_set h hg (fun q hq => by
    cases hq with
    | head => exact ht
    | tail _ hq => cases hq) j u)⟩
theorem Row.reads (h : Row w W t A c xs) (hb : Below w.heap.size w W) : Kd.C (Kd.int .i64) W A xs.length xs := by
  rcases h.k with h | h
  · exact Kd.C_below h hb
  · obtain ⟨A', c', he, _, hc⟩ := Kd.R_reads h
    cases he; exact hc
theorem Row.made {v : Value} {b : Nat} (h : Kd.R (Kd.int .i64) t W b (fun _ => True) v xs) : ∃ A c, v = .slice A xs.length c ∧ Row w W t A c xs := by
  obtain ⟨A, c, rfl, hl, _⟩ := Kd.R_reads h
  exact ⟨A, c, rfl, hl, .inr (Kd.R_lower h (Nat.zero_le _))⟩
end
structure Oc (w W : World) (x : OV) : Prop where
  r0 : Row w W 3 x.P x.p x.v
  r1 : Row w W 2 x.Q x.q x.m
abbrev OV.cells (x : OV) : Obj := .cells #[.slice x.P x.v.length x.p, .slice x.Q x.m.length x.q, .bool x.e] 25 (0, 0)
abbrev zeroO : Obj := .cells #[.slice none 0 0, .slice none 0 0, .bool false] 25 (0, 0)
/-- the boxes with what lies in them, the octagons beside, the new boxes -/
structure LS (w : World) (bs : List (Nat × OV)) (vs : List OV) (es : List Nat) (W : World) : Prop where
  below : Below w.heap.size w W
  box : ∀ b, b ∈ bs → W.heap[b.1]? = some b.2.cells ∧ w.heap.size ≤ b.1 ∧ Oc w W b.2
  val : ∀ x, x ∈ vs → Oc w W x
  emp : ∀ g, g ∈ es → W.heap[g]? = some zeroO ∧ w.heap.size ≤ g
  ne : (es ++ bs.map Prod.fst).Nodup
section
variable {w W W' : World} {bs : List (Nat × OV)} {vs : List OV} {es : List Nat} {x : OV} {g : Nat}
theorem Oc.next (h : Oc w W x) (hb : Below W.heap.size W W') : Oc w W' x := ⟨h.r0.next hb, h.r1.next hb⟩
theorem Oc.set {cs : Array Value} (h : Oc w W x) (hg : W.heap[g]? = some (.cells cs 25 (0, 0))) (j : Nat) (u : Value) : Oc w (W.setCell ⟨g, j, none⟩ u) x := ⟨h.r0.set hg (by decide) j u, h.r1.set hg (by decide) j u⟩
theorem LS.next (h : LS w bs vs es W) (hb : Below W.heap.size W W') : LS w bs vs es W' :=
  ⟨h.below.trans (hb.mono h.below.size), fun b hm => ⟨blk_below (h.box b hm).1 hb, (h.box b hm).2.1, (h.box b hm).2.2.next hb⟩, fun x hm => (h.val x hm).next hb, fun g hm => ⟨blk_below (h.emp g hm).1 hb, (h.emp g hm).2⟩, h.ne⟩
theorem LS.drew (h : LS w bs vs es W) : LS w bs vs es W.drew := h.next (below_drew (Below.refl _ _))
/-- one octagon more is held -/
theorem LS.call (h : LS w bs vs es W) (hb : Below W.heap.size W W') (hx : Oc w W' x) : LS w bs (x :: vs) es W' :=
  have q := h.next hb
  ⟨q.below, q.box, fun y hm => by
    cases hm with
    | head => exact hx
    | tail _ hm => exact q.val y hm, q.emp, q.ne⟩
/-- one is held no more -/
theorem LS.lose (h : LS w bs (x :: vs) es W) : LS w bs vs es W := ⟨h.below, h.box, fun y hm => h.val y (.tail _ hm), h.emp, h.ne⟩
theorem LS.lt (h : LS w bs vs es W) : ∀ k, k ∈ es ++ bs.map Prod.fst → k < W.heap.size := by
  intro k hk
  rcases List.mem_append.1 hk with hk | hk
  · exact blk_lt (h.emp k hk).1
  · obtain ⟨b, hb, rfl⟩ := List.mem_map.1 hk
    exact blk_lt (h.box b hb).1
/-- a new box -/
theorem LS.made (h : LS w bs vs es W) (hg : g = W.heap.size) (hx : W'.heap[g]? = some zeroO) (hb : Below W.heap.size W W') : LS w bs vs (g :: es) W' :=
  have q := h.next hb
  ⟨q.below, q.box, q.val, fun k hm => by
    cases hm with
    | head => exact ⟨hx, hg ▸ h.below.size⟩
    | tail _ hm => exact q.emp k hm, List.nodup_cons.2 ⟨fun hm => absurd (h.lt g hm) (by omega), h.ne⟩⟩
/-- an octagon is stored into a new box -/
theorem LS.put (h : LS w bs vs es W) (hg : g ∈ es) (hx : x ∈ vs) :
    LS w ((g, x) :: bs) vs (es.erase g) (((W.setCell ⟨g, 0, none⟩ (.slice x.P x.v.length x.p)).setCell ⟨g, 1, none⟩ (.slice x.Q x.m.length x.q)).setCell ⟨g, 2, none⟩ (.bool x.e)) := by
  have hz := h.emp g hg
  have b1 := store3 hz.1 (.slice x.P x.v.length x.p) (.slice x.Q x.m.length x.q) (.bool x.e)
  have q1 : (W.setCell ⟨g, 0, none⟩ (.slice x.P x.v.length x.p)).heap[g]? = some (.cells #[.slice x.P x.v.length x.p, .slice none 0 0, .bool false] 25 (0, 0)) := blk_put hz.1 0 _ rfl
  have q2 : ((W.setCell ⟨g, 0, none⟩ (.slice x.P x.v.length x.p)).setCell ⟨g, 1, none⟩ (.slice x.Q x.m.length x.q)).heap[g]? = some (.cells #[.slice x.P x.v.length x.p, .slice x.Q x.m.length x.q, .bool false] 25 (0, 0)) := blk_put q1 1 _ rfl
  have oc : ∀ {y : OV}, Oc w W y → Oc w (((W.setCell ⟨g, 0, none⟩ (.slice x.P x.v.length x.p)).setCell ⟨g, 1, none⟩ (.slice x.Q x.m.length x.q)).setCell ⟨g, 2, none⟩ (.bool x.e)) y :=
    fun h => ((h.set hz.1 0 _).set q1 1 _).set q2 2 _
  have nd := h.ne
  have hes : es.Nodup := (List.nodup_append.1 nd).1
  have hgb : ∀ b, b ∈ bs → b.1 ≠ g := fun b hb e => (List.nodup_append.1 nd).2.2 g hg b.1 (List.mem_map_of_mem hb) e.symm
  refine ⟨below_set (below_set (below_set h.below hz.2) hz.2) hz.2, ?_, fun y hy => oc (h.val y hy), fun k hk => ?_, ?_⟩
  · intro b hb
    cases hb with
    | head => exact ⟨b1.1, hz.2, oc (h.val x hx)⟩
    | tail _ hb =>
      have := h.box b hb
      exact ⟨(b1.2 b.1 (hgb b hb)).trans this.1, this.2.1, oc this.2.2⟩
  · have hk' := (List.Nodup.mem_erase_iff hes).1 hk
    exact ⟨(b1.2 k hk'.1).trans (h.emp k hk'.2).1, (h.emp k hk'.2).2⟩
  · have nd2 := List.nodup_append.1 nd
    refine List.nodup_append.2 ⟨hes.erase g, List.nodup_cons.2 ⟨fun hm => ?_, nd2.2.1⟩, fun a ha b hb e => ?_⟩
    · obtain ⟨b, hb, e⟩ := List.mem_map.1 hm
      exact hgb b hb e
    · have ha' := (List.Nodup.mem_erase_iff hes).1 ha
      cases hb with
      | head => exact ha'.1 e
      | tail _ hb => exact nd2.2.2 a ha'.2 b hb e
/-- a box's cells -/
theorem LS.cell (h : LS w bs vs es W) (hb : (g, x) ∈ bs) : (W.cell? ⟨g, 0, none⟩ = some (.slice x.P x.v.length x.p) ∧ W.cell? ⟨g, 1, none⟩ = some (.slice x.Q x.m.length x.q) ∧ W.cell? ⟨g, 2, none⟩ = some (.bool x.e)) :=
  have q := (h.box _ hb).1
  ⟨blk_cell q 0, blk_cell q 1, blk_cell q 2⟩
end
/-- octagons that are sound, over these scalars -/
abbrev OkV (vars : List Int) (x : OV) : Prop := OFit x.v x.m x.e ∧ x.v = vars
section
variable {w W : World} {x y : OV} {vars : List Int}
theorem of_calls {f : Nat} {args : Array Value} {a : List Int × List Int × Bool}
    (h : Calls Try.prog f args W fun e w' => ∃ v0_ v1_ : Value, e = .returned (.agg #[v0_, v1_, .bool a.2.2]) ∧ Kd.R (Kd.int .i64) 3 w' W.heap.size (fun _ => True) v0_ a.1 ∧ Kd.R (Kd.int .i64) 2 w' W.heap.size (fun _ => True) v1_ a.2.1 ∧ Below W.heap.size W w') :
    Calls Try.prog f args W fun e W' => ∃ z : OV, e = .returned (.agg #[.slice z.P z.v.length z.p, .slice z.Q z.m.length z.q, .bool z.e]) ∧ z.o = a ∧ Oc w W' z ∧ Below W.heap.size W W' := by
  refine h.mono ?_
  rintro e W' ⟨v0, v1, rfl, h0, h1, hb⟩
  obtain ⟨P, p, rfl, k0⟩ := Row.made (w := w) h0
  obtain ⟨Q, q, rfl, k1⟩ := Row.made (w := w) h1
  exact ⟨⟨P, p, Q, q, a.1, a.2.1, a.2.2⟩, rfl, rfl, ⟨k0, k1⟩, hb⟩
theorem close_o (hx : Oc w W x) (hb : Below w.heap.size w W) (fx : OFit x.v x.m x.e) :
    Calls Try.prog 22 #[.agg #[.slice x.P x.v.length x.p, .slice x.Q x.m.length x.q, .bool x.e]] W fun e W' => ∃ z : OV, e = .returned (.agg #[.slice z.P z.v.length z.p, .slice z.Q z.m.length z.q, .bool z.e]) ∧ z.o = closeF x.v x.m x.e ∧ Oc w W' z ∧ Below W.heap.size W W' :=
  of_calls (oct_Close_any x.P x.p x.v x.Q x.q x.m x.e W (hx.r0.reads hb) hx.r0.le (hx.r1.reads hb) hx.r1.le fx)
theorem join_o (hx : Oc w W x) (hy : Oc w W y) (hb : Below w.heap.size w W) (fx : OkV vars x) (fy : OkV vars y) :
    Calls Try.prog 36 #[.agg #[.slice x.P x.v.length x.p, .slice x.Q x.m.length x.q, .bool x.e], .agg #[.slice y.P y.v.length y.p, .slice y.Q y.m.length y.q, .bool y.e]] W fun e W' => ∃ z : OV, e = .returned (.agg #[.slice z.P z.v.length z.p, .slice z.Q z.m.length z.q, .bool z.e]) ∧ z.o = joinF x.v x.m x.e y.m y.e ∧ Oc w W' z ∧ Below W.heap.size W W' :=
  of_calls (oct_Join_any x.P x.p x.v x.Q x.q x.m x.e y.P y.p y.v y.Q y.q y.m y.e W (hx.r0.reads hb) hx.r0.le (hx.r1.reads hb) hx.r1.le (hy.r0.reads hb) hy.r0.le (hy.r1.reads hb) hy.r1.le fx.1 fy.1 (fy.2.trans fx.2.symm))
theorem meet_o (hx : Oc w W x) (hy : Oc w W y) (hb : Below w.heap.size w W) (fx : OkV vars x) (fy : OkV vars y) :
    Calls Try.prog 37 #[.agg #[.slice x.P x.v.length x.p, .slice x.Q x.m.length x.q, .bool x.e], .agg #[.slice y.P y.v.length y.p, .slice y.Q y.m.length y.q, .bool y.e]] W fun e W' => ∃ z : OV, e = .returned (.agg #[.slice z.P z.v.length z.p, .slice z.Q z.m.length z.q, .bool z.e]) ∧ z.o = meetF x.v x.m x.e y.m y.e ∧ Oc w W' z ∧ Below W.heap.size W W' :=
  of_calls (oct_Meet_any x.P x.p x.v x.Q x.q x.m x.e y.P y.p y.v y.Q y.q y.m y.e W (hx.r0.reads hb) hx.r0.le (hx.r1.reads hb) hx.r1.le (hy.r0.reads hb) hy.r0.le (hy.r1.reads hb) hy.r1.le fx.1 fy.1 (fy.2.trans fx.2.symm))
theorem leq_o (hx : Oc w W x) (hy : Oc w W y) (hb : Below w.heap.size w W) (fx : OkV vars x) (fy : OkV vars y) :
    Calls Try.prog 38 #[.agg #[.slice x.P x.v.length x.p, .slice x.Q x.m.length x.q, .bool x.e], .agg #[.slice y.P y.v.length y.p, .slice y.Q y.m.length y.q, .bool y.e]] W fun e W' => e = .returned (.bool (leqF x.v x.m x.e y.m y.e)) ∧ Below W.heap.size W W' :=
  oct_Leq_any x.P x.p x.v x.Q x.q x.m x.e y.P y.p y.v y.Q y.q y.m y.e W (hx.r0.reads hb) hx.r0.le (hx.r1.reads hb) hx.r1.le (hy.r0.reads hb) hy.r0.le (hy.r1.reads hb) hy.r1.le fx.1 fy.1 (fy.2.trans fx.2.symm)
end
end Go.Proofs.Ytomgebmimgaojaa.QO
end
end
section
/- Written by a program of this session out of the translation. -/
noncomputable section
namespace Go.Proofs.Ytomgebmimgaojaa.QO
open Go.RowKit Go.Proofs.YtomgebmimgaojaaW.PrintWords Go.Proofs.YtomgebmimgaojaaW.PrintLast
set_option linter.unusedVariables false
set_option linter.unusedSimpArgs false
/-! ### gimballaw11_value: function 67 -/
def gimballaw11_value.f (l0 : List Int) (a1 : Int) : Option (Int) := if (Int.tmod a1 2) = 0 then (if 0 ≤ (wrap64 (Int.tdiv a1 2)) then (if (wrap64 (Int.tdiv a1 2)) < (l0.length : Int) then (some (rd l0 (wrap64 (Int.tdiv a1 2)))) else (none)) else (none)) else (if 0 ≤ (wrap64 (Int.tdiv a1 2)) then (if (wrap64 (Int.tdiv a1 2)) < (l0.length : Int) then (some (wrap64 (-(rd l0 (wrap64 (Int.tdiv a1 2)))))) else (none)) else (none))
set_option maxHeartbeats 8000000 in
set_option maxRecDepth 100000 in
theorem gimballaw11_value.calls (A0 : Option Addr) (c0 : Nat) (l0 : List Int) (a1 : Int) (r : Int) (w : World) (hr0 : Kd.C (Kd.int .i64) w A0 l0.length l0) (hc0 : l0.length ≤ c0) (h : gimballaw11_value.f l0 a1 = some r) :
 Calls Try.prog 67 #[.slice A0 l0.length c0, .int .i64 a1] w fun e w' => e = .returned (.int .i64 r) ∧ Drawn0 w w' := by
 have HR0 := Aside0.mk hr0
 have HC0 := Aside0.mk hc0
 clear hr0 hc0
 have H : (if (Int.tmod a1 2) = 0 then (if 0 ≤ (wrap64 (Int.tdiv a1 2)) then (if (wrap64 (Int.tdiv a1 2)) < (l0.length : Int) then (some (rd l0 (wrap64 (Int.tdiv a1 2)))) else (none)) else (none)) else (if 0 ≤ (wrap64 (Int.tdiv a1 2)) then (if (wrap64 (Int.tdiv a1 2)) < (l0.length : Int) then (some (wrap64 (-(rd l0 (wrap64 (Int.tdiv a1 2)))))) else (none)) else (none))) = some r := h
 clear h
 by_cases c3 : (Int.tmod a1 2) = 0
 ·
  rw [if_pos c3] at H
  have c3b0 : ((Int.tmod a1 2) == 0) = true := beq_iff_eq.mpr c3
  have c3b1 : ((Int.tmod a1 2) != 0) = false := bne_eq_false_iff_eq.mpr c3
  clear c3
  obtain ⟨ji4, hji4⟩ : ∃ j_ : Int, (wrap64 (Int.tdiv a1 2)) = j_ := ⟨_, rfl⟩
  replace H : (if 0 ≤ (ji4) then (if (ji4) < (l0.length : Int) then (some (rd l0 (ji4))) else (none)) else (none)) = some r := by first | (rw [hji4] at H; exact H) | (simp only [hji4] at H ⊢; exact H)
  have hji4w : (IntKind.i64.wrap (Int.tdiv a1 2)) = ji4 := (i64_w _).trans hji4
  by_cases c5 : 0 ≤ (ji4)
  ·
   rw [if_pos c5] at H
   have c5b0 : decide (0 ≤ (ji4)) = true := decide_eq_true c5
   clear c5
   by_cases c6 : (ji4) < (l0.length : Int)
   ·
    rw [if_pos c6] at H
    have c6b0 : decide ((ji4) < (l0.length : Int)) = true := decide_eq_true c6
    clear c6
    obtain rfl := Option.some.inj H
    have p565 : 0 ≤ ((ji4) : Int) := of_decide_eq_true (by first | (with_reducible assumption) | assumption)
    have q565 : (ji4) < (l0.length : Int) := of_decide_eq_true (by first | (with_reducible assumption) | assumption)
    obtain ⟨ad565, e565, hx565_0⟩ := Kd.at_int HR0.out (ji4) p565 q565
    cases e565
    replace p565 := eq_true p565
    replace q565 := eq_true q565
    go_enter Try.func67, Try.ntmps67
    go_wp2
    go_ret
    exact ⟨by first | rfl | (simp; done) | (simp only [← hji4] <;> (first | rfl | simp)) | (simp [*]; done), by repeat (first | exact Drawn0.refl _ | apply Drawn0.step)⟩
   ·
    rw [if_neg c6] at H
    exact absurd H (by simp)
  ·
   rw [if_neg c5] at H
   exact absurd H (by simp)
 ·
  rw [if_neg c3] at H
  have c3b0 : ((Int.tmod a1 2) == 0) = false := beq_eq_false_iff_ne.mpr c3
  have c3b1 : ((Int.tmod a1 2) != 0) = true := bne_iff_ne.mpr c3
  obtain ⟨ji7, hji7⟩ : ∃ j_ : Int, (wrap64 (Int.tdiv a1 2)) = j_ := ⟨_, rfl⟩
  replace H : (if 0 ≤ (ji7) then (if (ji7) < (l0.length : Int) then (some (wrap64 (-(rd l0 (ji7))))) else (none)) else (none)) = some r := by first | (rw [hji7] at H; exact H) | (simp only [hji7] at H ⊢; exact H)
  have hji7w : (IntKind.i64.wrap (Int.tdiv a1 2)) = ji7 := (i64_w _).trans hji7
  by_cases c8 : 0 ≤ (ji7)
  ·
   rw [if_pos c8] at H
   have c8b0 : decide (0 ≤ (ji7)) = true := decide_eq_true c8
   clear c8
   by_cases c9 : (ji7) < (l0.length : Int)
   ·
    rw [if_pos c9] at H
    have c9b0 : decide ((ji7) < (l0.length : Int)) = true := decide_eq_true c9
    clear c9
    obtain rfl := Option.some.inj H
    have p566 : 0 ≤ ((ji7) : Int) := of_decide_eq_true (by first | (with_reducible assumption) | assumption)
    have q566 : (ji7) < (l0.length : Int) := of_decide_eq_true (by first | (with_reducible assumption) | assumption)
    obtain ⟨ad566, e566, hx566_0⟩ := Kd.at_int HR0.out (ji7) p566 q566
    cases e566
    replace p566 := eq_true p566
    replace q566 := eq_true q566
    go_enter Try.func67, Try.ntmps67
    go_wp2
    go_ret
    exact ⟨by first | rfl | (simp; done) | (simp only [← hji7] <;> (first | rfl | simp)) | (simp [*]; done), by repeat (first | exact Drawn0.refl _ | apply Drawn0.step)⟩
   ·
    rw [if_neg c9] at H
    exact absurd H (by simp)
  ·
   rw [if_neg c8] at H
   exact absurd H (by simp)
end Go.Proofs.Ytomgebmimgaojaa.QO
end
end
section
/- Written by a program of this session out of the translation. -/
noncomputable section
namespace Go.Proofs.Ytomgebmimgaojaa.QO
open Go.RowKit Go.Proofs.YtomgebmimgaojaaW.PrintWords Go.Proofs.YtomgebmimgaojaaW.PrintLast
set_option linter.unusedVariables false
set_option linter.unusedSimpArgs false
/-! ### gimballaw11_holds: function 33 -/
mutual
def gimballaw11_holds.l0 : Nat → List Int → Int → Int → List Int → List Int → Bool → Option (Bool)
 | 0, _, _, _, _, _, _ => none
 | k + 1, x1, x5, x6, x568000, x568001, x568002 => if x6 < x5 then (gimballaw11_holds.l1 k x1 x5 x6 0 x568000 x568001 x568002) else (some true)
def gimballaw11_holds.l1 : Nat → List Int → Int → Int → Int → List Int → List Int → Bool → Option (Bool)
 | 0, _, _, _, _, _, _, _ => none
 | k + 1, x1, x5, x6, x7, x568000, x568001, x568002 => if x7 < x5 then (if 0 ≤ (wrap64 ((wrap64 (x6 * x5)) + x7)) then (if (wrap64 ((wrap64 (x6 * x5)) + x7)) < (x568001.length : Int) then (if (rd x568001 (wrap64 ((wrap64 (x6 * x5)) + x7))) = 4611686018427387904 then (gimballaw11_holds.l1 k x1 x5 x6 (wrap64 (x7 + 1)) x568000 x568001 x568002) else ((gimballaw11_value.f x1 x7).bind fun t569 => ((gimballaw11_value.f x1 x6).bind fun t570 => (if (wrap64 (t569 - t570)) > (rd x568001 (wrap64 ((wrap64 (x6 * x5)) + x7))) then (some false) else (gimballaw11_holds.l1 k x1 x5 x6 (wrap64 (x7 + 1)) x568000 x568001 x568002))))) else (none)) else (none)) else (gimballaw11_holds.l0 k x1 x5 (wrap64 (x6 + 1)) x568000 x568001 x568002)
end
def gimballaw11_holds.f (k : Nat) (l0_0 : List Int) (l0_1 : List Int) (a0_2 : Bool) (l1 : List Int) : Option (Bool) := if a0_2 = true then (some false) else (gimballaw11_holds.l0 k l1 (wrap64 (2 * (l0_0.length : Int))) 0 l0_0 l0_1 a0_2)
theorem gimballaw11_holds.mono_l : ∀ k, (∀ y0 y1 y2 y3 y4 y5, LeO (gimballaw11_holds.l0 k y0 y1 y2 y3 y4 y5) (gimballaw11_holds.l0 (k + 1) y0 y1 y2 y3 y4 y5)) ∧ (∀ y0 y1 y2 y3 y4 y5 y6, LeO (gimballaw11_holds.l1 k y0 y1 y2 y3 y4 y5 y6) (gimballaw11_holds.l1 (k + 1) y0 y1 y2 y3 y4 y5 y6))
 | 0 => ⟨fun _ _ _ _ _ _ r h => by simp [gimballaw11_holds.l0] at h, fun _ _ _ _ _ _ _ r h => by simp [gimballaw11_holds.l1] at h⟩
 | k + 1 => by
  obtain ⟨ih0, ih1⟩ := gimballaw11_holds.mono_l k
  refine ⟨?_, ?_⟩
  ·
   intro y0 y1 y2 y3 y4 y5
   unfold gimballaw11_holds.l0
   repeat' first
   | (with_reducible exact ih0 _ _ _ _ _ _)
   | (with_reducible exact ih1 _ _ _ _ _ _ _)
   | (with_reducible exact LeO.refl _)
   | (with_reducible exact LeO.none _)
   | (with_reducible refine LeO.ite ?_ ?_)
   | (with_reducible refine LeO.bind ?_ (fun _ => ?_))
   | exact ih0 _ _ _ _ _ _
   | exact ih1 _ _ _ _ _ _ _
   | exact LeO.none _
   | refine LeO.ite ?_ ?_
   | refine LeO.bind ?_ (fun _ => ?_)
  ·
   intro y0 y1 y2 y3 y4 y5 y6
   unfold gimballaw11_holds.l1
   repeat' first
   | (with_reducible exact ih0 _ _ _ _ _ _)
   | (with_reducible exact ih1 _ _ _ _ _ _ _)
   | (with_reducible exact LeO.refl _)
   | (with_reducible exact LeO.none _)
   | (with_reducible refine LeO.ite ?_ ?_)
   | (with_reducible refine LeO.bind ?_ (fun _ => ?_))
   | exact ih0 _ _ _ _ _ _
   | exact ih1 _ _ _ _ _ _ _
   | exact LeO.none _
   | refine LeO.ite ?_ ?_
   | refine LeO.bind ?_ (fun _ => ?_)
theorem gimballaw11_holds.mono : ∀ a0 a1 a2 a3 k, LeO (gimballaw11_holds.f k a0 a1 a2 a3) (gimballaw11_holds.f (k + 1) a0 a1 a2 a3) := by
 intro a0 a1 a2 a3 k
 obtain ⟨ih0, ih1⟩ := gimballaw11_holds.mono_l k
 unfold gimballaw11_holds.f
 repeat' first
  | (with_reducible exact ih0 _ _ _ _ _ _)
  | (with_reducible exact ih1 _ _ _ _ _ _ _)
  | (with_reducible exact LeO.refl _)
  | (with_reducible exact LeO.none _)
  | (with_reducible refine LeO.ite ?_ ?_)
  | (with_reducible refine LeO.bind ?_ (fun _ => ?_))
  | exact ih0 _ _ _ _ _ _
  | exact ih1 _ _ _ _ _ _ _
  | exact LeO.none _
  | refine LeO.ite ?_ ?_
  | refine LeO.bind ?_ (fun _ => ?_)
set_option maxHeartbeats 8000000 in
set_option maxRecDepth 100000 in
theorem gimballaw11_holds.calls (k : Nat) (A0_0 : Option Addr) (c0_0 : Nat) (l0_0 : List Int) (A0_1 : Option Addr) (c0_1 : Nat) (l0_1 : List Int) (a0_2 : Bool) (A1 : Option Addr) (c1 : Nat) (l1 : List Int) (r : Bool) (w : World) (hr0_0 : Kd.C (Kd.int .i64) w A0_0 l0_0.length l0_0) (hc0_0 : l0_0.length ≤ c0_0) (hr0_1 : Kd.C (Kd.int .i64) w A0_1 l0_1.length l0_1) (hc0_1 : l0_1.length ≤ c0_1) (hr1 : Kd.C (Kd.int .i64) w A1 l1.length l1) (hc1 : l1.length ≤ c1) (h : gimballaw11_holds.f k l0_0 l0_1 a0_2 l1 = some r) :
 Calls Try.prog 33 #[.agg #[.slice A0_0 l0_0.length c0_0, .slice A0_1 l0_1.length c0_1, .bool a0_2], .slice A1 l1.length c1] w fun e w' => e = .returned (.bool r) ∧ Below w.heap.size w w' := by
 have hu25 := Try.underlying25
 have HR0_0 := Aside0.mk hr0_0
 have HC0_0 := Aside0.mk hc0_0
 clear hr0_0 hc0_0
 have HR0_1 := Aside0.mk hr0_1
 have HC0_1 := Aside0.mk hc0_1
 clear hr0_1 hc0_1
 have HR1 := Aside0.mk hr1
 have HC1 := Aside0.mk hc1
 clear hr1 hc1
 have HB := Aside0.mk (Below.refl w.heap.size w)
 have H : (if a0_2 = true then (some false) else (gimballaw11_holds.l0 k l1 (wrap64 (2 * (l0_0.length : Int))) 0 l0_0 l0_1 a0_2)) = some r := h
 clear h
 by_cases c3 : a0_2 = true
 ·
  subst c3
  have H1 : (some false) = some r := by rw [if_pos rfl] at H; exact H
  clear H
  have H := H1
  clear H1
  obtain rfl := Option.some.inj H
  go_enter Try.func33, Try.ntmps33
  go_wp2_with ((with_reducible refine gate_dst (N := 2) rfl ?_); refine box_event ?hg (N := 2) ?hd (cs := #[.slice A0_0 l0_0.length c0_0, .slice A0_1 l0_1.length c0_1, .bool true]) (t := 25) ?hr ?_; (case hd => rfl); (case hg => rfl); (case hr => first | (go_simp; done) | (go_simp; rfl)); intro gb567 hg w4 hbox hb; have BK567 := Aside0.mk (hbox); have GW567 := vS hg HB; have GE567 := vS hg HB; replace HB := vWs HB hb; clear hb hbox hg; obtain ⟨hcz5_0, hcz5_1, hcz5_2, hfz5_0, hfz5_1, hfz5_2⟩ := vF3 BK567.out)
  repeat (go_quiet (first | ((with_reducible refine gate_dst (N := 2) rfl ?_); refine box_event ?hg (N := 2) ?hd (cs := #[.slice A0_0 l0_0.length c0_0, .slice A0_1 l0_1.length c0_1, .bool true]) (t := 25) ?hr ?_; (case hd => rfl); (case hg => rfl); (case hr => first | (go_simp; done) | (go_simp; rfl)); intro gb567 hg w4 hbox hb; have BK567 := Aside0.mk (hbox); have GW567 := vS hg HB; have GE567 := vS hg HB; replace HB := vWs HB hb; clear hb hbox hg; obtain ⟨hcz5_0, hcz5_1, hcz5_2, hfz5_0, hfz5_1, hfz5_2⟩ := vF3 BK567.out)); try go_wp2_with fail)
  go_ret
  exact ⟨by first | rfl | (simp [errW_none, errW_some] <;> rfl) | (simp [*, errW_none, errW_some] <;> rfl) | (simp [wrap64]; done), vW HB.out⟩
 ·
  replace c3 := Bool.eq_false_iff.mpr c3
  subst c3
  have H1 : (gimballaw11_holds.l0 k l1 (wrap64 (2 * (l0_0.length : Int))) 0 l0_0 l0_1 false) = some r := by rw [if_neg (show ¬ (false = true) by decide)] at H; exact H
  clear H
  have H := H1
  clear H1
  have H' := Aside0.mk H
  clear H
  go_enter Try.func33, Try.ntmps33
  go_wp2_with ((with_reducible refine gate_dst (N := 2) rfl ?_); refine box_event ?hg (N := 2) ?hd (cs := #[.slice A0_0 l0_0.length c0_0, .slice A0_1 l0_1.length c0_1, .bool false]) (t := 25) ?hr ?_; (case hd => rfl); (case hg => rfl); (case hr => first | (go_simp; done) | (go_simp; rfl)); intro gb567 hg w6 hbox hb; have BK567 := Aside0.mk (hbox); have GW567 := vS hg HB; have GE567 := vS hg HB; replace HB := vWs HB hb; clear hb hbox hg; obtain ⟨hcz7_0, hcz7_1, hcz7_2, hfz7_0, hfz7_1, hfz7_2⟩ := vF3 BK567.out)
  repeat (go_quiet (first | ((with_reducible refine gate_dst (N := 2) rfl ?_); refine box_event ?hg (N := 2) ?hd (cs := #[.slice A0_0 l0_0.length c0_0, .slice A0_1 l0_1.length c0_1, .bool false]) (t := 25) ?hr ?_; (case hd => rfl); (case hg => rfl); (case hr => first | (go_simp; done) | (go_simp; rfl)); intro gb567 hg w6 hbox hb; have BK567 := Aside0.mk (hbox); have GW567 := vS hg HB; have GE567 := vS hg HB; replace HB := vWs HB hb; clear hb hbox hg; obtain ⟨hcz7_0, hcz7_1, hcz7_2, hfz7_0, hfz7_1, hfz7_2⟩ := vF3 BK567.out)); try go_wp2_with fail)
  go_loopg [6] k (fun kq v6 w' => ∃ (x6_1 : Int), v6 = .int .i64 x6_1 ∧ Aside0 (gimballaw11_holds.l0 kq l1 (wrap64 (2 * (l0_0.length : Int))) x6_1 l0_0 l0_1 false = some r) ∧ Aside0 (kq ≤ k) ∧ Aside0 (w'.heap[gb567]? = some (.cells #[(.slice A0_0 l0_0.length c0_0), (.slice A0_1 l0_1.length c0_1), .bool false] 25 (0, 0))) ∧ Aside0 (Below w.heap.size w w'))
  case atStart => exact ⟨(0), (by first | rfl | (simp; done) | (simp [*]; done)), H', ⟨Nat.le_refl _⟩, ⟨vB BK567.out⟩, ⟨vW HB.out⟩⟩
  case round =>
   clear H'
   try clear hcz7_0
   try clear hcz7_1
   try clear hcz7_2
   try clear hfz7_0
   try clear hfz7_1
   try clear hfz7_2
   obtain ⟨x6_1, rfl, HA, HK1, BK567, HB⟩ := hrel
   cases gk with
   | zero => exact absurd HA.out (by simp [gimballaw11_holds.l0])
   | succ k1 =>
    have H := HA.out
    clear HA
    simp only [gimballaw11_holds.l0] at H
    by_cases c8 : x6_1 < (wrap64 (2 * (l0_0.length : Int)))
    ·
     rw [if_pos c8] at H
     have c8b0 : decide (x6_1 < (wrap64 (2 * (l0_0.length : Int)))) = true := decide_eq_true c8
     clear c8
     have H' := Aside0.mk H
     clear H
     go_wp2
     repeat (go_quiet (fail); try go_wp2)
     go_loopg [7] k1 (fun kq v7 w' => ∃ (x7_2 : Int), v7 = .int .i64 x7_2 ∧ Aside0 (gimballaw11_holds.l1 kq l1 (wrap64 (2 * (l0_0.length : Int))) x6_1 x7_2 l0_0 l0_1 false = some r) ∧ Aside0 (kq ≤ k1) ∧ Aside0 (w'.heap[gb567]? = some (.cells #[(.slice A0_0 l0_0.length c0_0), (.slice A0_1 l0_1.length c0_1), .bool false] 25 (0, 0))) ∧ Aside0 (Below w.heap.size w w'))
     case atStart => exact ⟨(0), (by first | rfl | (simp; done) | (simp [*]; done)), H', ⟨Nat.le_refl _⟩, ⟨vB BK567.out⟩, ⟨vW HB.out⟩⟩
     case round =>
      clear H'
      try clear c8b0
      obtain ⟨x7_2, rfl, HA, HK2, BK567, HB⟩ := hrel
      cases gk with
      | zero => exact absurd HA.out (by simp [gimballaw11_holds.l1])
      | succ k2 =>
       have H := HA.out
       clear HA
       simp only [gimballaw11_holds.l1] at H
       by_cases c9 : x7_2 < (wrap64 (2 * (l0_0.length : Int)))
       ·
        rw [if_pos c9] at H
        have c9b0 : decide (x7_2 < (wrap64 (2 * (l0_0.length : Int)))) = true := decide_eq_true c9
        clear c9
        obtain ⟨ji10, hji10⟩ : ∃ j_ : Int, (wrap64 ((wrap64 (x6_1 * (wrap64 (2 * (l0_0.length : Int))))) + x7_2)) = j_ := ⟨_, rfl⟩
        replace H : (if 0 ≤ (ji10) then (if (ji10) < (l0_1.length : Int) then (if (rd l0_1 (ji10)) = 4611686018427387904 then (gimballaw11_holds.l1 k2 l1 (wrap64 (2 * (l0_0.length : Int))) x6_1 (wrap64 (x7_2 + 1)) l0_0 l0_1 false) else ((gimballaw11_value.f l1 x7_2).bind fun t569 => ((gimballaw11_value.f l1 x6_1).bind fun t570 => (if (wrap64 (t569 - t570)) > (rd l0_1 (ji10)) then (some false) else (gimballaw11_holds.l1 k2 l1 (wrap64 (2 * (l0_0.length : Int))) x6_1 (wrap64 (x7_2 + 1)) l0_0 l0_1 false))))) else (none)) else (none)) = some r := by first | (rw [hji10] at H; exact H) | (simp only [hji10] at H ⊢; exact H)
        have hji10w : (IntKind.i64.wrap ((wrap64 (x6_1 * (wrap64 (2 * (l0_0.length : Int))))) + x7_2)) = ji10 := (i64_w _).trans hji10
        by_cases c11 : 0 ≤ (ji10)
        ·
         rw [if_pos c11] at H
         have c11b0 : decide (0 ≤ (ji10)) = true := decide_eq_true c11
         clear c11
         by_cases c12 : (ji10) < (l0_1.length : Int)
         ·
          rw [if_pos c12] at H
          have c12b0 : decide ((ji10) < (l0_1.length : Int)) = true := decide_eq_true c12
          clear c12
          by_cases c13 : (rd l0_1 (ji10)) = 4611686018427387904
          ·
           rw [if_pos c13] at H
           have c13b0 : ((rd l0_1 (ji10)) == 4611686018427387904) = true := beq_iff_eq.mpr c13
           have c13b1 : ((rd l0_1 (ji10)) != 4611686018427387904) = false := bne_eq_false_iff_eq.mpr c13
           clear c13
           have H' := Aside0.mk H
           clear H
           obtain ⟨hcz14_0, hcz14_1, hcz14_2, hfz14_0, hfz14_1, hfz14_2⟩ := vF3 BK567.out
           have p568 : 0 ≤ ((ji10) : Int) := of_decide_eq_true (by first | (with_reducible assumption) | assumption)
           have q568 : (ji10) < (l0_1.length : Int) := of_decide_eq_true (by first | (with_reducible assumption) | assumption)
           obtain ⟨ad568, e568, hx568_0⟩ := Kd.at_int HR0_1.out (ji10) p568 q568
           cases e568
           replace hx568_0 := (HB.out.cell (World.block_lt_of_cell? w _ hx568_0)).trans hx568_0
           replace p568 := eq_true p568
           replace q568 := eq_true q568
           go_wp2
           repeat (go_quiet (fail); try go_wp2)
           go_roundg k2
           case measure => have := HK1.out; have := HK2.out; omega
           case rel => exact ⟨(wrap64 (x7_2 + 1)), (by first | rfl | (simp; done) | (simp [*]; done)), H', ⟨by have := HK1.out; have := HK2.out; omega⟩, ⟨vB BK567.out⟩, ⟨vW HB.out⟩⟩
          ·
           rw [if_neg c13] at H
           have c13b0 : ((rd l0_1 (ji10)) == 4611686018427387904) = false := beq_eq_false_iff_ne.mpr c13
           have c13b1 : ((rd l0_1 (ji10)) != 4611686018427387904) = true := bne_iff_ne.mpr c13
           replace H := Option.bind_eq_some_iff.mp H
           obtain ⟨t569, A150, H⟩ := H
           replace H : ((gimballaw11_value.f l1 x6_1).bind fun t570 => (if (wrap64 (t569 - t570)) > (rd l0_1 (ji10)) then (some false) else (gimballaw11_holds.l1 k2 l1 (wrap64 (2 * (l0_0.length : Int))) x6_1 (wrap64 (x7_2 + 1)) l0_0 l0_1 false))) = some r := H
           have A15 := Aside0.mk A150
           clear A150
           replace H := Option.bind_eq_some_iff.mp H
           obtain ⟨t570, A160, H⟩ := H
           replace H : (if (wrap64 (t569 - t570)) > (rd l0_1 (ji10)) then (some false) else (gimballaw11_holds.l1 k2 l1 (wrap64 (2 * (l0_0.length : Int))) x6_1 (wrap64 (x7_2 + 1)) l0_0 l0_1 false)) = some r := H
           have A16 := Aside0.mk A160
           clear A160
           by_cases c17 : (wrap64 (t569 - t570)) > (rd l0_1 (ji10))
           ·
            rw [if_pos c17] at H
            have c17b0 : decide ((rd l0_1 (ji10)) < (wrap64 (t569 - t570))) = true := decide_eq_true c17
            clear c17
            obtain rfl := Option.some.inj H
            obtain ⟨hcz18_0, hcz18_1, hcz18_2, hfz18_0, hfz18_1, hfz18_2⟩ := vF3 BK567.out
            have p568 : 0 ≤ ((ji10) : Int) := of_decide_eq_true (by first | (with_reducible assumption) | assumption)
            have q568 : (ji10) < (l0_1.length : Int) := of_decide_eq_true (by first | (with_reducible assumption) | assumption)
            obtain ⟨ad568, e568, hx568_0⟩ := Kd.at_int HR0_1.out (ji10) p568 q568
            cases e568
            replace hx568_0 := (HB.out.cell (World.block_lt_of_cell? w _ hx568_0)).trans hx568_0
            replace p568 := eq_true p568
            replace q568 := eq_true q568
            go_wp2_with fail
            have hjw := hji10w
            rw [← i64_w] at hjw
            have hcw := c17b0
            rw [← i64_w] at hcw
            go_region_held3 (fun w' => w'.cell? ⟨gb567, 1, none⟩ = some (.slice (some ad568) l0_1.length c0_1) ∧ w'.cell? (ad568.add ((ji10)).toNat) = some (.int .i64 (rd l0_1 (ji10)))) (first | go_keep | exact ⟨hcz18_1, hx568_0⟩) (first | (go_at_call 67; (with_reducible refine (gimballaw11_value.calls _ _ l1 x7_2 t569 _ ?side1 ?side2 A15.out).mono ?_); (case side1 => exact vC (Kd.C_below HR1.out HB.out)); (case side2 => exact HC1.out); rintro e w' ⟨rfl, ⟨nd, rfl⟩⟩) | (go_at_call 67; (with_reducible refine (gimballaw11_value.calls _ _ l1 x6_1 t570 _ ?side1 ?side2 A16.out).mono ?_); (case side1 => repeat (first | exact (Kd.C_below HR1.out (vW HB.out)) | (with_reducible refine Kd.C_alloc ?_ _) | (with_reducible refine Kd.C_drewN ?_ _) | (with_reducible refine Kd.C_drew ?_))); (case side2 => exact HC1.out); rintro e w' ⟨rfl, ⟨nd, rfl⟩⟩; have p571 : 0 ≤ ((ji10) : Int) := of_decide_eq_true (by first | (with_reducible assumption) | assumption); have q571 : (ji10) < (l0_1.length : Int) := of_decide_eq_true (by first | (with_reducible assumption) | assumption); obtain ⟨ad571, e571, hx571_0⟩ := Kd.at_int HR0_1.out (ji10) p571 q571; obtain rfl : ad568 = ad571 := (by injection e571); replace hx571_0 := (HB.out.cell (World.block_lt_of_cell? w _ hx571_0)).trans hx571_0; replace p571 := eq_true p571; replace q571 := eq_true q571))
            go_wp2
            go_ret
            exact ⟨by first | rfl | (simp [errW_none, errW_some] <;> rfl) | (simp only [← hji10]; first | rfl | (simp [errW_none, errW_some] <;> rfl)) | (simp [*, errW_none, errW_some] <;> rfl) | (simp [wrap64]; done), vW HB.out⟩
           ·
            rw [if_neg c17] at H
            have c17b0 : decide ((rd l0_1 (ji10)) < (wrap64 (t569 - t570))) = false := decide_eq_false c17
            clear c17
            have H' := Aside0.mk H
            clear H
            obtain ⟨hcz19_0, hcz19_1, hcz19_2, hfz19_0, hfz19_1, hfz19_2⟩ := vF3 BK567.out
            have p568 : 0 ≤ ((ji10) : Int) := of_decide_eq_true (by first | (with_reducible assumption) | assumption)
            have q568 : (ji10) < (l0_1.length : Int) := of_decide_eq_true (by first | (with_reducible assumption) | assumption)
            obtain ⟨ad568, e568, hx568_0⟩ := Kd.at_int HR0_1.out (ji10) p568 q568
            cases e568
            replace hx568_0 := (HB.out.cell (World.block_lt_of_cell? w _ hx568_0)).trans hx568_0
            replace p568 := eq_true p568
            replace q568 := eq_true q568
            go_wp2_with fail
            have hjw := hji10w
            rw [← i64_w] at hjw
            have hcw := c17b0
            rw [← i64_w] at hcw
            go_region_held3 (fun w' => w'.cell? ⟨gb567, 1, none⟩ = some (.slice (some ad568) l0_1.length c0_1) ∧ w'.cell? (ad568.add ((ji10)).toNat) = some (.int .i64 (rd l0_1 (ji10)))) (first | go_keep | exact ⟨hcz19_1, hx568_0⟩) (first | (go_at_call 67; (with_reducible refine (gimballaw11_value.calls _ _ l1 x7_2 t569 _ ?side1 ?side2 A15.out).mono ?_); (case side1 => exact vC (Kd.C_below HR1.out HB.out)); (case side2 => exact HC1.out); rintro e w' ⟨rfl, ⟨nd, rfl⟩⟩) | (go_at_call 67; (with_reducible refine (gimballaw11_value.calls _ _ l1 x6_1 t570 _ ?side1 ?side2 A16.out).mono ?_); (case side1 => repeat (first | exact (Kd.C_below HR1.out (vW HB.out)) | (with_reducible refine Kd.C_alloc ?_ _) | (with_reducible refine Kd.C_drewN ?_ _) | (with_reducible refine Kd.C_drew ?_))); (case side2 => exact HC1.out); rintro e w' ⟨rfl, ⟨nd, rfl⟩⟩; have p571 : 0 ≤ ((ji10) : Int) := of_decide_eq_true (by first | (with_reducible assumption) | assumption); have q571 : (ji10) < (l0_1.length : Int) := of_decide_eq_true (by first | (with_reducible assumption) | assumption); obtain ⟨ad571, e571, hx571_0⟩ := Kd.at_int HR0_1.out (ji10) p571 q571; obtain rfl : ad568 = ad571 := (by injection e571); replace hx571_0 := (HB.out.cell (World.block_lt_of_cell? w _ hx571_0)).trans hx571_0; replace p571 := eq_true p571; replace q571 := eq_true q571))
            go_wp2
            go_roundg k2
            case measure => have := HK1.out; have := HK2.out; omega
            case rel => exact ⟨(wrap64 (x7_2 + 1)), (by first | rfl | (simp; done) | (simp [*]; done)), H', ⟨by have := HK1.out; have := HK2.out; omega⟩, ⟨vB BK567.out⟩, ⟨vW HB.out⟩⟩
         ·
          rw [if_neg c12] at H
          exact absurd H (by simp)
        ·
         rw [if_neg c11] at H
         exact absurd H (by simp)
       ·
        rw [if_neg c9] at H
        have c9b0 : decide (x7_2 < (wrap64 (2 * (l0_0.length : Int)))) = false := decide_eq_false c9
        clear c9
        have H' := Aside0.mk H
        clear H
        go_wp2
        repeat (go_quiet (fail); try go_wp2)
        go_roundg k2
        case measure => have := HK1.out; have := HK2.out; omega
        case rel => exact ⟨(wrap64 (x6_1 + 1)), (by first | rfl | (simp; done) | (simp [*]; done)), H', ⟨by have := HK1.out; have := HK2.out; omega⟩, ⟨vB BK567.out⟩, ⟨vW HB.out⟩⟩
    ·
     rw [if_neg c8] at H
     have c8b0 : decide (x6_1 < (wrap64 (2 * (l0_0.length : Int)))) = false := decide_eq_false c8
     clear c8
     obtain rfl := Option.some.inj H
     go_wp2
     repeat (go_quiet (fail); try go_wp2)
     go_ret
     exact ⟨by first | rfl | (simp [errW_none, errW_some] <;> rfl) | (simp [*, errW_none, errW_some] <;> rfl) | (simp [wrap64]; done), vW HB.out⟩
end Go.Proofs.Ytomgebmimgaojaa.QO
end
end
section
/- Written by a program of this session out of the translation. -/
noncomputable section
namespace Go.Proofs.Ytomgebmimgaojaa.QO
open Go.RowKit Go.Proofs.YtomgebmimgaojaaW.PrintWords Go.Proofs.YtomgebmimgaojaaW.PrintLast
set_option linter.unusedVariables false
set_option linter.unusedSimpArgs false
/-! ### gimballaw11_small: function 35 -/
def gimballaw11_small.l0 : Nat → Int → List Int → Int → Int → Option (Bool)
 | 0, _, _, _, _ => none
 | k + 1, x1, x8, x9, x10 => if x10 < x9 then (if 0 ≤ x10 then (if x10 < (x8.length : Int) then (if (rd x8 x10) = 4611686018427387904 then (gimballaw11_small.l0 k x1 x8 x9 (wrap64 (x10 + 1))) else (if (rd x8 x10) < (wrap64 (-x1)) then (some false) else (if (rd x8 x10) > x1 then (some false) else (gimballaw11_small.l0 k x1 x8 x9 (wrap64 (x10 + 1)))))) else (none)) else (none)) else (some true)
def gimballaw11_small.f (k : Nat) (l0_0 : List Int) (l0_1 : List Int) (a0_2 : Bool) (a1 : Int) : Option (Bool) := gimballaw11_small.l0 k a1 l0_1 (l0_1.length : Int) 0
theorem gimballaw11_small.mono_l : ∀ k, (∀ y0 y1 y2 y3, LeO (gimballaw11_small.l0 k y0 y1 y2 y3) (gimballaw11_small.l0 (k + 1) y0 y1 y2 y3))
 | 0 => fun _ _ _ _ r h => by simp [gimballaw11_small.l0] at h
 | k + 1 => by
  have ih0 := gimballaw11_small.mono_l k
  ·
   intro y0 y1 y2 y3
   unfold gimballaw11_small.l0
   repeat' first
   | (with_reducible exact ih0 _ _ _ _)
   | (with_reducible exact LeO.refl _)
   | (with_reducible exact LeO.none _)
   | (with_reducible refine LeO.ite ?_ ?_)
   | (with_reducible refine LeO.bind ?_ (fun _ => ?_))
   | exact ih0 _ _ _ _
   | exact LeO.none _
   | refine LeO.ite ?_ ?_
   | refine LeO.bind ?_ (fun _ => ?_)
theorem gimballaw11_small.mono : ∀ a0 a1 a2 a3 k, LeO (gimballaw11_small.f k a0 a1 a2 a3) (gimballaw11_small.f (k + 1) a0 a1 a2 a3) := by
 intro a0 a1 a2 a3 k
 have ih0 := gimballaw11_small.mono_l k
 unfold gimballaw11_small.f
 repeat' first
  | (with_reducible exact ih0 _ _ _ _)
  | (with_reducible exact LeO.refl _)
  | (with_reducible exact LeO.none _)
  | (with_reducible refine LeO.ite ?_ ?_)
  | (with_reducible refine LeO.bind ?_ (fun _ => ?_))
  | exact ih0 _ _ _ _
  | exact LeO.none _
  | refine LeO.ite ?_ ?_
  | refine LeO.bind ?_ (fun _ => ?_)
set_option maxHeartbeats 8000000 in
set_option maxRecDepth 100000 in
theorem gimballaw11_small.calls (k : Nat) (A0_0 : Option Addr) (c0_0 : Nat) (l0_0 : List Int) (A0_1 : Option Addr) (c0_1 : Nat) (l0_1 : List Int) (a0_2 : Bool) (a1 : Int) (r : Bool) (w : World) (hr0_0 : Kd.C (Kd.int .i64) w A0_0 l0_0.length l0_0) (hc0_0 : l0_0.length ≤ c0_0) (hr0_1 : Kd.C (Kd.int .i64) w A0_1 l0_1.length l0_1) (hc0_1 : l0_1.length ≤ c0_1) (h : gimballaw11_small.f k l0_0 l0_1 a0_2 a1 = some r) :
 Calls Try.prog 35 #[.agg #[.slice A0_0 l0_0.length c0_0, .slice A0_1 l0_1.length c0_1, .bool a0_2], .int .i64 a1] w fun e w' => e = .returned (.bool r) ∧ Below w.heap.size w w' := by
 have hu25 := Try.underlying25
 have HR0_0 := Aside0.mk hr0_0
 have HC0_0 := Aside0.mk hc0_0
 clear hr0_0 hc0_0
 have HR0_1 := Aside0.mk hr0_1
 have HC0_1 := Aside0.mk hc0_1
 clear hr0_1 hc0_1
 have HB := Aside0.mk (Below.refl w.heap.size w)
 have H : (gimballaw11_small.l0 k a1 l0_1 (l0_1.length : Int) 0) = some r := h
 clear h
 have H' := Aside0.mk H
 clear H
 go_enter Try.func35, Try.ntmps35
 go_wp2_with ((with_reducible refine gate_dst (N := 2) rfl ?_); refine box_event ?hg (N := 2) ?hd (cs := #[.slice A0_0 l0_0.length c0_0, .slice A0_1 l0_1.length c0_1, .bool a0_2]) (t := 25) ?hr ?_; (case hd => rfl); (case hg => rfl); (case hr => first | (go_simp; done) | (go_simp; rfl)); intro gb572 hg w3 hbox hb; have BK572 := Aside0.mk (hbox); have GW572 := vS hg HB; have GE572 := vS hg HB; replace HB := vWs HB hb; clear hb hbox hg; obtain ⟨hcz4_0, hcz4_1, hcz4_2, hfz4_0, hfz4_1, hfz4_2⟩ := vF3 BK572.out)
 go_loopg [10] k (fun kq v10 w' => ∃ (x10_1 : Int), v10 = .int .i64 x10_1 ∧ Aside0 (gimballaw11_small.l0 kq a1 l0_1 (l0_1.length : Int) x10_1 = some r) ∧ Aside0 (kq ≤ k) ∧ Aside0 (w'.heap[gb572]? = some (.cells #[(.slice A0_0 l0_0.length c0_0), (.slice A0_1 l0_1.length c0_1), .bool a0_2] 25 (0, 0))) ∧ Aside0 (Below w.heap.size w w'))
 case atStart => exact ⟨(0), (by first | rfl | (simp; done) | (simp [*]; done)), H', ⟨Nat.le_refl _⟩, ⟨vB BK572.out⟩, ⟨vW HB.out⟩⟩
 case round =>
  clear H'
  try clear hcz4_0
  try clear hcz4_1
  try clear hcz4_2
  try clear hfz4_0
  try clear hfz4_1
  try clear hfz4_2
  obtain ⟨x10_1, rfl, HA, HK1, BK572, HB⟩ := hrel
  cases gk with
  | zero => exact absurd HA.out (by simp [gimballaw11_small.l0])
  | succ k1 =>
   have H := HA.out
   clear HA
   simp only [gimballaw11_small.l0] at H
   by_cases c5 : x10_1 < (l0_1.length : Int)
   ·
    rw [if_pos c5] at H
    have c5b0 : decide (x10_1 < (l0_1.length : Int)) = true := decide_eq_true c5
    clear c5
    by_cases c6 : 0 ≤ x10_1
    ·
     rw [if_pos c6] at H
     have c6b0 : decide (0 ≤ x10_1) = true := decide_eq_true c6
     clear c6
     by_cases c7 : x10_1 < (l0_1.length : Int)
     ·
      rw [if_pos c7] at H
      have c7b0 : decide (x10_1 < (l0_1.length : Int)) = true := decide_eq_true c7
      clear c7
      by_cases c8 : (rd l0_1 x10_1) = 4611686018427387904
      ·
       rw [if_pos c8] at H
       have c8b0 : ((rd l0_1 x10_1) == 4611686018427387904) = true := beq_iff_eq.mpr c8
       have c8b1 : ((rd l0_1 x10_1) != 4611686018427387904) = false := bne_eq_false_iff_eq.mpr c8
       clear c8
       have H' := Aside0.mk H
       clear H
       have p573 : 0 ≤ (x10_1 : Int) := of_decide_eq_true (by first | (with_reducible assumption) | assumption)
       have q573 : x10_1 < (l0_1.length : Int) := of_decide_eq_true (by first | (with_reducible assumption) | assumption)
       obtain ⟨ad573, e573, hx573_0⟩ := Kd.at_int HR0_1.out x10_1 p573 q573
       cases e573
       replace hx573_0 := (HB.out.cell (World.block_lt_of_cell? w _ hx573_0)).trans hx573_0
       replace p573 := eq_true p573
       replace q573 := eq_true q573
       go_wp2
       go_roundg k1
       case measure => have := HK1.out; omega
       case rel => exact ⟨(wrap64 (x10_1 + 1)), (by first | rfl | (simp; done) | (simp [*]; done)), H', ⟨by have := HK1.out; omega⟩, ⟨vB BK572.out⟩, ⟨vW HB.out⟩⟩
      ·
       rw [if_neg c8] at H
       have c8b0 : ((rd l0_1 x10_1) == 4611686018427387904) = false := beq_eq_false_iff_ne.mpr c8
       have c8b1 : ((rd l0_1 x10_1) != 4611686018427387904) = true := bne_iff_ne.mpr c8
       by_cases c9 : (rd l0_1 x10_1) < (wrap64 (-a1))
       ·
        rw [if_pos c9] at H
        have c9b0 : decide ((rd l0_1 x10_1) < (wrap64 (-a1))) = true := decide_eq_true c9
        clear c9
        obtain rfl := Option.some.inj H
        have p573 : 0 ≤ (x10_1 : Int) := of_decide_eq_true (by first | (with_reducible assumption) | assumption)
        have q573 : x10_1 < (l0_1.length : Int) := of_decide_eq_true (by first | (with_reducible assumption) | assumption)
        obtain ⟨ad573, e573, hx573_0⟩ := Kd.at_int HR0_1.out x10_1 p573 q573
        cases e573
        replace hx573_0 := (HB.out.cell (World.block_lt_of_cell? w _ hx573_0)).trans hx573_0
        replace p573 := eq_true p573
        replace q573 := eq_true q573
        go_wp2
        go_ret
        exact ⟨by first | rfl | (simp [errW_none, errW_some] <;> rfl) | (simp [*, errW_none, errW_some] <;> rfl) | (simp [wrap64]; done), vW HB.out⟩
       ·
        rw [if_neg c9] at H
        have c9b0 : decide ((rd l0_1 x10_1) < (wrap64 (-a1))) = false := decide_eq_false c9
        clear c9
        by_cases c10 : (rd l0_1 x10_1) > a1
        ·
         rw [if_pos c10] at H
         have c10b0 : decide (a1 < (rd l0_1 x10_1)) = true := decide_eq_true c10
         clear c10
         obtain rfl := Option.some.inj H
         have p573 : 0 ≤ (x10_1 : Int) := of_decide_eq_true (by first | (with_reducible assumption) | assumption)
         have q573 : x10_1 < (l0_1.length : Int) := of_decide_eq_true (by first | (with_reducible assumption) | assumption)
         obtain ⟨ad573, e573, hx573_0⟩ := Kd.at_int HR0_1.out x10_1 p573 q573
         cases e573
         replace hx573_0 := (HB.out.cell (World.block_lt_of_cell? w _ hx573_0)).trans hx573_0
         replace p573 := eq_true p573
         replace q573 := eq_true q573
         go_wp2
         go_ret
         exact ⟨by first | rfl | (simp [errW_none, errW_some] <;> rfl) | (simp [*, errW_none, errW_some] <;> rfl) | (simp [wrap64]; done), vW HB.out⟩
        ·
         rw [if_neg c10] at H
         have c10b0 : decide (a1 < (rd l0_1 x10_1)) = false := decide_eq_false c10
         clear c10
         have H' := Aside0.mk H
         clear H
         have p573 : 0 ≤ (x10_1 : Int) := of_decide_eq_true (by first | (with_reducible assumption) | assumption)
         have q573 : x10_1 < (l0_1.length : Int) := of_decide_eq_true (by first | (with_reducible assumption) | assumption)
         obtain ⟨ad573, e573, hx573_0⟩ := Kd.at_int HR0_1.out x10_1 p573 q573
         cases e573
         replace hx573_0 := (HB.out.cell (World.block_lt_of_cell? w _ hx573_0)).trans hx573_0
         replace p573 := eq_true p573
         replace q573 := eq_true q573
         go_wp2
         go_roundg k1
         case measure => have := HK1.out; omega
         case rel => exact ⟨(wrap64 (x10_1 + 1)), (by first | rfl | (simp; done) | (simp [*]; done)), H', ⟨by have := HK1.out; omega⟩, ⟨vB BK572.out⟩, ⟨vW HB.out⟩⟩
     ·
      rw [if_neg c7] at H
      exact absurd H (by simp)
    ·
     rw [if_neg c6] at H
     exact absurd H (by simp)
   ·
    rw [if_neg c5] at H
    have c5b0 : decide (x10_1 < (l0_1.length : Int)) = false := decide_eq_false c5
    clear c5
    obtain rfl := Option.some.inj H
    go_wp2
    go_ret
    exact ⟨by first | rfl | (simp [errW_none, errW_some] <;> rfl) | (simp [*, errW_none, errW_some] <;> rfl) | (simp [wrap64]; done), vW HB.out⟩
end Go.Proofs.Ytomgebmimgaojaa.QO
end
end
section
/- Written by a program of this session out of the translation. -/
noncomputable section
namespace Go.Proofs.Ytomgebmimgaojaa.QO
open Go.RowKit Go.Proofs.YtomgebmimgaojaaW.PrintWords Go.Proofs.YtomgebmimgaojaaW.PrintLast
set_option linter.unusedVariables false
set_option linter.unusedSimpArgs false
/-! ### oct_less: function 90 -/
/-- the entry that stands for math/bits.Sub64 -/
def sub64Row : Array Value → Sem Value := fun args => do
 let (x, y, b) ← Extern.MathBitsCarry.three "Sub64" args
 pure (Extern.MathBitsCarry.pair ((x + Extern.MathBitsCarry.m64 - y - b) % Extern.MathBitsCarry.m64) (if x < y + b then 1 else 0))
theorem run_sub64Row (x y b : Nat) (hb : b ≤ 1) (w : World) :
 (sub64Row #[.int .u64 x, .int .u64 y, .int .u64 b]).run Try.prog w =
  .ok (.tuple #[.int .u64 (((x + 18446744073709551616 - y - b) % 18446744073709551616 : Nat) : Int), .int .u64 ((if x < y + b then 1 else 0 : Nat) : Int)]) w := by
 have : b = 0 ∨ b = 1 := by omega
 rcases this with rfl | rfl <;> rfl
theorem sub64_call (x y b : Nat) (hb : b ≤ 1) (w : World) :
 (callFunc 94 #[.int .u64 x, .int .u64 y, .int .u64 b]).run Try.prog w =
  .ok (.value (.tuple #[.int .u64 (((x + 18446744073709551616 - y - b) % 18446744073709551616 : Nat) : Int), .int .u64 ((if x < y + b then 1 else 0 : Nat) : Int)])) w := by
 rw [run_callFunc_extern Try.func94 (by kernel_rfl) (by kernel_rfl) (by kernel_rfl) (e := sub64Row) (by kernel_rfl), run_sub64Row x y b hb]
 rfl
theorem sub64_int (x y c : Int) (w : World) (hx : 0 ≤ x) (hx' : x < 18446744073709551616) (hy : 0 ≤ y) (hy' : y < 18446744073709551616) (hc : 0 ≤ c) (hc' : c ≤ 1) :
 (callFunc 94 #[.int .u64 x, .int .u64 y, .int .u64 c]).run Try.prog w = .ok (.value (.tuple #[.int .u64 ((x - y - c) % 18446744073709551616), .int .u64 (if x < y + c then 1 else 0)])) w := by
 obtain ⟨x, rfl⟩ := Int.eq_ofNat_of_zero_le hx
 obtain ⟨y, rfl⟩ := Int.eq_ofNat_of_zero_le hy
 obtain ⟨c, rfl⟩ := Int.eq_ofNat_of_zero_le hc
 rw [sub64_call x y c (by omega) w]
 have e1 : (((x + 18446744073709551616 - y - c) % 18446744073709551616 : Nat) : Int) = ((x : Int) - y - c) % 18446744073709551616 := by omega
 have e2 : ((if x < y + c then 1 else 0 : Nat) : Int) = if (x : Int) < y + c then 1 else 0 := by split <;> split <;> omega
 rw [e1, e2]
theorem u64_in (x : Int) : 0 ≤ IntKind.u64.wrap x ∧ IntKind.u64.wrap x < 18446744073709551616 := by rw [IntKind.wrap_u64]; omega
theorem less_lo (a b : Int) : (IntKind.u64.wrap b - IntKind.u64.wrap a - 0) % 18446744073709551616 = (b - a) % 18446744073709551616 := by
 rw [IntKind.wrap_u64, IntKind.wrap_u64, Int.sub_zero, ← Int.sub_emod]
theorem less_num (a b hi bo : Int) (ha : -9223372036854775808 ≤ a ∧ a ≤ 9223372036854775807) (hb : -9223372036854775808 ≤ b ∧ b ≤ 9223372036854775807)
 (hb0 : IntKind.u64.wrap b = b % 18446744073709551616) (ha0 : IntKind.u64.wrap a = a % 18446744073709551616)
 (hb1 : IntKind.u64.wrap (b / 9223372036854775808) = b / 9223372036854775808 % 18446744073709551616) (ha1 : IntKind.u64.wrap (a / 9223372036854775808) = a / 9223372036854775808 % 18446744073709551616)
 (hbo : (if IntKind.u64.wrap b < IntKind.u64.wrap a then 1 else 0) = bo)
 (hhi : (IntKind.u64.wrap (b / 9223372036854775808) - IntKind.u64.wrap (a / 9223372036854775808) - bo) % 18446744073709551616 = hi) :
 IntKind.i64.wrap hi = (b - a) / 18446744073709551616 := by
 rw [hb0, ha0] at hbo
 rw [hb1, ha1] at hhi
 have B : (b < 0 ∧ b % 18446744073709551616 = b + 18446744073709551616 ∧ b / 9223372036854775808 % 18446744073709551616 = 18446744073709551615) ∨ (0 ≤ b ∧ b % 18446744073709551616 = b ∧ b / 9223372036854775808 % 18446744073709551616 = 0) := by omega
 have A : (a < 0 ∧ a % 18446744073709551616 = a + 18446744073709551616 ∧ a / 9223372036854775808 % 18446744073709551616 = 18446744073709551615) ∨ (0 ≤ a ∧ a % 18446744073709551616 = a ∧ a / 9223372036854775808 % 18446744073709551616 = 0) := by omega
 have D : (b - a) / 18446744073709551616 = if b < a then -1 else 0 := by split <;> omega
 rw [D, IntKind.wrap_i64]
 clear D hb0 ha0 hb1 ha1
 generalize b / 9223372036854775808 % 18446744073709551616 = b1 at *
 generalize a / 9223372036854775808 % 18446744073709551616 = a1 at *
 generalize b % 18446744073709551616 = b2 at *
 generalize a % 18446744073709551616 = a2 at *
 rcases B with ⟨B1, rfl, rfl⟩ | ⟨B1, rfl, rfl⟩ <;> rcases A with ⟨A1, rfl, rfl⟩ | ⟨A1, rfl, rfl⟩ <;> split at hbo <;> subst hbo <;> subst hhi <;> split <;> omega
set_option maxHeartbeats 8000000 in
set_option maxRecDepth 100000 in
theorem oct_less_any (a b : Int) (w : World) (ha : -9223372036854775808 ≤ a ∧ a ≤ 9223372036854775807) (hb : -9223372036854775808 ≤ b ∧ b ≤ 9223372036854775807) :
 Calls Try.prog 90 #[.int .i64 a, .int .i64 b] w fun e w' => e = .returned (.tuple #[.int .i64 ((b - a) / 18446744073709551616), .int .u64 ((b - a) % 18446744073709551616)]) ∧ Drawn0 w w' := by
 have hb0 := IntKind.wrap_u64 b
 have ha0 := IntKind.wrap_u64 a
 have hb1 := IntKind.wrap_u64 (b / 9223372036854775808)
 have ha1 := IntKind.wrap_u64 (a / 9223372036854775808)
 obtain ⟨lo, hlo⟩ : ∃ lo : Int, (IntKind.u64.wrap b - IntKind.u64.wrap a - 0) % 18446744073709551616 = lo := ⟨_, rfl⟩
 obtain ⟨bo, hbo⟩ : ∃ bo : Int, (if IntKind.u64.wrap b < IntKind.u64.wrap a + 0 then 1 else 0) = bo := ⟨_, rfl⟩
 obtain ⟨hi, hhi⟩ : ∃ hi : Int, (IntKind.u64.wrap (b / 9223372036854775808) - IntKind.u64.wrap (a / 9223372036854775808) - bo) % 18446744073709551616 = hi := ⟨_, rfl⟩
 obtain ⟨bp, hbp⟩ : ∃ bp : Int, (if IntKind.u64.wrap (b / 9223372036854775808) < IntKind.u64.wrap (a / 9223372036854775808) + bo then 1 else 0) = bp := ⟨_, rfl⟩
 have hbo2 : 0 ≤ bo ∧ bo ≤ 1 := by rw [← hbo]; split <;> decide
 have h1 : ∀ w, (callFunc 94 #[.int .u64 (IntKind.u64.wrap b), .int .u64 (IntKind.u64.wrap a), .int .u64 0]).run Try.prog w = .ok (.value (.tuple #[.int .u64 lo, .int .u64 bo])) w := by
  intro w
  rw [sub64_int _ _ 0 w (u64_in _).1 (u64_in _).2 (u64_in _).1 (u64_in _).2 (by decide) (by decide), hlo, hbo]
 have h2 : ∀ w, (callFunc 94 #[.int .u64 (IntKind.u64.wrap (b / 9223372036854775808)), .int .u64 (IntKind.u64.wrap (a / 9223372036854775808)), .int .u64 bo]).run Try.prog w = .ok (.value (.tuple #[.int .u64 hi, .int .u64 bp])) w := by
  intro w
  rw [sub64_int _ _ bo w (u64_in _).1 (u64_in _).2 (u64_in _).1 (u64_in _).2 hbo2.1 hbo2.2, hhi, hbp]
 have e1 : lo = (b - a) % 18446744073709551616 := by rw [← hlo]; exact less_lo a b
 have e2 : wrap64 hi = (b - a) / 18446744073709551616 := by
  rw [Int.add_zero] at hbo
  unfold wrap64
  rw [← IntKind.wrap_i64]
  exact less_num a b hi bo ha hb hb0 ha0 hb1 ha1 hbo hhi
 have E1 := Aside0.mk e1
 have E2 := Aside0.mk e2
 clear hb0 ha0 hb1 ha1 hlo hbo hhi hbp hbo2 e1 e2 ha hb
 go_enter Try.func90, Try.ntmps90
 go_wp2
 go_ret2
 refine ⟨?_, Drawn0.refl _⟩
 rw [← E1.out, ← E2.out]
 rfl
end Go.Proofs.Ytomgebmimgaojaa.QO
end
end
section
/- Written by a program of this session out of the translation. -/
noncomputable section
namespace Go.Proofs.Ytomgebmimgaojaa.QO
open Go.RowKit Go.Proofs.YtomgebmimgaojaaW.PrintWords Go.Proofs.YtomgebmimgaojaaW.PrintLast
set_option linter.unusedVariables false
set_option linter.unusedSimpArgs false
/-! ### oct_above: function 69 -/
/-- is b - a above c? -/
def oct_above.f (a0 : Int) (a1 : Int) (a2 : Int) : Option Bool :=
 if (-9223372036854775808 ≤ a0 ∧ a0 ≤ 9223372036854775807) ∧ (-9223372036854775808 ≤ a1 ∧ a1 ≤ 9223372036854775807) ∧ (-9223372036854775808 ≤ a2 ∧ a2 ≤ 9223372036854775807) then some (decide (a1 - a0 > a2)) else none
set_option maxHeartbeats 8000000 in
set_option maxRecDepth 100000 in
theorem oct_above.calls (a0 : Int) (a1 : Int) (a2 : Int) (r : Bool) (w : World) (h : oct_above.f a0 a1 a2 = some r) :
 Calls Try.prog 69 #[.int .i64 a0, .int .i64 a1, .int .i64 a2] w fun e w' => e = .returned (.bool r) ∧ Drawn0 w w' := by
 unfold oct_above.f at h
 by_cases hc : (-9223372036854775808 ≤ a0 ∧ a0 ≤ 9223372036854775807) ∧ (-9223372036854775808 ≤ a1 ∧ a1 ≤ 9223372036854775807) ∧ (-9223372036854775808 ≤ a2 ∧ a2 ≤ 9223372036854775807)
 ·
  rw [if_pos hc] at h
  obtain rfl := Option.some.inj h
  clear h
  obtain ⟨h0, h1, h2⟩ := hc
  have hw := IntKind.wrap_u64 a2
  obtain ⟨hi, hhi⟩ : ∃ hi : Int, (a1 - a0) / 18446744073709551616 = hi := ⟨_, rfl⟩
  obtain ⟨lo, hlo⟩ : ∃ lo : Int, (a1 - a0) % 18446744073709551616 = lo := ⟨_, rfl⟩
  have HL := fun W => oct_less_any a0 a1 W h0 h1
  rw [hhi, hlo] at HL
  have HC := Aside0.mk HL
  clear HL
  by_cases hne : hi = a2 / 9223372036854775808
  ·
   have f1 : (hi != a2 / 9223372036854775808) = false := by rw [hne]; simp
   have E : Aside0 (decide (IntKind.u64.wrap a2 < lo) = decide (a1 - a0 > a2)) := ⟨by rw [decide_eq_decide]; omega⟩
   clear hw hhi hlo h0 h1 h2 hne
   go_enter Try.func69, Try.ntmps69
   go_wp2_with (go_at_call 90; (with_reducible refine (HC.out _).mono ?_); rintro e w1 ⟨rfl, ⟨nd, rfl⟩⟩)
   go_ret
   refine ⟨?_, ⟨_, rfl⟩⟩
   rw [← E.out]; rfl
  ·
   have f1 : (hi != a2 / 9223372036854775808) = true := by simpa using hne
   have E : Aside0 (decide (a2 / 9223372036854775808 < hi) = decide (a1 - a0 > a2)) := ⟨by rw [decide_eq_decide]; omega⟩
   clear hw hhi hlo h0 h1 h2 hne
   go_enter Try.func69, Try.ntmps69
   go_wp2_with (go_at_call 90; (with_reducible refine (HC.out _).mono ?_); rintro e w1 ⟨rfl, ⟨nd, rfl⟩⟩)
   go_ret
   refine ⟨?_, ⟨_, rfl⟩⟩
   rw [← E.out]; rfl
 ·
  rw [if_neg hc] at h
  exact absurd h (by simp)
end Go.Proofs.Ytomgebmimgaojaa.QO
end
end
section
/- Written by a program of this session out of the translation. -/
namespace Go.Proofs.Ytomgebmimgaojaa.QO
open Go.RowKit Go.Proofs.YtomgebmimgaojaaW.PrintWords Go.Proofs.YtomgebmimgaojaaW.PrintLast
set_option linter.unusedVariables false
set_option linter.unusedSimpArgs false
/-! ### oct_Has: function 34 -/
/-- a node's value -/
def sgn (v : List Int) (i : Int) : Int := if i % 2 = 1 then - rd v (i / 2) else rd v (i / 2)
/-- the values are in it -/
def HasP (vars m : List Int) (empty : Bool) (v : List Int) : Prop :=
 empty = false ∧ OFit vars m empty ∧ v.length = vars.length ∧ (∀ k : Int, 0 ≤ k → k < v.length → -4611686018427387904 < rd v k ∧ rd v k < 4611686018427387904) ∧
 ∀ i j : Int, 0 ≤ i → i < 2 * (vars.length : Int) → 0 ≤ j → j < 2 * (vars.length : Int) → rd m (i * (2 * (vars.length : Int)) + j) = 4611686018427387904 ∨ sgn v j - sgn v i ≤ rd m (i * (2 * (vars.length : Int)) + j)
theorem Box1.one {w W : World} {g : Nat} {a : Value} {t : Nat} (h : Box1 w g #[a] t W) : W.cell? ⟨g, 0, none⟩ = some a := (blk_cell h.box 0).trans rfl
theorem Box1.three' {w W : World} {g : Nat} {a b c : Value} {t : Nat} (h : Box1 w g #[a, b, c] t W) : W.cell? ⟨g, 0, none⟩ = some a ∧ W.cell? ⟨g, 1, none⟩ = some b ∧ W.cell? ⟨g, 2, none⟩ = some c := ⟨(blk_cell h.box 0).trans rfl, (blk_cell h.box 1).trans rfl, (blk_cell h.box 2).trans rfl⟩
noncomputable def hasB (vars m : List Int) (empty : Bool) (v : List Int) : Bool := @decide (HasP vars m empty v) (Classical.propDecidable _)
theorem hasB_true {vars m : List Int} {empty : Bool} {v : List Int} : hasB vars m empty v = true ↔ HasP vars m empty v := by unfold hasB; exact @decide_eq_true_iff _ (Classical.propDecidable _)
theorem hasB_false {vars m : List Int} {empty : Bool} {v : List Int} : hasB vars m empty v = false ↔ ¬ HasP vars m empty v := by unfold hasB; exact @decide_eq_false_iff_not _ (Classical.propDecidable _)
noncomputable def oct_Has.f (l0_0 : List Int) (l0_1 : List Int) (a0_2 : Bool) (l1 : List Int) : Option Bool := if l0_0.length ≤ 17592186044416 ∧ l1.length ≤ 17592186044416 then some (hasB l0_0 l0_1 a0_2 l1) else none
/-- of a sound octagon both halves say the same -/
theorem lowAt_eq {vars m : List Int} (h : OFit vars m false) {i j : Int} (h0 : 0 ≤ i) (h1 : i < 2 * (vars.length : Int)) (h2 : 0 ≤ j) (h3 : j < 2 * (vars.length : Int)) : lowAt (2 * (vars.length : Int)) m i j = rd m (i * (2 * (vars.length : Int)) + j) := by
 unfold lowAt; split
 ·
  exact (((h.2.2 rfl).2 i j h0 h1 h2 h3).2.2).symm
 ·
  rfl
set_option maxHeartbeats 8000000 in
set_option maxRecDepth 100000 in
theorem oct_sgn_any (A : Option Addr) (c : Nat) (v : List Int) (i : Int) (B : Nat) (W : World) (hr : Kd.C (Kd.int .i64) W A v.length v) (hb : W.cell? ⟨B, 0, none⟩ = some (.slice A v.length c)) (h0 : 0 ≤ i) (h1 : i < 16) (h2 : i / 2 < v.length) (h3 : -4611686018427387904 < rd v (i / 2) ∧ rd v (i / 2) < 4611686018427387904) :
 Calls Try.prog 68 #[.int .i64 i, .pointer (some ⟨B, 0, none⟩)] W fun e w' => e = .returned (.int .i64 (sgn v i)) ∧ w' = W := by
 obtain ⟨k, hk⟩ : ∃ k : Int, i / 2 = k := ⟨_, rfl⟩
 rw [hk] at h2 h3
 have k0 : 0 ≤ k := by omega
 obtain ⟨ad, e0, hx⟩ := Kd.at_int hr k k0 h2
 cases e0
 have d1 : i.tdiv 2 = k := by rw [Int.tdiv_eq_ediv_of_nonneg h0]; exact hk
 have d3 : wrap64 k = k := by unfold wrap64; omega
 obtain ⟨m, hm⟩ : ∃ m : Int, i % 2 = m := ⟨_, rfl⟩
 have d2 : i.tmod 2 = m := by rw [Int.tmod_eq_emod_of_nonneg h0]; exact hm
 have d4 : wrap64 m = m := by unfold wrap64; omega
 have hs : sgn v i = if m = 1 then - rd v k else rd v k := by unfold sgn; rw [hm, hk]
 rw [hs]
 obtain ⟨x, hxx⟩ : ∃ x, rd v k = x := ⟨_, rfl⟩
 rw [hxx] at hx h3 ⊢
 have d5 : wrap64 (-x) = -x := by unfold wrap64; omega
 have k1 := eq_true k0
 have k2 := eq_true h2
 by_cases hc : m = 1
 ·
  rw [if_pos hc]
  have f1 : (m == 1) = true := by simpa using hc
  clear hr h0 h1 h2 h3 k0 hk hm hs hxx hc
  go_enter Try.func68, Try.ntmps68
  go_wp2
  go_ret
  refine ⟨?_, rfl⟩
  first | rfl | (show Ending.returned (Value.int IntKind.i64 (wrap64 (-x))) = _; rw [d5])
 ·
  rw [if_neg hc]
  have f1 : (m == 1) = false := by simpa using hc
  clear hr h0 h1 h2 h3 k0 hk hm hs hxx hc
  go_enter Try.func68, Try.ntmps68
  go_wp2
  go_ret
  refine ⟨?_, rfl⟩
  first | rfl | (show Ending.returned (Value.int IntKind.i64 (wrap64 (-x))) = _; rw [d5])
set_option maxHeartbeats 8000000 in
set_option maxRecDepth 100000 in
theorem oct_Has.calls (A0_0 : Option Addr) (c0_0 : Nat) (l0_0 : List Int) (A0_1 : Option Addr) (c0_1 : Nat) (l0_1 : List Int) (a0_2 : Bool) (A1 : Option Addr) (c1 : Nat) (l1 : List Int) (r : Bool) (w : World) (hr0_0 : Kd.C (Kd.int .i64) w A0_0 l0_0.length l0_0) (hc0_0 : l0_0.length ≤ c0_0) (hr0_1 : Kd.C (Kd.int .i64) w A0_1 l0_1.length l0_1) (hc0_1 : l0_1.length ≤ c0_1) (hr1 : Kd.C (Kd.int .i64) w A1 l1.length l1) (hc1 : l1.length ≤ c1) (h : oct_Has.f l0_0 l0_1 a0_2 l1 = some r) :
 Calls Try.prog 34 #[.agg #[.slice A0_0 l0_0.length c0_0, .slice A0_1 l0_1.length c0_1, .bool a0_2], .slice A1 l1.length c1] w fun e w' => e = .returned (.bool r) ∧ Below w.heap.size w w' := by
 have hu25 := Try.underlying25
 have HR0 := Aside0.mk hr0_0
 have HR1 := Aside0.mk hr0_1
 have HR2 := Aside0.mk hr1
 have HC0 := Aside0.mk hc0_0
 have HC1 := Aside0.mk hc0_1
 have HC2 := Aside0.mk hc1
 clear hr0_0 hr0_1 hc0_0 hc0_1 hr1 hc1
 unfold oct_Has.f at h
 by_cases hlen : l0_0.length ≤ 17592186044416 ∧ l1.length ≤ 17592186044416
 ·
  rw [if_pos hlen] at h
  have HV := Aside0.mk (Option.some.inj h)
  clear h
  have HLEN := Aside0.mk hlen
  clear hlen
  cases a0_2 with
  | true =>
   go_enter Try.func34, Try.ntmps34
   go_wp2
   go_ret
   refine ⟨?_, by repeat (first | exact Below.refl _ _ | (with_reducible apply below_alloc) | (with_reducible apply pw_below_drewN) | (with_reducible apply below_drew))⟩
   rw [← HV.out, hasB_false.2 (fun h => by cases h.1)]
   rfl
  | false =>
   cases hf : ofitB l0_0 l0_1 false with
   | false =>
    have HF := Aside0.mk (fun W (h0 : Kd.C (Kd.int .i64) W A0_0 l0_0.length l0_0) (h1 : Kd.C (Kd.int .i64) W A0_1 l0_1.length l0_1) => oct_Fit.calls A0_0 c0_0 l0_0 A0_1 c0_1 l0_1 false false W h0 HC0.out h1 HC1.out (by unfold oct_Fit.f; rw [if_pos HLEN.out.1, hf]))
    have HN := Aside0.mk (ofitB_false.1 hf)
    clear hf
    go_enter Try.func34, Try.ntmps34
    go_wp2_with (go_at_call 18; (with_reducible refine (HF.out _ ?s1 ?s2).mono ?_); (case s1 => repeat (first | exact HR0.out | (with_reducible refine Kd.C_alloc ?_ _))); (case s2 => repeat (first | exact HR1.out | (with_reducible refine Kd.C_alloc ?_ _))); rintro e w1 ⟨rfl, hb⟩)
    go_ret
    refine ⟨?_, (below_alloc (below_alloc (Below.refl _ _) _) _).trans (hb.mono (by simp; omega))⟩
    rw [← HV.out, hasB_false.2 (fun h => HN.out h.2.1)]
    rfl
   | true =>
    have HF := Aside0.mk (fun W (h0 : Kd.C (Kd.int .i64) W A0_0 l0_0.length l0_0) (h1 : Kd.C (Kd.int .i64) W A0_1 l0_1.length l0_1) => oct_Fit.calls A0_0 c0_0 l0_0 A0_1 c0_1 l0_1 false true W h0 HC0.out h1 HC1.out (by unfold oct_Fit.f; rw [if_pos HLEN.out.1, hf]))
    have HT := Aside0.mk (ofitB_true.1 hf)
    clear hf
    by_cases hl : l1.length = l0_0.length
    ·
     have f1 : ((l1.length : Int) != (l0_0.length : Int)) = false := by rw [hl]; simp
     have f2 : (l1.length != l0_0.length) = false := by rw [hl]; simp
     have HL := Aside0.mk hl
     clear hl
     go_enter Try.func34, Try.ntmps34
     have hB0 : Box1 w w.heap.size #[.slice A0_0 l0_0.length c0_0, .slice A0_1 l0_1.length c0_1, .bool false] 25 ((w.alloc (.cells #[.slice A0_0 l0_0.length c0_0, .slice A0_1 l0_1.length c0_1, .bool false] 25)).alloc (.cells #[.slice A1 l1.length c1] 23)) := Box1.alloc (box1_new (Below.refl _ _) rfl) _
     have hB1 : Box1 w (w.heap.size + 1) #[.slice A1 l1.length c1] 23 ((w.alloc (.cells #[.slice A0_0 l0_0.length c0_0, .slice A0_1 l0_1.length c0_1, .bool false] 25)).alloc (.cells #[.slice A1 l1.length c1] 23)) := box1_new (below_alloc (Below.refl _ _) _) (by simp)
     have HX := Aside0.mk hB0
     have HY := Aside0.mk hB1
     clear hB0 hB1
     go_upto_region 3 with (go_at_call 18; (with_reducible refine (HF.out _ ?s1 ?s2).mono ?_); (case s1 => repeat (first | exact HR0.out | (with_reducible refine Kd.C_alloc ?_ _))); (case s2 => repeat (first | exact HR1.out | (with_reducible refine Kd.C_alloc ?_ _))); rintro e w1 ⟨rfl, hb⟩; obtain ⟨hcc, hff⟩ := bcell hb; have hz := hb.size; rw [World.size_alloc, World.size_alloc] at hz)
     have nX := Aside0.mk (HX.out.next hb)
     have nY := Aside0.mk (HY.out.next hb)
     clear HX HY hb hcc hff hz
     have HX := nX
     have HY := nY
     clear nX nY
     obtain ⟨hx0, hx1, hx2⟩ := HX.out.three'
     have hy0 := HY.out.one
     go_wp2_with fail
     go_loopg [6, 29] l1.length (fun gg _ s29 wr => ∃ k : Int, s29 = .int .i64 k ∧ Aside0 (0 ≤ k ∧ k ≤ l1.length ∧ l1.length - k.toNat ≤ gg) ∧ Aside0 (Box1 w w.heap.size #[.slice A0_0 l0_0.length c0_0, .slice A0_1 l0_1.length c0_1, .bool false] 25 wr) ∧ Aside0 (Box1 w (w.heap.size + 1) #[.slice A1 l1.length c1] 23 wr) ∧ Aside0 (∀ a : Int, 0 ≤ a → a < k → -4611686018427387904 < rd l1 a ∧ rd l1 a < 4611686018427387904))
     case atStart => exact ⟨0, rfl, ⟨by omega, by omega, by omega⟩, HX, HY, ⟨fun a h0 h1 => absurd h1 (by omega)⟩⟩
     case round =>
      clear HX HY hx0 hx1 hx2 hy0
      obtain ⟨k, rfl, HK, HX, HY, HA⟩ := hrel
      by_cases hlt : k < (l1.length : Int)
      ·
       have c6b0 : decide (k < (l1.length : Int)) = true := decide_eq_true hlt
       have p0 : 0 ≤ k := HK.out.1
       obtain ⟨ad, e0, hx⟩ := Kd.at_int (Kd.C_below HR2.out HX.out.below) k p0 hlt
       cases e0
       have HQ := Aside0.mk hlt
       obtain ⟨x, hxx⟩ : ∃ x, rd l1 k = x := ⟨_, rfl⟩
       rw [hxx] at hx
       have HXX := Aside0.mk hxx
       clear hxx
       replace p0 := eq_true p0
       replace hlt := eq_true hlt
       by_cases c1 : 4611686018427387904 ≤ x
       ·
        have f3 : decide (4611686018427387904 ≤ x) = true := decide_eq_true c1
        have HC := Aside0.mk c1
        clear c1
        go_wp2
        go_ret
        refine ⟨?_, HX.out.below⟩
        rw [← HV.out, hasB_false.2 (fun h => by have h1 := HK.out; have h2 := HQ.out; have h3 := (h.2.2.2.1 k h1.1 h2).2; rw [HXX.out] at h3; have := HC.out; omega)]
        rfl
       ·
        have f3 : decide (4611686018427387904 ≤ x) = false := decide_eq_false c1
        have HC := Aside0.mk c1
        clear c1
        by_cases c2 : x ≤ -4611686018427387904
        ·
         have f4 : decide (x ≤ -4611686018427387904) = true := decide_eq_true c2
         have HD := Aside0.mk c2
         clear c2
         go_wp2
         go_ret
         refine ⟨?_, HX.out.below⟩
         rw [← HV.out, hasB_false.2 (fun h => by have h1 := HK.out; have h2 := HQ.out; have h3 := (h.2.2.2.1 k h1.1 h2).1; rw [HXX.out] at h3; have := HD.out; omega)]
         rfl
        ·
         have f4 : decide (x ≤ -4611686018427387904) = false := decide_eq_false c2
         have HD := Aside0.mk c2
         clear c2
         go_wp2
         go_roundg (l1.length - (k.toNat + 1))
         case measure => have h1 := HK.out; have h2 := HQ.out; omega
         case rel =>
          have h1 := HK.out; have h2 := HQ.out; have h3 := HC.out; have h4 := HD.out; have h5 := HLEN.out.2
          have hw : wrap64 (k + 1) = k + 1 := by unfold wrap64; omega
          refine ⟨wrap64 (k + 1), rfl, ⟨by omega, by omega, by omega⟩, HX, HY, ⟨fun a a0 a1 => ?_⟩⟩
          by_cases e : a = k
          ·
           subst e; rw [HXX.out]; omega
          ·
           exact HA.out a a0 (by omega)
      ·
       have c6b0 : decide (k < (l1.length : Int)) = false := decide_eq_false hlt
       have HALL : Aside0 (∀ a : Int, 0 ≤ a → a < l1.length → -4611686018427387904 < rd l1 a ∧ rd l1 a < 4611686018427387904) := ⟨fun a a0 a1 => HA.out a a0 (by omega)⟩
       clear hlt HA HK
       obtain ⟨hx0, hx1, hx2⟩ := HX.out.three'
       have hy0 := HY.out.one
       have hm0 := meth_size
       have hm1 := meth_at
       go_wp2_with (first | (go_at_call 55; (with_reducible refine (oct_of_any _ _ _ _ _ _ _ _ HLEN.out.1).mono ?_); rintro e w1 ⟨rfl, hb⟩; unfold tableV; clear hx0 hx1 hx2 hy0; have nX : Aside0 (Box1 w w.heap.size #[.slice A0_0 l0_0.length c0_0, .slice A0_1 l0_1.length c0_1, .bool false] 25 w1) := ⟨Box1.next HX.out hb⟩; have nY : Aside0 (Box1 w (w.heap.size + 1) #[.slice A1 l1.length c1] 23 w1) := ⟨Box1.next HY.out hb⟩; clear HX HY hb; have HX := nX; have HY := nY; clear nX nY) | (go_at_call 110; (with_reducible refine (oct_size_any _ _ _ _ _).mono ?_); rintro e w1 ⟨rfl, hb⟩; have nX : Aside0 (Box1 w w.heap.size #[.slice A0_0 l0_0.length c0_0, .slice A0_1 l0_1.length c0_1, .bool false] 25 w1) := ⟨Box1.next HX.out hb⟩; have nY : Aside0 (Box1 w (w.heap.size + 1) #[.slice A1 l1.length c1] 23 w1) := ⟨Box1.next HY.out hb⟩; clear HX HY hb; have HX := nX; have HY := nY; clear nX nY))
       go_loopg [9, 10, 11, 45, 49, 50] (2 * l0_0.length) (fun gg _ _ _ s45 _ _ wr => ∃ i : Int, s45 = .int .i64 i ∧ Aside0 (0 ≤ i ∧ i ≤ 2 * (l0_0.length : Int) ∧ 2 * l0_0.length - i.toNat ≤ gg) ∧ Aside0 (Box1 w w.heap.size #[.slice A0_0 l0_0.length c0_0, .slice A0_1 l0_1.length c0_1, .bool false] 25 wr) ∧ Aside0 (Box1 w (w.heap.size + 1) #[.slice A1 l1.length c1] 23 wr) ∧ Aside0 (∀ a b : Int, 0 ≤ a → a < i → 0 ≤ b → b < 2 * (l0_0.length : Int) → rd l0_1 (a * (2 * (l0_0.length : Int)) + b) = 4611686018427387904 ∨ sgn l1 b - sgn l1 a ≤ rd l0_1 (a * (2 * (l0_0.length : Int)) + b)))
       case atStart => exact ⟨0, rfl, ⟨by omega, by omega, by omega⟩, HX, HY, ⟨fun a b h0 h1 => absurd h1 (by omega)⟩⟩
       case round =>
        clear HX HY
        obtain ⟨i, rfl, HI, HX, HY, HA⟩ := hrel
        by_cases hlt : i < 2 * (l0_0.length : Int)
        ·
         have f3 : decide (i < 2 * (l0_0.length : Int)) = true := decide_eq_true hlt
         have HIL := Aside0.mk hlt
         clear hlt
         go_wp2_with (go_at_call 110; (with_reducible refine (oct_size_any _ _ _ _ _).mono ?_); rintro e w1 ⟨rfl, hb⟩; have nX : Aside0 (Box1 w w.heap.size #[.slice A0_0 l0_0.length c0_0, .slice A0_1 l0_1.length c0_1, .bool false] 25 w1) := ⟨Box1.next HX.out hb⟩; have nY : Aside0 (Box1 w (w.heap.size + 1) #[.slice A1 l1.length c1] 23 w1) := ⟨Box1.next HY.out hb⟩; clear HX HY hb; have HX := nX; have HY := nY; clear nX nY)
         go_loopg [10, 11, 50] (2 * l0_0.length) (fun hh _ _ s50 wr => ∃ j : Int, s50 = .int .i64 j ∧ Aside0 (0 ≤ j ∧ j ≤ 2 * (l0_0.length : Int) ∧ 2 * l0_0.length - j.toNat ≤ hh) ∧ Aside0 (Box1 w w.heap.size #[.slice A0_0 l0_0.length c0_0, .slice A0_1 l0_1.length c0_1, .bool false] 25 wr) ∧ Aside0 (Box1 w (w.heap.size + 1) #[.slice A1 l1.length c1] 23 wr) ∧ Aside0 (∀ b : Int, 0 ≤ b → b < j → rd l0_1 (i * (2 * (l0_0.length : Int)) + b) = 4611686018427387904 ∨ sgn l1 b - sgn l1 i ≤ rd l0_1 (i * (2 * (l0_0.length : Int)) + b)))
         case atStart => exact ⟨0, rfl, ⟨by omega, by omega, by omega⟩, HX, HY, ⟨fun b h0 h1 => absurd h1 (by omega)⟩⟩
         case round =>
          clear HX HY
          obtain ⟨j, rfl, HJ, HX, HY, HE⟩ := hrel
          by_cases hlt : j < 2 * (l0_0.length : Int)
          ·
           have f4 : decide (j < 2 * (l0_0.length : Int)) = true := decide_eq_true hlt
           have HJL := Aside0.mk hlt
           clear hlt
           have hi := HI.out; have hj := HJ.out; have hil := HIL.out; have hjl := HJL.out; have hle := HL.out; have h8 := HT.out.1.1
           have hm := ((HT.out.2.2 rfl).1)
           have cq1 := fun W (hW : Kd.C (Kd.int .i64) W A0_1 l0_1.length l0_1) => oct_lower_at_any l0_0.length A0_1 c0_1 l0_1 i j W hW HC1.out h8 hm hi.1 hil hj.1 hjl
           have s1 := fun W (hW : Kd.C (Kd.int .i64) W A1 l1.length l1) (hb : W.cell? ⟨w.heap.size + 1, 0, none⟩ = some (.slice A1 l1.length c1)) => oct_sgn_any A1 c1 l1 i (w.heap.size + 1) W hW hb hi.1 (by omega) (by omega) (HALL.out (i / 2) (by omega) (by omega))
           have s2 := fun W (hW : Kd.C (Kd.int .i64) W A1 l1.length l1) (hb : W.cell? ⟨w.heap.size + 1, 0, none⟩ = some (.slice A1 l1.length c1)) => oct_sgn_any A1 c1 l1 j (w.heap.size + 1) W hW hb hj.1 (by omega) (by omega) (HALL.out (j / 2) (by omega) (by omega))
           have bi : -4611686018427387904 < sgn l1 i ∧ sgn l1 i < 4611686018427387904 := by have := HALL.out (i / 2) (by omega) (by omega); unfold sgn; split <;> omega
           have bj : -4611686018427387904 < sgn l1 j ∧ sgn l1 j < 4611686018427387904 := by have := HALL.out (j / 2) (by omega) (by omega); unfold sgn; split <;> omega
           have hx := lowAt_eq HT.out hi.1 hil hj.1 hjl
           have hxb := ((HT.out.2.2 rfl).2 i j hi.1 hil hj.1 hjl).1
           obtain ⟨x, hxx⟩ : ∃ x, lowAt (2 * (l0_0.length : Int)) l0_1 i j = x := ⟨_, rfl⟩
           rw [hxx] at hx
           rw [← hx] at hxb
           obtain ⟨si, hsi⟩ : ∃ si, sgn l1 i = si := ⟨_, rfl⟩
           obtain ⟨sj, hsj⟩ : ∃ sj, sgn l1 j = sj := ⟨_, rfl⟩
           simp only [hxx] at cq1
           simp only [hsi] at s1
           simp only [hsj] at s2
           rw [hsi] at bi
           rw [hsj] at bj
           have HXI : Aside0 ((rd l0_1 (i * (2 * (l0_0.length : Int)) + j) = 4611686018427387904 ∨ sgn l1 j - sgn l1 i ≤ rd l0_1 (i * (2 * (l0_0.length : Int)) + j)) ↔ (x = 4611686018427387904 ∨ sj - si ≤ x)) := ⟨by rw [← hx, hsi, hsj]⟩
           have C1 := Aside0.mk cq1
           have S1 := Aside0.mk s1
           have S2 := Aside0.mk s2
           have ab := fun W => oct_above.calls si sj x (decide (sj - si > x)) W (by unfold oct_above.f; rw [if_pos ⟨by omega, by omega, by omega⟩])
           clear hi hj hil hjl hle h8 hm cq1 s1 s2 bi bj hx hxb hxx hsi hsj
           by_cases cx : x = 4611686018427387904
           ·
            have f5 : (x != 4611686018427387904) = false := by rw [cx]; simp
            have HCX := Aside0.mk cx
            clear cx ab
            go_wp2_with (go_at_call 111; (with_reducible refine (C1.out _ ?s1).mono ?_); (case s1 => exact Kd.C_below HR1.out HX.out.below); rintro e w1 ⟨rfl, hb⟩; have nX : Aside0 (Box1 w w.heap.size #[.slice A0_0 l0_0.length c0_0, .slice A0_1 l0_1.length c0_1, .bool false] 25 w1) := ⟨Box1.next HX.out hb⟩; have nY : Aside0 (Box1 w (w.heap.size + 1) #[.slice A1 l1.length c1] 23 w1) := ⟨Box1.next HY.out hb⟩; clear HX HY hb; have HX := nX; have HY := nY; clear nX nY)
            go_roundg (2 * l0_0.length - (j.toNat + 1))
            case measure => have h1 := HJ.out; have h2 := HJL.out; omega
            case rel =>
             have h1 := HJ.out; have h2 := HJL.out; have h3 := HLEN.out
             have hw : wrap64 (j + 1) = j + 1 := by unfold wrap64; omega
             refine ⟨wrap64 (j + 1), rfl, ⟨by omega, by omega, by omega⟩, ⟨HX.out⟩, ⟨HY.out⟩, ⟨fun b b0 b1 => ?_⟩⟩
             by_cases e : b = j
             ·
              subst e; exact HXI.out.2 (Or.inl HCX.out)
             ·
              exact HE.out b b0 (by omega)
           ·
            have f5 : (x != 4611686018427387904) = true := by simpa using cx
            have HCX := Aside0.mk cx
            clear cx
            by_cases cy : sj - si > x
            ·
             rw [decide_eq_true cy] at ab
             have AB := Aside0.mk ab
             have HCY := Aside0.mk cy
             clear cy ab
             go_wp2_with (first | (go_at_call 111; (with_reducible refine (C1.out _ ?s1).mono ?_); (case s1 => exact Kd.C_below HR1.out HX.out.below); rintro e w1 ⟨rfl, hb⟩; have nX : Aside0 (Box1 w w.heap.size #[.slice A0_0 l0_0.length c0_0, .slice A0_1 l0_1.length c0_1, .bool false] 25 w1) := ⟨Box1.next HX.out hb⟩; have nY : Aside0 (Box1 w (w.heap.size + 1) #[.slice A1 l1.length c1] 23 w1) := ⟨Box1.next HY.out hb⟩; clear HX HY hb; have HX := nX; have HY := nY; clear nX nY) | (go_at_call 68; (with_reducible refine (S1.out _ ?s1 ?s2).mono ?_); (case s1 => exact Kd.C_below HR2.out HX.out.below); (case s2 => exact HY.out.one); rintro e w1 ⟨rfl, rfl⟩) | (go_at_call 68; (with_reducible refine (S2.out _ ?s1 ?s2).mono ?_); (case s1 => exact Kd.C_below HR2.out HX.out.below); (case s2 => exact HY.out.one); rintro e w1 ⟨rfl, rfl⟩) | (go_at_call 69; (with_reducible refine (AB.out _).mono ?_); rintro e w1 ⟨rfl, ⟨nd, rfl⟩⟩))
             go_ret
             refine ⟨?_, (HX.out.drewN _).below⟩
             rw [← HV.out, hasB_false.2 (fun h => by have h1 := HI.out; have h2 := HIL.out; have h3 := HJ.out; have h4 := HJL.out; have h5 := HXI.out.1 (h.2.2.2.2 i j h1.1 h2 h3.1 h4); have h6 := HCX.out; have h7 := HCY.out; omega)]
             rfl
            ·
             rw [decide_eq_false cy] at ab
             have AB := Aside0.mk ab
             have HCY := Aside0.mk cy
             clear cy ab
             go_wp2_with (first | (go_at_call 111; (with_reducible refine (C1.out _ ?s1).mono ?_); (case s1 => exact Kd.C_below HR1.out HX.out.below); rintro e w1 ⟨rfl, hb⟩; have nX : Aside0 (Box1 w w.heap.size #[.slice A0_0 l0_0.length c0_0, .slice A0_1 l0_1.length c0_1, .bool false] 25 w1) := ⟨Box1.next HX.out hb⟩; have nY : Aside0 (Box1 w (w.heap.size + 1) #[.slice A1 l1.length c1] 23 w1) := ⟨Box1.next HY.out hb⟩; clear HX HY hb; have HX := nX; have HY := nY; clear nX nY) | (go_at_call 68; (with_reducible refine (S1.out _ ?s1 ?s2).mono ?_); (case s1 => exact Kd.C_below HR2.out HX.out.below); (case s2 => exact HY.out.one); rintro e w1 ⟨rfl, rfl⟩) | (go_at_call 68; (with_reducible refine (S2.out _ ?s1 ?s2).mono ?_); (case s1 => exact Kd.C_below HR2.out HX.out.below); (case s2 => exact HY.out.one); rintro e w1 ⟨rfl, rfl⟩) | (go_at_call 69; (with_reducible refine (AB.out _).mono ?_); rintro e w1 ⟨rfl, ⟨nd, rfl⟩⟩))
             go_roundg (2 * l0_0.length - (j.toNat + 1))
             case measure => have h1 := HJ.out; have h2 := HJL.out; omega
             case rel =>
              have h1 := HJ.out; have h2 := HJL.out; have h3 := HLEN.out
              have hw : wrap64 (j + 1) = j + 1 := by unfold wrap64; omega
              refine ⟨wrap64 (j + 1), rfl, ⟨by omega, by omega, by omega⟩, ⟨HX.out.drewN _⟩, ⟨HY.out.drewN _⟩, ⟨fun b b0 b1 => ?_⟩⟩
              by_cases e : b = j
              ·
               subst e; exact HXI.out.2 (Or.inr (by have := HCY.out; omega))
              ·
               exact HE.out b b0 (by omega)
          ·
           have f4 : decide (j < 2 * (l0_0.length : Int)) = false := decide_eq_false hlt
           have HJL := Aside0.mk hlt
           clear hlt
           go_wp2
           go_roundg (2 * l0_0.length - (i.toNat + 1))
           case measure => have h1 := HI.out; have h2 := HIL.out; omega
           case rel =>
            have h1 := HI.out; have h2 := HIL.out; have h3 := HLEN.out; have h5 := HJL.out; have h6 := HJ.out
            have hw : wrap64 (i + 1) = i + 1 := by unfold wrap64; omega
            refine ⟨wrap64 (i + 1), rfl, ⟨by omega, by omega, by omega⟩, HX, HY, ⟨fun a b a0 a1 b0 b1 => ?_⟩⟩
            by_cases e : a = i
            ·
             subst e; exact HE.out b b0 (by omega)
            ·
             exact HA.out a b a0 (by omega) b0 b1
        ·
         have f3 : decide (i < 2 * (l0_0.length : Int)) = false := decide_eq_false hlt
         have HIL := Aside0.mk hlt
         clear hlt
         go_wp2
         go_ret
         have h1 := HI.out; have h2 := HIL.out
         refine ⟨?_, HX.out.below⟩
         rw [← HV.out, (hasB_true (vars := l0_0) (m := l0_1) (empty := false) (v := l1)).2 ⟨rfl, HT.out, HL.out, HALL.out, fun a b a0 a1 b0 b1 => HA.out a b a0 (by omega) b0 b1⟩]
         rfl
    ·
     have f1 : ((l1.length : Int) != (l0_0.length : Int)) = true := by simpa using (by omega : ¬ ((l1.length : Int) = (l0_0.length : Int)))
     have f2 : (l1.length != l0_0.length) = true := by simpa using hl
     have HL := Aside0.mk hl
     clear hl
     go_enter Try.func34, Try.ntmps34
     go_wp2_with (go_at_call 18; (with_reducible refine (HF.out _ ?s1 ?s2).mono ?_); (case s1 => repeat (first | exact HR0.out | (with_reducible refine Kd.C_alloc ?_ _))); (case s2 => repeat (first | exact HR1.out | (with_reducible refine Kd.C_alloc ?_ _))); rintro e w1 ⟨rfl, hb⟩; obtain ⟨hcc, hff⟩ := bcell hb; have hz := hb.size; rw [World.size_alloc, World.size_alloc] at hz)
     go_ret
     refine ⟨?_, (below_alloc (below_alloc (Below.refl _ _) _) _).trans (hb.mono (by simp; omega))⟩
     rw [← HV.out, hasB_false.2 (fun h => HL.out h.2.2.1)]
     rfl
 ·
  rw [if_neg hlen] at h
  cases h
end Go.Proofs.Ytomgebmimgaojaa.QO
end
section
/- Values and matrices: the values of an octagon lie in its matrix as a tight one; Close, Join, Meet keep them, Leq hands them on. Plain laws. -/
noncomputable section
namespace Go.Proofs.Ytomgebmimgaojaa.QO
open Go.RowKit Go.Proofs.YtomgebmimgaojaaW.PrintWords Go.Proofs.YtomgebmimgaojaaW.PrintLast Go.Proofs.YtomgebmimgaojaaW.PrintMore
open OctMath (over overs plus Bd Fin' Top62 Closed Le IsClosure)
/-- all values are small -/
def Small (n : Nat) (v : List Int) : Prop := v.length = n ∧ ∀ k : Int, 0 ≤ k → k < (n : Int) → -274877906944 < rd v k ∧ rd v k < 274877906944
/-- the differences of the nodes' values -/
def valM (v : List Int) : Nat → Nat → Int := fun i j => sgn v (j : Int) - sgn v (i : Int)
theorem sgn_small {n : Nat} {v : List Int} (h : Small n v) {i : Nat} (hi : i < 2 * n) : -274877906944 < sgn v (i : Int) ∧ sgn v (i : Int) < 274877906944 := by
  have := h.2 ((i : Int) / 2) (by omega) (by omega)
  unfold sgn; split <;> omega
theorem sgn_nb (v : List Int) (i : Nat) : sgn v ((nb i : Nat) : Int) = - sgn v (i : Int) := by
  unfold nb
  split
  · rename_i h
    have e1 : (((i + 1 : Nat) : Int)) % 2 = 1 := by omega
    have e2 : (((i + 1 : Nat) : Int)) / 2 = (i : Int) / 2 := by omega
    have e3 : ¬ ((i : Int) % 2 = 1) := by omega
    unfold sgn; rw [if_pos e1, e2, if_neg e3]
  · rename_i h
    have e1 : ¬ (((i - 1 : Nat) : Int)) % 2 = 1 := by omega
    have e2 : (((i - 1 : Nat) : Int)) / 2 = (i : Int) / 2 := by omega
    have e3 : (i : Int) % 2 = 1 := by omega
    unfold sgn; rw [if_neg e1, e2, if_pos e3]; omega
theorem valM_tgt {n : Nat} {v : List Int} (h : Small n v) : Tgt (2 * n) (valM v) := by
  have hs := fun i hi => sgn_small h (i := i) hi
  refine ⟨⟨fun i _ => by unfold valM; omega, fun i j k hi hj hk => ?_⟩, fun i j hi hj => ?_, fun i j hi hj => ?_, fun i hi => .inr ⟨-sgn v (i : Int), ?_⟩, fun i j hi hj => ?_⟩
  · have h1 := hs i hi; have h2 := hs j hj; have h3 := hs k hk
    unfold valM plus; rw [if_neg (by omega)]; omega
  · unfold valM; rw [sgn_nb, sgn_nb]; omega
  · have h1 := hs i hi; have h2 := hs j hj
    unfold valM Fin'; omega
  · unfold valM; rw [sgn_nb]; omega
  · have h1 := hs i hi; have h2 := hs j hj
    unfold valM; rw [sgn_nb, sgn_nb]
    unfold plus; rw [if_neg (by omega)]; unfold half; rw [if_neg (by omega)]; omega
/-- are the values in the matrix? -/
theorem has_iff {vars m v : List Int} (h : OFit vars m false) (hs : Small vars.length v) : hasB vars m false v = true ↔ Le (2 * vars.length) (valM v) (lowM vars.length m) := by
  rw [hasB_true]
  constructor
  · intro H i j hi hj
    have h1 := H.2.2.2.2 (i : Int) (j : Int) (by omega) (by omega) (by omega) (by omega)
    unfold lowM valM
    rw [lowAt_same h (by omega) (by omega) (by omega) (by omega)]
    have h2 := sgn_small hs hi; have h3 := sgn_small hs hj
    omega
  · intro H
    refine ⟨rfl, h, hs.1, fun k h0 h1 => ?_, fun i j h0 h1 h2 h3 => ?_⟩
    · have := hs.2 k h0 (by have := hs.1; omega); omega
    · obtain ⟨a, rfl⟩ : ∃ a : Nat, i = (a : Int) := ⟨i.toNat, by omega⟩
      obtain ⟨b, rfl⟩ : ∃ b : Nat, j = (b : Int) := ⟨j.toNat, by omega⟩
      have := H a b (by omega) (by omega)
      unfold lowM valM at this
      rw [lowAt_same h (by omega) (by omega) (by omega) (by omega)] at this
      exact .inr this
theorem has_lst {vars v : List Int} {M : Nat → Nat → Int} (hv : VarsOk vars) (hM : Snd (2 * vars.length) M) (hs : Small vars.length v) : hasB vars (lst (2 * vars.length) M) false v = true ↔ Le (2 * vars.length) (valM v) M := by
  rw [has_iff (fit_of_snd hv hM) hs]
  constructor
  · intro H i j hi hj; have := H i j hi hj; rwa [lowM_lst hv hM i j hi hj] at this
  · intro H i j hi hj; rw [lowM_lst hv hM i j hi hj]; exact H i j hi hj
theorem has_empty (vars m v : List Int) : hasB vars m true v = false := hasB_false.2 (fun h => by have := h.1; cases this)
/-- an octagon of which something is known: its closed form -/
theorem close_cases {vars m : List Int} {e : Bool} (h : OFit vars m e) :
    (closeF vars m e = (vars, [], true) ∧ (e = true ∨ ¬ CloseOk (2 * vars.length) (lowM vars.length m))) ∨
    (e = false ∧ CloseOk (2 * vars.length) (lowM vars.length m) ∧ closeF vars m e = (vars, lst (2 * vars.length) (closeM (2 * vars.length) (lowM vars.length m)), false)) := by
  cases e with
  | true => left; exact ⟨by unfold closeF; rw [if_pos rfl], .inl rfl⟩
  | false =>
    by_cases hc : CloseOk (2 * vars.length) (lowM vars.length m)
    · right
      refine ⟨rfl, hc, ?_⟩
      unfold closeF closeL; rw [if_neg (by decide), closeB_true.2 hc]; rfl
    · left
      refine ⟨?_, .inr hc⟩
      unfold closeF closeL; rw [if_neg (by decide), closeB_false.2 hc]; rfl
/-- values of an octagon are values of its closed form -/
theorem has_close {vars m v : List Int} {e : Bool} (h : OFit vars m e) (hs : Small vars.length v) (hx : hasB vars m e v = true) :
    e = false ∧ CloseOk (2 * vars.length) (lowM vars.length m) ∧ Le (2 * vars.length) (valM v) (closeM (2 * vars.length) (lowM vars.length m)) := by
  have he := (hasB_true.1 hx).1
  subst he
  have l := (has_iff h hs).1 hx
  have sn := snd_of_fit h
  obtain ⟨g1, g2⟩ := tgt_great sn (valM_tgt hs) l
  exact ⟨rfl, g1, fun i j hi hj => Int.le_trans (g2 i j hi hj) (tgt_close sn g1 i j hi hj)⟩
/-- .. and back, where nothing of it was clipped -/
theorem close_has {vars m v : List Int} (h : OFit vars m false) (hs : Small vars.length v) (hc : CloseOk (2 * vars.length) (lowM vars.length m))
    (hl : Le (2 * vars.length) (valM v) (closeM (2 * vars.length) (lowM vars.length m)))
    (hb : ∀ i j, i < 2 * vars.length → j < 2 * vars.length → closeM (2 * vars.length) (lowM vars.length m) i j = 4611686018427387904 ∨ -1099511627775 ≤ closeM (2 * vars.length) (lowM vars.length m) i j) : hasB vars m false v = true := by
  have sn := snd_of_fit h
  rw [has_iff h hs]
  intro i j hi hj
  have h1 := hl i j hi hj
  have h2 := hb i j hi hj
  have h3 := tgt_le sn hc i j hi hj
  have h4 := sn.bd i j hi hj
  have h5 := sgn_small hs hi; have h6 := sgn_small hs hj
  rw [closeM_eq] at h1 h2
  have h7 : valM v i j ≤ 549755813888 := by unfold valM; omega
  unfold clipV at h1 h2
  unfold Fin' at h4
  split at h1
  · omega
  · split at h1
    · rename_i q1 q2
      rw [if_neg q1, if_pos q2] at h2
      omega
    · omega
theorem pairAt_lst {vars : List Int} {A B : Nat → Nat → Int} (hv : VarsOk vars) (ha : Snd (2 * vars.length) A) (hb : Snd (2 * vars.length) B) (k : Nat) (hk : k < 2 * vars.length * (2 * vars.length)) :
    (pairAt (2 * vars.length) (lst (2 * vars.length) A) (lst (2 * vars.length) B) k).2.1 = A (k / (2 * vars.length)) (k % (2 * vars.length)) ∧ (pairAt (2 * vars.length) (lst (2 * vars.length) A) (lst (2 * vars.length) B) k).2.2 = B (k / (2 * vars.length)) (k % (2 * vars.length)) := by
  have h0 : 0 < 2 * vars.length := by
    by_cases e : 2 * vars.length = 0
    · rw [e] at hk; omega
    · omega
  have h1 : k / (2 * vars.length) < 2 * vars.length := Nat.div_lt_of_lt_mul hk
  have h2 : k % (2 * vars.length) < 2 * vars.length := Nat.mod_lt _ h0
  have e : ((2 * vars.length : Nat) : Int) = 2 * (vars.length : Int) := by push_cast; rfl
  unfold pairAt
  rw [e]
  exact ⟨lowM_lst hv ha _ _ h1 h2, lowM_lst hv hb _ _ h1 h2⟩
/-- entry by entry at most -/
theorem leqL_iff {vars : List Int} {A B : Nat → Nat → Int} (hv : VarsOk vars) (ha : Snd (2 * vars.length) A) (hb : Snd (2 * vars.length) B) : leqL (2 * vars.length) (lst (2 * vars.length) A) (lst (2 * vars.length) B) = true ↔ Le (2 * vars.length) A B := by
  unfold leqL
  rw [List.all_eq_true]
  constructor
  · intro h i j hi hj
    have := h (i * (2 * vars.length) + j) (by simpa using ij_lt hi hj)
    obtain ⟨h1, h2⟩ := pairAt_lst hv ha hb _ (ij_lt hi hj)
    rw [h1, h2, ij_div hj, ij_mod hj] at this
    exact of_decide_eq_true this
  · intro h k hk
    have hk' : k < 2 * vars.length * (2 * vars.length) := by simpa using hk
    obtain ⟨h1, h2⟩ := pairAt_lst hv ha hb k hk'
    have h0 : 0 < 2 * vars.length := by
      by_cases e : 2 * vars.length = 0
      · rw [e] at hk'; omega
      · omega
    rw [h1, h2]
    exact decide_eq_true (h _ _ (Nat.div_lt_of_lt_mul hk') (Nat.mod_lt _ h0))
theorem mixL_lst2 {vars : List Int} {A B : Nat → Nat → Int} (g : Int → Int → Int) (hv : VarsOk vars) (ha : Snd (2 * vars.length) A) (hb : Snd (2 * vars.length) B) : mixL g (2 * vars.length) (lst (2 * vars.length) A) (lst (2 * vars.length) B) = lst (2 * vars.length) (fun i j => g (A i j) (B i j)) := by
  rw [mixL_lst]
  exact lst_congr (fun i j hi hj => by rw [lowM_lst hv ha i j hi hj, lowM_lst hv hb i j hi hj])
end Go.Proofs.Ytomgebmimgaojaa.QO
end
end
section
/- With enough rounds: the answer of a function that counts its rounds. -/
noncomputable section
namespace Go.Proofs.Ytomgebmimgaojaa.Pure
open Go.RowKit Go.Proofs.Ytomgebmimgaojaa.QO Go.Proofs.YtomgebmimgaojaaW.PrintWords Go.Proofs.YtomgebmimgaojaaW.PrintLast Go.Proofs.YtomgebmimgaojaaW.PrintMore
/-- with enough rounds the answer is v -/
def Ev {α : Type} (g : Nat → Option α) (v : α) : Prop := ∃ K, ∀ k, K ≤ k → g k = some v
theorem Ev.step {α : Type} {g h : Nat → Option α} {v : α} (e : ∀ k, g (k + 1) = h k) (hh : Ev h v) : Ev g v := by
  obtain ⟨K, hK⟩ := hh
  refine ⟨K + 1, fun k hk => ?_⟩
  obtain ⟨k, rfl⟩ : ∃ j, k = j + 1 := ⟨k - 1, by omega⟩
  rw [e]; exact hK k (by omega)
theorem Ev.of {α : Type} (v : α) : Ev (fun _ => some v) v := ⟨0, fun _ _ => rfl⟩
theorem Ev.bind {α β : Type} {f : Nat → Option α} {g : Nat → α → Option β} {a : α} {v : β} (hf : Ev f a) (hg : Ev (fun k => g k a) v) : Ev (fun k => (f k).bind (g k)) v := by
  obtain ⟨K, hK⟩ := hf
  obtain ⟨L, hL⟩ := hg
  refine ⟨K + L, fun k hk => ?_⟩
  show (f k).bind (g k) = some v
  rw [hK k (by omega)]; exact hL k (by omega)
theorem Ev.congr {α : Type} {g h : Nat → Option α} {v : α} (e : ∀ k, g k = h k) (hh : Ev h v) : Ev g v := by
  obtain ⟨K, hK⟩ := hh
  exact ⟨K, fun k hk => (e k).trans (hK k hk)⟩
theorem bsome {α β : Type} (a : α) (f : α → Option β) : (some a).bind f = f a := by rw [Option.bind_some]
namespace Octs
theorem grow {α : Type} {g : Nat → Option α} (m : ∀ k, LeO (g k) (g (k + 1))) {n : Nat} {v : α} (h : g n = some v) : ∀ k, n ≤ k → g k = some v := by
  intro k hk
  induction k with
  | zero => rw [← h]; congr 1; omega
  | succ k ih =>
    by_cases e : n = k + 1
    · rw [← e]; exact h
    · exact m k _ (ih (by omega))
end Octs
end Go.Proofs.Ytomgebmimgaojaa.Pure
end
end
section
/- The law's own look at values, bound by bound, and at the size of entries. -/
noncomputable section
namespace Go.Proofs.Ytomgebmimgaojaa.Pure
open Go.RowKit Go.Proofs.Ytomgebmimgaojaa.QO Go.Proofs.YtomgebmimgaojaaW.PrintWords Go.Proofs.YtomgebmimgaojaaW.PrintLast Go.Proofs.YtomgebmimgaojaaW.PrintMore
namespace Holds
theorem value_f {n : Nat} {v : List Int} (h : Small n v) (hn : n ≤ 8) {i : Int} (h0 : 0 ≤ i) (h1 : i < 2 * (n : Int)) : gimballaw11_value.f v i = some (sgn v i) := by
  have d1 : i.tdiv 2 = i / 2 := Int.tdiv_eq_ediv_of_nonneg h0
  have d2 : i.tmod 2 = i % 2 := Int.tmod_eq_emod_of_nonneg h0
  have h2 : i / 2 < v.length := by have := h.1; omega
  have h3 := h.2 (i / 2) (by omega) (by omega)
  have d3 : wrap64 (i / 2) = i / 2 := by unfold wrap64; omega
  have d4 : wrap64 (-(rd v (i / 2))) = -(rd v (i / 2)) := by unfold wrap64; omega
  unfold gimballaw11_value.f sgn
  rw [d1, d2, d3, d4]
  have z : 0 ≤ i / 2 := by omega
  by_cases e : i % 2 = 0
  · rw [if_pos e, if_pos z, if_pos h2, if_neg (by omega)]
  · rw [if_neg e, if_pos z, if_pos h2, if_pos (by omega)]
def PP (n2 : Int) (m v : List Int) (i j : Int) : Prop := rd m (i * n2 + j) = 4611686018427387904 ∨ sgn v j - sgn v i ≤ rd m (i * n2 + j)
theorem sgn_int {n : Nat} {v : List Int} (h : Small n v) {i : Int} (h0 : 0 ≤ i) (h1 : i < 2 * (n : Int)) : -274877906944 < sgn v i ∧ sgn v i < 274877906944 := by
  have := h.2 (i / 2) (by omega) (by omega)
  unfold sgn; split <;> omega
section
variable {l v m : List Int} {n : Nat}
theorem step {b : Bool} (h : Small n v) (hn : n ≤ 8) (hm : (m.length : Int) = (2 * (n : Int)) * (2 * (n : Int))) {i j : Int} (i0 : 0 ≤ i) (i1 : i < 2 * (n : Int)) (j0 : 0 ≤ j) (j1 : j < 2 * (n : Int)) :
    (PP (2 * (n : Int)) m v i j → Ev (fun k => gimballaw11_holds.l1 k v (2 * (n : Int)) i (j + 1) l m false) b → Ev (fun k => gimballaw11_holds.l1 k v (2 * (n : Int)) i j l m false) b) ∧
    (¬ PP (2 * (n : Int)) m v i j → Ev (fun k => gimballaw11_holds.l1 k v (2 * (n : Int)) i j l m false) false) := by
  obtain ⟨n2, hn2⟩ : ∃ n2 : Int, 2 * (n : Int) = n2 := ⟨_, rfl⟩
  have p1 : 0 ≤ i * n2 := Int.mul_nonneg i0 (by omega)
  have p2 : (i + 1) * n2 ≤ n2 * n2 := Int.mul_le_mul_of_nonneg_right (by omega) (by omega)
  have p3 : n2 * n2 ≤ 16 * 16 := Int.mul_le_mul (by omega) (by omega) (by omega) (by decide)
  rw [Int.add_mul, Int.one_mul] at p2
  have vi := value_f h hn i0 i1
  have vj := value_f h hn j0 j1
  have gi := sgn_int h i0 i1
  have gj := sgn_int h j0 j1
  rw [hn2] at hm i1 j1 ⊢
  have w1 : wrap64 (i * n2) = i * n2 := by unfold wrap64; omega
  have w2 : wrap64 (i * n2 + j) = i * n2 + j := by unfold wrap64; omega
  have w3 : wrap64 (j + 1) = j + 1 := by unfold wrap64; omega
  have w4 : wrap64 (sgn v j - sgn v i) = sgn v j - sgn v i := by unfold wrap64; omega
  have e : ∀ k, gimballaw11_holds.l1 (k + 1) v n2 i j l m false = if rd m (i * n2 + j) = 4611686018427387904 then gimballaw11_holds.l1 k v n2 i (j + 1) l m false else if sgn v j - sgn v i > rd m (i * n2 + j) then some false else gimballaw11_holds.l1 k v n2 i (j + 1) l m false := by
    intro k
    rw [gimballaw11_holds.l1, if_pos j1, w1, w2, w3, if_pos (by omega), if_pos (by omega), vi, vj]
    simp only [Option.bind_some]
    rw [w4]
  constructor
  · intro hp hE
    refine Ev.step e (Ev.congr (fun k => ?_) hE)
    by_cases he : rd m (i * n2 + j) = 4611686018427387904
    · rw [if_pos he]
    · rw [if_neg he, if_neg (by rcases hp with h | h <;> omega)]
  · intro hp
    refine Ev.step e (Ev.congr (fun k => ?_) (Ev.of false))
    rw [if_neg (fun h => hp (.inl h)), if_pos (by have : ¬ sgn v j - sgn v i ≤ rd m (i * n2 + j) := fun h => hp (.inr h); omega)]
theorem cols (h : Small n v) (hn : n ≤ 8) (hm : (m.length : Int) = (2 * (n : Int)) * (2 * (n : Int))) {i : Int} (i0 : 0 ≤ i) (i1 : i < 2 * (n : Int)) {b : Bool} (hE : Ev (fun k => gimballaw11_holds.l0 k v (2 * (n : Int)) (wrap64 (i + 1)) l m false) b) : ∀ (d : Nat) (j : Int), 0 ≤ j → 2 * (n : Int) - j = (d : Int) →
    ((∀ j', j ≤ j' → j' < 2 * (n : Int) → PP (2 * (n : Int)) m v i j') → Ev (fun k => gimballaw11_holds.l1 k v (2 * (n : Int)) i j l m false) b) ∧
    ((∃ j', j ≤ j' ∧ j' < 2 * (n : Int) ∧ ¬ PP (2 * (n : Int)) m v i j') → Ev (fun k => gimballaw11_holds.l1 k v (2 * (n : Int)) i j l m false) false) := by
  intro d
  induction d with
  | zero =>
    intro j j0 hd
    exact ⟨fun _ => Ev.step (fun k => by rw [gimballaw11_holds.l1, if_neg (by omega)]) hE, fun ⟨j', h1, h2, _⟩ => by omega⟩
  | succ d ih =>
    intro j j0 hd
    obtain ⟨a1, a2⟩ := ih (j + 1) (by omega) (by omega)
    refine ⟨fun hp => (step h hn hm i0 i1 j0 (by omega)).1 (hp j (by omega) (by omega)) (a1 (fun j' h1 h2 => hp j' (by omega) h2)), fun ⟨j', h1, h2, h3⟩ => ?_⟩
    by_cases hq : PP (2 * (n : Int)) m v i j
    · refine (step h hn hm i0 i1 j0 (by omega)).1 hq (a2 ⟨j', ?_, h2, h3⟩)
      rcases Int.lt_or_eq_of_le h1 with q | q
      · omega
      · subst q; exact absurd hq h3
    · exact (step (b := b) h hn hm i0 i1 j0 (by omega)).2 hq
theorem rows (h : Small n v) (hn : n ≤ 8) (hm : (m.length : Int) = (2 * (n : Int)) * (2 * (n : Int))) : ∀ (d : Nat) (i : Int), 0 ≤ i → 2 * (n : Int) - i = (d : Int) →
    ((∀ i' j', i ≤ i' → i' < 2 * (n : Int) → 0 ≤ j' → j' < 2 * (n : Int) → PP (2 * (n : Int)) m v i' j') → Ev (fun k => gimballaw11_holds.l0 k v (2 * (n : Int)) i l m false) true) ∧
    ((∃ i' j', i ≤ i' ∧ i' < 2 * (n : Int) ∧ 0 ≤ j' ∧ j' < 2 * (n : Int) ∧ ¬ PP (2 * (n : Int)) m v i' j') → Ev (fun k => gimballaw11_holds.l0 k v (2 * (n : Int)) i l m false) false) := by
  intro d
  induction d with
  | zero =>
    intro i i0 hd
    exact ⟨fun _ => Ev.step (fun k => by rw [gimballaw11_holds.l0, if_neg (by omega)]) (Ev.of true), fun ⟨i', j', h1, h2, _⟩ => by omega⟩
  | succ d ih =>
    intro i i0 hd
    have i1 : i < 2 * (n : Int) := by omega
    have w1 : wrap64 (i + 1) = i + 1 := by unfold wrap64; omega
    obtain ⟨a1, a2⟩ := ih (i + 1) (by omega) (by omega)
    refine ⟨fun hp => ?_, fun ⟨i', j', h1, h2, h3, h4, h5⟩ => ?_⟩
    · exact Ev.step (fun k => by rw [gimballaw11_holds.l0, if_pos i1]) ((cols h hn hm i0 i1 (by rw [w1]; exact a1 (fun i' j' h1 h2 h3 h4 => hp i' j' (by omega) h2 h3 h4)) (2 * n) 0 (by omega) (by omega)).1 (fun j' h1 h2 => hp i j' (by omega) i1 h1 h2))
    · refine Ev.step (fun k => by rw [gimballaw11_holds.l0, if_pos i1]) ?_
      by_cases hq : ∃ j', 0 ≤ j' ∧ j' < 2 * (n : Int) ∧ ¬ PP (2 * (n : Int)) m v i j'
      · by_cases hr : ∀ i' j', i + 1 ≤ i' → i' < 2 * (n : Int) → 0 ≤ j' → j' < 2 * (n : Int) → PP (2 * (n : Int)) m v i' j'
        · exact (cols h hn hm i0 i1 (b := true) (by rw [w1]; exact a1 hr) (2 * n) 0 (by omega) (by omega)).2 hq
        · exact (cols h hn hm i0 i1 (b := false) (by rw [w1]; exact a2 (Classical.byContradiction fun hx => hr (fun i' j' q1 q2 q3 q4 => Classical.byContradiction fun hy => hx ⟨i', j', q1, q2, q3, q4, hy⟩))) (2 * n) 0 (by omega) (by omega)).2 hq
      · have hq' : ∀ j', 0 ≤ j' → j' < 2 * (n : Int) → PP (2 * (n : Int)) m v i j' := fun j' a c => Classical.byContradiction fun hx => hq ⟨j', a, c, hx⟩
        refine (cols h hn hm i0 i1 (b := false) ?_ (2 * n) 0 (by omega) (by omega)).1 hq'
        rw [w1]
        refine a2 ⟨i', j', ?_, h2, h3, h4, h5⟩
        rcases Int.lt_or_eq_of_le h1 with q | q
        · omega
        · subst q; exact absurd (hq' j' h3 h4) h5
end
/-- bound by bound: just what Has tells -/
theorem holds_ev {l v m : List Int} {e : Bool} (h : OFit l m e) (hs : Small l.length v) : Ev (fun k => gimballaw11_holds.f k l m e v) (hasB l m e v) := by
  have h8 := h.1.1
  cases e with
  | true => rw [has_empty]; exact Ev.congr (fun k => by unfold gimballaw11_holds.f; rw [if_pos rfl]) (Ev.of false)
  | false =>
    have hm := (h.2.2 rfl).1
    have w : wrap64 (2 * (l.length : Int)) = 2 * (l.length : Int) := by unfold wrap64; omega
    obtain ⟨r1, r2⟩ := rows (l := l) (m := m) hs h8 hm (2 * l.length) 0 (by omega) (by omega)
    refine Ev.congr (h := fun k => gimballaw11_holds.l0 k v (2 * (l.length : Int)) 0 l m false) (fun k => by unfold gimballaw11_holds.f; rw [if_neg (by decide), w]) ?_
    by_cases hp : ∀ i' j' : Int, 0 ≤ i' → i' < 2 * (l.length : Int) → 0 ≤ j' → j' < 2 * (l.length : Int) → PP (2 * (l.length : Int)) m v i' j'
    · have hb : hasB l m false v = true := hasB_true.2 ⟨rfl, h, hs.1, fun k h0 h1 => by have := hs.2 k h0 (by have := hs.1; omega); omega, fun i j a b c d => hp i j a b c d⟩
      rw [hb]; exact r1 hp
    · have hb : hasB l m false v = false := hasB_false.2 (fun H => hp (fun i j a b c d => H.2.2.2.2 i j a b c d))
      rw [hb]
      exact r2 (Classical.byContradiction fun hx => hp (fun i' j' a b c d => Classical.byContradiction fun hy => hx ⟨i', j', a, b, c, d, hy⟩))
theorem small_l0 {m : List Int} {b : Int} (hb : wrap64 (-b) = -b) (hl : m.length < 4611686018427387904) : ∀ (d i : Nat), i + d = m.length →
    ∃ r, Ev (fun k => gimballaw11_small.l0 k b m (m.length : Int) (i : Int)) r ∧ (r = true → ∀ j : Nat, i ≤ j → j < m.length → rd m (j : Int) = 4611686018427387904 ∨ (-b ≤ rd m (j : Int) ∧ rd m (j : Int) ≤ b)) := by
  intro d
  induction d with
  | zero => intro i h; exact ⟨true, Ev.step (fun k => by rw [gimballaw11_small.l0, if_neg (by omega)]) (Ev.of true), fun _ j h1 h2 => by omega⟩
  | succ d ih =>
    intro i h
    have w1 : wrap64 ((i : Int) + 1) = ((i + 1 : Nat) : Int) := by unfold wrap64; omega
    obtain ⟨r, h1, h2⟩ := ih (i + 1) (by omega)
    have e : ∀ k, gimballaw11_small.l0 (k + 1) b m (m.length : Int) (i : Int) = if rd m (i : Int) = 4611686018427387904 then gimballaw11_small.l0 k b m (m.length : Int) ((i + 1 : Nat) : Int) else if rd m (i : Int) < -b then some false else if rd m (i : Int) > b then some false else gimballaw11_small.l0 k b m (m.length : Int) ((i + 1 : Nat) : Int) := by
      intro k; rw [gimballaw11_small.l0, if_pos (by omega), if_pos (by omega), if_pos (by omega), hb, w1]
    have go : ∀ j : Nat, i ≤ j → (j = i → rd m (i : Int) = 4611686018427387904 ∨ (-b ≤ rd m (i : Int) ∧ rd m (i : Int) ≤ b)) → r = true → j < m.length → rd m (j : Int) = 4611686018427387904 ∨ (-b ≤ rd m (j : Int) ∧ rd m (j : Int) ≤ b) := by
      intro j q1 q2 q3 q4
      by_cases ej : j = i
      · subst ej; exact q2 rfl
      · exact h2 q3 j (by omega) q4
    by_cases c1 : rd m (i : Int) = 4611686018427387904
    · exact ⟨r, Ev.step e (Ev.congr (fun k => if_pos c1) h1), fun hr j q1 q2 => go j q1 (fun _ => .inl c1) hr q2⟩
    · by_cases c2 : rd m (i : Int) < -b
      · exact ⟨false, Ev.step e (Ev.congr (fun k => (if_neg c1).trans (if_pos c2)) (Ev.of false)), fun h => by cases h⟩
      · by_cases c3 : rd m (i : Int) > b
        · exact ⟨false, Ev.step e (Ev.congr (fun k => (if_neg c1).trans ((if_neg c2).trans (if_pos c3))) (Ev.of false)), fun h => by cases h⟩
        · exact ⟨r, Ev.step e (Ev.congr (fun k => (if_neg c1).trans ((if_neg c2).trans (if_neg c3))) h1), fun hr j q1 q2 => go j q1 (fun _ => .inr (by omega)) hr q2⟩
theorem small_ev (l m : List Int) (e : Bool) {b : Int} (hb : wrap64 (-b) = -b) (hl : m.length < 4611686018427387904) :
    ∃ r, Ev (fun k => gimballaw11_small.f k l m e b) r ∧ (r = true → ∀ j : Nat, j < m.length → rd m (j : Int) = 4611686018427387904 ∨ (-b ≤ rd m (j : Int) ∧ rd m (j : Int) ≤ b)) := by
  obtain ⟨r, h1, h2⟩ := small_l0 (m := m) hb hl m.length 0 (by omega)
  exact ⟨r, h1, fun h j hj => h2 h j (by omega) hj⟩
end Holds
end Go.Proofs.Ytomgebmimgaojaa.Pure
end
end
