/- Own texts of this claim, joined. -/
import Derived.Test.YtphfchbggechhaaBOA0
import Derived.Test.YtphfchbggechhaaBOA1
import Derived.Test.YtphfchbggechhaaBOA2
import Derived.Test.YtphfchbggechhaaBOA3
import Derived.Test.YtphfchbggechhaaBOA4
import Derived.Test.YtphfchbggechhaaBOA5
import Derived.ChangeArms
import Derived.SizedLaws
set_option maxRecDepth 100000
set_option maxHeartbeats 16000000
section
noncomputable section
namespace Go.Proofs.Ytphfchbggechhaa.QO
open Go.RowKit Go.Shelf YtphfchbggechhaaW.PrintWords YtphfchbggechhaaW.PrintLast YtphfchbggechhaaW.PrintMore
open Ytphfchbggechhaa.Pure
attribute [local go_sem] Oper.semAt_some
attribute [local go_sem ↓] Go.wp_at_zero Go.wp_at_succ
set_option linter.unusedVariables false
set_option linter.unusedSimpArgs false
theorem asg_bot (X : OV) (x lx sx y sy c : Int) {cm : List Int} {w : World} (HX : Aside0 (Oc w w X)) (FX_ : Aside0 (OFit X.v X.m X.e)) (LK : Aside0 (X.v.length ≤ 1000)) (HC : Aside0 (closeF X.v X.m X.e = (X.v, cm, true)))
 :
 Calls Try.prog 21 #[X.val, .int .i64 x, lV lx sx y sy c] w fun e W' => ∃ z : OV, e = .returned z.val ∧ z.o = (X.v, cm, true) ∧ Own w W' z ∧ Below w.heap.size w W' := by
 have hu25 := Try.underlying25
 have hu34 := Try.underlying34
 go_enter Try.func21, Try.ntmps21
 go_upto_region 1 with fail
 have HM := MS.n3 w X.cells (lC lx sx y sy c) zeroO
 generalize World.alloc _ _ = wk at HM ⊢
 generalize w.heap.size + 2 = gr at HM ⊢
 generalize w.heap.size + 1 = gl at HM ⊢
 generalize w.heap.size = go at HM ⊢
 have kgo := MS.c3 HM m2_
 go_upto_region 2 with (first | (go_at_call 51; (with_reducible refine (close_as (Oc.now HX (MS.bel HM)) (Below.refl _ _) rfl FX_.out HC.out).mono ?_); rintro e wk ⟨cv, rfl, hcv, ho, hb⟩; replace HM := MS.cl HM hb ho; clear ho hb; replace kgo := MS.c3 HM m2_) | ((with_reducible refine gate_dst (N := 7) rfl ?_); refine bx_ 7 #[.slice none 0 0, .slice none 0 0, .bool false] 25 ?_; intro gc hg wk hbox hb; replace HM := MS.md HM hg hbox hb; clear hg hbox hb; have kgc := MS.c3 HM m0_; replace kgo := MS.c3 HM m3_))
 replace HM := MS.sb HM (.refl _) (.cons_cons _ (.cons_cons _ (.cons_cons _ (.cons _ .slnil)))); clear kgo
 replace HM := MS.po0 cv HM
 generalize World.setCell _ _ _ = wk at HM ⊢
 have HCV := Aside0.mk hcv; clear hcv
 have hem : cv.e = true := congrArg (·.2.2) HCV.out
 replace kgc := MS.c3 HM m0_
 go_upto_region 3 with fail
 clear hem
 have kgr := MS.c3 HM m1_; have kgl := MS.c5 HM m2_
 go_wp2
 replace HM := MS.po1 cv HM
 generalize World.setCell _ _ _ = wk at HM ⊢
 refine MS.rt HM m1_ ?_
 exact ⟨cv, rfl, HCV.out, HM.out.S.own _ m0_, HM.out.S.below⟩
theorem asg_no (X : OV) (x lx sx y sy c : Int) {cm : List Int} {w : World} (HX : Aside0 (Oc w w X)) (FX_ : Aside0 (OFit X.v X.m X.e)) (LK : Aside0 (X.v.length ≤ 1000)) (HC : Aside0 (closeF X.v X.m X.e = (X.v, cm, false))) {pv : Int} (HP : Aside0 (placeF X.v x = pv)) (PN : Aside0 (pv < 0))
 :
 Calls Try.prog 21 #[X.val, .int .i64 x, lV lx sx y sy c] w fun e W' => ∃ z : OV, e = .returned z.val ∧ z.o = (X.v, cm, false) ∧ Own w W' z ∧ Below w.heap.size w W' := by
 have hu25 := Try.underlying25
 have hu34 := Try.underlying34
 go_enter Try.func21, Try.ntmps21
 go_upto_region 1 with fail
 have HM := MS.n3 w X.cells (lC lx sx y sy c) zeroO
 generalize World.alloc _ _ = wk at HM ⊢
 generalize w.heap.size + 2 = gr at HM ⊢
 generalize w.heap.size + 1 = gl at HM ⊢
 generalize w.heap.size = go at HM ⊢
 have kgo := MS.c3 HM m2_
 go_upto_region 2 with (first | (go_at_call 51; (with_reducible refine (close_as (Oc.now HX (MS.bel HM)) (Below.refl _ _) rfl FX_.out HC.out).mono ?_); rintro e wk ⟨cv, rfl, hcv, ho, hb⟩; replace HM := MS.cl HM hb ho; clear ho hb; replace kgo := MS.c3 HM m2_) | ((with_reducible refine gate_dst (N := 7) rfl ?_); refine bx_ 7 #[.slice none 0 0, .slice none 0 0, .bool false] 25 ?_; intro gc hg wk hbox hb; replace HM := MS.md HM hg hbox hb; clear hg hbox hb; have kgc := MS.c3 HM m0_; replace kgo := MS.c3 HM m3_))
 replace HM := MS.sb HM (.refl _) (.cons_cons _ (.cons_cons _ (.cons_cons _ (.cons _ .slnil)))); clear kgo
 replace HM := MS.po0 cv HM
 generalize World.setCell _ _ _ = wk at HM ⊢
 have HCV := Aside0.mk hcv; clear hcv
 have hem : cv.e = false := congrArg (·.2.2) HCV.out
 have q0 := PN.out
 replace kgc := MS.c3 HM m0_
 go_upto_region 3 with (first | (go_at_call 52; (with_reducible refine (place_asE (MS.oc HM m0_) (MS.bel HM) HCV.out LK.out x HP.out (congrArg (·.2.2) HCV.out)).mono ?_); rintro e wk ⟨rfl, hb⟩; replace HM := MS.nx HM hb; clear hb; replace kgc := MS.c3 HM m0_))
 clear hem q0
 have kgr := MS.c3 HM m1_; have kgl := MS.c5 HM m2_
 go_wp2
 replace HM := MS.po1 cv HM
 generalize World.setCell _ _ _ = wk at HM ⊢
 refine MS.rt HM m1_ ?_
 exact ⟨cv, rfl, HCV.out, HM.out.S.own _ m0_, HM.out.S.below⟩
theorem asg_not (X : OV) (x lx sx y sy c : Int) {cm : List Int} {w : World} (HX : Aside0 (Oc w w X)) (FX_ : Aside0 (OFit X.v X.m X.e)) (LK : Aside0 (X.v.length ≤ 1000)) (HC : Aside0 (closeF X.v X.m X.e = (X.v, cm, false))) {p : Nat} {fm : List Int} {fe : Bool} (HP : Aside0 (placeF X.v x = (p : Int))) (CF : Aside0 (OFit X.v cm false)) (HFG : Aside0 (forgetF X.v cm false x = (X.v, fm, fe))) (HOF : Aside0 (ofB X.v lx sx y sy c = false))
 :
 Calls Try.prog 21 #[X.val, .int .i64 x, lV lx sx y sy c] w fun e W' => ∃ z : OV, e = .returned z.val ∧ z.o = (X.v, fm, fe) ∧ Own w W' z ∧ Below w.heap.size w W' := by
 have hu25 := Try.underlying25
 have hu34 := Try.underlying34
 go_enter Try.func21, Try.ntmps21
 go_upto_region 1 with fail
 have HM := MS.n3 w X.cells (lC lx sx y sy c) zeroO
 generalize World.alloc _ _ = wk at HM ⊢
 generalize w.heap.size + 2 = gr at HM ⊢
 generalize w.heap.size + 1 = gl at HM ⊢
 generalize w.heap.size = go at HM ⊢
 have kgo := MS.c3 HM m2_
 go_upto_region 2 with (first | (go_at_call 51; (with_reducible refine (close_as (Oc.now HX (MS.bel HM)) (Below.refl _ _) rfl FX_.out HC.out).mono ?_); rintro e wk ⟨cv, rfl, hcv, ho, hb⟩; replace HM := MS.cl HM hb ho; clear ho hb; replace kgo := MS.c3 HM m2_) | ((with_reducible refine gate_dst (N := 7) rfl ?_); refine bx_ 7 #[.slice none 0 0, .slice none 0 0, .bool false] 25 ?_; intro gc hg wk hbox hb; replace HM := MS.md HM hg hbox hb; clear hg hbox hb; have kgc := MS.c3 HM m0_; replace kgo := MS.c3 HM m3_))
 replace HM := MS.sb HM (.refl _) (.cons_cons _ (.cons_cons _ (.cons_cons _ (.cons _ .slnil)))); clear kgo
 replace HM := MS.po0 cv HM
 generalize World.setCell _ _ _ = wk at HM ⊢
 have HCV := Aside0.mk hcv; clear hcv
 have hem : cv.e = false := congrArg (·.2.2) HCV.out
 have q0 : (0 : Int) ≤ (p : Int) := Int.natCast_nonneg _
 replace kgc := MS.c3 HM m0_; have kgr := MS.c3 HM m1_
 go_upto_region 4 with (first | (go_at_call 52; (with_reducible refine (place_asE (MS.oc HM m0_) (MS.bel HM) HCV.out LK.out x HP.out (congrArg (·.2.2) HCV.out)).mono ?_); rintro e wk ⟨rfl, hb⟩; replace HM := MS.nx HM hb; clear hb; replace kgc := MS.c3 HM m0_; replace kgr := MS.c3 HM m1_))
 clear hem q0
 have kgl := MS.c5 HM m2_
 go_upto_region 5 with (first | (go_at_call 55; (with_reducible refine (of_as' (MS.oc HM m0_) (MS.bel HM) HCV.out LK.out HOF.out).mono ?_); rintro e wk ⟨rfl, hb⟩; replace HM := MS.nx HM hb; clear hb; replace kgc := MS.c3 HM m0_; replace kgl := MS.c5 HM m2_))
 replace kgr := MS.c3 HM m1_
 go_wp2_with (first | (go_at_call 15; (with_reducible refine (forget_as (MS.oc HM m0_) (MS.bel HM) HCV.out CF.out x HFG.out).mono ?_); rintro e wk ⟨zv, rfl, hzv, ho, hb⟩; replace HM := MS.cl HM hb ho; clear ho hb; replace kgc := MS.c3 HM m0_; replace kgr := MS.c3 HM m1_; replace kgl := MS.c5 HM m2_))
 replace HM := MS.po1 zv HM
 generalize World.setCell _ _ _ = wk at HM ⊢
 refine MS.rt HM m1_ ?_
 exact ⟨zv, rfl, hzv, HM.out.S.own _ m0_, HM.out.S.below⟩
theorem asg_gen (X : OV) (x lx sx y sy c : Int) {cm : List Int} {w : World} (HX : Aside0 (Oc w w X)) (FX_ : Aside0 (OFit X.v X.m X.e)) (LK : Aside0 (X.v.length ≤ 1000)) (HC : Aside0 (closeF X.v X.m X.e = (X.v, cm, false))) {p : Nat} {fm : List Int} {fe : Bool} (HP : Aside0 (placeF X.v x = (p : Int))) (CF : Aside0 (OFit X.v cm false)) (HFG : Aside0 (forgetF X.v cm false x = (X.v, fm, fe))) {gm0 gm1 : List Int} {ge0 ge1 : Bool} {r : Tri} {a b a0 b0 a1 b1 a2 b2 r01 r02 r03 r04 r11 r12 r13 r14 : Int} {C : Mx} (HOF : Aside0 (ofB X.v lx sx y sy c = true)) (FF : Aside0 (OFit X.v fm fe))
 (CB : Aside0 (-1099511627776 ≤ c ∧ c ≤ 1099511627776)) (SXB : Aside0 (-1 ≤ sx ∧ sx ≤ 1)) (SYB : Aside0 (-1 ≤ sy ∧ sy ≤ 1)) (ZB : Aside0 ((-1 : Int) ≤ 0 ∧ (0 : Int) ≤ 1)) (NE : Aside0 (sy ≠ 0 → lx ≠ y)) (BX : Aside0 (sx ≠ 0 → 0 ≤ placeF X.v lx)) (BY : Aside0 (sy ≠ 0 → 0 ≤ placeF X.v y)) (L8 : Aside0 (X.v.length ≤ 8)) (P8 : Aside0 (p ≤ 8)) (FM : Aside0 (OFit X.v (lst (2 * X.v.length) (movM C sx p c)) false)) (HCM : Aside0 ((X.v, cm, false) = (X.v, lst (2 * X.v.length) C, false))) (SC : Aside0 (Snd (2 * X.v.length) C))
 (HIT : Aside0 (itvOf c c = (a, b))) (HB0 : Aside0 (BndF.bndF X.v cm false lx sx y sy c = (a0, b0))) (HB1 : Aside0 (BndF.bndF X.v cm false y sy 0 0 c = (a1, b1))) (HB2 : Aside0 (BndF.bndF X.v cm false lx sx 0 0 c = (a2, b2)))
 (HL0 : Aside0 ((if x < lx then (x, 1, lx, -sx) else (lx, -sx, x, 1)) = (r01, r02, r03, r04))) (HL1 : Aside0 ((if x < y then (x, 1, y, -sy) else (y, -sy, x, 1)) = (r11, r12, r13, r14)))
 (HG0 : Aside0 (guardF X.v fm fe x 1 0 0 0 a0 b0 = (X.v, gm0, ge0))) (GF0 : Aside0 (OFit X.v gm0 ge0)) (HG1 : Aside0 (guardF X.v gm0 ge0 r01 r02 r03 r04 0 a1 b1 = (X.v, gm1, ge1))) (GF1 : Aside0 (OFit X.v gm1 ge1))
 (R0 : Aside0 (sx = 0 → guardF X.v fm fe x 1 0 0 0 a b = r)) (R1 : Aside0 (sx ≠ 0 → sy = 0 → lx = x → closeF X.v (lst (2 * X.v.length) (movM C sx p c)) false = r)) (R2 : Aside0 (sx ≠ 0 → sy = 0 → lx ≠ x → guardF X.v fm fe r01 r02 r03 r04 0 a b = r))
 (R3 : Aside0 (sx ≠ 0 → sy ≠ 0 → lx ≠ x → y ≠ x → guardF X.v gm1 ge1 r11 r12 r13 r14 0 a2 b2 = r)) (R4 : Aside0 (sx ≠ 0 → sy ≠ 0 → lx ≠ x → y = x → (X.v, gm1, ge1) = r)) (R5 : Aside0 (sx ≠ 0 → sy ≠ 0 → lx = x → guardF X.v gm0 ge0 r11 r12 r13 r14 0 a2 b2 = r))
 :
 Calls Try.prog 21 #[X.val, .int .i64 x, lV lx sx y sy c] w fun e W' => ∃ z : OV, e = .returned z.val ∧ z.o = r ∧ Own w W' z ∧ Below w.heap.size w W' := by
 have hu25 := Try.underlying25
 have hu34 := Try.underlying34
 have hu36 := Try.underlying36
 go_enter Try.func21, Try.ntmps21
 go_upto_region 1 with fail
 have HM := MS.n3 w X.cells (lC lx sx y sy c) zeroO
 generalize World.alloc _ _ = wk at HM ⊢
 generalize w.heap.size + 2 = gr at HM ⊢
 generalize w.heap.size + 1 = gl at HM ⊢
 generalize w.heap.size = go at HM ⊢
 have kgo := MS.c3 HM m2_
 go_upto_region 2 with (first | (go_at_call 51; (with_reducible refine (close_as (Oc.now HX (MS.bel HM)) (Below.refl _ _) rfl FX_.out HC.out).mono ?_); rintro e wk ⟨cv, rfl, hcv, ho, hb⟩; replace HM := MS.cl HM hb ho; clear ho hb; replace kgo := MS.c3 HM m2_) | ((with_reducible refine gate_dst (N := 7) rfl ?_); refine bx_ 7 #[.slice none 0 0, .slice none 0 0, .bool false] 25 ?_; intro gc hg wk hbox hb; replace HM := MS.md HM hg hbox hb; clear hg hbox hb; have kgc := MS.c3 HM m0_; replace kgo := MS.c3 HM m3_))
 replace HM := MS.sb HM (.refl _) (.cons_cons _ (.cons_cons _ (.cons_cons _ (.cons _ .slnil)))); clear kgo
 replace HM := MS.po0 cv HM
 generalize World.setCell _ _ _ = wk at HM ⊢
 have HCV := Aside0.mk hcv; clear hcv
 have hem : cv.e = false := congrArg (·.2.2) HCV.out
 have q0 : (0 : Int) ≤ (p : Int) := Int.natCast_nonneg _
 replace kgc := MS.c3 HM m0_; have kgr := MS.c3 HM m1_
 go_upto_region 4 with (first | (go_at_call 52; (with_reducible refine (place_asE (MS.oc HM m0_) (MS.bel HM) HCV.out LK.out x HP.out (congrArg (·.2.2) HCV.out)).mono ?_); rintro e wk ⟨rfl, hb⟩; replace HM := MS.nx HM hb; clear hb; replace kgc := MS.c3 HM m0_; replace kgr := MS.c3 HM m1_))
 clear hem q0
 have kgl := MS.c5 HM m2_
 go_upto_region 6 with (first | (go_at_call 55; (with_reducible refine (of_as' (MS.oc HM m0_) (MS.bel HM) HCV.out LK.out HOF.out).mono ?_); rintro e wk ⟨rfl, hb⟩; replace HM := MS.nx HM hb; clear hb; replace kgc := MS.c3 HM m0_; replace kgr := MS.c3 HM m1_; replace kgl := MS.c5 HM m2_))
 by_cases S1_ : sx = 0
 ·
  have S1 := Aside0.mk S1_; clear S1_
  have t1 : (sx == 0) = true := beq_iff_eq.2 S1.out
  go_upto_region 7 with fail
  clear t1
  replace HM := MS.dr HM
  clear kgc kgl kgr
  refine st_ 12 (fun w' => oR gc cv w' ∧ w'.cell? ⟨gl, 4, none⟩ = some (.int .i64 c)) [11] ⟨kO HM m0_, MS.k HM m2_ 4 rfl⟩ (fun hHeld => ?_)
  refine with_tabW assign_tab7 assign_bits7 (fun HT_ HW_ => ?_)
  generalize World.drew _ = wk at HM hHeld ⊢
  refine tV_ 0 37 (mB 12 1) HT_ HW_ hHeld ?_
  refine pV_ 1 38 (mB 12 3) HT_ ?_
  refine pV_ 3 40 (mB 12 11) HT_ ?_
  refine pV_ 4 41 (mB 12 27) HT_ ?_
  refine pV_ 5 42 (mB 12 59) HT_ ?_
  refine tV_ 6 43 (mB 12 123) HT_ HW_ hHeld ?_
  refine pV_ 7 44 (mB 12 251) HT_ ?_
  refine tV_ 8 45 (mB 12 507) HT_ HW_ hHeld ?_
  refine on_ 2 (some 39) (mB 12 511) HT_ (fun K hK => ?_)
  refine gs_ Try.func15 #[cv.val, .int .i64 x] ?_
  with_reducible refine ok_ (forget_as (MS.oc HM m0_) (MS.bel HM) HCV.out CF.out x HFG.out) fun fv wk hfv ho hb => ?_
  replace HM := MS.cl HM hb ho; clear hb ho
  refine hK.out _ _ ⟨kO HM m0_, MS.k HM m2_ 4 rfl⟩ (fun hHeld => ?_)
  clear hK K
  refine nO_ 39 ?_
  refine on_ 9 (some 46) (mB 12 1023) HT_ (fun K hK => ?_)
  refine gs_ Try.func56 #[.int .i64 c, .int .i64 c] ?_
  with_reducible refine sk_ (itvOf_as HIT.out) fun wk hb => ?_
  replace HM := MS.nx HM hb; clear hb
  refine hK.out _ _ ⟨kO HM m0_, MS.k HM m2_ 4 rfl⟩ (fun hHeld => ?_)
  clear hK K
  refine nO_ 46 ?_
  refine on_ 10 (some 47) (mB 12 2047) HT_ (fun K hK => ?_)
  refine gs_ Try.func19 #[fv.val, lV x 1 0 0 0, iV a b] ?_
  with_reducible refine ok_ (guard_as (MS.oc HM m0_) (MS.bel HM) hfv FF.out x 1 0 0 0 a b (R0.out S1.out)) fun zv wk hzv ho hb => ?_
  replace HM := MS.cl HM hb ho; clear hb ho
  refine hK.out _ _ ⟨kO HM m0_, MS.k HM m2_ 4 rfl⟩ (fun hHeld => ?_)
  clear hK K
  refine nO_ 47 ?_
  have kgr := MS.c3 HM m1_
  refine la_ 11 (mB 12 4095) HT_ (fun K hK => ?_)
  refine skip_ (w1 := ?_) (by rfl) rfl ?_ ?_
  rotate_left
  ·
   go_simp
   rfl
  refine hK.out _ _ ?_
  clear hK K
  refine dn_ HT_ ?_
  clear HT_ HW_ hHeld
  replace HM := MS.po1 zv HM
  generalize World.setCell _ _ _ = wk at HM ⊢
  have kgc := MS.c3 HM m0_; replace kgr := MS.c3 HM m1_; have kgl := MS.c5 HM m2_
  go_wp2
  refine MS.rt HM m1_ ?_
  exact ⟨zv, rfl, hzv, HM.out.S.own _ m0_, HM.out.S.below⟩
 ·
  have S1 := Aside0.mk S1_; clear S1_
  have t1 : (sx == 0) = false := beq_eq_false_iff_ne.2 S1.out
  go_upto_region 8 with fail
  clear t1
  by_cases S2_ : sy = 0
  ·
   have S2 := Aside0.mk S2_; clear S2_
   have t1 : (sy == 0) = true := beq_iff_eq.2 S2.out
   by_cases S3_ : lx = x
   ·
    have S3 := Aside0.mk S3_; clear S3_
    have t2 : (lx == x) = true := beq_iff_eq.2 S3.out
    go_upto_region 9 with fail
    clear t1 t2
    replace HM := MS.dr HM
    clear kgc kgl kgr
    refine st_ 11 (fun w' => oR gc cv w' ∧ w'.cell? ⟨gl, 1, none⟩ = some (.int .i64 sx) ∧ w'.cell? ⟨gl, 4, none⟩ = some (.int .i64 c)) [10] ⟨kO HM m0_, MS.k HM m2_ 1 rfl, MS.k HM m2_ 4 rfl⟩ (fun hHeld => ?_)
    refine with_tabW assign_tab9 assign_bits9 (fun HT_ HW_ => ?_)
    generalize World.drew _ = wk at HM hHeld ⊢
    refine tV_ 0 58 (mB 11 1) HT_ HW_ hHeld ?_
    refine tV_ 1 59 (mB 11 3) HT_ HW_ hHeld ?_
    refine pV_ 2 60 (mB 11 7) HT_ ?_
    refine pV_ 4 62 (mB 11 23) HT_ ?_
    refine tV_ 5 63 (mB 11 55) HT_ HW_ hHeld ?_
    refine pV_ 6 64 (mB 11 119) HT_ ?_
    refine tV_ 7 65 (mB 11 247) HT_ HW_ hHeld ?_
    refine on_ 3 (some 61) (mB 11 255) HT_ (fun K hK => ?_)
    refine gs_ Try.func52 #[cv.val, .int .i64 x] ?_
    with_reducible refine sk_ (place_as (MS.oc HM m0_) (MS.bel HM) HCV.out LK.out x HP.out) fun wk hb => ?_
    replace HM := MS.nx HM hb; clear hb
    refine hK.out _ _ ⟨kO HM m0_, MS.k HM m2_ 1 rfl, MS.k HM m2_ 4 rfl⟩ (fun hHeld => ?_)
    clear hK K
    refine nO_ 61 ?_
    refine on_ 8 (some 66) (mB 11 511) HT_ (fun K hK => ?_)
    refine gs_ Try.func69 #[cv.val, .int .i64 (p : Int), .int .i64 sx, .int .i64 c] ?_
    with_reducible refine ok_ (moved_as (MS.oc HM m0_) (MS.bel HM) (HCV.out.trans HCM.out) L8.out P8.out CB.out SC.out rfl) fun mv wk hmv ho hb => ?_
    replace HM := MS.cl HM hb ho; clear hb ho
    refine hK.out _ _ ⟨kO HM m0_, MS.k HM m2_ 1 rfl, MS.k HM m2_ 4 rfl⟩ (fun hHeld => ?_)
    clear hK K
    refine nO_ 66 ?_
    refine on_ 9 (some 67) (mB 11 1023) HT_ (fun K hK => ?_)
    refine gs_ Try.func51 #[mv.val] ?_
    with_reducible refine ok_ (close_as (MS.oc HM m0_) (MS.bel HM) hmv FM.out (R1.out S1.out S2.out S3.out)) fun zv wk hzv ho hb => ?_
    replace HM := MS.cl HM hb ho; clear hb ho
    refine hK.out _ _ ⟨kO HM m0_, MS.k HM m2_ 1 rfl, MS.k HM m2_ 4 rfl⟩ (fun hHeld => ?_)
    clear hK K
    refine nO_ 67 ?_
    have kgr := MS.c3 HM m1_
    refine la_ 10 (mB 11 2047) HT_ (fun K hK => ?_)
    refine skip_ (w1 := ?_) (by rfl) rfl ?_ ?_
    rotate_left
    ·
     go_simp
     rfl
    refine hK.out _ _ ?_
    clear hK K
    refine dn_ HT_ ?_
    clear HT_ HW_ hHeld
    replace HM := MS.po1 zv HM
    generalize World.setCell _ _ _ = wk at HM ⊢
    have kgc := MS.c3 HM m0_; replace kgr := MS.c3 HM m1_; have kgl := MS.c5 HM m2_
    go_wp2
    refine MS.rt HM m1_ ?_
    exact ⟨zv, rfl, hzv, HM.out.S.own _ m0_, HM.out.S.below⟩
   ·
    have S3 := Aside0.mk S3_; clear S3_
    have t2 : (lx == x) = false := beq_eq_false_iff_ne.2 S3.out
    go_upto_region 10 with fail
    clear t2
    go_upto_region 11 with fail
    clear t1
    replace HM := MS.dr HM
    clear kgc kgl kgr
    refine st_ 16 (fun w' => oR gc cv w' ∧ w'.cell? ⟨gl, 1, none⟩ = some (.int .i64 sx) ∧ w'.cell? ⟨gl, 0, none⟩ = some (.int .i64 lx) ∧ w'.cell? ⟨gl, 4, none⟩ = some (.int .i64 c)) [15] ⟨kO HM m0_, MS.k HM m2_ 1 rfl, MS.k HM m2_ 0 rfl, MS.k HM m2_ 4 rfl⟩ (fun hHeld => ?_)
    refine with_tabW assign_tab11 assign_bits11 (fun HT_ HW_ => ?_)
    generalize World.drew _ = wk at HM hHeld ⊢
    refine tV_ 0 72 (mB 16 1) HT_ HW_ hHeld ?_
    refine pV_ 1 73 (mB 16 3) HT_ ?_
    refine pV_ 3 75 (mB 16 11) HT_ ?_
    refine pV_ 4 76 (mB 16 27) HT_ ?_
    refine tV_ 5 77 (mB 16 59) HT_ HW_ hHeld ?_
    refine pV_ 6 78 (mB 16 123) HT_ ?_
    refine tV_ 7 79 (mB 16 251) HT_ HW_ hHeld ?_
    refine pV_ 9 81 (mB 16 763) HT_ ?_
    refine tV_ 10 82 (mB 16 1787) HT_ HW_ hHeld ?_
    refine pV_ 11 83 (mB 16 3835) HT_ ?_
    refine tV_ 12 84 (mB 16 7931) HT_ HW_ hHeld ?_
    refine on_ 2 (some 74) (mB 16 7935) HT_ (fun K hK => ?_)
    refine gs_ Try.func15 #[cv.val, .int .i64 x] ?_
    with_reducible refine ok_ (forget_as (MS.oc HM m0_) (MS.bel HM) HCV.out CF.out x HFG.out) fun fv wk hfv ho hb => ?_
    replace HM := MS.cl HM hb ho; clear hb ho
    refine hK.out _ _ ⟨kO HM m0_, MS.k HM m2_ 1 rfl, MS.k HM m2_ 0 rfl, MS.k HM m2_ 4 rfl⟩ (fun hHeld => ?_)
    clear hK K
    refine nO_ 74 ?_
    refine on_ 8 (some 80) (mB 16 8191) HT_ (fun K hK => ?_)
    refine gs_ Try.func70 #[.int .i64 x, .int .i64 sx, .int .i64 lx] ?_
    with_reducible refine sk_ (less_as SXB.out HL0.out) fun wk hb => ?_
    replace HM := MS.nx HM hb; clear hb
    refine hK.out _ _ ⟨kO HM m0_, MS.k HM m2_ 1 rfl, MS.k HM m2_ 0 rfl, MS.k HM m2_ 4 rfl⟩ (fun hHeld => ?_)
    clear hK K
    refine nO_ 80 ?_
    refine on_ 13 (some 85) (mB 16 16383) HT_ (fun K hK => ?_)
    refine gs_ Try.func56 #[.int .i64 c, .int .i64 c] ?_
    with_reducible refine sk_ (itvOf_as HIT.out) fun wk hb => ?_
    replace HM := MS.nx HM hb; clear hb
    refine hK.out _ _ ⟨kO HM m0_, MS.k HM m2_ 1 rfl, MS.k HM m2_ 0 rfl, MS.k HM m2_ 4 rfl⟩ (fun hHeld => ?_)
    clear hK K
    refine nO_ 85 ?_
    refine on_ 14 (some 86) (mB 16 32767) HT_ (fun K hK => ?_)
    refine gs_ Try.func19 #[fv.val, lV r01 r02 r03 r04 0, iV a b] ?_
    with_reducible refine ok_ (guard_as (MS.oc HM m0_) (MS.bel HM) hfv FF.out r01 r02 r03 r04 0 a b (R2.out S1.out S2.out S3.out)) fun zv wk hzv ho hb => ?_
    replace HM := MS.cl HM hb ho; clear hb ho
    refine hK.out _ _ ⟨kO HM m0_, MS.k HM m2_ 1 rfl, MS.k HM m2_ 0 rfl, MS.k HM m2_ 4 rfl⟩ (fun hHeld => ?_)
    clear hK K
    refine nO_ 86 ?_
    have kgr := MS.c3 HM m1_
    refine la_ 15 (mB 16 65535) HT_ (fun K hK => ?_)
    refine skip_ (w1 := ?_) (by rfl) rfl ?_ ?_
    rotate_left
    ·
     go_simp
     rfl
    refine hK.out _ _ ?_
    clear hK K
    refine dn_ HT_ ?_
    clear HT_ HW_ hHeld
    replace HM := MS.po1 zv HM
    generalize World.setCell _ _ _ = wk at HM ⊢
    have kgc := MS.c3 HM m0_; replace kgr := MS.c3 HM m1_; have kgl := MS.c5 HM m2_
    go_wp2
    refine MS.rt HM m1_ ?_
    exact ⟨zv, rfl, hzv, HM.out.S.own _ m0_, HM.out.S.below⟩
  ·
   have S2 := Aside0.mk S2_; clear S2_
   have t1 : (sy == 0) = false := beq_eq_false_iff_ne.2 S2.out
   go_upto_region 10 with fail
   go_upto_region 12 with fail
   clear t1
   replace HM := MS.dr HM
   clear kgc kgl kgr
   refine startN_ (n := 11) (S := fun w' => oR gc cv w' ∧ lR gl lx sx y sy c w') (ds := [10]) (mB 11 0) (by kernel_rfl) rfl (by kernel_rfl) ⟨kO HM m0_, kL HM m2_⟩ (fun hHeld => ?_)
   refine with_tabW assign_tab12 assign_bits12 (fun HT_ HW_ => ?_)
   generalize World.drew _ = wk at HM hHeld ⊢
   refine tV_ 0 87 (mB 11 1) HT_ HW_ hHeld ?_
   refine pV_ 1 88 (mB 11 3) HT_ ?_
   refine pV_ 3 90 (mB 11 11) HT_ ?_
   refine pV_ 4 91 (mB 11 27) HT_ ?_
   refine tV_ 5 92 (mB 11 59) HT_ HW_ hHeld ?_
   refine tV_ 6 93 (mB 11 123) HT_ HW_ hHeld ?_
   refine join_ (σ := OV × OV × Nat) 1 (mB 11 1023) (fun s_ => [(89, .agg #[.slice s_.1.P s_.1.v.length s_.1.p, .slice s_.1.Q s_.1.m.length s_.1.q, .bool s_.1.e]), (94, iV a0 b0), (95, .agg #[.slice s_.2.1.P s_.2.1.v.length s_.2.1.p, .slice s_.2.1.Q s_.2.1.m.length s_.2.1.q, .bool s_.2.1.e]), (8, .pointer (some ⟨s_.2.2, 0, none⟩))]) (fun s_ w' => (s_.1.o = (X.v, fm, fe)) ∧ (s_.2.1.o = (X.v, gm0, ge0)) ∧ MS w [s_.2.1, s_.1, cv] [(s_.2.2, zeroO), (gc, cv.cells), (gr, zeroO), (gl, lC lx sx y sy c)] w') ?_ ?_
   rotate_left
   ·
    intro hJ
    refine tw_ 2 9 (some 89) (some 8) (mB 11 127) (mB 11 635) HT_ (fun K hK => ?_) (fun K hK => ?_)
    ·
     refine gs_ Try.func15 #[cv.val, .int .i64 x] ?_
     with_reducible refine ok_ (forget_as (MS.oc HM m0_) (MS.bel HM) HCV.out CF.out x HFG.out) fun fv wk hfv ho hb => ?_
     replace HM := MS.cl HM hb ho; clear hb ho
     refine hK.out _ _ ⟨kO HM m0_, kL HM m2_⟩ (fun hHeld => ?_)
     clear hK K
     refine nO_ 89 ?_
     refine tw_ 7 9 (some 94) (some 8) (mB 11 255) (mB 11 639) HT_ (fun K hK => ?_) (fun K hK => ?_)
     ·
      refine gs_ Try.func71 #[cv.val, lV lx sx y sy c] ?_
      with_reducible refine sk_ (bnd_as (MS.oc HM m1_) (MS.bel HM) HCV.out CF.out lx sx y sy c CB.out SXB.out SYB.out S1.out (BX.out S1.out) BY.out HB0.out) fun wk hb => ?_
      replace HM := MS.nx HM hb; clear hb
      refine hK.out _ _ ⟨kO HM m0_, kL HM m2_⟩ (fun hHeld => ?_)
      clear hK K
      refine nO_ 94 ?_
      refine tw_ 8 9 (some 95) (some 8) (mB 11 511) (mB 11 767) HT_ (fun K hK => ?_) (fun K hK => ?_)
      ·
       refine gs_ Try.func19 #[fv.val, lV x 1 0 0 0, iV a0 b0] ?_
       with_reducible refine ok_ (guard_as (MS.oc HM m0_) (MS.bel HM) hfv FF.out x 1 0 0 0 a0 b0 HG0.out) fun o0 wk ho0 ho hb => ?_
       replace HM := MS.cl HM hb ho; clear hb ho
       refine hK.out _ _ ⟨kO HM m0_, kL HM m2_⟩ (fun hHeld => ?_)
       clear hK K
       refine nO_ 95 ?_
       refine on_ 9 (some 8) (mB 11 1023) HT_ (fun K hK => ?_)
       refine bs_ 8 #[.slice none 0 0, .slice none 0 0, .bool false] 25 ?_
       intro gu hg wk hbox hb
       replace HM := MS.md HM hg hbox hb; clear hg hbox hb
       refine hK.out _ _ ⟨kO HM m1_, kL HM m3_⟩ (fun hHeld => ?_)
       clear hK K
       refine nO_ 8 ?_
       exact nP_ (hJ (fv, o0, gu) _ ⟨hfv, ho0, HM.out⟩)
      ·
       refine bs_ 8 #[.slice none 0 0, .slice none 0 0, .bool false] 25 ?_
       intro gu hg wk hbox hb
       replace HM := MS.md HM hg hbox hb; clear hg hbox hb
       refine hK.out _ _ ⟨kO HM m1_, kL HM m3_⟩ (fun hHeld => ?_)
       clear hK K
       refine nO_ 8 ?_
       refine on_ 8 (some 95) (mB 11 1023) HT_ (fun K hK => ?_)
       refine gs_ Try.func19 #[fv.val, lV x 1 0 0 0, iV a0 b0] ?_
       with_reducible refine ok_ (guard_as (MS.oc HM m0_) (MS.bel HM) hfv FF.out x 1 0 0 0 a0 b0 HG0.out) fun o0 wk ho0 ho hb => ?_
       replace HM := MS.cl HM hb ho; clear hb ho
       refine hK.out _ _ ⟨kO HM m1_, kL HM m3_⟩ (fun hHeld => ?_)
       clear hK K
       refine nO_ 95 ?_
       exact nP_ (hJ (fv, o0, gu) _ ⟨hfv, ho0, HM.out⟩)
     ·
      refine bs_ 8 #[.slice none 0 0, .slice none 0 0, .bool false] 25 ?_
      intro gu hg wk hbox hb
      replace HM := MS.md HM hg hbox hb; clear hg hbox hb
      refine hK.out _ _ ⟨kO HM m1_, kL HM m3_⟩ (fun hHeld => ?_)
      clear hK K
      refine nO_ 8 ?_
      refine on_ 7 (some 94) (mB 11 767) HT_ (fun K hK => ?_)
      refine gs_ Try.func71 #[cv.val, lV lx sx y sy c] ?_
      with_reducible refine sk_ (bnd_as (MS.oc HM m1_) (MS.bel HM) HCV.out CF.out lx sx y sy c CB.out SXB.out SYB.out S1.out (BX.out S1.out) BY.out HB0.out) fun wk hb => ?_
      replace HM := MS.nx HM hb; clear hb
      refine hK.out _ _ ⟨kO HM m1_, kL HM m3_⟩ (fun hHeld => ?_)
      clear hK K
      refine nO_ 94 ?_
      refine on_ 8 (some 95) (mB 11 1023) HT_ (fun K hK => ?_)
      refine gs_ Try.func19 #[fv.val, lV x 1 0 0 0, iV a0 b0] ?_
      with_reducible refine ok_ (guard_as (MS.oc HM m0_) (MS.bel HM) hfv FF.out x 1 0 0 0 a0 b0 HG0.out) fun o0 wk ho0 ho hb => ?_
      replace HM := MS.cl HM hb ho; clear hb ho
      refine hK.out _ _ ⟨kO HM m1_, kL HM m3_⟩ (fun hHeld => ?_)
      clear hK K
      refine nO_ 95 ?_
      exact nP_ (hJ (fv, o0, gu) _ ⟨hfv, ho0, HM.out⟩)
    ·
     refine bs_ 8 #[.slice none 0 0, .slice none 0 0, .bool false] 25 ?_
     intro gu hg wk hbox hb
     replace HM := MS.md HM hg hbox hb; clear hg hbox hb
     refine hK.out _ _ ⟨kO HM m1_, kL HM m3_⟩ (fun hHeld => ?_)
     clear hK K
     refine nO_ 8 ?_
     refine on_ 2 (some 89) (mB 11 639) HT_ (fun K hK => ?_)
     refine gs_ Try.func15 #[cv.val, .int .i64 x] ?_
     with_reducible refine ok_ (forget_as (MS.oc HM m0_) (MS.bel HM) HCV.out CF.out x HFG.out) fun fv wk hfv ho hb => ?_
     replace HM := MS.cl HM hb ho; clear hb ho
     refine hK.out _ _ ⟨kO HM m1_, kL HM m3_⟩ (fun hHeld => ?_)
     clear hK K
     refine nO_ 89 ?_
     refine on_ 7 (some 94) (mB 11 767) HT_ (fun K hK => ?_)
     refine gs_ Try.func71 #[cv.val, lV lx sx y sy c] ?_
     with_reducible refine sk_ (bnd_as (MS.oc HM m1_) (MS.bel HM) HCV.out CF.out lx sx y sy c CB.out SXB.out SYB.out S1.out (BX.out S1.out) BY.out HB0.out) fun wk hb => ?_
     replace HM := MS.nx HM hb; clear hb
     refine hK.out _ _ ⟨kO HM m1_, kL HM m3_⟩ (fun hHeld => ?_)
     clear hK K
     refine nO_ 94 ?_
     refine on_ 8 (some 95) (mB 11 1023) HT_ (fun K hK => ?_)
     refine gs_ Try.func19 #[fv.val, lV x 1 0 0 0, iV a0 b0] ?_
     with_reducible refine ok_ (guard_as (MS.oc HM m0_) (MS.bel HM) hfv FF.out x 1 0 0 0 a0 b0 HG0.out) fun o0 wk ho0 ho hb => ?_
     replace HM := MS.cl HM hb ho; clear hb ho
     refine hK.out _ _ ⟨kO HM m1_, kL HM m3_⟩ (fun hHeld => ?_)
     clear hK K
     refine nO_ 95 ?_
     exact nP_ (hJ (fv, o0, gu) _ ⟨hfv, ho0, HM.out⟩)
   rintro ⟨fv, o0, gu⟩ wk ⟨hfv, ho0, HM4⟩
   clear HM hHeld; have HM := Aside0.mk HM4; clear HM4; dsimp only at HM hfv ho0
   have kgu := MS.c3 HM m0_
   refine nS_ ?_
   refine la_ 10 (mB 11 2047) HT_ (fun K hK => ?_)
   refine skip_ (w1 := ?_) (by rfl) rfl ?_ ?_
   rotate_left
   ·
    go_simp
    rfl
   refine hK.out _ _ ?_
   clear hK K
   refine dn_ HT_ ?_
   clear HT_ HW_
   unfold OnlyN
   replace HM := MS.po0 o0 HM
   generalize World.setCell _ _ _ = wk at HM ⊢
   clear hfv; have HO0 := Aside0.mk ho0; clear ho0
   replace HM := MS.sb HM (.cons_cons _ (.cons _ (.refl _))) (.refl _)
   go_upto_region 13 with fail
   have kgl := MS.c5 HM m3_
   go_upto_region 14 with (first | ((with_reducible refine gate_dst (N := 9) rfl ?_); refine bx_ 9 #[.int .i64 0, .int .i64 0, .int .i64 0, .int .i64 0, .int .i64 0, .int .i64 0, .int .i64 0, .int .i64 0, .int .i64 0, .int .i64 0] 77 ?_; intro gp hg wk hbox hb; replace HM := MS.md HM hg hbox hb; clear hg hbox hb; have kgp := MS.c10 HM m0_; replace kgl := MS.c5 HM m4_))
   have n_ : Aside0 (MS w [o0, cv] [(gp, .cells #[.int .i64 lx, .int .i64 sx, .int .i64 0, .int .i64 0, .int .i64 0, .int .i64 y, .int .i64 sy, .int .i64 0, .int .i64 0, .int .i64 0] 77 (0, 0)), (gu, o0.cells), (gc, cv.cells), (gr, zeroO), (gl, lC lx sx y sy c)] _) := ⟨MS.put10 [] HM.out (u0 := .int .i64 lx) (u1 := .int .i64 sx) (u2 := .int .i64 0) (u3 := .int .i64 0) (u4 := .int .i64 0) (u5 := .int .i64 y) (u6 := .int .i64 sy) (u7 := .int .i64 0) (u8 := .int .i64 0) (u9 := .int .i64 0)⟩; clear HM; have HM := n_; clear n_
   generalize World.setCell _ _ _ = wk at HM ⊢
   replace kgp := MS.c10 HM m0_; replace kgu := MS.c3 HM m1_; have kgc := MS.c3 HM m2_; have kgr := MS.c3 HM m3_; replace kgl := MS.c5 HM m4_
   go_wp2
   refine wp_loop_rounds 3 ?_
   by_cases S3_ : lx = x
   ·
    have S3 := Aside0.mk S3_; clear S3_
    have S4 : Aside0 (y ≠ x) := ⟨fun h => NE.out S2.out (S3.out.trans h.symm)⟩
    rw [rounds_succ]
    have i_ := idx0 lx sx y sy
    go_upto_region 17 with (first | ((with_reducible refine gate_dst (N := 11) rfl ?_); refine bx_ 11 #[.int .i64 0, .int .i64 0, .int .i64 0, .int .i64 0, .int .i64 0] 34 ?_; intro gw0 hg wk hbox hb; replace HM := MS.md HM hg hbox hb; clear hg hbox hb; have kgw0 := MS.c5 HM m0_))
    clear i_
    replace HM := MS.pl0 lx sx 0 0 0 HM
    generalize World.setCell _ _ _ = wk at HM ⊢
    have t1 : (lx == x) = true := beq_iff_eq.2 S3.out
    replace kgw0 := MS.c5 HM m0_; replace kgp := MS.c10 HM m1_; replace kgu := MS.c3 HM m2_; replace kgc := MS.c3 HM m3_; replace kgl := MS.c5 HM m5_
    go_upto_region 21 with fail
    clear t1
    replace HM := MS.sb HM (.refl _) (.cons _ (.cons_cons _ (.cons_cons _ (.cons_cons _ (.cons_cons _ (.cons_cons _ .slnil)))))); clear kgw0
    replace kgr := MS.c3 HM m3_
    go_wp2
    rw [rounds_succ]
    have i_ := idx1 lx sx y sy
    go_upto_region 17 with (first | ((with_reducible refine gate_dst (N := 11) rfl ?_); refine bx_ 11 #[.int .i64 0, .int .i64 0, .int .i64 0, .int .i64 0, .int .i64 0] 34 ?_; intro gw1 hg wk hbox hb; replace HM := MS.md HM hg hbox hb; clear hg hbox hb; have kgw1 := MS.c5 HM m0_))
    clear i_
    replace HM := MS.pl0 y sy 0 0 0 HM
    generalize World.setCell _ _ _ = wk at HM ⊢
    have t1 : (y == x) = false := beq_eq_false_iff_ne.2 S4.out
    replace kgw1 := MS.c5 HM m0_
    go_upto_region 18 with fail
    clear t1
    replace kgp := MS.c10 HM m1_
    go_upto_region 19 with (first | ((with_reducible refine gate_dst (N := 12) rfl ?_); refine bx_ 12 #[.int .i64 0, .int .i64 0, .int .i64 0, .int .i64 0, .int .i64 0] 34 ?_; intro gq1 hg wk hbox hb; replace HM := MS.md HM hg hbox hb; clear hg hbox hb; have kgq1 := MS.c5 HM m0_; replace kgp := MS.c10 HM m2_))
    replace HM := MS.pl0 lx sx 0 0 0 HM
    generalize World.setCell _ _ _ = wk at HM ⊢
    replace kgq1 := MS.c5 HM m0_; replace kgl := MS.c5 HM m6_
    go_upto_region 20 with fail
    replace HM := MS.pj0 (cs' := #[.int .i64 lx, .int .i64 sx, .int .i64 0, .int .i64 0, .int .i64 c]) 4 (.int .i64 c) HM rfl
    generalize World.setCell _ _ _ = wk at HM ⊢
    replace HM := MS.dr HM
    clear kgc kgl kgp kgq1 kgr kgu kgw1
    refine st_ 12 (fun w' => oR gu o0 w' ∧ w'.cell? ⟨gw1, 1, none⟩ = some (.int .i64 sy) ∧ w'.cell? ⟨gw1, 0, none⟩ = some (.int .i64 y) ∧ oR gc cv w' ∧ lR gq1 lx sx 0 0 c w') [11] ⟨kO HM m3_, MS.k HM m1_ 1 rfl, MS.k HM m1_ 0 rfl, kO HM m4_, kL HM m0_⟩ (fun hHeld => ?_)
    refine with_tabW assign_tab20 assign_bits20 (fun HT_ HW_ => ?_)
    generalize World.drew _ = wk at HM hHeld ⊢
    refine tV_ 0 123 (mB 12 1) HT_ HW_ hHeld ?_
    refine pV_ 1 124 (mB 12 3) HT_ ?_
    refine pV_ 2 125 (mB 12 7) HT_ ?_
    refine tV_ 3 126 (mB 12 15) HT_ HW_ hHeld ?_
    refine pV_ 4 127 (mB 12 31) HT_ ?_
    refine tV_ 5 128 (mB 12 63) HT_ HW_ hHeld ?_
    refine tV_ 7 130 (mB 12 191) HT_ HW_ hHeld ?_
    refine tV_ 8 131 (mB 12 447) HT_ HW_ hHeld ?_
    refine on_ 6 (some 129) (mB 12 511) HT_ (fun K hK => ?_)
    refine gs_ Try.func70 #[.int .i64 x, .int .i64 sy, .int .i64 y] ?_
    with_reducible refine sk_ (less_as SYB.out HL1.out) fun wk hb => ?_
    replace HM := MS.nx HM hb; clear hb
    refine hK.out _ _ ⟨kO HM m3_, MS.k HM m1_ 1 rfl, MS.k HM m1_ 0 rfl, kO HM m4_, kL HM m0_⟩ (fun hHeld => ?_)
    clear hK K
    refine nO_ 129 ?_
    refine on_ 9 (some 132) (mB 12 1023) HT_ (fun K hK => ?_)
    refine gs_ Try.func71 #[cv.val, lV lx sx 0 0 c] ?_
    with_reducible refine sk_ (bnd_as (MS.oc HM m1_) (MS.bel HM) HCV.out CF.out lx sx 0 0 c CB.out SXB.out ZB.out S1.out (BX.out S1.out) (fun h => absurd rfl h) HB2.out) fun wk hb => ?_
    replace HM := MS.nx HM hb; clear hb
    refine hK.out _ _ ⟨kO HM m3_, MS.k HM m1_ 1 rfl, MS.k HM m1_ 0 rfl, kO HM m4_, kL HM m0_⟩ (fun hHeld => ?_)
    clear hK K
    refine nO_ 132 ?_
    refine on_ 10 (some 133) (mB 12 2047) HT_ (fun K hK => ?_)
    refine gs_ Try.func19 #[o0.val, lV r11 r12 r13 r14 0, iV a2 b2] ?_
    with_reducible refine ok_ (guard_as (MS.oc HM m0_) (MS.bel HM) HO0.out GF0.out r11 r12 r13 r14 0 a2 b2 (R5.out S1.out S2.out S3.out)) fun o2 wk ho2 ho hb => ?_
    replace HM := MS.cl HM hb ho; clear hb ho
    refine hK.out _ _ ⟨kO HM m3_, MS.k HM m1_ 1 rfl, MS.k HM m1_ 0 rfl, kO HM m4_, kL HM m0_⟩ (fun hHeld => ?_)
    clear hK K
    refine nO_ 133 ?_
    have kgu := MS.c3 HM m3_
    refine la_ 11 (mB 12 4095) HT_ (fun K hK => ?_)
    refine skip_ (w1 := ?_) (by rfl) rfl ?_ ?_
    rotate_left
    ·
     go_simp
     rfl
    refine hK.out _ _ ?_
    clear hK K
    refine dn_ HT_ ?_
    clear HT_ HW_ hHeld
    replace HM := MS.po3 o2 HM
    generalize World.setCell _ _ _ = wk at HM ⊢
    have HO2 := Aside0.mk ho2; clear ho2
    replace HM := MS.sb HM (.cons_cons _ (.cons _ (.refl _))) (.refl _)
    replace HM := MS.sb HM (.refl _) (.cons _ (.cons _ (.cons_cons _ (.cons_cons _ (.cons_cons _ (.cons_cons _ (.cons_cons _ .slnil)))))))
    have kgp := MS.c10 HM m0_; replace kgu := MS.c3 HM m1_; have kgc := MS.c3 HM m2_; have kgr := MS.c3 HM m3_; have kgl := MS.c5 HM m4_
    go_wp2
    rw [rounds_succ]
    replace kgu := MS.c3 HM m1_; replace kgr := MS.c3 HM m3_
    go_wp2
    replace HM := MS.po3 o2 HM
    generalize World.setCell _ _ _ = wk at HM ⊢
    refine MS.rt HM m3_ ?_
    exact ⟨o2, rfl, HO2.out, HM.out.S.own _ m0_, HM.out.S.below⟩
   ·
    have S3 := Aside0.mk S3_; clear S3_
    rw [rounds_succ]
    have i_ := idx0 lx sx y sy
    go_upto_region 17 with (first | ((with_reducible refine gate_dst (N := 11) rfl ?_); refine bx_ 11 #[.int .i64 0, .int .i64 0, .int .i64 0, .int .i64 0, .int .i64 0] 34 ?_; intro gw0 hg wk hbox hb; replace HM := MS.md HM hg hbox hb; clear hg hbox hb; have kgw0 := MS.c5 HM m0_))
    clear i_
    replace HM := MS.pl0 lx sx 0 0 0 HM
    generalize World.setCell _ _ _ = wk at HM ⊢
    have t1 : (lx == x) = false := beq_eq_false_iff_ne.2 S3.out
    replace kgw0 := MS.c5 HM m0_
    go_upto_region 18 with fail
    clear t1
    replace kgp := MS.c10 HM m1_
    go_upto_region 19 with (first | ((with_reducible refine gate_dst (N := 12) rfl ?_); refine bx_ 12 #[.int .i64 0, .int .i64 0, .int .i64 0, .int .i64 0, .int .i64 0] 34 ?_; intro gq0 hg wk hbox hb; replace HM := MS.md HM hg hbox hb; clear hg hbox hb; have kgq0 := MS.c5 HM m0_; replace kgp := MS.c10 HM m2_))
    replace HM := MS.pl0 y sy 0 0 0 HM
    generalize World.setCell _ _ _ = wk at HM ⊢
    replace kgq0 := MS.c5 HM m0_; replace kgl := MS.c5 HM m6_
    go_upto_region 20 with fail
    replace HM := MS.pj0 (cs' := #[.int .i64 y, .int .i64 sy, .int .i64 0, .int .i64 0, .int .i64 c]) 4 (.int .i64 c) HM rfl
    generalize World.setCell _ _ _ = wk at HM ⊢
    replace HM := MS.dr HM
    clear kgc kgl kgp kgq0 kgr kgu kgw0
    refine st_ 12 (fun w' => oR gu o0 w' ∧ w'.cell? ⟨gw0, 1, none⟩ = some (.int .i64 sx) ∧ w'.cell? ⟨gw0, 0, none⟩ = some (.int .i64 lx) ∧ oR gc cv w' ∧ lR gq0 y sy 0 0 c w') [11] ⟨kO HM m3_, MS.k HM m1_ 1 rfl, MS.k HM m1_ 0 rfl, kO HM m4_, kL HM m0_⟩ (fun hHeld => ?_)
    refine with_tabW assign_tab20 assign_bits20 (fun HT_ HW_ => ?_)
    generalize World.drew _ = wk at HM hHeld ⊢
    refine tV_ 0 123 (mB 12 1) HT_ HW_ hHeld ?_
    refine pV_ 1 124 (mB 12 3) HT_ ?_
    refine pV_ 2 125 (mB 12 7) HT_ ?_
    refine tV_ 3 126 (mB 12 15) HT_ HW_ hHeld ?_
    refine pV_ 4 127 (mB 12 31) HT_ ?_
    refine tV_ 5 128 (mB 12 63) HT_ HW_ hHeld ?_
    refine tV_ 7 130 (mB 12 191) HT_ HW_ hHeld ?_
    refine tV_ 8 131 (mB 12 447) HT_ HW_ hHeld ?_
    refine on_ 6 (some 129) (mB 12 511) HT_ (fun K hK => ?_)
    refine gs_ Try.func70 #[.int .i64 x, .int .i64 sx, .int .i64 lx] ?_
    with_reducible refine sk_ (less_as SXB.out HL0.out) fun wk hb => ?_
    replace HM := MS.nx HM hb; clear hb
    refine hK.out _ _ ⟨kO HM m3_, MS.k HM m1_ 1 rfl, MS.k HM m1_ 0 rfl, kO HM m4_, kL HM m0_⟩ (fun hHeld => ?_)
    clear hK K
    refine nO_ 129 ?_
    refine on_ 9 (some 132) (mB 12 1023) HT_ (fun K hK => ?_)
    refine gs_ Try.func71 #[cv.val, lV y sy 0 0 c] ?_
    with_reducible refine sk_ (bnd_as (MS.oc HM m1_) (MS.bel HM) HCV.out CF.out y sy 0 0 c CB.out SYB.out ZB.out S2.out (BY.out S2.out) (fun h => absurd rfl h) HB1.out) fun wk hb => ?_
    replace HM := MS.nx HM hb; clear hb
    refine hK.out _ _ ⟨kO HM m3_, MS.k HM m1_ 1 rfl, MS.k HM m1_ 0 rfl, kO HM m4_, kL HM m0_⟩ (fun hHeld => ?_)
    clear hK K
    refine nO_ 132 ?_
    refine on_ 10 (some 133) (mB 12 2047) HT_ (fun K hK => ?_)
    refine gs_ Try.func19 #[o0.val, lV r01 r02 r03 r04 0, iV a1 b1] ?_
    with_reducible refine ok_ (guard_as (MS.oc HM m0_) (MS.bel HM) HO0.out GF0.out r01 r02 r03 r04 0 a1 b1 (HG1.out)) fun o1 wk ho1 ho hb => ?_
    replace HM := MS.cl HM hb ho; clear hb ho
    refine hK.out _ _ ⟨kO HM m3_, MS.k HM m1_ 1 rfl, MS.k HM m1_ 0 rfl, kO HM m4_, kL HM m0_⟩ (fun hHeld => ?_)
    clear hK K
    refine nO_ 133 ?_
    have kgu := MS.c3 HM m3_
    refine la_ 11 (mB 12 4095) HT_ (fun K hK => ?_)
    refine skip_ (w1 := ?_) (by rfl) rfl ?_ ?_
    rotate_left
    ·
     go_simp
     rfl
    refine hK.out _ _ ?_
    clear hK K
    refine dn_ HT_ ?_
    clear HT_ HW_ hHeld
    replace HM := MS.po3 o1 HM
    generalize World.setCell _ _ _ = wk at HM ⊢
    have HO1 := Aside0.mk ho1; clear ho1
    replace HM := MS.sb HM (.cons_cons _ (.cons _ (.refl _))) (.refl _)
    replace HM := MS.sb HM (.refl _) (.cons _ (.cons _ (.cons_cons _ (.cons_cons _ (.cons_cons _ (.cons_cons _ (.cons_cons _ .slnil)))))))
    have kgp := MS.c10 HM m0_; replace kgu := MS.c3 HM m1_; have kgc := MS.c3 HM m2_; have kgr := MS.c3 HM m3_; have kgl := MS.c5 HM m4_
    go_wp2
    by_cases S4_ : y = x
    ·
     have S4 := Aside0.mk S4_; clear S4_
     rw [rounds_succ]
     have i_ := idx1 lx sx y sy
     go_upto_region 17 with (first | ((with_reducible refine gate_dst (N := 11) rfl ?_); refine bx_ 11 #[.int .i64 0, .int .i64 0, .int .i64 0, .int .i64 0, .int .i64 0] 34 ?_; intro gw1 hg wk hbox hb; replace HM := MS.md HM hg hbox hb; clear hg hbox hb; have kgw1 := MS.c5 HM m0_))
     clear i_
     replace HM := MS.pl0 y sy 0 0 0 HM
     generalize World.setCell _ _ _ = wk at HM ⊢
     have t1 : (y == x) = true := beq_iff_eq.2 S4.out
     replace kgw1 := MS.c5 HM m0_; replace kgp := MS.c10 HM m1_; replace kgu := MS.c3 HM m2_; replace kgc := MS.c3 HM m3_; replace kgl := MS.c5 HM m5_
     go_upto_region 21 with fail
     clear t1
     replace HM := MS.sb HM (.refl _) (.cons _ (.cons_cons _ (.cons_cons _ (.cons_cons _ (.cons_cons _ (.cons_cons _ .slnil)))))); clear kgw1
     replace kgr := MS.c3 HM m3_
     go_wp2
     rw [rounds_succ]
     replace kgu := MS.c3 HM m1_; replace kgr := MS.c3 HM m3_
     go_wp2
     replace HM := MS.po3 o1 HM
     generalize World.setCell _ _ _ = wk at HM ⊢
     refine MS.rt HM m3_ ?_
     exact ⟨o1, rfl, (HO1.out.trans (R4.out S1.out S2.out S3.out S4.out)), HM.out.S.own _ m0_, HM.out.S.below⟩
    ·
     have S4 := Aside0.mk S4_; clear S4_
     rw [rounds_succ]
     have i_ := idx1 lx sx y sy
     go_upto_region 17 with (first | ((with_reducible refine gate_dst (N := 11) rfl ?_); refine bx_ 11 #[.int .i64 0, .int .i64 0, .int .i64 0, .int .i64 0, .int .i64 0] 34 ?_; intro gw1 hg wk hbox hb; replace HM := MS.md HM hg hbox hb; clear hg hbox hb; have kgw1 := MS.c5 HM m0_))
     clear i_
     replace HM := MS.pl0 y sy 0 0 0 HM
     generalize World.setCell _ _ _ = wk at HM ⊢
     have t1 : (y == x) = false := beq_eq_false_iff_ne.2 S4.out
     replace kgw1 := MS.c5 HM m0_
     go_upto_region 18 with fail
     clear t1
     replace kgp := MS.c10 HM m1_
     go_upto_region 19 with (first | ((with_reducible refine gate_dst (N := 12) rfl ?_); refine bx_ 12 #[.int .i64 0, .int .i64 0, .int .i64 0, .int .i64 0, .int .i64 0] 34 ?_; intro gq1 hg wk hbox hb; replace HM := MS.md HM hg hbox hb; clear hg hbox hb; have kgq1 := MS.c5 HM m0_; replace kgp := MS.c10 HM m2_))
     replace HM := MS.pl0 lx sx 0 0 0 HM
     generalize World.setCell _ _ _ = wk at HM ⊢
     replace kgq1 := MS.c5 HM m0_; replace kgl := MS.c5 HM m6_
     go_upto_region 20 with fail
     replace HM := MS.pj0 (cs' := #[.int .i64 lx, .int .i64 sx, .int .i64 0, .int .i64 0, .int .i64 c]) 4 (.int .i64 c) HM rfl
     generalize World.setCell _ _ _ = wk at HM ⊢
     replace HM := MS.dr HM
     clear kgc kgl kgp kgq1 kgr kgu kgw1
     refine st_ 12 (fun w' => oR gu o1 w' ∧ w'.cell? ⟨gw1, 1, none⟩ = some (.int .i64 sy) ∧ w'.cell? ⟨gw1, 0, none⟩ = some (.int .i64 y) ∧ oR gc cv w' ∧ lR gq1 lx sx 0 0 c w') [11] ⟨kO HM m3_, MS.k HM m1_ 1 rfl, MS.k HM m1_ 0 rfl, kO HM m4_, kL HM m0_⟩ (fun hHeld => ?_)
     refine with_tabW assign_tab20 assign_bits20 (fun HT_ HW_ => ?_)
     generalize World.drew _ = wk at HM hHeld ⊢
     refine tV_ 0 123 (mB 12 1) HT_ HW_ hHeld ?_
     refine pV_ 1 124 (mB 12 3) HT_ ?_
     refine pV_ 2 125 (mB 12 7) HT_ ?_
     refine tV_ 3 126 (mB 12 15) HT_ HW_ hHeld ?_
     refine pV_ 4 127 (mB 12 31) HT_ ?_
     refine tV_ 5 128 (mB 12 63) HT_ HW_ hHeld ?_
     refine tV_ 7 130 (mB 12 191) HT_ HW_ hHeld ?_
     refine tV_ 8 131 (mB 12 447) HT_ HW_ hHeld ?_
     refine on_ 6 (some 129) (mB 12 511) HT_ (fun K hK => ?_)
     refine gs_ Try.func70 #[.int .i64 x, .int .i64 sy, .int .i64 y] ?_
     with_reducible refine sk_ (less_as SYB.out HL1.out) fun wk hb => ?_
     replace HM := MS.nx HM hb; clear hb
     refine hK.out _ _ ⟨kO HM m3_, MS.k HM m1_ 1 rfl, MS.k HM m1_ 0 rfl, kO HM m4_, kL HM m0_⟩ (fun hHeld => ?_)
     clear hK K
     refine nO_ 129 ?_
     refine on_ 9 (some 132) (mB 12 1023) HT_ (fun K hK => ?_)
     refine gs_ Try.func71 #[cv.val, lV lx sx 0 0 c] ?_
     with_reducible refine sk_ (bnd_as (MS.oc HM m1_) (MS.bel HM) HCV.out CF.out lx sx 0 0 c CB.out SXB.out ZB.out S1.out (BX.out S1.out) (fun h => absurd rfl h) HB2.out) fun wk hb => ?_
     replace HM := MS.nx HM hb; clear hb
     refine hK.out _ _ ⟨kO HM m3_, MS.k HM m1_ 1 rfl, MS.k HM m1_ 0 rfl, kO HM m4_, kL HM m0_⟩ (fun hHeld => ?_)
     clear hK K
     refine nO_ 132 ?_
     refine on_ 10 (some 133) (mB 12 2047) HT_ (fun K hK => ?_)
     refine gs_ Try.func19 #[o1.val, lV r11 r12 r13 r14 0, iV a2 b2] ?_
     with_reducible refine ok_ (guard_as (MS.oc HM m0_) (MS.bel HM) HO1.out GF1.out r11 r12 r13 r14 0 a2 b2 (R3.out S1.out S2.out S3.out S4.out)) fun o2 wk ho2 ho hb => ?_
     replace HM := MS.cl HM hb ho; clear hb ho
     refine hK.out _ _ ⟨kO HM m3_, MS.k HM m1_ 1 rfl, MS.k HM m1_ 0 rfl, kO HM m4_, kL HM m0_⟩ (fun hHeld => ?_)
     clear hK K
     refine nO_ 133 ?_
     have kgu := MS.c3 HM m3_
     refine la_ 11 (mB 12 4095) HT_ (fun K hK => ?_)
     refine skip_ (w1 := ?_) (by rfl) rfl ?_ ?_
     rotate_left
     ·
      go_simp
      rfl
     refine hK.out _ _ ?_
     clear hK K
     refine dn_ HT_ ?_
     clear HT_ HW_ hHeld
     replace HM := MS.po3 o2 HM
     generalize World.setCell _ _ _ = wk at HM ⊢
     have HO2 := Aside0.mk ho2; clear ho2
     replace HM := MS.sb HM (.cons_cons _ (.cons _ (.refl _))) (.refl _)
     replace HM := MS.sb HM (.refl _) (.cons _ (.cons _ (.cons_cons _ (.cons_cons _ (.cons_cons _ (.cons_cons _ (.cons_cons _ .slnil)))))))
     have kgp := MS.c10 HM m0_; replace kgu := MS.c3 HM m1_; have kgc := MS.c3 HM m2_; have kgr := MS.c3 HM m3_; have kgl := MS.c5 HM m4_
     go_wp2
     rw [rounds_succ]
     replace kgu := MS.c3 HM m1_; replace kgr := MS.c3 HM m3_
     go_wp2
     replace HM := MS.po3 o2 HM
     generalize World.setCell _ _ _ = wk at HM ⊢
     refine MS.rt HM m3_ ?_
     exact ⟨o2, rfl, HO2.out, HM.out.S.own _ m0_, HM.out.S.below⟩
theorem assign_own (X : OV) (s lx sx y sy c : Int) {w0 w : World} (hX : Oc w0 w X) (h0 : Below w0.heap.size w0 w) (fx : OFit X.v X.m X.e) :
 Calls Try.prog 21 #[X.val, .int .i64 s, lV lx sx y sy c] w fun e W' => ∃ z : OV, e = .returned z.val ∧ z.o = assignF X.v X.m X.e s lx sx y sy c ∧ Own w W' z ∧ Below w.heap.size w W' := by
 have HX : Aside0 (Oc w w X) := ⟨⟨⟨hX.r0.le, .inl (hX.r0.reads h0)⟩, ⟨hX.r1.le, .inl (hX.r1.reads h0)⟩⟩⟩
 have FX_ := Aside0.mk fx
 have l8 := fx.1.1
 have LK : Aside0 (X.v.length ≤ 1000) := ⟨by omega⟩
 obtain ⟨cm, ce, hcl, cf⟩ := cl_ex fx
 cases ce with
 | true => rw [asgn_bot hcl]; exact asg_bot X s lx sx y sy c HX FX_ LK ⟨hcl⟩
 | false =>
  rcases placeF_cases X.v s with ⟨p, hp1, hp2, _, _⟩ | ⟨hp2, _⟩
  case inr => rw [asgn_no hcl (by omega)]; exact asg_no X s lx sx y sy c HX FX_ LK ⟨hcl⟩ ⟨rfl⟩ ⟨by omega⟩
  case inl =>
   obtain ⟨fm, fe, hfg, ff⟩ := fgt_ex cf s
   by_cases hof : ofB X.v lx sx y sy c = false
   ·
    rw [asgn_not hcl (by omega) hof, hfg]
    exact asg_not X s lx sx y sy c HX FX_ LK ⟨hcl⟩ ⟨hp2⟩ ⟨cf⟩ ⟨hfg⟩ ⟨hof⟩
   ·
    have hof' : ofB X.v lx sx y sy c = true := by simpa using hof
    rw [asgn_of hcl (by omega) hof']
    obtain ⟨C, gm0, gm1, ge0, ge1, a, b, a0, b0, a1, b1, a2, b2, r01, r02, r03, r04, r11, r12, r13, r14, g⟩ := asgF_ways (s := s) (lx := lx) (sx := sx) (y := y) (sy := sy) (c := c) fx hcl cf hp2 hfg ff hof'
    exact asg_gen X s lx sx y sy c HX FX_ LK ⟨hcl⟩ ⟨hp2⟩ ⟨cf⟩ ⟨hfg⟩ ⟨hof'⟩ ⟨ff⟩ ⟨g.cb⟩ ⟨g.sxb⟩ ⟨g.syb⟩ ⟨by decide⟩ ⟨g.ne⟩ ⟨g.px⟩ ⟨g.py⟩ ⟨l8⟩ ⟨by omega⟩ ⟨fit_of_snd fx.1 (movM_snd g.sc)⟩ ⟨by rw [g.hcm]⟩ ⟨g.sc⟩ ⟨g.it⟩ ⟨g.e0⟩ ⟨g.e1⟩ ⟨g.e2⟩ ⟨g.l0⟩ ⟨g.l1⟩ ⟨g.g0⟩ ⟨g.f0⟩ ⟨g.g1⟩ ⟨g.f1⟩ ⟨g.r0⟩ ⟨g.r1⟩ ⟨g.r2⟩ ⟨g.r3⟩ ⟨g.r4⟩ ⟨g.r5⟩
theorem assign_as {w W : World} {x : OV} {v m : List Int} {e : Bool} {a : Tri} (hx : Oc w W x) (hb : Below w.heap.size w W) (ho : x.o = (v, m, e)) (fx : OFit v m e) (s lx sx y sy c : Int) (ha : assignF v m e s lx sx y sy c = a) :
 Calls Try.prog 21 #[x.val, .int .i64 s, lV lx sx y sy c] W fun e W' => ∃ z : OV, e = .returned z.val ∧ z.o = a ∧ Own W W' z ∧ Below W.heap.size W W' := by
 obtain ⟨P, p, Q, q, v', m', e'⟩ := x
 cases ho
 rw [← ha]; exact assign_own _ s lx sx y sy c hx hb fx
end Go.Proofs.Ytphfchbggechhaa.QO
end
end
section
noncomputable section
namespace Go.Proofs.Ytphfchbggechhaa.QO
open Go.RowKit Go.Shelf YtphfchbggechhaaW.PrintWords YtphfchbggechhaaW.PrintLast YtphfchbggechhaaW.PrintMore
open Ytphfchbggechhaa.Pure
set_option linter.unusedVariables false
theorem asg3_f : assignF [0, 1] w3 false 0 0 1 0 0 3 = ([0, 1], w4, false) := by
 have hp : placeF [0, 1] 0 = ((0 : Nat) : Int) := by decide +kernel
 have ho : ofB [0, 1] 0 1 0 0 3 = true := by decide +kernel
 obtain ⟨fm, fe, hfg, ff⟩ := fgt_ex f3 0
 obtain ⟨C, _, _, _, _, _, _, _, _, _, _, _, _, _, _, _, _, _, _, _, _, g⟩ := asgF_ways (lx := 0) (sx := 1) (y := 0) (sy := 0) (c := 3) f3 c3 f3 hp hfg ff ho
 rw [asgn_of c3 (by rw [hp]; decide) ho, ← g.r1 (by decide) rfl rfl]
 have e : lst (2 * ([0, 1] : List Int).length) (movM C 1 0 3) = lst (2 * ([0, 1] : List Int).length) (movM (mat 4 w3) 1 0 3) := by
  have r : ∀ i j, i < 4 → j < 4 → C i j = mat 4 w3 i j := fun i j hi hj => by
   have h1 := rd_lst (C := C) hi hj
   have h2 := rd_lst (C := mat 4 w3) hi hj
   rw [← h1, ← h2]
   exact congrArg (rd · _) (g.hcm.symm.trans m3.symm)
  refine lst_ext fun i j hi hj => ?_
  unfold movM movedG
  rw [r i j hi hj, r _ _ (fromF_lt (n := 2) hi) (fromF_lt (n := 2) hj)]
 rw [e, m4, c4]
theorem asg3 {w W : World} {x : OV} (hx : Oc w W x) (hb : Below w.heap.size w W) (ho : x.o = ([0, 1], w3, false)) :
 Calls Try.prog 21 #[x.val, .int .i64 0, .agg #[.int .i64 0, .int .i64 1, .int .i64 0, .int .i64 0, .int .i64 3]] W fun e W' => ∃ z : OV, e = .returned z.val ∧ z.o = ([0, 1], w4, false) ∧ Own W W' z ∧ Below W.heap.size W W' :=
 assign_as hx hb ho f3 0 0 1 0 0 3 asg3_f
end Go.Proofs.Ytphfchbggechhaa.QO
end
end
section
noncomputable section
namespace Go.Proofs.Ytphfchbggechhaa.QO
open Go.RowKit Go.Shelf YtphfchbggechhaaW.PrintWords YtphfchbggechhaaW.PrintLast YtphfchbggechhaaW.PrintMore
open Ytphfchbggechhaa.Pure
attribute [local go_sem] Oper.semAt_some
attribute [local go_sem ↓] Go.wp_at_zero Go.wp_at_succ
set_option linter.unusedVariables false
set_option linter.unusedSimpArgs false
def awk_T2 : Bool × List (List Nat × List Nat) := (true, [([], []), ([], []), ([], []), ([0, 1, 2, 1], [0, 1, 2]), ([3, 3, 0, 1, 2, 3], [3])])
def awk_B2 : List Nat := [0, 0, 0, 7, 15]
theorem awk_tab2 : rtab .any (opsOf Try.f13 2) = awk_T2 := by kernel_rfl
theorem awk_bits2 : waitsOk awk_T2.2 awk_B2 = true := by kernel_rfl
def awk_T5 : Bool × List (List Nat × List Nat) := (true, [([], []), ([], []), ([0, 1, 1], [0, 1]), ([], []), ([2, 3], [2, 3]), ([4, 2], [4]), ([5], [5]), ([5, 5], [5]), ([6, 7, 7, 5], [5, 6, 7]), ([5], [5]), ([8, 9, 5], [5, 8, 9]), ([5, 10], [5, 10]), ([11, 8], [11]), ([12], [12]), ([12], [12]), ([13, 14, 12, 12], [12, 13, 14]), ([15, 12], [12]), ([15, 16, 16, 12], [12, 15, 16]), ([12], [12]), ([17, 18, 12], [12, 17, 18]), ([12, 19], [12, 19]), ([20, 17, 0, 1, 2, 3, 4, 5, 6, 7, 8, 9, 10, 11, 12, 13, 14, 15, 16, 17, 18, 19, 20], [20])])
def awk_B5 : List Nat := [0, 0, 3, 0, 15, 31, 63, 63, 255, 63, 1023, 2047, 4095, 8191, 8191, 32767, 65535, 131071, 8191, 524287, 1048575, 2097151]
theorem awk_tab5 : rtab .any (opsOf Try.f13 5) = awk_T5 := by kernel_rfl
theorem awk_bits5 : waitsOk awk_T5.2 awk_B5 = true := by kernel_rfl
section
variable {P : Program} {ops : Array Oper} {Q : Exit → Act → World → Prop} {o : Oper} {rest : List Oper} {a : Act}
theorem lit_event {W : World} (hgd : o.guard = none) {N : Tmp} (_hd : o.dst = some N) {n : Nat} {cs : Array Value} {t : TypeId}
 (hrun : (execOp a.eval o).run P W = .ok (.value (.slice (some ⟨W.heap.size, 0, none⟩) n n)) (W.alloc (.cells cs t (0, 0))))
 (h : ∀ g, g = W.heap.size → ∀ w1, w1.heap[g]? = some (.cells cs t (0, 0)) → Below W.heap.size W w1 → wpList P ops Q rest (a.put o.dst (.slice (some ⟨g, 0, none⟩) n n)) w1) : wpList P ops Q (o :: rest) a W :=
 Kd.event_run hgd hrun (h _ rfl _ (blk_new W _) (below_alloc (Below.refl _ _) _))
end
theorem eq_itv {W : World} {a b c d : Int} {r : Bool} (h : (a == c && b == d) = r) : (Op.equalIn 10000 36 (iV a b) (iV c d)).run Try.prog W = .ok r W := by
 have hu36 := Try.underlying36
 have hu2 := Try.underlying2
 rw [← h]
 refine eqA_of hu36 (by kernel_rfl) ?_
 refine eqf_cons (by rfl) (by go_simp; rfl) (by go_simp; rfl) (by go_simp) ?_
 exact eqf_last (by rfl) (by go_simp; rfl) (by go_simp; rfl) (by go_simp)
theorem awake_o (w : World) : Says 13 #[] w (.bool true) := by
 have hu25 := Try.underlying25
 have hu34 := Try.underlying34
 have hu36 := Try.underlying36
 have q1 := fun W => eq_itv (W := W) (a := 4) (b := 5) (c := 4) (d := 5) (r := true) (by decide)
 have q2 := fun W => eq_itv (W := W) (a := 5) (b := 7) (c := 5) (d := 7) (r := true) (by decide)
 have q3 := fun W => eq_itv (W := W) (a := 7) (b := 8) (c := 7) (d := 8) (r := true) (by decide)
 go_enter Try.func13, Try.ntmps13
 go_upto_region 1 with fail
 have HM : Aside0 (MS w [] [] w) := ⟨MS.nil w⟩
 go_upto_region 2 with (first | ((with_reducible refine gate_dst (N := 2) rfl ?_); refine lit_event (N := 2) (n := 2) (cs := #[.int .i64 0, .int .i64 1]) (t := 3) ?hg ?hd ?hr ?_; (case hd => rfl); (case hg => rfl); (case hr => first | (go_simp; done) | (go_simp; rfl)); intro gl hg wk hbox hb; have n_ := Aside0.mk ((MS.to HM).made hg hbox hb); clear HM hg hbox hb; have HM := n_; clear n_; have kgl := MS.c2 HM m0_) | (go_at_call 48; (with_reducible refine (top_own (HM.out.F.all _ m0_).1).mono ?_); rintro e wk ⟨t0, rfl, ht0, ho, hb⟩; replace HM := MS.cl HM hb ho; clear ho hb; replace kgl := MS.c2 HM m0_) | ((with_reducible refine gate_dst (N := 1) rfl ?_); refine bx_ 1 #[.slice none 0 0, .slice none 0 0, .bool false] 25 ?_; intro go hg wk hbox hb; replace HM := MS.md HM hg hbox hb; clear hg hbox hb; have kgo := MS.c3 HM m0_; replace kgl := MS.c2 HM m1_))
 replace HM := MS.po0 t0 HM
 generalize World.setCell _ _ _ = wk at HM ⊢
 replace kgo := MS.c3 HM m0_; replace kgl := MS.c2 HM m1_
 have H0 := Aside0.mk ht0; clear ht0
 replace HM := MS.dr HM
 clear kgl kgo
 refine st_ 5 (fun w' => oR go t0 w') [4] (kO HM m0_) (fun hHeld => ?_)
 refine with_tabW awk_tab2 awk_bits2 (fun HT_ HW_ => ?_)
 generalize World.drew _ = wk at HM hHeld ⊢
 refine tV_ 0 4 (mB 5 1) HT_ HW_ hHeld ?_
 refine pV_ 2 6 (mB 5 5) HT_ ?_
 refine on_ 1 (some 5) (mB 5 7) HT_ (fun K hK => ?_)
 refine gs_ Try.func49 #[.int .i64 0] ?_
 with_reducible refine sk_ (one_as 0) fun wk hb => ?_
 replace HM := MS.nx HM hb; clear hb
 refine hK.out _ _ (kO HM m0_) (fun hHeld => ?_)
 clear hK K
 refine nO_ 5 ?_
 refine on_ 3 (some 7) (mB 5 15) HT_ (fun K hK => ?_)
 refine gs_ Try.func19 #[t0.val, lV 0 1 0 0 0, iV 0 5] ?_
 with_reducible refine ok_ (guard_as (MS.oc HM m0_) (MS.bel HM) H0.out f0 0 1 0 0 0 0 5 g1) fun t1 wk ht1 ho hb => ?_
 replace HM := MS.cl HM hb ho; clear hb ho
 refine hK.out _ _ (kO HM m0_) (fun hHeld => ?_)
 clear hK K
 refine nO_ 7 ?_
 have kgo := MS.c3 HM m0_; have kgl := MS.c2 HM m1_
 refine la_ 4 (mB 5 31) HT_ (fun K hK => ?_)
 refine skip_ (w1 := ?_) (by rfl) rfl ?_ ?_
 rotate_left
 ·
  go_simp
  rfl
 refine hK.out _ _ ?_
 clear hK K
 refine dn_ HT_ ?_
 clear HT_ HW_ hHeld
 replace HM := MS.po0 t1 HM
 generalize World.setCell _ _ _ = wk at HM ⊢
 replace kgo := MS.c3 HM m0_; replace kgl := MS.c2 HM m1_
 have H1 := Aside0.mk ht1; clear ht1
 go_upto_region 4 with (first | (go_at_call 19; (with_reducible refine (guard_as (MS.oc HM m0_) (MS.bel HM) H1.out f1 0 (-1) 1 1 0 0 2 g2).mono ?_); rintro e wk ⟨t2, rfl, ht2, ho, hb⟩; replace HM := MS.cl HM hb ho; clear ho hb; replace kgo := MS.c3 HM m0_; replace kgl := MS.c2 HM m1_))
 replace HM := MS.po0 t2 HM
 generalize World.setCell _ _ _ = wk at HM ⊢
 replace kgo := MS.c3 HM m0_; replace kgl := MS.c2 HM m1_
 have H2 := Aside0.mk ht2; clear ht2
 go_upto_region 5 with (first | (go_at_call 19; (with_reducible refine (guard_as (MS.oc HM m0_) (MS.bel HM) H2.out f2 0 1 1 1 0 9 4611686018427387904 g3).mono ?_); rintro e wk ⟨t3, rfl, ht3, ho, hb⟩; replace HM := MS.cl HM hb ho; clear ho hb; replace kgo := MS.c3 HM m0_; replace kgl := MS.c2 HM m1_))
 replace HM := MS.po0 t3 HM
 generalize World.setCell _ _ _ = wk at HM ⊢
 replace kgo := MS.c3 HM m0_; replace kgl := MS.c2 HM m1_
 have H3 := Aside0.mk ht3; clear ht3
 replace HM := MS.dr HM
 clear kgl kgo
 refine st_ 22 (fun w' => oR go t3 w') [] (kO HM m0_) (fun hHeld => ?_)
 refine with_tabW awk_tab5 awk_bits5 (fun HT_ HW_ => ?_)
 generalize World.drew _ = wk at HM hHeld ⊢
 refine tV_ 0 16 (mB 22 1) HT_ HW_ hHeld ?_
 refine pV_ 3 19 (mB 22 9) HT_ ?_
 refine on_ 1 (some 17) (mB 22 11) HT_ (fun K hK => ?_)
 refine gs_ Try.func49 #[.int .i64 0] ?_
 with_reducible refine sk_ (one_as 0) fun wk hb => ?_
 replace HM := MS.nx HM hb; clear hb
 refine hK.out _ _ (kO HM m0_) (fun hHeld => ?_)
 clear hK K
 refine nO_ 17 ?_
 refine on_ 2 (some 18) (mB 22 15) HT_ (fun K hK => ?_)
 refine gs_ Try.func50 #[t3.val, lV 0 1 0 0 0] ?_
 with_reducible refine sk_ (rb1 (MS.oc HM m0_) (MS.bel HM) H3.out) fun wk hb => ?_
 replace HM := MS.nx HM hb; clear hb
 refine hK.out _ _ (kO HM m0_) (fun hHeld => ?_)
 clear hK K
 refine nO_ 18 ?_
 refine pV_ 4 20 (mB 22 31) HT_ ?_
 refine pV_ 5 21 (mB 22 63) HT_ ?_
 refine tV_ 6 22 (mB 22 127) HT_ HW_ hHeld ?_
 refine pV_ 9 25 (mB 22 639) HT_ ?_
 refine on_ 7 (some 23) (mB 22 767) HT_ (fun K hK => ?_)
 refine gs_ Try.func49 #[.int .i64 1] ?_
 with_reducible refine sk_ (one_as 1) fun wk hb => ?_
 replace HM := MS.nx HM hb; clear hb
 refine hK.out _ _ (kO HM m0_) (fun hHeld => ?_)
 clear hK K
 refine nO_ 23 ?_
 refine on_ 8 (some 24) (mB 22 1023) HT_ (fun K hK => ?_)
 refine gs_ Try.func50 #[t3.val, lV 1 1 0 0 0] ?_
 with_reducible refine sk_ (rb2 (MS.oc HM m0_) (MS.bel HM) H3.out) fun wk hb => ?_
 replace HM := MS.nx HM hb; clear hb
 refine hK.out _ _ (kO HM m0_) (fun hHeld => ?_)
 clear hK K
 refine nO_ 24 ?_
 refine pV_ 10 26 (mB 22 2047) HT_ ?_
 refine pV_ 11 27 (mB 22 4095) HT_ ?_
 refine pV_ 12 28 (mB 22 8191) HT_ ?_
 refine tV_ 13 29 (mB 22 16383) HT_ HW_ hHeld ?_
 refine pV_ 14 30 (mB 22 32767) HT_ ?_
 refine pV_ 18 34 (mB 22 294911) HT_ ?_
 refine on_ 15 (some 31) (mB 22 327679) HT_ (fun K hK => ?_)
 refine gs_ Try.func21 #[t3.val, .int .i64 0, lV 0 1 0 0 3] ?_
 with_reducible refine ok_ (asg3 (MS.oc HM m0_) (MS.bel HM) H3.out) fun t4 wk ht4 ho hb => ?_
 replace HM := MS.cl HM hb ho; clear hb ho
 refine hK.out _ _ (kO HM m0_) (fun hHeld => ?_)
 clear hK K
 refine nO_ 31 ?_
 refine on_ 16 (some 32) (mB 22 393215) HT_ (fun K hK => ?_)
 refine gs_ Try.func49 #[.int .i64 0] ?_
 with_reducible refine sk_ (one_as 0) fun wk hb => ?_
 replace HM := MS.nx HM hb; clear hb
 refine hK.out _ _ (kO HM m0_) (fun hHeld => ?_)
 clear hK K
 refine nO_ 32 ?_
 refine on_ 17 (some 33) (mB 22 524287) HT_ (fun K hK => ?_)
 refine gs_ Try.func50 #[t4.val, lV 0 1 0 0 0] ?_
 with_reducible refine sk_ (rb3 (MS.oc HM m0_) (MS.bel HM) ht4) fun wk hb => ?_
 replace HM := MS.nx HM hb; clear hb
 refine hK.out _ _ (kO HM m0_) (fun hHeld => ?_)
 clear hK K
 refine nO_ 33 ?_
 refine pV_ 19 35 (mB 22 1048575) HT_ ?_
 refine pV_ 20 36 (mB 22 2097151) HT_ ?_
 refine pV_ 21 0 (mB 22 4194303) HT_ ?_
 refine dn_ HT_ ?_
 clear HT_ HW_ hHeld
 go_wp2
 go_ret
 exact ⟨rfl, MS.bel HM⟩
end Go.Proofs.Ytphfchbggechhaa.QO
end
end
section
noncomputable section
namespace Go.Proofs.Ytphfchbggechhaa.QO
open Go.RowKit Go.Shelf YtphfchbggechhaaW.PrintWords YtphfchbggechhaaW.PrintLast YtphfchbggechhaaW.PrintMore
attribute [local go_sem] Oper.semAt_some
attribute [local go_sem ↓] Go.wp_at_zero Go.wp_at_succ
set_option linter.unusedVariables false
set_option linter.unusedSimpArgs false
theorem rempty_o (w : World) : Calls Try.prog 105 #[] w fun e w' => e = .returned (iV 1 0) ∧ Below w.heap.size w w' := by
 go_enter Try.func105, Try.ntmps105
 go_upto_region 1 with fail
 have hu36 := Try.underlying36
 have HM := MS.n1 w (iC 0 0)
 generalize World.alloc _ _ = wk at HM ⊢
 generalize w.heap.size = gr at HM ⊢
 have kgr := MS.c2 HM m0_
 go_wp2
 replace HM := MS.pi0 1 0 HM
 generalize World.setCell _ _ _ = wk at HM ⊢
 replace kgr := MS.c2 HM m0_
 refine MS.rt HM m0_ ?_
 exact ⟨rfl, HM.out.S.below⟩
theorem agg2 {a b c d : Int} (h : a = c) (h' : b = d) : Ending.returned (iV a b) = Ending.returned (iV c d) := by rw [h, h']
theorem ritvOf_any (a b : Int) (w : World) : Calls Try.prog 63 #[.int .i64 a, .int .i64 b] w fun e w' => e = .returned (.agg #[.int .i64 (itvOf a b).1, .int .i64 (itvOf a b).2]) ∧ Below w.heap.size w w' := by
 have hu36 := Try.underlying36
 go_enter Try.func63, Try.ntmps63
 go_upto_region 1 with fail
 have HM := MS.n1 w (iC 0 0)
 generalize World.alloc _ _ = wk at HM ⊢
 generalize w.heap.size = gr at HM ⊢
 have kgr := MS.c2 HM m0_
 go_wp2_with (first | (go_at_call 105; (with_reducible refine (rempty_o _).mono ?_); rintro e wk ⟨rfl, hb⟩; replace HM := MS.nx HM hb; clear hb; replace kgr := MS.c2 HM m0_))
 all_goals refine bodyPost_ret (results_cell_row rfl _ _ gr 36 #[_, _] (0, 0) _ rfl (put2_box (HM.out.F.all _ m0_).1) Try.underlying36 rfl (by kernel_rfl)) rfl ?_
 all_goals refine ⟨agg2 ?_ ?_, (MS.put2 [] HM.out).S.below⟩
 all_goals clear HM hu36 kgr
 all_goals unfold itvOf mx mn
 all_goals (repeat' split) <;> first | rfl | omega | (exfalso; omega) | (dsimp only; omega)
end Go.Proofs.Ytphfchbggechhaa.QO
end
end
section
noncomputable section
namespace Go.Proofs.Ytphfchbggechhaa.QO
open Go.RowKit YtphfchbggechhaaW.PrintWords YtphfchbggechhaaW.PrintLast
set_option linter.unusedVariables false
set_option linter.unusedSimpArgs false
def gimbalref02_Of.f (a0 : Int) (a1 : Int) : Option (Int × Int) := some (itvOf a0 a1)
theorem gimbalref02_Of.calls (a0 : Int) (a1 : Int) (r1 : Int) (r2 : Int) (w : World) (h : gimbalref02_Of.f a0 a1 = some (r1, r2)) :
 Calls Try.prog 63 #[.int .i64 a0, .int .i64 a1] w fun e w' => e = .returned (.agg #[.int .i64 r1, .int .i64 r2]) ∧ Below w.heap.size w w' := by
 unfold gimbalref02_Of.f at h
 have e := Option.some.inj h
 have hc := ritvOf_any a0 a1 w
 rw [e] at hc
 exact hc
def gimbalref02_norm.f (a0_0 : Int) (a0_1 : Int) : Option (Int × Int) := (gimbalref02_Of.f a0_0 a0_1).bind fun bt368 => (some (bt368.1, bt368.2))
theorem gimbalref02_norm.calls (a0_0 : Int) (a0_1 : Int) (r1 : Int) (r2 : Int) (w : World) (h : gimbalref02_norm.f a0_0 a0_1 = some (r1, r2)) :
 Calls Try.prog 106 #[.agg #[.int .i64 a0_0, .int .i64 a0_1]] w fun e w' => e = .returned (.agg #[.int .i64 r1, .int .i64 r2]) ∧ Below w.heap.size w w' := by
 have hu36 := Try.underlying36
 have HB := Aside0.mk (Below.refl w.heap.size w)
 have H := h
 unfold gimbalref02_norm.f at H
 clear h
 replace H := Option.bind_eq_some_iff.mp H
 obtain ⟨⟨t368, t369⟩, A20, H⟩ := H
 try dsimp only at H
 have A2 := Aside0.mk A20
 clear A20
 simp only [Option.some.injEq, Prod.mk.injEq] at H
 obtain ⟨rfl, rfl⟩ := H
 go_enter Try.func106, Try.ntmps106
 go_wp2_with (first | ((with_reducible refine gate_dst (N := 1) rfl ?_); refine bx_ 1 #[.int .i64 a0_0, .int .i64 a0_1] 36 ?_; intro gb366 hg w3 hbox hb; have BK366 := Aside0.mk (hbox); have GW366 := vS hg HB; have GE366 := vS hg HB; replace HB := vWs HB hb; clear hb hbox hg) | ((with_reducible refine gate_dst (N := 2) rfl ?_); refine bx_ 2 #[.int .i64 0, .int .i64 0] 36 ?_; intro gb367 hg w4 hbox hb; have BK367 := Aside0.mk (hbox); have GW367 := vS hg HB; have GE367 := vS hg HB; replace HB := vWs HB hb; have NB366_367 := vNl hg BK366; have NB367_366 := vNg hg BK366; replace BK366 := vBb BK366 hb; clear hb hbox hg; have hnb5 := NB366_367.out; have hnc5 := NB367_366.out; obtain ⟨hcz6_0, hcz6_1, hfz6_0, hfz6_1⟩ := vF2 BK366.out) | ((with_reducible refine gate_callee (f := 63) rfl ?_); refine gl_ (some 7) Try.func63 #[.int .i64 a0_0, .int .i64 a0_1] ?_; (with_reducible refine (gimbalref02_Of.calls a0_0 a0_1 t368 t369 _ A2.out).mono ?_); rintro e w7 ⟨rfl, hb⟩; refine ⟨_, rfl, ?_⟩; replace BK366 := vBb BK366 hb; replace BK367 := vBb BK367 hb; replace HB := vWs HB hb; (try clear hb); (try clear hb2); (try clear hk); (try clear hi); obtain ⟨hcz8_0, hcz8_1, hfz8_0, hfz8_1⟩ := vF2 BK367.out))
 refine bodyPost_ret (results_cell_row rfl _ _ gb367 36 #[.int .i64 t368, .int .i64 t369] (0, 0) _ rfl (vP2 BK367.out) Try.underlying36 rfl (by kernel_rfl)) rfl ?_
 exact ⟨vE, vW HB.out⟩
def gimbalref02_Has.f (a0_0 : Int) (a0_1 : Int) (a1 : Int) : Option (Bool) := (gimbalref02_norm.f a0_0 a0_1).bind fun bt371 => (if bt371.1 ≤ bt371.2 then (if bt371.1 = (-4611686018427387904) then (if bt371.2 = 4611686018427387904 then (some true) else (some (decide (a1 ≤ bt371.2)))) else (if bt371.1 ≤ a1 then (if bt371.2 = 4611686018427387904 then (some true) else (some (decide (a1 ≤ bt371.2)))) else (some false))) else (some false))
theorem gimbalref02_Has.calls (a0_0 : Int) (a0_1 : Int) (a1 : Int) (r : Bool) (w : World) (h : gimbalref02_Has.f a0_0 a0_1 a1 = some r) :
 Calls Try.prog 66 #[.agg #[.int .i64 a0_0, .int .i64 a0_1], .int .i64 a1] w fun e w' => e = .returned (.bool r) ∧ Below w.heap.size w w' := by
 have hu36 := Try.underlying36
 have HB := Aside0.mk (Below.refl w.heap.size w)
 have H := h
 unfold gimbalref02_Has.f at H
 clear h
 replace H := Option.bind_eq_some_iff.mp H
 obtain ⟨⟨t371, t372⟩, A30, H⟩ := H
 try dsimp only at H
 have A3 := Aside0.mk A30
 clear A30
 by_cases c4 : t371 ≤ t372
 ·
  rw [if_pos c4] at H
  have c4b0 : decide (t371 ≤ t372) = true := decide_eq_true c4
  clear c4
  by_cases c5 : t371 = (-4611686018427387904)
  ·
   rw [if_pos c5] at H
   have c5b0 : (t371 == (-4611686018427387904)) = true := beq_iff_eq.mpr c5
   have c5b1 : (t371 != (-4611686018427387904)) = false := bne_eq_false_iff_eq.mpr c5
   clear c5
   by_cases c6 : t372 = 4611686018427387904
   ·
    rw [if_pos c6] at H
    have c6b0 : (t372 == 4611686018427387904) = true := beq_iff_eq.mpr c6
    have c6b1 : (t372 != 4611686018427387904) = false := bne_eq_false_iff_eq.mpr c6
    clear c6
    obtain rfl := Option.some.inj H
    go_enter Try.func66, Try.ntmps66
    go_wp2_with (first | ((with_reducible refine gate_dst (N := 2) rfl ?_); refine bx_ 2 #[.int .i64 a0_0, .int .i64 a0_1] 36 ?_; intro gb370 hg w7 hbox hb; have BK370 := Aside0.mk (hbox); have GW370 := vS hg HB; have GE370 := vS hg HB; replace HB := vWs HB hb; clear hb hbox hg; obtain ⟨hcz8_0, hcz8_1, hfz8_0, hfz8_1⟩ := vF2 BK370.out) | ((with_reducible refine gate_callee (f := 106) rfl ?_); refine gl_ (some 6) Try.func106 #[.agg #[.int .i64 a0_0, .int .i64 a0_1]] ?_; (with_reducible refine (gimbalref02_norm.calls a0_0 a0_1 t371 t372 _ A3.out).mono ?_); rintro e w9 ⟨rfl, hb⟩; refine ⟨_, rfl, ?_⟩; replace BK370 := vBb BK370 hb; replace HB := vWs HB hb; (try clear hb); (try clear hb2); (try clear hk); (try clear hi); obtain ⟨hcz10_0, hcz10_1, hfz10_0, hfz10_1⟩ := vF2 BK370.out))
    go_ret
    exact ⟨vE, vW HB.out⟩
   ·
    rw [if_neg c6] at H
    have c6b0 : (t372 == 4611686018427387904) = false := beq_eq_false_iff_ne.mpr c6
    have c6b1 : (t372 != 4611686018427387904) = true := bne_iff_ne.mpr c6
    obtain rfl := Option.some.inj H
    go_enter Try.func66, Try.ntmps66
    go_wp2_with (first | ((with_reducible refine gate_dst (N := 2) rfl ?_); refine bx_ 2 #[.int .i64 a0_0, .int .i64 a0_1] 36 ?_; intro gb370 hg w11 hbox hb; have BK370 := Aside0.mk (hbox); have GW370 := vS hg HB; have GE370 := vS hg HB; replace HB := vWs HB hb; clear hb hbox hg; obtain ⟨hcz12_0, hcz12_1, hfz12_0, hfz12_1⟩ := vF2 BK370.out) | ((with_reducible refine gate_callee (f := 106) rfl ?_); refine gl_ (some 6) Try.func106 #[.agg #[.int .i64 a0_0, .int .i64 a0_1]] ?_; (with_reducible refine (gimbalref02_norm.calls a0_0 a0_1 t371 t372 _ A3.out).mono ?_); rintro e w13 ⟨rfl, hb⟩; refine ⟨_, rfl, ?_⟩; replace BK370 := vBb BK370 hb; replace HB := vWs HB hb; (try clear hb); (try clear hb2); (try clear hk); (try clear hi); obtain ⟨hcz14_0, hcz14_1, hfz14_0, hfz14_1⟩ := vF2 BK370.out))
    go_ret
    exact ⟨vE, vW HB.out⟩
  ·
   rw [if_neg c5] at H
   have c5b0 : (t371 == (-4611686018427387904)) = false := beq_eq_false_iff_ne.mpr c5
   have c5b1 : (t371 != (-4611686018427387904)) = true := bne_iff_ne.mpr c5
   by_cases c15 : t371 ≤ a1
   ·
    rw [if_pos c15] at H
    have c15b0 : decide (t371 ≤ a1) = true := decide_eq_true c15
    clear c15
    by_cases c16 : t372 = 4611686018427387904
    ·
     rw [if_pos c16] at H
     have c16b0 : (t372 == 4611686018427387904) = true := beq_iff_eq.mpr c16
     have c16b1 : (t372 != 4611686018427387904) = false := bne_eq_false_iff_eq.mpr c16
     clear c16
     obtain rfl := Option.some.inj H
     go_enter Try.func66, Try.ntmps66
     go_wp2_with (first | ((with_reducible refine gate_dst (N := 2) rfl ?_); refine bx_ 2 #[.int .i64 a0_0, .int .i64 a0_1] 36 ?_; intro gb370 hg w17 hbox hb; have BK370 := Aside0.mk (hbox); have GW370 := vS hg HB; have GE370 := vS hg HB; replace HB := vWs HB hb; clear hb hbox hg; obtain ⟨hcz18_0, hcz18_1, hfz18_0, hfz18_1⟩ := vF2 BK370.out) | ((with_reducible refine gate_callee (f := 106) rfl ?_); refine gl_ (some 6) Try.func106 #[.agg #[.int .i64 a0_0, .int .i64 a0_1]] ?_; (with_reducible refine (gimbalref02_norm.calls a0_0 a0_1 t371 t372 _ A3.out).mono ?_); rintro e w19 ⟨rfl, hb⟩; refine ⟨_, rfl, ?_⟩; replace BK370 := vBb BK370 hb; replace HB := vWs HB hb; (try clear hb); (try clear hb2); (try clear hk); (try clear hi); obtain ⟨hcz20_0, hcz20_1, hfz20_0, hfz20_1⟩ := vF2 BK370.out))
     go_ret
     exact ⟨vE, vW HB.out⟩
    ·
     rw [if_neg c16] at H
     have c16b0 : (t372 == 4611686018427387904) = false := beq_eq_false_iff_ne.mpr c16
     have c16b1 : (t372 != 4611686018427387904) = true := bne_iff_ne.mpr c16
     obtain rfl := Option.some.inj H
     go_enter Try.func66, Try.ntmps66
     go_wp2_with (first | ((with_reducible refine gate_dst (N := 2) rfl ?_); refine bx_ 2 #[.int .i64 a0_0, .int .i64 a0_1] 36 ?_; intro gb370 hg w21 hbox hb; have BK370 := Aside0.mk (hbox); have GW370 := vS hg HB; have GE370 := vS hg HB; replace HB := vWs HB hb; clear hb hbox hg; obtain ⟨hcz22_0, hcz22_1, hfz22_0, hfz22_1⟩ := vF2 BK370.out) | ((with_reducible refine gate_callee (f := 106) rfl ?_); refine gl_ (some 6) Try.func106 #[.agg #[.int .i64 a0_0, .int .i64 a0_1]] ?_; (with_reducible refine (gimbalref02_norm.calls a0_0 a0_1 t371 t372 _ A3.out).mono ?_); rintro e w23 ⟨rfl, hb⟩; refine ⟨_, rfl, ?_⟩; replace BK370 := vBb BK370 hb; replace HB := vWs HB hb; (try clear hb); (try clear hb2); (try clear hk); (try clear hi); obtain ⟨hcz24_0, hcz24_1, hfz24_0, hfz24_1⟩ := vF2 BK370.out))
     go_ret
     exact ⟨vE, vW HB.out⟩
   ·
    rw [if_neg c15] at H
    have c15b0 : decide (t371 ≤ a1) = false := decide_eq_false c15
    clear c15
    obtain rfl := Option.some.inj H
    go_enter Try.func66, Try.ntmps66
    go_wp2_with (first | ((with_reducible refine gate_dst (N := 2) rfl ?_); refine bx_ 2 #[.int .i64 a0_0, .int .i64 a0_1] 36 ?_; intro gb370 hg w25 hbox hb; have BK370 := Aside0.mk (hbox); have GW370 := vS hg HB; have GE370 := vS hg HB; replace HB := vWs HB hb; clear hb hbox hg; obtain ⟨hcz26_0, hcz26_1, hfz26_0, hfz26_1⟩ := vF2 BK370.out) | ((with_reducible refine gate_callee (f := 106) rfl ?_); refine gl_ (some 6) Try.func106 #[.agg #[.int .i64 a0_0, .int .i64 a0_1]] ?_; (with_reducible refine (gimbalref02_norm.calls a0_0 a0_1 t371 t372 _ A3.out).mono ?_); rintro e w27 ⟨rfl, hb⟩; refine ⟨_, rfl, ?_⟩; replace BK370 := vBb BK370 hb; replace HB := vWs HB hb; (try clear hb); (try clear hb2); (try clear hk); (try clear hi); obtain ⟨hcz28_0, hcz28_1, hfz28_0, hfz28_1⟩ := vF2 BK370.out))
    go_ret
    exact ⟨vE, vW HB.out⟩
 ·
  rw [if_neg c4] at H
  have c4b0 : decide (t371 ≤ t372) = false := decide_eq_false c4
  clear c4
  obtain rfl := Option.some.inj H
  go_enter Try.func66, Try.ntmps66
  go_wp2_with (first | ((with_reducible refine gate_dst (N := 2) rfl ?_); refine bx_ 2 #[.int .i64 a0_0, .int .i64 a0_1] 36 ?_; intro gb370 hg w29 hbox hb; have BK370 := Aside0.mk (hbox); have GW370 := vS hg HB; have GE370 := vS hg HB; replace HB := vWs HB hb; clear hb hbox hg; obtain ⟨hcz30_0, hcz30_1, hfz30_0, hfz30_1⟩ := vF2 BK370.out) | ((with_reducible refine gate_callee (f := 106) rfl ?_); refine gl_ (some 6) Try.func106 #[.agg #[.int .i64 a0_0, .int .i64 a0_1]] ?_; (with_reducible refine (gimbalref02_norm.calls a0_0 a0_1 t371 t372 _ A3.out).mono ?_); rintro e w31 ⟨rfl, hb⟩; refine ⟨_, rfl, ?_⟩; replace BK370 := vBb BK370 hb; replace HB := vWs HB hb; (try clear hb); (try clear hb2); (try clear hk); (try clear hi); obtain ⟨hcz32_0, hcz32_1, hfz32_0, hfz32_1⟩ := vF2 BK370.out))
  go_ret
  exact ⟨vE, vW HB.out⟩
end Go.Proofs.Ytphfchbggechhaa.QO
end
end
section
noncomputable section
namespace Go.Proofs.Ytphfchbggechhaa.QO
open Go.RowKit Go.Shelf YtphfchbggechhaaW.PrintWords YtphfchbggechhaaW.PrintLast YtphfchbggechhaaW.PrintMore
open Ytphfchbggechhaa.Pure
open OctMath (Bd Fin')
set_option linter.unusedVariables false
set_option linter.unusedSimpArgs false
theorem formfit_f (x sx y sy c : Int) (k : Nat) : gimbalref12_FormFit.f (k + 2) x sx y sy c = some (lfitB x sx y sy c) := by
 unfold gimbalref12_FormFit.f
 by_cases h1 : c < -1099511627776
 ·
  have e : lfitB x sx y sy c = false := decide_eq_false (fun h => by have := h.1; omega)
  rw [if_pos h1, gimbalref12_FormFit.j0, if_pos rfl, e]
 ·
  by_cases h2 : c > 1099511627776
  ·
   have e : lfitB x sx y sy c = false := decide_eq_false (fun h => by have := h.2.1; omega)
   rw [if_neg h1, decide_eq_true h2, gimbalref12_FormFit.j0, if_pos rfl, e]
  ·
   rw [if_neg h1, decide_eq_false h2, gimbalref12_FormFit.j0, if_neg (by decide)]
   have key : ∀ t : Bool, (lfitB x sx y sy c = true ↔ t = true) → some t = some (lfitB x sx y sy c) := fun t h => by
    congr 1; rw [Bool.eq_iff_iff]; exact h.symm
   have lp : lfitB x sx y sy c = true ↔ lfitP x sx y sy c := decide_eq_true_iff
   simp only [gimbalref12_FormFit.j1, if_true, reduceIte]
   (repeat' split) <;> (refine key _ (lp.trans ?_); unfold lfitP; simp only [decide_eq_true_eq, beq_iff_eq, Bool.false_eq_true, iff_false] at *; omega)
theorem among_f (v m : List Int) (e : Bool) (x sx y sy c : Int) (hl : v.length ≤ 1000) : Pure.Ev (fun k => gimbalref12_among.f k v m e x sx y sy c) (ofB v x sx y sy c) := by
 obtain ⟨K1, h1⟩ := rplace_f v m e x hl
 obtain ⟨K2, h2⟩ := rplace_f v m e y hl
 replace h1 : ∀ k, K1 ≤ k → gimbalref11_Place.f k v m e x = some (placeF v x) := h1
 replace h2 : ∀ k, K2 ≤ k → gimbalref11_Place.f k v m e y = some (placeF v y) := h2
 refine ⟨K1 + K2 + 2, fun k hk => ?_⟩
 show gimbalref12_among.f k v m e x sx y sy c = _
 unfold gimbalref12_among.f
 rw [show k = (k - 2) + 2 by omega, formfit_f, bsome, h1 _ (by omega), h2 _ (by omega)]
 simp only [bsome]
 unfold lfitB
 (repeat' split) <;> (congr 1; rw [Bool.eq_iff_iff]; simp only [decide_eq_true_eq, decide_eq_false_iff_not, Bool.false_eq_true] at *; unfold ofB; simp only [decide_eq_true_eq]; first | (simp_all; done) | (simp_all; omega))
def cutF (x : Int) : Int := if x > 2199023255552 then 2199023255552 else if x < -2199023255552 then -2199023255552 else x
theorem cut_f (x : Int) : gimbalref12_cut.f x = some (cutF x) := by unfold gimbalref12_cut.f cutF; (repeat' split) <;> rfl
theorem bar2_f {i : Nat} (hi : i < 16) : gimbalref12_bar.f (i : Int) = some ((nb i : Nat) : Int) := by
 unfold gimbalref12_bar.f nb
 rw [show Int.tmod (i : Int) 2 = ((i % 2 : Nat) : Int) from rfl]
 by_cases h : i % 2 = 0
 ·
  rw [if_pos (by omega), if_pos h]; congr 1; unfold wrap64; omega
 ·
  rw [if_neg (by omega), if_neg h]; congr 1; unfold wrap64; omega
theorem rnode_f (p : Nat) (s : Int) (hp : p < 100) (hs : s ≠ 0) : gimbalref11_Node.f (p : Int) s = some ((nd p s : Nat) : Int) := by
 have h1 : wrap64 (2 * (p : Int)) = 2 * (p : Int) := by unfold wrap64; omega
 have h2 : wrap64 (2 * (p : Int) + 1) = 2 * (p : Int) + 1 := by unfold wrap64; omega
 unfold gimbalref11_Node.f nd
 rw [h1, h2]
 by_cases h : s < 0
 ·
  rw [if_neg (by omega), if_pos h]; push_cast; rfl
 ·
  rw [if_pos (by omega), if_neg h]; push_cast; rfl
def amC (C : Mx) (p : Nat) (sx : Int) (q : Nat) (sy b : Int) : Mx :=
 if sy = 0 then upM C (nb (nd p sx)) (nd p sx) (clipV (2 * b)) else upM C (nb (nd p sx)) (nd q sy) (clipV b)
theorem upM_inf {n : Nat} {C : Mx} {a b : Nat} (hC : Snd n C) (i j : Nat) (hi : i < n) (hj : j < n) : upM C a b 4611686018427387904 i j = C i j := by
 have h := hC.bd i j hi hj
 unfold upM upG
 split
 ·
  rfl
 ·
  split
  ·
   unfold mn Fin' at *; rw [if_neg (by omega)]
  ·
   rfl
theorem nb_ne' (i : Nat) : nb i ≠ i := by unfold nb; split <;> omega
theorem nd_half (p : Nat) (s : Int) : nd p s / 2 = p := by unfold nd; split <;> omega
theorem up_is {n : Nat} {C : Mx} {p q : Nat} {sx sy hi c : Int} (hC : Snd n C) (hc : -1099511627776 ≤ c ∧ c ≤ 1099511627776) (hh : -4611686018427387904 ≤ hi ∧ hi < 4611686018427387904) : lst n (upC C p sx q sy (bupF hi c)) = lst n (amC C p sx q sy (cutF (hi + c))) := by
 have hb : bfit hi = hi := by unfold bfit; (repeat' split) <;> omega
 have hcb : bfit c = c := by unfold bfit; (repeat' split) <;> omega
 have hu : bupF hi c = mn (mx (hi + c) (-4611686018427387903)) 4611686018427387904 := by unfold bupF; rw [hb, hcb, if_neg (by omega)]
 have hu2 : (bupF hi c = 4611686018427387904 ∧ hi + c ≥ 4611686018427387904) ∨ (bupF hi c ≠ 4611686018427387904 ∧ -4611686018427387903 ≤ bupF hi c ∧ bupF hi c < 4611686018427387904 ∧ (bupF hi c = hi + c ∨ (bupF hi c = -4611686018427387903 ∧ hi + c < -4611686018427387903))) := by
  rw [hu]; unfold mn mx; (repeat' split) <;> omega
 clear hu
 generalize bupF hi c = u at hu2 ⊢
 obtain ⟨z, hz⟩ : ∃ z, hi + c = z := ⟨_, rfl⟩
 rw [hz] at hu2 ⊢
 unfold upC amC
 rcases hu2 with ⟨h1, h2⟩ | ⟨h1, h2, h3, h4⟩
 ·
  rw [if_pos h1]
  have e1 : clipV (2 * cutF z) = 4611686018427387904 := by unfold cutF clipV; rw [if_pos (by omega)]
  have e2 : clipV (cutF z) = 4611686018427387904 := by unfold cutF clipV; rw [if_pos (by omega)]
  rw [e1, e2]
  split <;> exact (lst_ext (upM_inf hC)).symm
 ·
  rw [if_neg h1]
  have hbu : bfit u = u := by unfold bfit; (repeat' split) <;> omega
  have e1 : clipV (bupF u u) = clipV (2 * cutF z) := by
   unfold bupF
   rw [hbu, if_neg (by omega)]
   unfold cutF clipV mn mx
   (repeat' split) <;> omega
  have e2 : clipV u = clipV (cutF z) := by unfold cutF clipV; (repeat' split) <;> omega
  rw [e1, e2]
theorem up_none {C : Mx} {p q : Nat} {sx sy hi c : Int} (h : hi = 4611686018427387904) : upC C p sx q sy (bupF hi c) = C := by
 have hb : bfit hi = hi := by rw [h]; rfl
 have : bupF hi c = 4611686018427387904 := by unfold bupF; rw [hb, if_pos (.inl h)]
 unfold upC; rw [if_pos this]
section
variable {w W W' : World} {x : OV} {os : List OV} {fs : List (Nat × Obj)}
end
section
variable {w W : World} {x : OV} {os : List OV} {fs : List (Nat × Obj)}
theorem among_as {v m : List Int} {e : Bool} {lx sx y sy c : Int} {t : Bool} (hx : Oc w W x) (hb : Below w.heap.size w W) (ho : x.o = (v, m, e)) (l : v.length ≤ 1000) (h : ofB v lx sx y sy c = t) : Says 62 #[x.val, .agg #[.int .i64 lx, .int .i64 sx, .int .i64 y, .int .i64 sy, .int .i64 c]] W (.bool t) := by
 obtain ⟨P, p, Q, q, v', m', e'⟩ := x
 cases ho
 rw [← h]
 obtain ⟨K, hK⟩ := among_f v' m' e' lx sx y sy c l
 exact gimbalref12_among.calls K P p _ Q q _ _ lx sx y sy c _ W (hx.r0.reads hb) hx.r0.le (hx.r1.reads hb) hx.r1.le (hK K (Nat.le_refl _))
theorem ritvOf_as {a b l h : Int} (e : itvOf a b = (l, h)) : Says 63 #[.int .i64 a, .int .i64 b] W (.agg #[.int .i64 l, .int .i64 h]) := by
 have g := ritvOf_any a b W
 rw [e] at g; exact g
theorem rNone_as {a b : Int} {t : Bool} (e : decide (a > b) = t) : Says 64 #[.agg #[.int .i64 a, .int .i64 b]] W (.bool t) :=
 gimbalref02_None.calls a b t W (by unfold gimbalref02_None.f; rw [e])
theorem rHas_f (a b x : Int) : gimbalref02_Has.f a b x = some (itvHas a b x) := by
 unfold gimbalref02_Has.f gimbalref02_norm.f gimbalref02_Of.f itvHas
 simp only [bsome]
 generalize (itvOf a b).1 = l
 generalize (itvOf a b).2 = h
 (repeat' split) <;> (congr 1; rw [Bool.eq_iff_iff]; simp only [decide_eq_true_eq, Bool.false_eq_true, true_iff, false_iff]; omega)
theorem rHas_as {a b c : Int} {t : Bool} (e : itvHas a b c = t) : Says 66 #[.agg #[.int .i64 a, .int .i64 b], .int .i64 c] W (.bool t) :=
 gimbalref02_Has.calls a b c t W (by rw [rHas_f, e])
theorem cut_as {a r : Int} (h : cutF a = r) : Says 68 #[.int .i64 a] W (.int .i64 r) := by
 subst h
 exact says_of (gimbalref12_cut.calls a _ W (cut_f a))
theorem rbottom_own {A : Option Addr} {c : Nat} {v : List Int} (hr : Row w W 3 A c v) (hb : Below w.heap.size w W) (hv : VarsOk v) :
 Calls Try.prog 65 #[.slice A v.length c] W fun e W' => ∃ z : OV, e = .returned z.val ∧ z.o = (v, [], true) ∧ Own W W' z ∧ Below W.heap.size W W' :=
 of_calls2 (a := (v, [], true)) (gimbalref11_Bottom.calls A c v _ _ _ W (hr.reads hb) hr.le (by
  have h : gimbalref11_VarsFit.f v = some true := by unfold gimbalref11_VarsFit.f; rw [varsB_true.2 hv]
  have hc : gimbalref11_copied.f v = some v := by unfold gimbalref11_copied.f; rw [if_pos (by have := hv.1; simp; omega)]; rfl
  unfold gimbalref11_Bottom.f
  rw [h, bsome, if_pos rfl, hc, bsome]))
end
theorem add_f {p i : Nat} {d : Int} (hi : i ≤ 16) (hp : p ≤ 16) (hd : -1099511627776 ≤ d ∧ d ≤ 1099511627776) : gimbalref12_add.f (i : Int) (p : Int) d = some (gainF p d i) := by
 have hw : wrap64 (-d) = -d := by unfold wrap64; omega
 unfold gimbalref12_add.f gainF
 rw [half_w hi, hw, show Int.tmod (i : Int) 2 = ((i % 2 : Nat) : Int) from rfl]
 by_cases h : i / 2 = p
 ·
  rw [if_pos (by omega)]
  by_cases h2 : i % 2 = 0
  ·
   rw [if_pos (by omega), if_pos (by omega)]
  ·
   rw [if_neg (by omega), if_neg (by omega), if_pos (by omega)]
 ·
  rw [if_neg (by omega), if_neg (by omega), if_neg (by omega)]
theorem rmoved_f {x d : Int} (k : Nat) (hx : Fin' 1099511627776 x) (hd : -2199023255552 ≤ d ∧ d ≤ 2199023255552) : gimbalref12_moved.f (k + 1) x d = some (if x = 4611686018427387904 then 4611686018427387904 else clipV (x + d)) := by
 unfold Fin' at hx
 unfold gimbalref12_moved.f
 by_cases h : x = 4611686018427387904
 ·
  rw [if_pos h, if_pos h]; simp [gimbalref12_moved.j0]
 ·
  have hw : wrap64 (x + d) = x + d := by unfold wrap64; omega
  rw [if_neg h, if_neg h, hw, gimbalref12_moved.j0, hw]
  unfold clipV
  by_cases h1 : x + d > 1099511627776
  ·
   simp [h1]
  ·
   by_cases h2 : x + d < -1099511627776
   ·
    simp [h1, h2]
   ·
    simp [h1, h2]
section
variable {n p : Nat} {C : Mx} {v : List Int} {s d : Int} {V : Tri}
theorem shift_l1 (hC : Snd n C) (hn : n ≤ 16) (hp : p < 16) (hd : -1099511627776 ≤ d ∧ d ≤ 1099511627776) {i : Nat} (hi : i < n) (m' : List Int)
 (K : Pure.Ev (fun k => gimbalref12_shift.l0 k (p : Int) s d (n : Int) ((i + 1 : Nat) : Int) v (lst n C) false v (lst n (half2 (movM C s p d) (fun _ _ => 0) (i + 1) 0)) false) V) :
 ∀ e j : Nat, j + e = n → Pure.Ev (fun k => gimbalref12_shift.l1 k (p : Int) s d (n : Int) (i : Int) (j : Int) v (lst n C) false v (lst n (half2 (movM C s p d) (fun _ _ => 0) i j)) false) V := by
 obtain ⟨hv2, hev⟩ : ∃ u, n = 2 * u := by obtain ⟨u, h, _⟩ := hC.ev; exact ⟨u, h⟩
 intro e
 induction e with
 | zero =>
  intro j hj
  refine Pure.Ev.step (fun k => ?_) K
  rw [gimbalref12_shift.l1, if_neg (by omega), suc (by omega)]
  congr 1
  obtain rfl : j = n := by omega
  exact lst_ext (fun a b ha hb => half2_row a b hb)
 | succ e ih =>
  intro j hj
  have hjn : j < n := by omega
  have j100 : j ≤ 100 := Nat.le_trans (Nat.le_of_lt hjn) (Nat.le_trans hn (by decide))
  obtain ⟨K1, hK1⟩ := ih (j + 1) (by omega)
  replace hK1 : ∀ k, K1 ≤ k → gimbalref12_shift.l1 k (p : Int) s d (n : Int) (i : Int) ((j + 1 : Nat) : Int) v (lst n C) false v (lst n (half2 (movM C s p d) (fun _ _ => 0) i (j + 1))) false = some V := hK1
  have lA : fromF s p i < n := by subst hev; exact fromF_lt hi
  have lB : fromF s p j < n := by subst hev; exact fromF_lt hjn
  have ix := idx hn (show i ≤ 16 by omega) (show j ≤ 16 by omega)
  have iy := idx hn (show fromF s p i ≤ 16 by omega) (show fromF s p j ≤ 16 by omega)
  have rx := in_row (d := half2 (movM C s p d) (fun _ _ => 0) i j) hi hjn
  have ry := in_row (d := C) lA lB
  have h1 := half_w (show i ≤ 16 by omega)
  have h2 := half_w (show j ≤ 16 by omega)
  have gi := gainF_bd (k := p) (i := i) hd
  have gj := gainF_bd (k := p) (i := j) hd
  have hw : wrap64 (gainF p d j - gainF p d i) = gainF p d j - gainF p d i := by unfold wrap64; omega
  have hset : (lst n (half2 (movM C s p d) (fun _ _ => 0) i j)).set ((i * n + j : Nat) : Int).toNat (if C (fromF s p i) (fromF s p j) = 4611686018427387904 then 4611686018427387904 else clipV (C (fromF s p i) (fromF s p j) + (gainF p d j - gainF p d i))) = lst n (half2 (movM C s p d) (fun _ _ => 0) i (j + 1)) := by
   rw [lst_set hi hjn rfl]
   refine lst_ext (fun a b ha hb => ?_)
   rw [half2_step]
   have : movM C s p d i j = if C (fromF s p i) (fromF s p j) = 4611686018427387904 then 4611686018427387904 else clipV (C (fromF s p i) (fromF s p j) + (gainF p d j - gainF p d i)) := by
    unfold movM movedG
    by_cases q : i = j
    ·
     subst q
     rw [if_pos rfl, hC.dg _ hi, hC.dg _ lA, if_neg (by decide)]
     rw [show (0 : Int) + (gainF p d i - gainF p d i) = 0 by omega]; rfl
    ·
     rw [if_neg q]
     split
     ·
      rfl
     ·
      congr 1; omega
   rw [this]
  have j4 : ∀ k, K1 ≤ k → gimbalref12_shift.j4 (k + 2) (p : Int) s d (n : Int) (i : Int) (j : Int) ((fromF s p i : Nat) : Int) (j : Int) (if s < 0 then decide (j / 2 = p) else false) v (lst n C) false v (lst n (half2 (movM C s p d) (fun _ _ => 0) i j)) false = some V := fun k hk => by
   rw [gimbalref12_shift.j4, add_f (by omega) (by omega) hd, add_f (by omega) (by omega) hd]
   have hB : (fromF s p j = nb j ∧ s < 0 ∧ j / 2 = p) ∨ (fromF s p j = j ∧ ¬ (s < 0 ∧ j / 2 = p)) := by
    unfold fromF; split
    ·
     rename_i h; exact .inl ⟨rfl, h⟩
    ·
     rename_i h; exact .inr ⟨rfl, h⟩
   rcases hB with ⟨eB, hs, hjp⟩ | ⟨eB, hs⟩
   ·
    rw [if_pos (show (if s < 0 then decide (j / 2 = p) else false) = true by rw [if_pos hs]; exact decide_eq_true hjp), bar2_f (by omega), bsome, ← eB, iy, if_pos ry.1, if_pos ry.2, bsome, bsome, hw, rd_lst lA lB, rmoved_f k (hC.bd _ _ lA lB) (by omega), bsome, ix, if_pos rx.1, if_pos rx.2, hset, suc j100]
    exact hK1 _ (by omega)
   ·
    rw [eB] at iy ry lB hset
    rw [if_neg (show ¬ (if s < 0 then decide (j / 2 = p) else false) = true by
     by_cases q : s < 0
     ·
      rw [if_pos q]; simp; exact fun h => hs ⟨q, h⟩
     ·
      rw [if_neg q]; simp), iy, if_pos ry.1, if_pos ry.2, bsome, bsome, hw, rd_lst lA lB, rmoved_f k (hC.bd _ _ lA lB) (by omega), bsome, ix, if_pos rx.1, if_pos rx.2, hset, suc j100]
    exact hK1 _ (by omega)
  have bq : ∀ a : Nat, (((a : Nat) : Int) == (p : Int)) = decide (a = p) := fun a => by
   rw [Bool.eq_iff_iff]; simp; omega
  have j3 : ∀ k, K1 ≤ k → gimbalref12_shift.j3 (k + 3) (p : Int) s d (n : Int) (i : Int) (j : Int) ((fromF s p i : Nat) : Int) (j : Int) v (lst n C) false v (lst n (half2 (movM C s p d) (fun _ _ => 0) i j)) false = some V := fun k hk => by
   rw [gimbalref12_shift.j3, h2, bq]
   have g := j4 k hk
   by_cases q : s < 0
   ·
    rw [if_pos q]; rw [if_pos q] at g; exact g
   ·
    rw [if_neg q]; rw [if_neg q] at g; exact g
  refine ⟨K1 + 5, fun k hk => ?_⟩
  obtain ⟨k, rfl⟩ : ∃ t, k = t + 5 := ⟨k - 5, by omega⟩
  show gimbalref12_shift.l1 (k + 4 + 1) _ _ _ _ _ _ _ _ _ _ _ _ = _
  rw [gimbalref12_shift.l1, if_pos (by omega), h1, bq]
  have hA : (fromF s p i = nb i ∧ s < 0 ∧ i / 2 = p) ∨ (fromF s p i = i ∧ ¬ (s < 0 ∧ i / 2 = p)) := by
   unfold fromF; split
   ·
    rename_i h; exact .inl ⟨rfl, h⟩
   ·
    rename_i h; exact .inr ⟨rfl, h⟩
  have g := j3 k (by omega)
  rcases hA with ⟨eA, hs, hip⟩ | ⟨eA, hs⟩
  ·
   rw [if_pos hs, gimbalref12_shift.j2, if_pos (decide_eq_true hip), bar2_f (by omega), bsome, ← eA]
   exact g
  ·
   rw [eA] at g
   by_cases q : s < 0
   ·
    rw [if_pos q, gimbalref12_shift.j2, if_neg (by simp; exact fun h => hs ⟨q, h⟩)]
    exact g
   ·
    rw [if_neg q, gimbalref12_shift.j2, if_neg (by decide)]
    exact g
end
theorem shift_ev {v : List Int} {C : Mx} {p : Nat} {s d : Int} (hv : VarsOk v) (hC : Snd (2 * v.length) C) (hp : p < 16) (hd : -1099511627776 ≤ d ∧ d ≤ 1099511627776) :
 Pure.Ev (fun k => gimbalref12_shift.f k v (lst (2 * v.length) C) false (p : Int) s d) (closeF v (lst (2 * v.length) (movM C s p d)) false) := by
 have h8 := hv.1
 obtain ⟨n, en⟩ : ∃ n, 2 * v.length = n := ⟨_, rfl⟩
 have hw : wrap64 (2 * (v.length : Int)) = (n : Int) := by unfold wrap64; omega
 have hl : ∀ e i : Nat, i + e = n → Pure.Ev (fun k => gimbalref12_shift.l0 k (p : Int) s d (n : Int) (i : Int) v (lst n C) false v (lst n (half2 (movM C s p d) (fun _ _ => 0) i 0)) false) (closeF v (lst n (movM C s p d)) false) := by
  intro e
  induction e with
  | zero =>
   intro i hi
   obtain rfl : i = n := by omega
   have e0 : lst i (half2 (movM C s p d) (fun _ _ => 0) i 0) = lst i (movM C s p d) := lst_ext (fun a b ha hb => half2_all a b ha)
   have hf : OFit v (lst i (movM C s p d)) false := by rw [← en]; exact fit_of_snd hv (movM_snd hC)
   refine Pure.Ev.step (h := fun k => (gimbalref11_Close.f k v (lst i (movM C s p d)) false).bind fun t => some (t.1, t.2.1, t.2.2)) (fun k => ?_) (Pure.Ev.bind (close_ev hf) (Pure.Ev.of _))
   rw [gimbalref12_shift.l0, if_neg (by omega), e0]
  | succ e ih =>
   intro i hi
   have g := shift_l1 (v := v) (s := s) (V := closeF v (lst n (movM C s p d)) false) (by rw [← en]; exact hC) (by omega) hp hd (show i < n by omega) [] (ih (i + 1) (by omega)) n 0 (by omega)
   refine Pure.Ev.step (fun k => ?_) g
   rw [gimbalref12_shift.l0, if_pos (by omega)]
   rfl
 have g := hl n 0 (by omega)
 have e0 : lst n (half2 (movM C s p d) (fun _ _ => 0) 0 0) = List.replicate (n * n) 0 := by
  rw [lst_ext (fun a b _ _ => half2_zero a b)]
  unfold lst
  show List.map (fun _ => (0 : Int)) _ = _
  rw [List.map_const', List.length_range]
 rw [e0] at g
 rw [en]
 refine Pure.Ev.congr (fun k => ?_) g
 have hNN : n * n ≤ 256 := Nat.le_trans (Nat.mul_le_mul (show n ≤ 16 by omega) (show n ≤ 16 by omega)) (by decide)
 unfold gimbalref12_shift.f
 rw [hw, sq (by omega), if_pos (by omega), if_pos (by rw [Int.toNat_natCast]; omega), Int.toNat_natCast]
 rfl
section
variable {w W : World} {x : OV}
theorem shift_as {v : List Int} {C : Mx} {p : Nat} {s d : Int} (hx : Oc w W x) (hb : Below w.heap.size w W) (ho : x.o = (v, lst (2 * v.length) C, false)) (hv : VarsOk v) (hC : Snd (2 * v.length) C) (hp : p < 16) (hd : -1099511627776 ≤ d ∧ d ≤ 1099511627776) :
 Calls Try.prog 72 #[x.val, .int .i64 (p : Int), .int .i64 s, .int .i64 d] W fun e W' => ∃ z : OV, e = .returned z.val ∧ z.o = closeF v (lst (2 * v.length) (movM C s p d)) false ∧ Own W W' z ∧ Below W.heap.size W W' := by
 obtain ⟨K, hK⟩ := shift_ev (s := s) hv hC hp hd
 obtain ⟨P, p', Q, q', v', m', e'⟩ := x
 have e1 : v' = v := congrArg Prod.fst ho
 have e2 : m' = lst (2 * v.length) C := congrArg (·.2.1) ho
 have e3 : e' = false := congrArg (·.2.2) ho
 subst e1 e2 e3
 exact of_calls2 (gimbalref12_shift.calls K P p' v' Q q' _ false (p : Int) s d _ _ _ W (hx.r0.reads hb) hx.r0.le (hx.r1.reads hb) hx.r1.le (hK K (Nat.le_refl _)))
end
end Go.Proofs.Ytphfchbggechhaa.QO
end
end
section
noncomputable section
namespace Go.Proofs.Ytphfchbggechhaa.QO
open Go.RowKit Go.Shelf YtphfchbggechhaaW.PrintWords YtphfchbggechhaaW.PrintLast YtphfchbggechhaaW.PrintMore
open Ytphfchbggechhaa.Pure
open BndF (bndF mostF loF hiF most_sm omost_ev)
set_option linter.unusedVariables false
theorem rbnd_as {w W : World} {x : OV} {v m : List Int} {e : Bool} (hx : Oc w W x) (hb : Below w.heap.size w W) (ho : x.o = (v, m, e)) (fx : OFit v m e) (lx sx y sy c : Int) {l h : Int} (hc : -1099511627776 ≤ c ∧ c ≤ 1099511627776) (h1 : -1 ≤ sx ∧ sx ≤ 1) (h2 : -1 ≤ sy ∧ sy ≤ 1) (hs : sx ≠ 0) (hp : 0 ≤ placeF v lx) (hq : sy ≠ 0 → 0 ≤ placeF v y) (ha : bndF v m e lx sx y sy c = (l, h)) :
 Says 50 #[x.val, .agg #[.int .i64 lx, .int .i64 sx, .int .i64 y, .int .i64 sy, .int .i64 c]] W (.agg #[.int .i64 l, .int .i64 h]) := by
 have HX : Aside0 (Oc W W x) := ⟨⟨⟨hx.r0.le, .inl (hx.r0.reads hb)⟩, ⟨hx.r1.le, .inl (hx.r1.reads hb)⟩⟩⟩
 have e1 : x.v = v := congrArg Prod.fst ho
 have e2 : x.m = m := congrArg (·.2.1) ho
 have e3 : x.e = e := congrArg (·.2.2) ho
 subst e1 e2 e3
 clear ho
 have l8 := fx.1.1
 rcases close_cases fx with ⟨h3, _⟩ | ⟨he, hk, h3⟩
 ·
  unfold bndF at ha
  rw [if_pos (by rw [h3])] at ha
  cases ha
  exact rbnd2_bot x lx sx y sy c HX ⟨fx⟩ ⟨show x.v.length ≤ 1000 by omega⟩ ⟨h3⟩
 ·
  have hN := snd_close (snd_of_fit (by rw [he] at fx; exact fx)) hk
  unfold bndF at ha
  rw [if_neg (by rw [h3]; simp), if_neg (fun h => by rcases h with h | h; exact absurd hp (by omega); have := hq h.1; omega)] at ha
  generalize closeM (2 * x.v.length) (lowM x.v.length x.m) = C at h3 hN ha
  have sm1 := most_sm (v := placeF x.v lx) (u := placeF x.v y) (sx := sx) (sy := sy) hN (placeF_lt x.v lx).2 (placeF_lt x.v y).2 (fun _ => hp) hq
  have sm2 := most_sm (v := placeF x.v lx) (u := placeF x.v y) (sx := -sx) (sy := -sy) hN (placeF_lt x.v lx).2 (placeF_lt x.v y).2 (fun _ => hp) (fun h => hq (by omega))
  have g1 := omost_ev fx h3 hN lx sx y sy c (fun _ => hp) hq (x.v.length + 1) (by omega)
  have g2 := omost_ev fx h3 hN lx (-sx) y (-sy) c (fun _ => hp) (fun h => hq (by omega)) (x.v.length + 1) (by omega)
  generalize mostF C (placeF x.v lx) sx (placeF x.v y) sy = a1 at *
  generalize mostF C (placeF x.v lx) (-sx) (placeF x.v y) (-sy) = a2 at *
  obtain ⟨rfl, rfl⟩ := Prod.mk.inj ha
  have wn : IntKind.i64.wrap (-sx) = -sx ∧ wrap64 (-sx) = -sx ∧ IntKind.i64.wrap (-sy) = -sy ∧ wrap64 (-sy) = -sy := by
   have e1 : wrap64 (-sx) = -sx := by unfold wrap64; omega
   have e2 : wrap64 (-sy) = -sy := by unfold wrap64; omega
   rw [IntKind.wrap_i64, IntKind.wrap_i64]
   exact ⟨by omega, e1, by omega, e2⟩
  have tsx : (sx != 0) = true := bne_iff_ne.2 hs
  exact rbnd2_in x lx sx y sy c HX ⟨fx⟩ ⟨show x.v.length ≤ 1000 by omega⟩ (K := x.v.length + 1) ⟨h3⟩ ⟨rfl⟩ ⟨rfl⟩ ⟨tsx⟩ ⟨decide_eq_false (show ¬ placeF x.v lx < 0 by omega)⟩ ⟨fun h => decide_eq_false (show ¬ placeF x.v y < 0 from by have := hq h; omega)⟩ ⟨wn⟩ ⟨g1.2⟩ ⟨g2.2⟩ ⟨fun h => by unfold hiF; rw [if_pos h]⟩ ⟨fun h => by unfold hiF; rw [if_neg h]; unfold Arith.Sm at sm1; exact ⟨by rw [IntKind.wrap_i64]; omega, by unfold wrap64; omega⟩⟩ ⟨fun h => by unfold loF; rw [if_pos h]⟩ ⟨fun h => by unfold loF; rw [if_neg h]; unfold Arith.Sm at sm2; exact ⟨by rw [IntKind.wrap_i64]; omega, by unfold wrap64; omega⟩⟩
end Go.Proofs.Ytphfchbggechhaa.QO
end
end
section
noncomputable section
namespace Go.Proofs.Ytphfchbggechhaa.QO
open Go.RowKit Go.Shelf YtphfchbggechhaaW.PrintWords YtphfchbggechhaaW.PrintLast YtphfchbggechhaaW.PrintMore
open Ytphfchbggechhaa.Pure
attribute [local go_sem] Oper.semAt_some
attribute [local go_sem ↓] Go.wp_at_zero Go.wp_at_succ
set_option linter.unusedVariables false
set_option linter.unusedSimpArgs false
def rmost_T2 : Bool × List (List Nat × List Nat) := (true, [([], []), ([], []), ([1], [1]), ([0, 2], [0, 2]), ([], []), ([4], [4]), ([3, 5, 3], [3, 5]), ([6, 6, 0, 1, 2, 3, 4, 5, 6], [6])])
def rmost_B2 : List Nat := [0, 0, 2, 7, 0, 16, 63, 127]
theorem rmost_tab2 : rtab .any (opsOf Try.f67 2) = rmost_T2 := by kernel_rfl
theorem rmost_bits2 : waitsOk rmost_T2.2 rmost_B2 = true := by kernel_rfl
def rmost_T6 : Bool × List (List Nat × List Nat) := (true, [([], []), ([], []), ([1], [1]), ([0, 2], [0, 2]), ([], []), ([4], [4]), ([3, 5, 3], [3, 5]), ([6, 6, 0, 1, 2, 3, 4, 5, 6], [6])])
def rmost_B6 : List Nat := [0, 0, 2, 7, 0, 16, 63, 127]
theorem rmost_tab6 : rtab .any (opsOf Try.f67 6) = rmost_T6 := by kernel_rfl
theorem rmost_bits6 : waitsOk rmost_T6.2 rmost_B6 = true := by kernel_rfl
def rmost_T14 : Bool × List (List Nat × List Nat) := (true, [([], []), ([0], [0]), ([], []), ([2], [2]), ([], []), ([3, 4], [3, 4]), ([], []), ([6, 3], [6]), ([5, 7], [5, 7]), ([], []), ([1, 8, 0, 1, 2, 3, 4, 5, 6, 7, 8, 9], [1, 8]), ([10, 9, 7, 0, 1, 2, 3, 4, 5, 6, 7, 8, 9], [9, 10])])
def rmost_B14 : List Nat := [0, 1, 0, 4, 0, 28, 0, 76, 252, 0, 1023, 2047]
theorem rmost_tab14 : rtab .any (opsOf Try.f67 14) = rmost_T14 := by kernel_rfl
theorem rmost_bits14 : waitsOk rmost_T14.2 rmost_B14 = true := by kernel_rfl
abbrev oX (P : Option Addr) (p0 b0 q0 : Nat) (v m : List Int) : OV := ⟨P, p0, some ⟨b0, 0, none⟩, q0, v, m, false⟩
abbrev oM (P : Option Addr) (p0 b0 q0 : Nat) (v m : List Int) : Obj := .cells #[.slice P v.length p0, .slice (some ⟨b0, 0, none⟩) m.length q0, .bool false] 25 (0, 0)
section
variable {w W : World} {os : List OV} {fs : List (Nat × Obj)} {x : OV}
theorem MS.poke {b : Nat} (h : MS w (x :: os) fs W) (hQ : x.Q = some ⟨b, 0, none⟩) (hp : 0 < x.m.length) (i u : Int) : MS w ({ x with m := x.m.set i.toNat u } :: os) fs (W.setCell ⟨b, i.toNat, none⟩ (.int .i64 u)) := by
 have hb : x.has b := by
  obtain ⟨b', cap, e, _, _, h3, _⟩ := h.S.place hp
  rw [hQ] at e
  cases e; exact h3
 refine ⟨h.S.poke hQ hp i u, h.F.far (fun f hf e => h.far f hf x m0_ (by first | exact e ▸ hb | exact e.symm ▸ hb)) _ _, fun f hf z hz => ?_⟩
 cases hz with
 | head =>
  intro hk
  refine h.far f hf x m0_ ?_
  unfold OV.has at hk ⊢
  dsimp only at hk
  rw [List.length_set] at hk
  exact hk
 | tail _ hz => exact h.far f hf z (.tail _ hz)
def amL (m : List Int) (B k1 k2 : Int) : List Int := if B > 1099511627776 then m else if (if B < -1099511627776 then -1099511627776 else B) < rd m k1 then (m.set k1.toNat (if B < -1099511627776 then -1099511627776 else B)).set k2.toNat (if B < -1099511627776 then -1099511627776 else B) else m
theorem rnode_as {a s r : Int} (h : gimbalref11_Node.f a s = some r) : Says 107 #[.int .i64 a, .int .i64 s] W (.int .i64 r) := says_of (gimbalref11_Node.calls a s _ W h)
theorem rbar_as {a r : Int} (h : gimbalref12_bar.f a = some r) : Says 108 #[.int .i64 a] W (.int .i64 r) := says_of (gimbalref12_bar.calls a _ W h)
variable {P : Option Addr} {p0 b0 q0 : Nat} {v m : List Int} {lx sx y sy c b B pI xI iI qI jI jb ib N r1 r2 k1 k2 : Int}
theorem am_one (h : Aside0 (MS w ((oX P p0 b0 q0 v m) :: os) fs W)) (LK : Aside0 (v.length ≤ 1000)) (HP : Aside0 (placeF v lx = pI)) (HN1 : Aside0 (gimbalref11_Node.f pI sx = some xI)) (HB1 : Aside0 (gimbalref12_bar.f xI = some iI)) (WN : Aside0 (IntKind.i64.wrap (2 * (v.length : Int)) = N ∧ wrap64 (2 * (v.length : Int)) = N)) (R1 : Aside0 (0 ≤ k1 ∧ k1 < (m.length : Int))) (R2 : Aside0 (0 ≤ k2 ∧ k2 < (m.length : Int))) (TY : Aside0 ((sy != 0) = false)) (WB : Aside0 (IntKind.i64.wrap (2 * b) = B ∧ wrap64 (2 * b) = B)) (WK1 : Aside0 (IntKind.i64.wrap (iI * N) = r1 ∧ wrap64 (iI * N) = r1 ∧ IntKind.i64.wrap (r1 + xI) = k1 ∧ wrap64 (r1 + xI) = k1)) (WK2 : Aside0 (IntKind.i64.wrap (jb * N) = r2 ∧ wrap64 (jb * N) = r2 ∧ IntKind.i64.wrap (r2 + ib) = k2 ∧ wrap64 (r2 + ib) = k2)) (HBJ : Aside0 (gimbalref12_bar.f xI = some jb)) (HBI : Aside0 (gimbalref12_bar.f iI = some ib)) {r : List Int} (HR : Aside0 (amL m B k1 k2 = r)) :
 Calls Try.prog 67 #[OV.val (oX P p0 b0 q0 v m), lV lx sx y sy c, .int .i64 b] W fun e W' => ∃ z : OV, e = .returned z.val ∧ z.o = (v, r, false) ∧ MS w (z :: os) fs W' := by
 have hu25 := Try.underlying25
 have hu34 := Try.underlying34
 go_enter Try.func67, Try.ntmps67
 go_upto_region 1 with fail
 have HM : Aside0 (MS w ((oX P p0 b0 q0 v m) :: os) ((W.heap.size + 2, zeroO) :: (W.heap.size + 1, lC lx sx y sy c) :: (W.heap.size, oM P p0 b0 q0 v m) :: fs) (((W.alloc (oM P p0 b0 q0 v m)).alloc (lC lx sx y sy c)).alloc (zeroO))) := ⟨(MS.new (MS.new (MS.new h.out _ rfl) _ (by simp)) _ (by simp))⟩
 clear h
 generalize hW_ : (((W.alloc (oM P p0 b0 q0 v m)).alloc (lC lx sx y sy c)).alloc (zeroO)) = wk at HM ⊢; clear hW_
 generalize hg_ : W.heap.size + 2 = gr at HM ⊢; clear hg_
 generalize hg_ : W.heap.size + 1 = gl at HM ⊢; clear hg_
 generalize hg_ : W.heap.size = go at HM ⊢; clear hg_
 obtain ⟨s1, s1'⟩ := WN.out
 have kgo := MS.c3 HM m2_
 go_upto_region 2 with fail
 clear s1 s1'
 replace HM := MS.dr HM
 clear kgo
 refine st_ 8 (fun w' => w'.cell? ⟨go, 0, none⟩ = some (.slice P v.length p0) ∧ w'.cell? ⟨go, 1, none⟩ = some (.slice (some ⟨b0, 0, none⟩) m.length q0) ∧ w'.cell? ⟨go, 2, none⟩ = some (.bool false) ∧ w'.cell? ⟨gl, 0, none⟩ = some (.int .i64 lx) ∧ w'.cell? ⟨gl, 1, none⟩ = some (.int .i64 sx)) [] ⟨MS.k HM m2_ 0 rfl, MS.k HM m2_ 1 rfl, MS.k HM m2_ 2 rfl, MS.k HM m1_ 0 rfl, MS.k HM m1_ 1 rfl⟩ (fun hHeld => ?_)
 refine with_tabW rmost_tab2 rmost_bits2 (fun HT_ HW_ => ?_)
 generalize World.drew _ = wk at HM hHeld ⊢
 refine tV_ 0 15 (mB 8 1) HT_ HW_ hHeld ?_
 refine pV_ 1 16 (mB 8 3) HT_ ?_
 refine tV_ 2 17 (mB 8 7) HT_ HW_ hHeld ?_
 refine pV_ 4 19 (mB 8 23) HT_ ?_
 refine tV_ 5 20 (mB 8 55) HT_ HW_ hHeld ?_
 refine on_ 3 (some 18) (mB 8 63) HT_ (fun K hK => ?_)
 refine gs_ Try.func28 #[(OV.val (oX P p0 b0 q0 v m)), .int .i64 lx] ?_
 with_reducible refine sk_ (rplace_as (MS.oc HM m0_) (MS.bel HM) rfl LK.out lx HP.out) fun wk hb => ?_
 replace HM := MS.nx HM hb; clear hb
 refine hK.out _ _ ⟨MS.k HM m2_ 0 rfl, MS.k HM m2_ 1 rfl, MS.k HM m2_ 2 rfl, MS.k HM m1_ 0 rfl, MS.k HM m1_ 1 rfl⟩ (fun hHeld => ?_)
 clear hK K
 refine nO_ 18 ?_
 refine on_ 6 (some 21) (mB 8 127) HT_ (fun K hK => ?_)
 refine gs_ Try.func107 #[.int .i64 pI, .int .i64 sx] ?_
 with_reducible refine sk_ (rnode_as HN1.out) fun wk hb => ?_
 replace HM := MS.nx HM hb; clear hb
 refine hK.out _ _ ⟨MS.k HM m2_ 0 rfl, MS.k HM m2_ 1 rfl, MS.k HM m2_ 2 rfl, MS.k HM m1_ 0 rfl, MS.k HM m1_ 1 rfl⟩ (fun hHeld => ?_)
 clear hK K
 refine nO_ 21 ?_
 refine pV_ 7 8 (mB 8 255) HT_ ?_
 refine dn_ HT_ ?_
 clear HT_ HW_ hHeld
 have t1 := TY.out
 obtain ⟨s1, s1'⟩ := WB.out
 have kgl := MS.c5 HM m1_; have kgo := MS.c3 HM m2_
 go_upto_region 8 with (first | (go_at_call 108; (with_reducible refine (rbar_as HB1.out).mono ?_); rintro e wk ⟨rfl, hb⟩; replace HM := MS.nx HM hb; clear hb; replace kgl := MS.c5 HM m1_; replace kgo := MS.c3 HM m2_))
 clear t1 s1 s1'
 by_cases c1 : B > 1099511627776
 ·
  have hr : m = r := by rw [← HR.out]; unfold amL; rw [if_pos c1]
  subst hr
  have TM : Aside0 (decide (B > 1099511627776) = true ∧ decide (1099511627776 < B) = true) := ⟨decide_eq_true c1, decide_eq_true c1⟩
  clear c1 HR
  obtain ⟨t2, t2'⟩ := TM.out
  have kgr := MS.c3 HM m0_
  go_wp2
  replace HM : Aside0 (MS w ((oX P p0 b0 q0 v m) :: os) ((gr, oM P p0 b0 q0 v m) :: (gl, lC lx sx y sy c) :: (go, oM P p0 b0 q0 v m) :: fs) _) := ⟨MS.put3 [] HM.out (a' := .slice P v.length p0) (b' := .slice (some ⟨b0, 0, none⟩) m.length q0) (c' := .bool false)⟩
  generalize World.setCell _ _ _ = wk at HM ⊢
  refine MS.rt HM m0_ ?_
  exact ⟨(oX P p0 b0 q0 v m), rfl, (by first | rfl | exact ⟨rfl, rfl, rfl⟩), HM.out.sub (.refl _) (((List.Sublist.refl _).cons _ |>.cons _) |>.cons _)⟩
 ·
  by_cases c2 : B < -1099511627776
  ·
   by_cases c3 : (-1099511627776) < rd m k1
   ·
    obtain rfl : r = ((m.set k1.toNat (-1099511627776)).set k2.toNat (-1099511627776)) := by rw [← HR.out]; unfold amL; rw [if_neg c1, if_pos c2, if_pos c3]
    have TM : Aside0 (decide (B > 1099511627776) = false ∧ decide (1099511627776 < B) = false) := ⟨decide_eq_false c1, decide_eq_false c1⟩
    have TC : Aside0 (decide (B < -1099511627776) = true) := ⟨decide_eq_true c2⟩
    have TD : Aside0 (decide ((-1099511627776) < rd m k1) = true) := ⟨decide_eq_true c3⟩
    clear c1 c2 c3 HR
    obtain ⟨t2, t2'⟩ := TM.out
    have t3 := TC.out
    have kgr := MS.c3 HM m0_
    go_upto_region 12 with fail
    clear t2 t2' t3
    have t4 : decide ((-1099511627776) < rdOf 0 m k1) = true := TD.out; have p1 := eq_true R1.out.1; have p2 := eq_true R1.out.2; obtain ⟨s1, s1', s2, s2'⟩ := WK1.out; obtain ⟨hx0, hfx⟩ := Kd.R_cell 0 (HM.out.S.own _ m0_).r1 k1 R1.out.1 R1.out.2
    go_upto_region 14 with fail
    clear t4 p1 p2 s1 s1' s2 s2' hx0 hfx
    replace HM : Aside0 (MS w ((oX P p0 b0 q0 v (m.set k1.toNat (-1099511627776))) :: os) ((gr, zeroO) :: (gl, lC lx sx y sy c) :: (go, oM P p0 b0 q0 v m) :: fs) _) := ⟨HM.out.poke rfl (by simp only [List.length_set]; have := R1.out; omega) k1 (-1099511627776)⟩
    generalize hW_ : World.setCell _ _ _ = wk at HM ⊢; clear hW_
    have p1 := eq_true R2.out.1; have p2 := eq_true R2.out.2; obtain ⟨s1, s1', s2, s2'⟩ := WK2.out
    replace HM := MS.dr HM
    clear kgl kgo kgr
    refine st_ 12 (fun w' => w'.cell? ⟨go, 1, none⟩ = some (.slice (some ⟨b0, 0, none⟩) m.length q0)) [11] (MS.k HM m2_ 1 rfl) (fun hHeld => ?_)
    refine with_tabW rmost_tab14 rmost_bits14 (fun HT_ HW_ => ?_)
    generalize World.drew _ = wk at HM hHeld ⊢
    refine pV_ 0 62 (mB 12 1) HT_ ?_
    refine tV_ 1 63 (mB 12 3) HT_ HW_ hHeld ?_
    refine pV_ 2 64 (mB 12 7) HT_ ?_
    refine pV_ 4 66 (mB 12 23) HT_ ?_
    refine pV_ 6 68 (mB 12 87) HT_ ?_
    refine pV_ 9 71 (mB 12 599) HT_ ?_
    refine on_ 3 (some 65) (mB 12 607) HT_ (fun K hK => ?_)
    refine gs_ Try.func108 #[.int .i64 xI] ?_
    with_reducible refine sk_ (rbar_as HBJ.out) fun wk hb => ?_
    replace HM := MS.nx HM hb; clear hb
    refine hK.out _ _ (MS.k HM m2_ 1 rfl) (fun hHeld => ?_)
    clear hK K
    refine nO_ 65 ?_
    refine pV_ 5 67 (mB 12 639) HT_ ?_
    refine on_ 7 (some 69) (mB 12 767) HT_ (fun K hK => ?_)
    refine gs_ Try.func108 #[.int .i64 iI] ?_
    with_reducible refine sk_ (rbar_as HBI.out) fun wk hb => ?_
    replace HM := MS.nx HM hb; clear hb
    refine hK.out _ _ (MS.k HM m2_ 1 rfl) (fun hHeld => ?_)
    clear hK K
    refine nO_ 69 ?_
    refine pV_ 8 70 (mB 12 1023) HT_ ?_
    obtain ⟨hx0, hfx⟩ := Kd.R_cell 0 (HM.out.S.own _ m0_).r1 k2 R2.out.1 (by simp only [List.length_set]; exact R2.out.2)
    refine pV_ 10 72 (mB 12 2047) HT_ ?_
    have kgr := MS.c3 HM m0_; have kgl := MS.c5 HM m1_; have kgo := MS.c3 HM m2_
    refine la_ 11 (mB 12 4095) HT_ (fun K hK => ?_)
    refine skip_ (w1 := ?_) (by rfl) rfl ?_ ?_
    rotate_left
    ·
     go_simp
     rfl
    refine hK.out _ _ ?_
    clear hK K
    refine dn_ HT_ ?_
    clear HT_ HW_ hHeld
    clear p1 p2 s1 s1' s2 s2' hx0 hfx
    replace HM : Aside0 (MS w ((oX P p0 b0 q0 v ((m.set k1.toNat (-1099511627776)).set k2.toNat (-1099511627776))) :: os) ((gr, zeroO) :: (gl, lC lx sx y sy c) :: (go, oM P p0 b0 q0 v m) :: fs) _) := ⟨HM.out.poke rfl (by simp only [List.length_set]; have := R1.out; omega) k2 (-1099511627776)⟩
    generalize hW_ : World.setCell _ _ _ = wk at HM ⊢; clear hW_
    replace kgr := MS.c3 HM m0_; replace kgo := MS.c3 HM m2_
    go_wp2
    replace HM : Aside0 (MS w ((oX P p0 b0 q0 v ((m.set k1.toNat (-1099511627776)).set k2.toNat (-1099511627776))) :: os) ((gr, oM P p0 b0 q0 v m) :: (gl, lC lx sx y sy c) :: (go, oM P p0 b0 q0 v m) :: fs) _) := ⟨MS.put3 [] HM.out (a' := .slice P v.length p0) (b' := .slice (some ⟨b0, 0, none⟩) m.length q0) (c' := .bool false)⟩
    generalize World.setCell _ _ _ = wk at HM ⊢
    refine MS.rt HM m0_ ?_
    exact ⟨(oX P p0 b0 q0 v ((m.set k1.toNat (-1099511627776)).set k2.toNat (-1099511627776))), by simp [OV.val], (by first | rfl | exact ⟨rfl, rfl, rfl⟩), HM.out.sub (.refl _) (((List.Sublist.refl _).cons _ |>.cons _) |>.cons _)⟩
   ·
    have hr : m = r := by rw [← HR.out]; unfold amL; rw [if_neg c1, if_pos c2, if_neg c3]
    subst hr
    have TM : Aside0 (decide (B > 1099511627776) = false ∧ decide (1099511627776 < B) = false) := ⟨decide_eq_false c1, decide_eq_false c1⟩
    have TC : Aside0 (decide (B < -1099511627776) = true) := ⟨decide_eq_true c2⟩
    have TD : Aside0 (decide ((-1099511627776) < rd m k1) = false) := ⟨decide_eq_false c3⟩
    clear c1 c2 c3 HR
    obtain ⟨t2, t2'⟩ := TM.out
    have t3 := TC.out
    have kgr := MS.c3 HM m0_
    go_upto_region 12 with fail
    clear t2 t2' t3
    have t4 : decide ((-1099511627776) < rdOf 0 m k1) = false := TD.out; have p1 := eq_true R1.out.1; have p2 := eq_true R1.out.2; obtain ⟨s1, s1', s2, s2'⟩ := WK1.out; obtain ⟨hx0, hfx⟩ := Kd.R_cell 0 (HM.out.S.own _ m0_).r1 k1 R1.out.1 R1.out.2
    go_wp2
    clear t4 p1 p2 s1 s1' s2 s2' hx0 hfx
    replace HM : Aside0 (MS w ((oX P p0 b0 q0 v m) :: os) ((gr, oM P p0 b0 q0 v m) :: (gl, lC lx sx y sy c) :: (go, oM P p0 b0 q0 v m) :: fs) _) := ⟨MS.put3 [] HM.out (a' := .slice P v.length p0) (b' := .slice (some ⟨b0, 0, none⟩) m.length q0) (c' := .bool false)⟩
    generalize World.setCell _ _ _ = wk at HM ⊢
    refine MS.rt HM m0_ ?_
    exact ⟨(oX P p0 b0 q0 v m), rfl, (by first | rfl | exact ⟨rfl, rfl, rfl⟩), HM.out.sub (.refl _) (((List.Sublist.refl _).cons _ |>.cons _) |>.cons _)⟩
  ·
   by_cases c3 : B < rd m k1
   ·
    obtain rfl : r = ((m.set k1.toNat B).set k2.toNat B) := by rw [← HR.out]; unfold amL; rw [if_neg c1, if_neg c2, if_pos c3]
    have TM : Aside0 (decide (B > 1099511627776) = false ∧ decide (1099511627776 < B) = false) := ⟨decide_eq_false c1, decide_eq_false c1⟩
    have TC : Aside0 (decide (B < -1099511627776) = false) := ⟨decide_eq_false c2⟩
    have TD : Aside0 (decide (B < rd m k1) = true) := ⟨decide_eq_true c3⟩
    clear c1 c2 c3 HR
    obtain ⟨t2, t2'⟩ := TM.out
    have t3 := TC.out
    have kgr := MS.c3 HM m0_
    go_upto_region 12 with fail
    clear t2 t2' t3
    have t4 : decide (B < rdOf 0 m k1) = true := TD.out; have p1 := eq_true R1.out.1; have p2 := eq_true R1.out.2; obtain ⟨s1, s1', s2, s2'⟩ := WK1.out; obtain ⟨hx0, hfx⟩ := Kd.R_cell 0 (HM.out.S.own _ m0_).r1 k1 R1.out.1 R1.out.2
    go_upto_region 14 with fail
    clear t4 p1 p2 s1 s1' s2 s2' hx0 hfx
    replace HM : Aside0 (MS w ((oX P p0 b0 q0 v (m.set k1.toNat B)) :: os) ((gr, zeroO) :: (gl, lC lx sx y sy c) :: (go, oM P p0 b0 q0 v m) :: fs) _) := ⟨HM.out.poke rfl (by simp only [List.length_set]; have := R1.out; omega) k1 B⟩
    generalize hW_ : World.setCell _ _ _ = wk at HM ⊢; clear hW_
    have p1 := eq_true R2.out.1; have p2 := eq_true R2.out.2; obtain ⟨s1, s1', s2, s2'⟩ := WK2.out
    replace HM := MS.dr HM
    clear kgl kgo kgr
    refine st_ 12 (fun w' => w'.cell? ⟨go, 1, none⟩ = some (.slice (some ⟨b0, 0, none⟩) m.length q0)) [11] (MS.k HM m2_ 1 rfl) (fun hHeld => ?_)
    refine with_tabW rmost_tab14 rmost_bits14 (fun HT_ HW_ => ?_)
    generalize World.drew _ = wk at HM hHeld ⊢
    refine pV_ 0 62 (mB 12 1) HT_ ?_
    refine tV_ 1 63 (mB 12 3) HT_ HW_ hHeld ?_
    refine pV_ 2 64 (mB 12 7) HT_ ?_
    refine pV_ 4 66 (mB 12 23) HT_ ?_
    refine pV_ 6 68 (mB 12 87) HT_ ?_
    refine pV_ 9 71 (mB 12 599) HT_ ?_
    refine on_ 3 (some 65) (mB 12 607) HT_ (fun K hK => ?_)
    refine gs_ Try.func108 #[.int .i64 xI] ?_
    with_reducible refine sk_ (rbar_as HBJ.out) fun wk hb => ?_
    replace HM := MS.nx HM hb; clear hb
    refine hK.out _ _ (MS.k HM m2_ 1 rfl) (fun hHeld => ?_)
    clear hK K
    refine nO_ 65 ?_
    refine pV_ 5 67 (mB 12 639) HT_ ?_
    refine on_ 7 (some 69) (mB 12 767) HT_ (fun K hK => ?_)
    refine gs_ Try.func108 #[.int .i64 iI] ?_
    with_reducible refine sk_ (rbar_as HBI.out) fun wk hb => ?_
    replace HM := MS.nx HM hb; clear hb
    refine hK.out _ _ (MS.k HM m2_ 1 rfl) (fun hHeld => ?_)
    clear hK K
    refine nO_ 69 ?_
    refine pV_ 8 70 (mB 12 1023) HT_ ?_
    obtain ⟨hx0, hfx⟩ := Kd.R_cell 0 (HM.out.S.own _ m0_).r1 k2 R2.out.1 (by simp only [List.length_set]; exact R2.out.2)
    refine pV_ 10 72 (mB 12 2047) HT_ ?_
    have kgr := MS.c3 HM m0_; have kgl := MS.c5 HM m1_; have kgo := MS.c3 HM m2_
    refine la_ 11 (mB 12 4095) HT_ (fun K hK => ?_)
    refine skip_ (w1 := ?_) (by rfl) rfl ?_ ?_
    rotate_left
    ·
     go_simp
     rfl
    refine hK.out _ _ ?_
    clear hK K
    refine dn_ HT_ ?_
    clear HT_ HW_ hHeld
    clear p1 p2 s1 s1' s2 s2' hx0 hfx
    replace HM : Aside0 (MS w ((oX P p0 b0 q0 v ((m.set k1.toNat B).set k2.toNat B)) :: os) ((gr, zeroO) :: (gl, lC lx sx y sy c) :: (go, oM P p0 b0 q0 v m) :: fs) _) := ⟨HM.out.poke rfl (by simp only [List.length_set]; have := R1.out; omega) k2 B⟩
    generalize hW_ : World.setCell _ _ _ = wk at HM ⊢; clear hW_
    replace kgr := MS.c3 HM m0_; replace kgo := MS.c3 HM m2_
    go_wp2
    replace HM : Aside0 (MS w ((oX P p0 b0 q0 v ((m.set k1.toNat B).set k2.toNat B)) :: os) ((gr, oM P p0 b0 q0 v m) :: (gl, lC lx sx y sy c) :: (go, oM P p0 b0 q0 v m) :: fs) _) := ⟨MS.put3 [] HM.out (a' := .slice P v.length p0) (b' := .slice (some ⟨b0, 0, none⟩) m.length q0) (c' := .bool false)⟩
    generalize World.setCell _ _ _ = wk at HM ⊢
    refine MS.rt HM m0_ ?_
    exact ⟨(oX P p0 b0 q0 v ((m.set k1.toNat B).set k2.toNat B)), by simp [OV.val], (by first | rfl | exact ⟨rfl, rfl, rfl⟩), HM.out.sub (.refl _) (((List.Sublist.refl _).cons _ |>.cons _) |>.cons _)⟩
   ·
    have hr : m = r := by rw [← HR.out]; unfold amL; rw [if_neg c1, if_neg c2, if_neg c3]
    subst hr
    have TM : Aside0 (decide (B > 1099511627776) = false ∧ decide (1099511627776 < B) = false) := ⟨decide_eq_false c1, decide_eq_false c1⟩
    have TC : Aside0 (decide (B < -1099511627776) = false) := ⟨decide_eq_false c2⟩
    have TD : Aside0 (decide (B < rd m k1) = false) := ⟨decide_eq_false c3⟩
    clear c1 c2 c3 HR
    obtain ⟨t2, t2'⟩ := TM.out
    have t3 := TC.out
    have kgr := MS.c3 HM m0_
    go_upto_region 12 with fail
    clear t2 t2' t3
    have t4 : decide (B < rdOf 0 m k1) = false := TD.out; have p1 := eq_true R1.out.1; have p2 := eq_true R1.out.2; obtain ⟨s1, s1', s2, s2'⟩ := WK1.out; obtain ⟨hx0, hfx⟩ := Kd.R_cell 0 (HM.out.S.own _ m0_).r1 k1 R1.out.1 R1.out.2
    go_wp2
    clear t4 p1 p2 s1 s1' s2 s2' hx0 hfx
    replace HM : Aside0 (MS w ((oX P p0 b0 q0 v m) :: os) ((gr, oM P p0 b0 q0 v m) :: (gl, lC lx sx y sy c) :: (go, oM P p0 b0 q0 v m) :: fs) _) := ⟨MS.put3 [] HM.out (a' := .slice P v.length p0) (b' := .slice (some ⟨b0, 0, none⟩) m.length q0) (c' := .bool false)⟩
    generalize World.setCell _ _ _ = wk at HM ⊢
    refine MS.rt HM m0_ ?_
    exact ⟨(oX P p0 b0 q0 v m), rfl, (by first | rfl | exact ⟨rfl, rfl, rfl⟩), HM.out.sub (.refl _) (((List.Sublist.refl _).cons _ |>.cons _) |>.cons _)⟩
theorem am_two (h : Aside0 (MS w ((oX P p0 b0 q0 v m) :: os) fs W)) (LK : Aside0 (v.length ≤ 1000)) (HP : Aside0 (placeF v lx = pI)) (HN1 : Aside0 (gimbalref11_Node.f pI sx = some xI)) (HB1 : Aside0 (gimbalref12_bar.f xI = some iI)) (WN : Aside0 (IntKind.i64.wrap (2 * (v.length : Int)) = N ∧ wrap64 (2 * (v.length : Int)) = N)) (R1 : Aside0 (0 ≤ k1 ∧ k1 < (m.length : Int))) (R2 : Aside0 (0 ≤ k2 ∧ k2 < (m.length : Int))) (TY : Aside0 ((sy != 0) = true)) (HQ : Aside0 (placeF v y = qI)) (HN2 : Aside0 (gimbalref11_Node.f qI sy = some jI)) (WK1 : Aside0 (IntKind.i64.wrap (iI * N) = r1 ∧ wrap64 (iI * N) = r1 ∧ IntKind.i64.wrap (r1 + jI) = k1 ∧ wrap64 (r1 + jI) = k1)) (WK2 : Aside0 (IntKind.i64.wrap (jb * N) = r2 ∧ wrap64 (jb * N) = r2 ∧ IntKind.i64.wrap (r2 + ib) = k2 ∧ wrap64 (r2 + ib) = k2)) (HBJ : Aside0 (gimbalref12_bar.f jI = some jb)) (HBI : Aside0 (gimbalref12_bar.f iI = some ib)) {r : List Int} (HR : Aside0 (amL m b k1 k2 = r)) :
 Calls Try.prog 67 #[OV.val (oX P p0 b0 q0 v m), lV lx sx y sy c, .int .i64 b] W fun e W' => ∃ z : OV, e = .returned z.val ∧ z.o = (v, r, false) ∧ MS w (z :: os) fs W' := by
 have hu25 := Try.underlying25
 have hu34 := Try.underlying34
 go_enter Try.func67, Try.ntmps67
 go_upto_region 1 with fail
 have HM : Aside0 (MS w ((oX P p0 b0 q0 v m) :: os) ((W.heap.size + 2, zeroO) :: (W.heap.size + 1, lC lx sx y sy c) :: (W.heap.size, oM P p0 b0 q0 v m) :: fs) (((W.alloc (oM P p0 b0 q0 v m)).alloc (lC lx sx y sy c)).alloc (zeroO))) := ⟨(MS.new (MS.new (MS.new h.out _ rfl) _ (by simp)) _ (by simp))⟩
 clear h
 generalize hW_ : (((W.alloc (oM P p0 b0 q0 v m)).alloc (lC lx sx y sy c)).alloc (zeroO)) = wk at HM ⊢; clear hW_
 generalize hg_ : W.heap.size + 2 = gr at HM ⊢; clear hg_
 generalize hg_ : W.heap.size + 1 = gl at HM ⊢; clear hg_
 generalize hg_ : W.heap.size = go at HM ⊢; clear hg_
 obtain ⟨s1, s1'⟩ := WN.out
 have kgo := MS.c3 HM m2_
 go_upto_region 2 with fail
 clear s1 s1'
 replace HM := MS.dr HM
 clear kgo
 refine st_ 8 (fun w' => w'.cell? ⟨go, 0, none⟩ = some (.slice P v.length p0) ∧ w'.cell? ⟨go, 1, none⟩ = some (.slice (some ⟨b0, 0, none⟩) m.length q0) ∧ w'.cell? ⟨go, 2, none⟩ = some (.bool false) ∧ w'.cell? ⟨gl, 0, none⟩ = some (.int .i64 lx) ∧ w'.cell? ⟨gl, 1, none⟩ = some (.int .i64 sx)) [] ⟨MS.k HM m2_ 0 rfl, MS.k HM m2_ 1 rfl, MS.k HM m2_ 2 rfl, MS.k HM m1_ 0 rfl, MS.k HM m1_ 1 rfl⟩ (fun hHeld => ?_)
 refine with_tabW rmost_tab2 rmost_bits2 (fun HT_ HW_ => ?_)
 generalize World.drew _ = wk at HM hHeld ⊢
 refine tV_ 0 15 (mB 8 1) HT_ HW_ hHeld ?_
 refine pV_ 1 16 (mB 8 3) HT_ ?_
 refine tV_ 2 17 (mB 8 7) HT_ HW_ hHeld ?_
 refine pV_ 4 19 (mB 8 23) HT_ ?_
 refine tV_ 5 20 (mB 8 55) HT_ HW_ hHeld ?_
 refine on_ 3 (some 18) (mB 8 63) HT_ (fun K hK => ?_)
 refine gs_ Try.func28 #[(OV.val (oX P p0 b0 q0 v m)), .int .i64 lx] ?_
 with_reducible refine sk_ (rplace_as (MS.oc HM m0_) (MS.bel HM) rfl LK.out lx HP.out) fun wk hb => ?_
 replace HM := MS.nx HM hb; clear hb
 refine hK.out _ _ ⟨MS.k HM m2_ 0 rfl, MS.k HM m2_ 1 rfl, MS.k HM m2_ 2 rfl, MS.k HM m1_ 0 rfl, MS.k HM m1_ 1 rfl⟩ (fun hHeld => ?_)
 clear hK K
 refine nO_ 18 ?_
 refine on_ 6 (some 21) (mB 8 127) HT_ (fun K hK => ?_)
 refine gs_ Try.func107 #[.int .i64 pI, .int .i64 sx] ?_
 with_reducible refine sk_ (rnode_as HN1.out) fun wk hb => ?_
 replace HM := MS.nx HM hb; clear hb
 refine hK.out _ _ ⟨MS.k HM m2_ 0 rfl, MS.k HM m2_ 1 rfl, MS.k HM m2_ 2 rfl, MS.k HM m1_ 0 rfl, MS.k HM m1_ 1 rfl⟩ (fun hHeld => ?_)
 clear hK K
 refine nO_ 21 ?_
 refine pV_ 7 8 (mB 8 255) HT_ ?_
 refine dn_ HT_ ?_
 clear HT_ HW_ hHeld
 have t1 := TY.out
 have kgl := MS.c5 HM m1_
 go_upto_region 6 with (first | (go_at_call 108; (with_reducible refine (rbar_as HB1.out).mono ?_); rintro e wk ⟨rfl, hb⟩; replace HM := MS.nx HM hb; clear hb; replace kgl := MS.c5 HM m1_))
 clear t1
 replace HM := MS.dr HM
 clear kgl
 refine st_ 8 (fun w' => w'.cell? ⟨go, 0, none⟩ = some (.slice P v.length p0) ∧ w'.cell? ⟨go, 1, none⟩ = some (.slice (some ⟨b0, 0, none⟩) m.length q0) ∧ w'.cell? ⟨go, 2, none⟩ = some (.bool false) ∧ w'.cell? ⟨gl, 2, none⟩ = some (.int .i64 y) ∧ w'.cell? ⟨gl, 3, none⟩ = some (.int .i64 sy)) [] ⟨MS.k HM m2_ 0 rfl, MS.k HM m2_ 1 rfl, MS.k HM m2_ 2 rfl, MS.k HM m1_ 2 rfl, MS.k HM m1_ 3 rfl⟩ (fun hHeld => ?_)
 refine with_tabW rmost_tab6 rmost_bits6 (fun HT_ HW_ => ?_)
 generalize World.drew _ = wk at HM hHeld ⊢
 refine tV_ 0 28 (mB 8 1) HT_ HW_ hHeld ?_
 refine pV_ 1 29 (mB 8 3) HT_ ?_
 refine tV_ 2 30 (mB 8 7) HT_ HW_ hHeld ?_
 refine pV_ 4 32 (mB 8 23) HT_ ?_
 refine tV_ 5 33 (mB 8 55) HT_ HW_ hHeld ?_
 refine on_ 3 (some 31) (mB 8 63) HT_ (fun K hK => ?_)
 refine gs_ Try.func28 #[(OV.val (oX P p0 b0 q0 v m)), .int .i64 y] ?_
 with_reducible refine sk_ (rplace_as (MS.oc HM m0_) (MS.bel HM) rfl LK.out y HQ.out) fun wk hb => ?_
 replace HM := MS.nx HM hb; clear hb
 refine hK.out _ _ ⟨MS.k HM m2_ 0 rfl, MS.k HM m2_ 1 rfl, MS.k HM m2_ 2 rfl, MS.k HM m1_ 2 rfl, MS.k HM m1_ 3 rfl⟩ (fun hHeld => ?_)
 clear hK K
 refine nO_ 31 ?_
 refine on_ 6 (some 34) (mB 8 127) HT_ (fun K hK => ?_)
 refine gs_ Try.func107 #[.int .i64 qI, .int .i64 sy] ?_
 with_reducible refine sk_ (rnode_as HN2.out) fun wk hb => ?_
 replace HM := MS.nx HM hb; clear hb
 refine hK.out _ _ ⟨MS.k HM m2_ 0 rfl, MS.k HM m2_ 1 rfl, MS.k HM m2_ 2 rfl, MS.k HM m1_ 2 rfl, MS.k HM m1_ 3 rfl⟩ (fun hHeld => ?_)
 clear hK K
 refine nO_ 34 ?_
 refine pV_ 7 10 (mB 8 255) HT_ ?_
 refine dn_ HT_ ?_
 clear HT_ HW_ hHeld
 by_cases c1 : b > 1099511627776
 ·
  have hr : m = r := by rw [← HR.out]; unfold amL; rw [if_pos c1]
  subst hr
  have TM : Aside0 (decide (b > 1099511627776) = true ∧ decide (1099511627776 < b) = true) := ⟨decide_eq_true c1, decide_eq_true c1⟩
  clear c1 HR
  obtain ⟨t2, t2'⟩ := TM.out
  have kgr := MS.c3 HM m0_; have kgo := MS.c3 HM m2_
  go_wp2
  replace HM : Aside0 (MS w ((oX P p0 b0 q0 v m) :: os) ((gr, oM P p0 b0 q0 v m) :: (gl, lC lx sx y sy c) :: (go, oM P p0 b0 q0 v m) :: fs) _) := ⟨MS.put3 [] HM.out (a' := .slice P v.length p0) (b' := .slice (some ⟨b0, 0, none⟩) m.length q0) (c' := .bool false)⟩
  generalize World.setCell _ _ _ = wk at HM ⊢
  refine MS.rt HM m0_ ?_
  exact ⟨(oX P p0 b0 q0 v m), rfl, (by first | rfl | exact ⟨rfl, rfl, rfl⟩), HM.out.sub (.refl _) (((List.Sublist.refl _).cons _ |>.cons _) |>.cons _)⟩
 ·
  by_cases c2 : b < -1099511627776
  ·
   by_cases c3 : (-1099511627776) < rd m k1
   ·
    obtain rfl : r = ((m.set k1.toNat (-1099511627776)).set k2.toNat (-1099511627776)) := by rw [← HR.out]; unfold amL; rw [if_neg c1, if_pos c2, if_pos c3]
    have TM : Aside0 (decide (b > 1099511627776) = false ∧ decide (1099511627776 < b) = false) := ⟨decide_eq_false c1, decide_eq_false c1⟩
    have TC : Aside0 (decide (b < -1099511627776) = true) := ⟨decide_eq_true c2⟩
    have TD : Aside0 (decide ((-1099511627776) < rd m k1) = true) := ⟨decide_eq_true c3⟩
    clear c1 c2 c3 HR
    obtain ⟨t2, t2'⟩ := TM.out
    have t3 := TC.out
    have kgr := MS.c3 HM m0_; have kgo := MS.c3 HM m2_
    go_upto_region 12 with fail
    clear t2 t2' t3
    have t4 : decide ((-1099511627776) < rdOf 0 m k1) = true := TD.out; have p1 := eq_true R1.out.1; have p2 := eq_true R1.out.2; obtain ⟨s1, s1', s2, s2'⟩ := WK1.out; obtain ⟨hx0, hfx⟩ := Kd.R_cell 0 (HM.out.S.own _ m0_).r1 k1 R1.out.1 R1.out.2
    go_upto_region 14 with fail
    clear t4 p1 p2 s1 s1' s2 s2' hx0 hfx
    replace HM : Aside0 (MS w ((oX P p0 b0 q0 v (m.set k1.toNat (-1099511627776))) :: os) ((gr, zeroO) :: (gl, lC lx sx y sy c) :: (go, oM P p0 b0 q0 v m) :: fs) _) := ⟨HM.out.poke rfl (by simp only [List.length_set]; have := R1.out; omega) k1 (-1099511627776)⟩
    generalize hW_ : World.setCell _ _ _ = wk at HM ⊢; clear hW_
    have p1 := eq_true R2.out.1; have p2 := eq_true R2.out.2; obtain ⟨s1, s1', s2, s2'⟩ := WK2.out
    replace HM := MS.dr HM
    clear kgo kgr
    refine st_ 12 (fun w' => w'.cell? ⟨go, 1, none⟩ = some (.slice (some ⟨b0, 0, none⟩) m.length q0)) [11] (MS.k HM m2_ 1 rfl) (fun hHeld => ?_)
    refine with_tabW rmost_tab14 rmost_bits14 (fun HT_ HW_ => ?_)
    generalize World.drew _ = wk at HM hHeld ⊢
    refine pV_ 0 62 (mB 12 1) HT_ ?_
    refine tV_ 1 63 (mB 12 3) HT_ HW_ hHeld ?_
    refine pV_ 2 64 (mB 12 7) HT_ ?_
    refine pV_ 4 66 (mB 12 23) HT_ ?_
    refine pV_ 6 68 (mB 12 87) HT_ ?_
    refine pV_ 9 71 (mB 12 599) HT_ ?_
    refine on_ 3 (some 65) (mB 12 607) HT_ (fun K hK => ?_)
    refine gs_ Try.func108 #[.int .i64 jI] ?_
    with_reducible refine sk_ (rbar_as HBJ.out) fun wk hb => ?_
    replace HM := MS.nx HM hb; clear hb
    refine hK.out _ _ (MS.k HM m2_ 1 rfl) (fun hHeld => ?_)
    clear hK K
    refine nO_ 65 ?_
    refine pV_ 5 67 (mB 12 639) HT_ ?_
    refine on_ 7 (some 69) (mB 12 767) HT_ (fun K hK => ?_)
    refine gs_ Try.func108 #[.int .i64 iI] ?_
    with_reducible refine sk_ (rbar_as HBI.out) fun wk hb => ?_
    replace HM := MS.nx HM hb; clear hb
    refine hK.out _ _ (MS.k HM m2_ 1 rfl) (fun hHeld => ?_)
    clear hK K
    refine nO_ 69 ?_
    refine pV_ 8 70 (mB 12 1023) HT_ ?_
    obtain ⟨hx0, hfx⟩ := Kd.R_cell 0 (HM.out.S.own _ m0_).r1 k2 R2.out.1 (by simp only [List.length_set]; exact R2.out.2)
    refine pV_ 10 72 (mB 12 2047) HT_ ?_
    have kgr := MS.c3 HM m0_; have kgl := MS.c5 HM m1_; have kgo := MS.c3 HM m2_
    refine la_ 11 (mB 12 4095) HT_ (fun K hK => ?_)
    refine skip_ (w1 := ?_) (by rfl) rfl ?_ ?_
    rotate_left
    ·
     go_simp
     rfl
    refine hK.out _ _ ?_
    clear hK K
    refine dn_ HT_ ?_
    clear HT_ HW_ hHeld
    clear p1 p2 s1 s1' s2 s2' hx0 hfx
    replace HM : Aside0 (MS w ((oX P p0 b0 q0 v ((m.set k1.toNat (-1099511627776)).set k2.toNat (-1099511627776))) :: os) ((gr, zeroO) :: (gl, lC lx sx y sy c) :: (go, oM P p0 b0 q0 v m) :: fs) _) := ⟨HM.out.poke rfl (by simp only [List.length_set]; have := R1.out; omega) k2 (-1099511627776)⟩
    generalize hW_ : World.setCell _ _ _ = wk at HM ⊢; clear hW_
    replace kgr := MS.c3 HM m0_; replace kgo := MS.c3 HM m2_
    go_wp2
    replace HM : Aside0 (MS w ((oX P p0 b0 q0 v ((m.set k1.toNat (-1099511627776)).set k2.toNat (-1099511627776))) :: os) ((gr, oM P p0 b0 q0 v m) :: (gl, lC lx sx y sy c) :: (go, oM P p0 b0 q0 v m) :: fs) _) := ⟨MS.put3 [] HM.out (a' := .slice P v.length p0) (b' := .slice (some ⟨b0, 0, none⟩) m.length q0) (c' := .bool false)⟩
    generalize World.setCell _ _ _ = wk at HM ⊢
    refine MS.rt HM m0_ ?_
    exact ⟨(oX P p0 b0 q0 v ((m.set k1.toNat (-1099511627776)).set k2.toNat (-1099511627776))), by simp [OV.val], (by first | rfl | exact ⟨rfl, rfl, rfl⟩), HM.out.sub (.refl _) (((List.Sublist.refl _).cons _ |>.cons _) |>.cons _)⟩
   ·
    have hr : m = r := by rw [← HR.out]; unfold amL; rw [if_neg c1, if_pos c2, if_neg c3]
    subst hr
    have TM : Aside0 (decide (b > 1099511627776) = false ∧ decide (1099511627776 < b) = false) := ⟨decide_eq_false c1, decide_eq_false c1⟩
    have TC : Aside0 (decide (b < -1099511627776) = true) := ⟨decide_eq_true c2⟩
    have TD : Aside0 (decide ((-1099511627776) < rd m k1) = false) := ⟨decide_eq_false c3⟩
    clear c1 c2 c3 HR
    obtain ⟨t2, t2'⟩ := TM.out
    have t3 := TC.out
    have kgr := MS.c3 HM m0_; have kgo := MS.c3 HM m2_
    go_upto_region 12 with fail
    clear t2 t2' t3
    have t4 : decide ((-1099511627776) < rdOf 0 m k1) = false := TD.out; have p1 := eq_true R1.out.1; have p2 := eq_true R1.out.2; obtain ⟨s1, s1', s2, s2'⟩ := WK1.out; obtain ⟨hx0, hfx⟩ := Kd.R_cell 0 (HM.out.S.own _ m0_).r1 k1 R1.out.1 R1.out.2
    go_wp2
    clear t4 p1 p2 s1 s1' s2 s2' hx0 hfx
    replace HM : Aside0 (MS w ((oX P p0 b0 q0 v m) :: os) ((gr, oM P p0 b0 q0 v m) :: (gl, lC lx sx y sy c) :: (go, oM P p0 b0 q0 v m) :: fs) _) := ⟨MS.put3 [] HM.out (a' := .slice P v.length p0) (b' := .slice (some ⟨b0, 0, none⟩) m.length q0) (c' := .bool false)⟩
    generalize World.setCell _ _ _ = wk at HM ⊢
    refine MS.rt HM m0_ ?_
    exact ⟨(oX P p0 b0 q0 v m), rfl, (by first | rfl | exact ⟨rfl, rfl, rfl⟩), HM.out.sub (.refl _) (((List.Sublist.refl _).cons _ |>.cons _) |>.cons _)⟩
  ·
   by_cases c3 : b < rd m k1
   ·
    obtain rfl : r = ((m.set k1.toNat b).set k2.toNat b) := by rw [← HR.out]; unfold amL; rw [if_neg c1, if_neg c2, if_pos c3]
    have TM : Aside0 (decide (b > 1099511627776) = false ∧ decide (1099511627776 < b) = false) := ⟨decide_eq_false c1, decide_eq_false c1⟩
    have TC : Aside0 (decide (b < -1099511627776) = false) := ⟨decide_eq_false c2⟩
    have TD : Aside0 (decide (b < rd m k1) = true) := ⟨decide_eq_true c3⟩
    clear c1 c2 c3 HR
    obtain ⟨t2, t2'⟩ := TM.out
    have t3 := TC.out
    have kgr := MS.c3 HM m0_; have kgo := MS.c3 HM m2_
    go_upto_region 12 with fail
    clear t2 t2' t3
    have t4 : decide (b < rdOf 0 m k1) = true := TD.out; have p1 := eq_true R1.out.1; have p2 := eq_true R1.out.2; obtain ⟨s1, s1', s2, s2'⟩ := WK1.out; obtain ⟨hx0, hfx⟩ := Kd.R_cell 0 (HM.out.S.own _ m0_).r1 k1 R1.out.1 R1.out.2
    go_upto_region 14 with fail
    clear t4 p1 p2 s1 s1' s2 s2' hx0 hfx
    replace HM : Aside0 (MS w ((oX P p0 b0 q0 v (m.set k1.toNat b)) :: os) ((gr, zeroO) :: (gl, lC lx sx y sy c) :: (go, oM P p0 b0 q0 v m) :: fs) _) := ⟨HM.out.poke rfl (by simp only [List.length_set]; have := R1.out; omega) k1 b⟩
    generalize hW_ : World.setCell _ _ _ = wk at HM ⊢; clear hW_
    have p1 := eq_true R2.out.1; have p2 := eq_true R2.out.2; obtain ⟨s1, s1', s2, s2'⟩ := WK2.out
    replace HM := MS.dr HM
    clear kgo kgr
    refine st_ 12 (fun w' => w'.cell? ⟨go, 1, none⟩ = some (.slice (some ⟨b0, 0, none⟩) m.length q0)) [11] (MS.k HM m2_ 1 rfl) (fun hHeld => ?_)
    refine with_tabW rmost_tab14 rmost_bits14 (fun HT_ HW_ => ?_)
    generalize World.drew _ = wk at HM hHeld ⊢
    refine pV_ 0 62 (mB 12 1) HT_ ?_
    refine tV_ 1 63 (mB 12 3) HT_ HW_ hHeld ?_
    refine pV_ 2 64 (mB 12 7) HT_ ?_
    refine pV_ 4 66 (mB 12 23) HT_ ?_
    refine pV_ 6 68 (mB 12 87) HT_ ?_
    refine pV_ 9 71 (mB 12 599) HT_ ?_
    refine on_ 3 (some 65) (mB 12 607) HT_ (fun K hK => ?_)
    refine gs_ Try.func108 #[.int .i64 jI] ?_
    with_reducible refine sk_ (rbar_as HBJ.out) fun wk hb => ?_
    replace HM := MS.nx HM hb; clear hb
    refine hK.out _ _ (MS.k HM m2_ 1 rfl) (fun hHeld => ?_)
    clear hK K
    refine nO_ 65 ?_
    refine pV_ 5 67 (mB 12 639) HT_ ?_
    refine on_ 7 (some 69) (mB 12 767) HT_ (fun K hK => ?_)
    refine gs_ Try.func108 #[.int .i64 iI] ?_
    with_reducible refine sk_ (rbar_as HBI.out) fun wk hb => ?_
    replace HM := MS.nx HM hb; clear hb
    refine hK.out _ _ (MS.k HM m2_ 1 rfl) (fun hHeld => ?_)
    clear hK K
    refine nO_ 69 ?_
    refine pV_ 8 70 (mB 12 1023) HT_ ?_
    obtain ⟨hx0, hfx⟩ := Kd.R_cell 0 (HM.out.S.own _ m0_).r1 k2 R2.out.1 (by simp only [List.length_set]; exact R2.out.2)
    refine pV_ 10 72 (mB 12 2047) HT_ ?_
    have kgr := MS.c3 HM m0_; have kgl := MS.c5 HM m1_; have kgo := MS.c3 HM m2_
    refine la_ 11 (mB 12 4095) HT_ (fun K hK => ?_)
    refine skip_ (w1 := ?_) (by rfl) rfl ?_ ?_
    rotate_left
    ·
     go_simp
     rfl
    refine hK.out _ _ ?_
    clear hK K
    refine dn_ HT_ ?_
    clear HT_ HW_ hHeld
    clear p1 p2 s1 s1' s2 s2' hx0 hfx
    replace HM : Aside0 (MS w ((oX P p0 b0 q0 v ((m.set k1.toNat b).set k2.toNat b)) :: os) ((gr, zeroO) :: (gl, lC lx sx y sy c) :: (go, oM P p0 b0 q0 v m) :: fs) _) := ⟨HM.out.poke rfl (by simp only [List.length_set]; have := R1.out; omega) k2 b⟩
    generalize hW_ : World.setCell _ _ _ = wk at HM ⊢; clear hW_
    replace kgr := MS.c3 HM m0_; replace kgo := MS.c3 HM m2_
    go_wp2
    replace HM : Aside0 (MS w ((oX P p0 b0 q0 v ((m.set k1.toNat b).set k2.toNat b)) :: os) ((gr, oM P p0 b0 q0 v m) :: (gl, lC lx sx y sy c) :: (go, oM P p0 b0 q0 v m) :: fs) _) := ⟨MS.put3 [] HM.out (a' := .slice P v.length p0) (b' := .slice (some ⟨b0, 0, none⟩) m.length q0) (c' := .bool false)⟩
    generalize World.setCell _ _ _ = wk at HM ⊢
    refine MS.rt HM m0_ ?_
    exact ⟨(oX P p0 b0 q0 v ((m.set k1.toNat b).set k2.toNat b)), by simp [OV.val], (by first | rfl | exact ⟨rfl, rfl, rfl⟩), HM.out.sub (.refl _) (((List.Sublist.refl _).cons _ |>.cons _) |>.cons _)⟩
   ·
    have hr : m = r := by rw [← HR.out]; unfold amL; rw [if_neg c1, if_neg c2, if_neg c3]
    subst hr
    have TM : Aside0 (decide (b > 1099511627776) = false ∧ decide (1099511627776 < b) = false) := ⟨decide_eq_false c1, decide_eq_false c1⟩
    have TC : Aside0 (decide (b < -1099511627776) = false) := ⟨decide_eq_false c2⟩
    have TD : Aside0 (decide (b < rd m k1) = false) := ⟨decide_eq_false c3⟩
    clear c1 c2 c3 HR
    obtain ⟨t2, t2'⟩ := TM.out
    have t3 := TC.out
    have kgr := MS.c3 HM m0_; have kgo := MS.c3 HM m2_
    go_upto_region 12 with fail
    clear t2 t2' t3
    have t4 : decide (b < rdOf 0 m k1) = false := TD.out; have p1 := eq_true R1.out.1; have p2 := eq_true R1.out.2; obtain ⟨s1, s1', s2, s2'⟩ := WK1.out; obtain ⟨hx0, hfx⟩ := Kd.R_cell 0 (HM.out.S.own _ m0_).r1 k1 R1.out.1 R1.out.2
    go_wp2
    clear t4 p1 p2 s1 s1' s2 s2' hx0 hfx
    replace HM : Aside0 (MS w ((oX P p0 b0 q0 v m) :: os) ((gr, oM P p0 b0 q0 v m) :: (gl, lC lx sx y sy c) :: (go, oM P p0 b0 q0 v m) :: fs) _) := ⟨MS.put3 [] HM.out (a' := .slice P v.length p0) (b' := .slice (some ⟨b0, 0, none⟩) m.length q0) (c' := .bool false)⟩
    generalize World.setCell _ _ _ = wk at HM ⊢
    refine MS.rt HM m0_ ?_
    exact ⟨(oX P p0 b0 q0 v m), rfl, (by first | rfl | exact ⟨rfl, rfl, rfl⟩), HM.out.sub (.refl _) (((List.Sublist.refl _).cons _ |>.cons _) |>.cons _)⟩
end
theorem wk_am {n i j : Nat} (hn : n ≤ 16) (hi : i ≤ 16) (hj : j ≤ 16) : IntKind.i64.wrap ((i : Int) * (n : Int)) = ((i * n : Nat) : Int) ∧ wrap64 ((i : Int) * (n : Int)) = ((i * n : Nat) : Int) ∧ IntKind.i64.wrap (((i * n : Nat) : Int) + (j : Int)) = ((i * n + j : Nat) : Int) ∧ wrap64 (((i * n : Nat) : Int) + (j : Int)) = ((i * n + j : Nat) : Int) := by
 have m : i * n ≤ 16 * 16 := Nat.mul_le_mul hi hn
 have e : (i : Int) * (n : Int) = ((i * n : Nat) : Int) := by push_cast; rfl
 rw [e]
 generalize i * n = t at m ⊢
 refine ⟨by rw [IntKind.wrap_i64]; omega, by unfold wrap64; omega, by rw [IntKind.wrap_i64]; omega, by unfold wrap64; omega⟩
theorem am_put {n : Nat} {C : Mx} {A B : Nat} {y : Int} (hC : Snd n C) (hA : A < n) (hB : B < n) (hAB : A ≠ B) (h2 : y < C A B) : ((lst n C).set (((A * n + B : Nat) : Int)).toNat y).set (((nb B * n + nb A : Nat) : Int)).toNat y = lst n (upM C A B y) := by
 have hnb := hC.nb
 rw [lst_set hA hB rfl, lst_set (hnb B hB) (hnb A hA) rfl]
 refine lst_ext (fun i j hi hj => ?_)
 unfold upM upG
 by_cases d : i = j
 ·
  rw [if_neg, if_neg, if_pos d]
  ·
   rintro ⟨h, h'⟩; exact hAB (by omega)
  ·
   rintro ⟨h, h'⟩; exact hAB (nb_eq.1 (by omega)).symm
 ·
  rw [if_neg d]
  have hm : mn (C A B) y = y := by unfold mn; rw [if_pos h2]
  by_cases c1 : i = nb B ∧ j = nb A
  ·
   rw [if_pos c1, if_pos (.inr c1), c1.1, c1.2, ← hC.coh A B hA hB, hm]
  ·
   rw [if_neg c1]
   by_cases c2 : i = A ∧ j = B
   ·
    rw [if_pos c2, if_pos (.inl c2), c2.1, c2.2, hm]
   ·
    rw [if_neg c2, if_neg (fun h => h.elim c2 c1)]
theorem am_keep {n : Nat} {C : Mx} {A B : Nat} {y : Int} (hC : Snd n C) (hA : A < n) (hB : B < n) (h2 : ¬ y < C A B) : lst n C = lst n (upM C A B y) := by
 refine lst_ext (fun i j hi hj => ?_)
 have hm : mn (C A B) y = C A B := by unfold mn; rw [if_neg h2]
 unfold upM upG
 by_cases d : i = j
 ·
  rw [if_pos d]
 ·
  rw [if_neg d]
  by_cases c : (i = A ∧ j = B) ∨ (i = nb B ∧ j = nb A)
  ·
   rw [if_pos c]
   rcases c with ⟨rfl, rfl⟩ | ⟨rfl, rfl⟩
   ·
    exact hm.symm
   ·
    rw [← hC.coh A B hA hB]; exact hm.symm
  ·
   rw [if_neg c]
theorem atMost_ms {w W : World} {x : OV} {os : List OV} {fs : List (Nat × Obj)} {v : List Int} {C : Mx} {lx sx y sy c b : Int} {p q : Nat} (h : MS w (x :: os) fs W) (ho : x.o = (v, lst (2 * v.length) C, false)) (hv : v.length ≤ 8) (hC : Snd (2 * v.length) C) (hp : placeF v lx = (p : Int)) (hsx : sx ≠ 0) (hq : sy ≠ 0 → placeF v y = (q : Int)) (hpq : sy ≠ 0 → p ≠ q) (hb : -2199023255552 ≤ b ∧ b ≤ 2199023255552) :
 Calls Try.prog 67 #[x.val, .agg #[.int .i64 lx, .int .i64 sx, .int .i64 y, .int .i64 sy, .int .i64 c], .int .i64 b] W fun e W' => ∃ z : OV, e = .returned z.val ∧ z.o = (v, lst (2 * v.length) (amC C p sx q sy b), false) ∧ MS w (z :: os) fs W' := by
 have hl : v.length ≤ 1000 := by omega
 have pl : p < v.length := by have := placeF_lt v lx; omega
 have hP := nd_lt (n := v.length) (s := sx) pl
 have hnb := hC.nb
 obtain ⟨P, p0, Q, q0, v', m', e'⟩ := x
 have e1 : v' = v := congrArg Prod.fst ho
 have e2 : m' = lst (2 * v.length) C := congrArg (·.2.1) ho
 have e3 : e' = false := congrArg (·.2.2) ho
 subst e1 e2 e3
 have h0 : 0 < (lst (2 * v'.length) C).length := by rw [lst_length]; exact Nat.mul_pos (by omega) (by omega)
 obtain ⟨b0, cap, eQ, _⟩ := h.S.place h0
 cases eQ
 have WN : Aside0 (IntKind.i64.wrap (2 * (v'.length : Int)) = ((2 * v'.length : Nat) : Int) ∧ wrap64 (2 * (v'.length : Int)) = ((2 * v'.length : Nat) : Int)) := ⟨by rw [IntKind.wrap_i64]; omega, by unfold wrap64; omega⟩
 have N1 := rnode_f p sx (by omega) hsx
 have HB1 := bar2_f (i := nd p sx) (by omega)
 have hA := nb_lt hP
 have HBI := bar2_f (i := nb (nd p sx)) (Nat.lt_of_lt_of_le hA (by omega))
 by_cases hs : sy = 0
 ·
  have HJ := hP
  have hne : nb (nd p sx) ≠ nd p sx := nb_ne' _
  have hnbj := nb_lt HJ
  have hnba := nb_lt hA
  have n16 : 2 * v'.length ≤ 16 := by clear WN N1 HB1 HBI; omega
  have a16 : nb (nd p sx) ≤ 16 := Nat.le_trans (Nat.le_of_lt hA) n16
  have a16' : nb (nb (nd p sx)) ≤ 16 := Nat.le_trans (Nat.le_of_lt hnba) n16
  have j15 : (nd p sx) < 16 := Nat.lt_of_lt_of_le HJ n16
  have j16' : nb (nd p sx) ≤ 16 := Nat.le_trans (Nat.le_of_lt hnbj) n16
  have R1 := in_row (d := C) hA HJ
  have R2 := in_row (d := C) hnbj hnba
  have K1 := wk_am (n := 2 * v'.length) (i := nb (nd p sx)) (j := (nd p sx)) n16 a16 (Nat.le_of_lt j15)
  have K2 := wk_am (n := 2 * v'.length) (i := nb (nd p sx)) (j := nb (nb (nd p sx))) n16 j16' a16'
  have HBJ := bar2_f (i := (nd p sx)) j15
  have rk := rd_lst (C := C) hA HJ
  have ea : amC C p sx q sy b = upM C (nb (nd p sx)) (nd p sx) (clipV (2 * b)) := by unfold amC; rw [if_pos hs]
  rw [ea]
  refine am_one (h := ⟨h⟩) (LK := ⟨hl⟩) (HP := ⟨hp⟩) (HN1 := ⟨N1⟩) (HB1 := ⟨HB1⟩) (WN := WN) (R1 := ⟨R1⟩) (R2 := ⟨R2⟩) (B := 2 * b) (TY := ⟨by simpa using hs⟩) (WB := ⟨⟨by rw [IntKind.wrap_i64]; clear WN N1 HB1 HBI R1 R2 K1 K2 HBJ rk ea; omega, by unfold wrap64; clear WN N1 HB1 HBI R1 R2 K1 K2 HBJ rk ea; omega⟩⟩) (WK1 := ⟨K1⟩) (WK2 := ⟨K2⟩) (HBJ := ⟨HBJ⟩) (HBI := ⟨HBI⟩) (HR := ⟨?_⟩)
  clear WN N1 HB1 HBI R1 R2 K1 K2 HBJ ea
  unfold amL clipV
  rw [rk]
  by_cases c1 : (2 * b) > 1099511627776
  ·
   simp only [if_pos c1]; exact (lst_ext (upM_inf hC)).symm
  ·
   simp only [if_neg c1]
   generalize (if (2 * b) < -1099511627776 then -1099511627776 else (2 * b)) = u
   by_cases c3 : u < C (nb (nd p sx)) (nd p sx)
   ·
    rw [if_pos c3]; exact am_put hC hA HJ hne c3
   ·
    rw [if_neg c3]; exact am_keep hC hA HJ c3
 ·
  have ql : q < v'.length := by have := placeF_lt v' y; have := hq hs; omega
  have HJ := nd_lt (n := v'.length) (s := sy) ql
  have N2 := rnode_f q sy (by omega) hs
  have hne : nb (nd p sx) ≠ nd q sy := fun h => hpq hs (by
   have e := congrArg (· / 2) h
   try dsimp only at e
   rw [nb_half, nd_half, nd_half] at e
   exact e)
  have hnbj := nb_lt HJ
  have hnba := nb_lt hA
  have n16 : 2 * v'.length ≤ 16 := by clear WN N1 HB1 HBI; omega
  have a16 : nb (nd p sx) ≤ 16 := Nat.le_trans (Nat.le_of_lt hA) n16
  have a16' : nb (nb (nd p sx)) ≤ 16 := Nat.le_trans (Nat.le_of_lt hnba) n16
  have j15 : (nd q sy) < 16 := Nat.lt_of_lt_of_le HJ n16
  have j16' : nb (nd q sy) ≤ 16 := Nat.le_trans (Nat.le_of_lt hnbj) n16
  have R1 := in_row (d := C) hA HJ
  have R2 := in_row (d := C) hnbj hnba
  have K1 := wk_am (n := 2 * v'.length) (i := nb (nd p sx)) (j := (nd q sy)) n16 a16 (Nat.le_of_lt j15)
  have K2 := wk_am (n := 2 * v'.length) (i := nb (nd q sy)) (j := nb (nb (nd p sx))) n16 j16' a16'
  have HBJ := bar2_f (i := (nd q sy)) j15
  have rk := rd_lst (C := C) hA HJ
  have ea : amC C p sx q sy b = upM C (nb (nd p sx)) (nd q sy) (clipV b) := by unfold amC; rw [if_neg hs]
  rw [ea]
  refine am_two (h := ⟨h⟩) (LK := ⟨hl⟩) (HP := ⟨hp⟩) (HN1 := ⟨N1⟩) (HB1 := ⟨HB1⟩) (WN := WN) (R1 := ⟨R1⟩) (R2 := ⟨R2⟩) (TY := ⟨by simpa using hs⟩) (HQ := ⟨hq hs⟩) (HN2 := ⟨N2⟩) (WK1 := ⟨K1⟩) (WK2 := ⟨K2⟩) (HBJ := ⟨HBJ⟩) (HBI := ⟨HBI⟩) (HR := ⟨?_⟩)
  clear WN N1 HB1 HBI R1 R2 K1 K2 HBJ ea
  unfold amL clipV
  rw [rk]
  by_cases c1 : b > 1099511627776
  ·
   simp only [if_pos c1]; exact (lst_ext (upM_inf hC)).symm
  ·
   simp only [if_neg c1]
   generalize (if b < -1099511627776 then -1099511627776 else b) = u
   by_cases c3 : u < C (nb (nd p sx)) (nd q sy)
   ·
    rw [if_pos c3]; exact am_put hC hA HJ hne c3
   ·
    rw [if_neg c3]; exact am_keep hC hA HJ c3
def rguard_T12 : Bool × List (List Nat × List Nat) := (true, [([], []), ([], []), ([], []), ([2], [2]), ([], []), ([4], [4]), ([3, 5], [3, 5]), ([6], [6]), ([0, 1, 7, 7], [0, 1, 7]), ([8, 8, 0, 1, 2, 3, 4, 5, 6, 7, 8], [8])])
def rguard_B12 : List Nat := [0, 0, 0, 4, 0, 16, 60, 124, 255, 511]
theorem rguard_tab12 : rtab .any (opsOf Try.f20 12) = rguard_T12 := by kernel_rfl
theorem rguard_bits12 : waitsOk rguard_T12.2 rguard_B12 = true := by kernel_rfl
def rguard_T17 : Bool × List (List Nat × List Nat) := (true, [([], []), ([], []), ([], []), ([2], [2]), ([], []), ([4], [4]), ([3, 5], [3, 5]), ([6], [6]), ([0, 1, 7, 7], [0, 1, 7]), ([8, 8, 0, 1, 2, 3, 4, 5, 6, 7, 8], [8])])
def rguard_B17 : List Nat := [0, 0, 0, 4, 0, 16, 60, 124, 255, 511]
theorem rguard_tab17 : rtab .any (opsOf Try.f20 17) = rguard_T17 := by kernel_rfl
theorem rguard_bits17 : waitsOk rguard_T17.2 rguard_B17 = true := by kernel_rfl
theorem among_asE {w W : World} {X : OV} {v m : List Int} {e : Bool} {lx sx y sy c : Int} {t : Bool} (hx : Oc w W X) (hb : Below w.heap.size w W) (ho : X.o = (v, m, e)) (l : v.length ≤ 1000) (h : ofB v lx sx y sy c = t) (he : X.e = e) : Says 62 #[.agg #[.slice X.P X.v.length X.p, .slice X.Q X.m.length X.q, .bool e], lV lx sx y sy c] W (.bool t) := by
 subst he
 exact among_as hx hb ho l h
theorem rbottom_as {w W : World} {X : OV} {v m : List Int} {e : Bool} (hx : Oc w W X) (hb : Below w.heap.size w W) (ho : X.o = (v, m, e)) (hv : VarsOk v) :
 Calls Try.prog 65 #[.slice X.P X.v.length X.p] W fun e W' => ∃ z : OV, e = .returned z.val ∧ z.o = (v, [], true) ∧ Own W W' z ∧ Below W.heap.size W W' := by
 have e1 : X.v = v := congrArg Prod.fst ho
 rw [← e1] at hv ⊢
 exact rbottom_own hx.r0 hb hv
theorem atMost_o {w W : World} {x : OV} {os : List OV} {fs : List (Nat × Obj)} {v : List Int} {C : Mx} {lx sx y sy c b : Int} {p q : Nat} (h : MS w (x :: os) fs W) (ho : x.o = (v, lst (2 * v.length) C, false)) (hv : v.length ≤ 8) (hC : Snd (2 * v.length) C) (hp : placeF v lx = (p : Int)) (hsx : sx ≠ 0) (hq : sy ≠ 0 → placeF v y = (q : Int)) (hpq : sy ≠ 0 → p ≠ q) (hb : -2199023255552 ≤ b ∧ b ≤ 2199023255552) :
 Calls Try.prog 67 #[x.val, lV lx sx y sy c, .int .i64 b] W fun e W' => ∃ z : OV, e = .returned z.val ∧ z.o = (v, lst (2 * v.length) (amC C p sx q sy b), false) ∧ MS w (z :: os) fs W' := atMost_ms h ho hv hC hp hsx hq hpq hb
theorem amC_snd {n p q : Nat} {C : Mx} {sx sy b : Int} (hC : Snd n C) : Snd n (amC C p sx q sy b) := by
 unfold amC; split <;> exact upM_snd hC (clip_bd _)
theorem upC_ext' {n p q : Nat} {A B : Mx} {sx sy h : Int} (e : ∀ i j, i < n → j < n → A i j = B i j) : ∀ i j, i < n → j < n → upC A p sx q sy h i j = upC B p sx q sy h i j := by
 have um : ∀ a b h, ∀ i j, i < n → j < n → upM A a b h i j = upM B a b h i j := fun a b h i j hi hj => by unfold upM; rw [e i j hi hj]
 unfold upC
 split
 ·
  exact e
 ·
  split <;> exact um _ _ _
theorem lst_at_ {n : Nat} {A B : Mx} (h : lst n A = lst n B) (i j : Nat) (hi : i < n) (hj : j < n) : A i j = B i j := by
 have h1 := rd_lst (C := A) hi hj
 have h2 := rd_lst (C := B) hi hj
 rw [← h1, ← h2, h]
theorem rg_not (X : OV) (x sx y sy c lo hi : Int) {cm : List Int} {ce : Bool} {w : World} (HX : Aside0 (Oc w w X)) (FX_ : Aside0 (OFit X.v X.m X.e)) (LK : Aside0 (X.v.length ≤ 1000)) (HC : Aside0 (closeF X.v X.m X.e = (X.v, cm, ce))) (HOF : Aside0 (ofB X.v x sx y sy c = false)) :
 Calls Try.prog 20 #[X.val, lV x sx y sy c, iV lo hi] w fun e W' => ∃ z : OV, e = .returned z.val ∧ z.o = (X.v, cm, ce) ∧ Own w W' z ∧ Below w.heap.size w W' := by
 have hu25 := Try.underlying25
 have hu34 := Try.underlying34
 have hu36 := Try.underlying36
 go_enter Try.func20, Try.ntmps20
 go_upto_region 1 with fail
 have HM := MS.n4 w X.cells (lC x sx y sy c) (iC lo hi) zeroO
 generalize World.alloc _ _ = wk at HM ⊢
 generalize w.heap.size + 3 = gr at HM ⊢
 generalize w.heap.size + 2 = gi at HM ⊢
 generalize w.heap.size + 1 = gl at HM ⊢
 generalize w.heap.size = go at HM ⊢
 have kgo := MS.c3 HM m3_
 go_upto_region 2 with (first | (go_at_call 38; (with_reducible refine (rclose_as (Oc.now HX (MS.bel HM)) (Below.refl _ _) rfl FX_.out HC.out).mono ?_); rintro e wk ⟨cv, rfl, hcv, ho, hb⟩; replace HM := MS.cl HM hb ho; clear ho hb; replace kgo := MS.c3 HM m3_) | ((with_reducible refine gate_dst (N := 7) rfl ?_); refine bx_ 7 #[.slice none 0 0, .slice none 0 0, .bool false] 25 ?_; intro gc hg wk hbox hb; replace HM := MS.md HM hg hbox hb; clear hg hbox hb; have kgc := MS.c3 HM m0_; replace kgo := MS.c3 HM m4_))
 replace HM := MS.sb HM (.refl _) (.cons_cons _ (.cons_cons _ (.cons_cons _ (.cons_cons _ (.cons _ .slnil))))); clear kgo
 replace HM := MS.po0 cv HM
 generalize World.setCell _ _ _ = wk at HM ⊢
 have HCV := Aside0.mk hcv; clear hcv
 replace kgc := MS.c3 HM m0_; have kgl := MS.c5 HM m3_
 go_upto_region 3 with (first | (go_at_call 62; (with_reducible refine (among_as (MS.oc HM m0_) (MS.bel HM) HCV.out LK.out HOF.out).mono ?_); rintro e wk ⟨rfl, hb⟩; replace HM := MS.nx HM hb; clear hb; replace kgc := MS.c3 HM m0_; replace kgl := MS.c5 HM m3_))
 have kgr := MS.c3 HM m1_; have kgi := MS.c2 HM m2_
 go_wp2
 replace HM := MS.po1 cv HM
 generalize World.setCell _ _ _ = wk at HM ⊢
 refine MS.rt HM m1_ ?_
 exact ⟨cv, rfl, HCV.out, HM.out.S.own _ m0_, HM.out.S.below⟩
theorem rg_bot (X : OV) (x sx y sy c lo hi : Int) {cm : List Int} {ce : Bool} {w : World} (HX : Aside0 (Oc w w X)) (FX_ : Aside0 (OFit X.v X.m X.e)) (LK : Aside0 (X.v.length ≤ 1000)) (HC : Aside0 (closeF X.v X.m X.e = (X.v, [], true))) (HOF : Aside0 (ofB X.v x sx y sy c = true)) :
 Calls Try.prog 20 #[X.val, lV x sx y sy c, iV lo hi] w fun e W' => ∃ z : OV, e = .returned z.val ∧ z.o = (X.v, [], true) ∧ Own w W' z ∧ Below w.heap.size w W' := by
 have hu25 := Try.underlying25
 have hu34 := Try.underlying34
 have hu36 := Try.underlying36
 go_enter Try.func20, Try.ntmps20
 go_upto_region 1 with fail
 have HM := MS.n4 w X.cells (lC x sx y sy c) (iC lo hi) zeroO
 generalize World.alloc _ _ = wk at HM ⊢
 generalize w.heap.size + 3 = gr at HM ⊢
 generalize w.heap.size + 2 = gi at HM ⊢
 generalize w.heap.size + 1 = gl at HM ⊢
 generalize w.heap.size = go at HM ⊢
 have kgo := MS.c3 HM m3_
 go_upto_region 2 with (first | (go_at_call 38; (with_reducible refine (rclose_as (Oc.now HX (MS.bel HM)) (Below.refl _ _) rfl FX_.out HC.out).mono ?_); rintro e wk ⟨cv, rfl, hcv, ho, hb⟩; replace HM := MS.cl HM hb ho; clear ho hb; replace kgo := MS.c3 HM m3_) | ((with_reducible refine gate_dst (N := 7) rfl ?_); refine bx_ 7 #[.slice none 0 0, .slice none 0 0, .bool false] 25 ?_; intro gc hg wk hbox hb; replace HM := MS.md HM hg hbox hb; clear hg hbox hb; have kgc := MS.c3 HM m0_; replace kgo := MS.c3 HM m4_))
 replace HM := MS.sb HM (.refl _) (.cons_cons _ (.cons_cons _ (.cons_cons _ (.cons_cons _ (.cons _ .slnil))))); clear kgo
 replace HM := MS.po0 cv HM
 generalize World.setCell _ _ _ = wk at HM ⊢
 have HCV := Aside0.mk hcv; clear hcv
 have hem : cv.e = true := congrArg (·.2.2) HCV.out
 replace kgc := MS.c3 HM m0_; have kgl := MS.c5 HM m3_
 go_upto_region 3 with (first | (go_at_call 62; (with_reducible refine (among_asE (MS.oc HM m0_) (MS.bel HM) HCV.out LK.out HOF.out (congrArg (·.2.2) HCV.out)).mono ?_); rintro e wk ⟨rfl, hb⟩; replace HM := MS.nx HM hb; clear hb; replace kgc := MS.c3 HM m0_; replace kgl := MS.c5 HM m3_))
 clear hem
 have kgr := MS.c3 HM m1_; have kgi := MS.c2 HM m2_
 go_wp2
 replace HM := MS.po1 cv HM
 generalize World.setCell _ _ _ = wk at HM ⊢
 refine MS.rt HM m1_ ?_
 exact ⟨cv, rfl, HCV.out, HM.out.S.own _ m0_, HM.out.S.below⟩
theorem rg_gen (X : OV) (x sx y sy c lo hi : Int) {cm : List Int} {ce : Bool} {w : World} (HX : Aside0 (Oc w w X)) (FX_ : Aside0 (OFit X.v X.m X.e)) (LK : Aside0 (X.v.length ≤ 1000)) {C : Mx} {p q : Nat} {a b sx' sy' z1 z2 u1 u2 : Int} {r : Tri} (HC : Aside0 (closeF X.v X.m X.e = (X.v, lst (2 * X.v.length) C, false))) (L8 : Aside0 (X.v.length ≤ 8)) (HV : Aside0 (VarsOk X.v)) (HOF : Aside0 (ofB X.v x sx y sy c = true)) (HIT : Aside0 (itvOf lo hi = (a, b))) (SC : Aside0 (Snd (2 * X.v.length) C)) (SC1 : Aside0 (Snd (2 * X.v.length) (amC C p sx q sy u1))) (HP : Aside0 (sx ≠ 0 → placeF X.v x = (p : Int))) (HQ : Aside0 (sy ≠ 0 → placeF X.v y = (q : Int))) (HPQ : Aside0 (sx ≠ 0 → sy ≠ 0 → p ≠ q)) (NS : Aside0 (sx ≠ 0 → sx' ≠ 0)) (HQ' : Aside0 (sy' ≠ 0 → placeF X.v y = (q : Int))) (HPQ' : Aside0 (sx ≠ 0 → sy' ≠ 0 → p ≠ q)) (WS : Aside0 (IntKind.i64.wrap (-sx) = sx' ∧ wrap64 (-sx) = sx')) (WT : Aside0 (IntKind.i64.wrap (-sy) = sy' ∧ wrap64 (-sy) = sy')) (W1 : Aside0 (IntKind.i64.wrap (b - c) = z1 ∧ wrap64 (b - c) = z1)) (W2 : Aside0 (IntKind.i64.wrap (c - a) = z2 ∧ wrap64 (c - a) = z2)) (HC1 : Aside0 (cutF z1 = u1)) (HC2 : Aside0 (cutF z2 = u2)) (B1 : Aside0 (-2199023255552 ≤ u1 ∧ u1 ≤ 2199023255552)) (B2 : Aside0 (-2199023255552 ≤ u2 ∧ u2 ≤ 2199023255552)) (HFT11 : Aside0 (OFit X.v (lst (2 * X.v.length) (amC (amC C p sx q sy u1) p sx' q sy' u2)) false)) (HFT10 : Aside0 (OFit X.v (lst (2 * X.v.length) (amC C p sx q sy u1)) false)) (HFT01 : Aside0 (OFit X.v (lst (2 * X.v.length) (amC C p sx' q sy' u2)) false)) (HFT00 : Aside0 (OFit X.v (lst (2 * X.v.length) C) false)) (R0 : Aside0 (a > b → (X.v, [], true) = r)) (R1 : Aside0 (¬ a > b → sx = 0 → itvHas a b c = false → (X.v, [], true) = r)) (R2 : Aside0 (¬ a > b → sx = 0 → itvHas a b c = true → (X.v, lst (2 * X.v.length) C, false) = r)) (R11 : Aside0 (¬ a > b → sx ≠ 0 → b < 4611686018427387904 → -4611686018427387904 < a → closeF X.v (lst (2 * X.v.length) (amC (amC C p sx q sy u1) p sx' q sy' u2)) false = r)) (R10 : Aside0 (¬ a > b → sx ≠ 0 → b < 4611686018427387904 → ¬ -4611686018427387904 < a → closeF X.v (lst (2 * X.v.length) (amC C p sx q sy u1)) false = r)) (R01 : Aside0 (¬ a > b → sx ≠ 0 → ¬ b < 4611686018427387904 → -4611686018427387904 < a → closeF X.v (lst (2 * X.v.length) (amC C p sx' q sy' u2)) false = r)) (R00 : Aside0 (¬ a > b → sx ≠ 0 → ¬ b < 4611686018427387904 → ¬ -4611686018427387904 < a → closeF X.v (lst (2 * X.v.length) C) false = r)) :
 Calls Try.prog 20 #[X.val, lV x sx y sy c, iV lo hi] w fun e W' => ∃ z : OV, e = .returned z.val ∧ z.o = r ∧ Own w W' z ∧ Below w.heap.size w W' := by
 have hu25 := Try.underlying25
 have hu34 := Try.underlying34
 have hu36 := Try.underlying36
 go_enter Try.func20, Try.ntmps20
 go_upto_region 1 with fail
 have HM := MS.n4 w X.cells (lC x sx y sy c) (iC lo hi) zeroO
 generalize World.alloc _ _ = wk at HM ⊢
 generalize w.heap.size + 3 = gr at HM ⊢
 generalize w.heap.size + 2 = gi at HM ⊢
 generalize w.heap.size + 1 = gl at HM ⊢
 generalize w.heap.size = go at HM ⊢
 have kgo := MS.c3 HM m3_
 go_upto_region 2 with (first | (go_at_call 38; (with_reducible refine (rclose_as (Oc.now HX (MS.bel HM)) (Below.refl _ _) rfl FX_.out HC.out).mono ?_); rintro e wk ⟨cv, rfl, hcv, ho, hb⟩; replace HM := MS.cl HM hb ho; clear ho hb; replace kgo := MS.c3 HM m3_) | ((with_reducible refine gate_dst (N := 7) rfl ?_); refine bx_ 7 #[.slice none 0 0, .slice none 0 0, .bool false] 25 ?_; intro gc hg wk hbox hb; replace HM := MS.md HM hg hbox hb; clear hg hbox hb; have kgc := MS.c3 HM m0_; replace kgo := MS.c3 HM m4_))
 replace HM := MS.sb HM (.refl _) (.cons_cons _ (.cons_cons _ (.cons_cons _ (.cons_cons _ (.cons _ .slnil))))); clear kgo
 replace HM := MS.po0 cv HM
 generalize World.setCell _ _ _ = wk at HM ⊢
 have HCV := Aside0.mk hcv; clear hcv
 have hem : cv.e = false := congrArg (·.2.2) HCV.out
 replace kgc := MS.c3 HM m0_; have kgr := MS.c3 HM m1_; have kgl := MS.c5 HM m3_
 go_upto_region 4 with (first | (go_at_call 62; (with_reducible refine (among_asE (MS.oc HM m0_) (MS.bel HM) HCV.out LK.out HOF.out (congrArg (·.2.2) HCV.out)).mono ?_); rintro e wk ⟨rfl, hb⟩; replace HM := MS.nx HM hb; clear hb; replace kgc := MS.c3 HM m0_; replace kgr := MS.c3 HM m1_; replace kgl := MS.c5 HM m3_))
 clear hem
 have kgi := MS.c2 HM m2_
 go_upto_region 5 with (first | (go_at_call 63; (with_reducible refine (ritvOf_as HIT.out).mono ?_); rintro e wk ⟨rfl, hb⟩; replace HM := MS.nx HM hb; clear hb; replace kgi := MS.c2 HM m2_))
 replace HM := MS.pi2 a b HM
 generalize World.setCell _ _ _ = wk at HM ⊢
 by_cases S0_ : a > b
 ·
  have S0 := Aside0.mk S0_; clear S0_
  replace kgi := MS.c2 HM m2_
  go_upto_region 6 with (first | (go_at_call 64; (with_reducible refine (rNone_as (decide_eq_true S0.out)).mono ?_); rintro e wk ⟨rfl, hb⟩; replace HM := MS.nx HM hb; clear hb; replace kgi := MS.c2 HM m2_))
  replace kgc := MS.c3 HM m0_; replace kgr := MS.c3 HM m1_; replace kgl := MS.c5 HM m3_
  go_wp2_with (first | (go_at_call 65; (with_reducible refine (rbottom_as (MS.oc HM m0_) (MS.bel HM) HCV.out HV.out).mono ?_); rintro e wk ⟨zv, rfl, hzv, ho, hb⟩; replace HM := MS.cl HM hb ho; clear ho hb; replace kgc := MS.c3 HM m0_; replace kgr := MS.c3 HM m1_; replace kgi := MS.c2 HM m2_; replace kgl := MS.c5 HM m3_))
  replace HM := MS.po1 zv HM
  generalize World.setCell _ _ _ = wk at HM ⊢
  refine MS.rt HM m1_ ?_
  exact ⟨zv, rfl, (hzv.trans (R0.out S0.out)), HM.out.S.own _ m0_, HM.out.S.below⟩
 ·
  have S0 := Aside0.mk S0_; clear S0_
  by_cases S1_ : sx = 0
  ·
   have S1 := Aside0.mk S1_; clear S1_
   have sx0 : (sx == 0) = true := beq_iff_eq.2 S1.out
   replace kgc := MS.c3 HM m0_; replace kgr := MS.c3 HM m1_; replace kgi := MS.c2 HM m2_; replace kgl := MS.c5 HM m3_
   go_upto_region 8 with (first | (go_at_call 64; (with_reducible refine (rNone_as (decide_eq_false S0.out)).mono ?_); rintro e wk ⟨rfl, hb⟩; replace HM := MS.nx HM hb; clear hb; replace kgc := MS.c3 HM m0_; replace kgr := MS.c3 HM m1_; replace kgi := MS.c2 HM m2_; replace kgl := MS.c5 HM m3_))
   clear sx0
   by_cases S2_ : itvHas a b c = true
   ·
    have S2 := Aside0.mk S2_; clear S2_
    go_upto_region 9 with (first | (go_at_call 66; (with_reducible refine (rHas_as S2.out).mono ?_); rintro e wk ⟨rfl, hb⟩; replace HM := MS.nx HM hb; clear hb; replace kgi := MS.c2 HM m2_; replace kgl := MS.c5 HM m3_))
    replace kgc := MS.c3 HM m0_; replace kgr := MS.c3 HM m1_
    go_wp2
    replace HM := MS.po1 cv HM
    generalize World.setCell _ _ _ = wk at HM ⊢
    refine MS.rt HM m1_ ?_
    exact ⟨cv, rfl, (HCV.out.trans (R2.out S0.out S1.out S2.out)), HM.out.S.own _ m0_, HM.out.S.below⟩
   ·
    have S2 := Aside0.mk S2_; clear S2_
    go_upto_region 10 with (first | (go_at_call 66; (with_reducible refine (rHas_as (Bool.eq_false_iff.2 S2.out)).mono ?_); rintro e wk ⟨rfl, hb⟩; replace HM := MS.nx HM hb; clear hb; replace kgc := MS.c3 HM m0_; replace kgr := MS.c3 HM m1_; replace kgi := MS.c2 HM m2_; replace kgl := MS.c5 HM m3_))
    go_wp2_with (first | (go_at_call 65; (with_reducible refine (rbottom_as (MS.oc HM m0_) (MS.bel HM) HCV.out HV.out).mono ?_); rintro e wk ⟨zv, rfl, hzv, ho, hb⟩; replace HM := MS.cl HM hb ho; clear ho hb; replace kgc := MS.c3 HM m0_; replace kgr := MS.c3 HM m1_; replace kgi := MS.c2 HM m2_; replace kgl := MS.c5 HM m3_))
    replace HM := MS.po1 zv HM
    generalize World.setCell _ _ _ = wk at HM ⊢
    refine MS.rt HM m1_ ?_
    exact ⟨zv, rfl, (hzv.trans (R1.out S0.out S1.out (Bool.eq_false_iff.2 S2.out))), HM.out.S.own _ m0_, HM.out.S.below⟩
  ·
   have S1 := Aside0.mk S1_; clear S1_
   have sx0 : (sx == 0) = false := beq_eq_false_iff_ne.2 S1.out
   replace kgc := MS.c3 HM m0_; replace kgr := MS.c3 HM m1_; replace kgi := MS.c2 HM m2_; replace kgl := MS.c5 HM m3_
   go_upto_region 11 with (first | (go_at_call 64; (with_reducible refine (rNone_as (decide_eq_false S0.out)).mono ?_); rintro e wk ⟨rfl, hb⟩; replace HM := MS.nx HM hb; clear hb; replace kgc := MS.c3 HM m0_; replace kgr := MS.c3 HM m1_; replace kgi := MS.c2 HM m2_; replace kgl := MS.c5 HM m3_))
   clear sx0
   by_cases S2_ : b < 4611686018427387904
   ·
    have S2 := Aside0.mk S2_; clear S2_
    have t1 := decide_eq_true S2.out
    go_upto_region 12 with fail
    clear t1; obtain ⟨s1, s1'⟩ := W1.out
    replace HM := MS.dr HM
    clear kgc kgi kgl kgr
    refine st_ 10 (fun w' => oR gc cv w' ∧ lR gl x sx y sy c w' ∧ w'.cell? ⟨gi, 1, none⟩ = some (.int .i64 b)) [9] ⟨kO HM m0_, kL HM m3_, MS.k HM m2_ 1 rfl⟩ (fun hHeld => ?_)
    refine with_tabW rguard_tab12 rguard_bits12 (fun HT_ HW_ => ?_)
    generalize World.drew _ = wk at HM hHeld ⊢
    refine tV_ 0 44 (mB 10 1) HT_ HW_ hHeld ?_
    refine tV_ 1 45 (mB 10 3) HT_ HW_ hHeld ?_
    refine pV_ 2 46 (mB 10 7) HT_ ?_
    refine tV_ 3 47 (mB 10 15) HT_ HW_ hHeld ?_
    refine pV_ 4 48 (mB 10 31) HT_ ?_
    refine tV_ 5 49 (mB 10 63) HT_ HW_ hHeld ?_
    refine pV_ 6 50 (mB 10 127) HT_ ?_
    refine on_ 7 (some 51) (mB 10 255) HT_ (fun K hK => ?_)
    refine gs_ Try.func68 #[.int .i64 z1] ?_
    with_reducible refine sk_ (cut_as HC1.out) fun wk hb => ?_
    replace HM := MS.nx HM hb; clear hb
    refine hK.out _ _ ⟨kO HM m0_, kL HM m3_, MS.k HM m2_ 1 rfl⟩ (fun hHeld => ?_)
    clear hK K
    refine nO_ 51 ?_
    refine on_ 8 (some 52) (mB 10 511) HT_ (fun K hK => ?_)
    refine gs_ Try.func67 #[cv.val, lV x sx y sy c, .int .i64 u1] ?_
    with_reducible refine (atMost_o HM.out HCV.out L8.out SC.out (HP.out S1.out) S1.out HQ.out (HPQ.out S1.out) B1.out).mono ?_
    rintro e wk ⟨c1, rfl, hc1, ho⟩; refine ⟨_, rfl, ?_⟩
    clear HM; have HM := Aside0.mk ho; clear ho
    refine hK.out _ _ ⟨kO HM m0_, kL HM m3_, MS.k HM m2_ 1 rfl⟩ (fun hHeld => ?_)
    clear hK K
    refine nO_ 52 ?_
    have kgc := MS.c3 HM m0_
    refine la_ 9 (mB 10 1023) HT_ (fun K hK => ?_)
    refine skip_ (w1 := ?_) (by rfl) rfl ?_ ?_
    rotate_left
    ·
     go_simp
     rfl
    refine hK.out _ _ ?_
    clear hK K
    refine dn_ HT_ ?_
    clear HT_ HW_ hHeld
    replace HM := MS.po0 c1 HM
    generalize World.setCell _ _ _ = wk at HM ⊢
    clear s1 s1'; have H1 := Aside0.mk hc1; clear hc1
    have t1 := decide_eq_true S2.out
    by_cases S3_ : -4611686018427387904 < a
    ·
     have S3 := Aside0.mk S3_; clear S3_
     have t2 := decide_eq_true S3.out
     have kgi := MS.c2 HM m2_
     go_upto_region 14 with fail
     clear t2
     have kgl := MS.c5 HM m3_
     go_upto_region 15 with (first | ((with_reducible refine gate_dst (N := 8) rfl ?_); refine bx_ 8 #[.int .i64 0, .int .i64 0, .int .i64 0, .int .i64 0, .int .i64 0] 34 ?_; intro gm hg wk hbox hb; replace HM := MS.md HM hg hbox hb; clear hg hbox hb; have kgm := MS.c5 HM m0_; replace kgl := MS.c5 HM m4_))
     replace HM := MS.pl0 x sx y sy c HM
     generalize World.setCell _ _ _ = wk at HM ⊢
     obtain ⟨s1, s1'⟩ := WS.out; obtain ⟨s2, s2'⟩ := WT.out
     replace kgm := MS.c5 HM m0_; replace kgl := MS.c5 HM m4_
     go_upto_region 16 with fail
     replace HM := MS.pj0 (cs' := #[.int .i64 x, .int .i64 sx', .int .i64 y, .int .i64 sy, .int .i64 c]) 1 (.int .i64 sx') HM rfl
     generalize World.setCell _ _ _ = wk at HM ⊢
     replace kgm := MS.c5 HM m0_; replace kgl := MS.c5 HM m4_
     go_upto_region 17 with fail
     replace HM := MS.pj0 (cs' := #[.int .i64 x, .int .i64 sx', .int .i64 y, .int .i64 sy', .int .i64 c]) 3 (.int .i64 sy') HM rfl
     generalize World.setCell _ _ _ = wk at HM ⊢
     clear s1 s1' s2 s2'; obtain ⟨s1, s1'⟩ := W2.out
     replace HM := MS.dr HM
     clear kgc kgi kgl kgm
     refine st_ 10 (fun w' => oR gc c1 w' ∧ lR gm x sx' y sy' c w' ∧ w'.cell? ⟨gl, 4, none⟩ = some (.int .i64 c) ∧ w'.cell? ⟨gi, 0, none⟩ = some (.int .i64 a)) [9] ⟨kO HM m1_, kL HM m0_, MS.k HM m4_ 4 rfl, MS.k HM m3_ 0 rfl⟩ (fun hHeld => ?_)
     refine with_tabW rguard_tab17 rguard_bits17 (fun HT_ HW_ => ?_)
     generalize World.drew _ = wk at HM hHeld ⊢
     refine tV_ 0 65 (mB 10 1) HT_ HW_ hHeld ?_
     refine tV_ 1 66 (mB 10 3) HT_ HW_ hHeld ?_
     refine pV_ 2 67 (mB 10 7) HT_ ?_
     refine tV_ 3 68 (mB 10 15) HT_ HW_ hHeld ?_
     refine pV_ 4 69 (mB 10 31) HT_ ?_
     refine tV_ 5 70 (mB 10 63) HT_ HW_ hHeld ?_
     refine pV_ 6 71 (mB 10 127) HT_ ?_
     refine on_ 7 (some 72) (mB 10 255) HT_ (fun K hK => ?_)
     refine gs_ Try.func68 #[.int .i64 z2] ?_
     with_reducible refine sk_ (cut_as HC2.out) fun wk hb => ?_
     replace HM := MS.nx HM hb; clear hb
     refine hK.out _ _ ⟨kO HM m1_, kL HM m0_, MS.k HM m4_ 4 rfl, MS.k HM m3_ 0 rfl⟩ (fun hHeld => ?_)
     clear hK K
     refine nO_ 72 ?_
     refine on_ 8 (some 73) (mB 10 511) HT_ (fun K hK => ?_)
     refine gs_ Try.func67 #[c1.val, lV x sx' y sy' c, .int .i64 u2] ?_
     with_reducible refine (atMost_o HM.out H1.out L8.out SC1.out (HP.out S1.out) (NS.out S1.out) HQ'.out (HPQ'.out S1.out) B2.out).mono ?_
     rintro e wk ⟨c2, rfl, hc2, ho⟩; refine ⟨_, rfl, ?_⟩
     clear HM; have HM := Aside0.mk ho; clear ho
     refine hK.out _ _ ⟨kO HM m1_, kL HM m0_, MS.k HM m4_ 4 rfl, MS.k HM m3_ 0 rfl⟩ (fun hHeld => ?_)
     clear hK K
     refine nO_ 73 ?_
     have kgc := MS.c3 HM m1_
     refine la_ 9 (mB 10 1023) HT_ (fun K hK => ?_)
     refine skip_ (w1 := ?_) (by rfl) rfl ?_ ?_
     rotate_left
     ·
      go_simp
      rfl
     refine hK.out _ _ ?_
     clear hK K
     refine dn_ HT_ ?_
     clear HT_ HW_ hHeld
     replace HM := MS.po1 c2 HM
     generalize World.setCell _ _ _ = wk at HM ⊢
     clear s1 s1'; have H2 := Aside0.mk hc2; clear hc2
     replace kgc := MS.c3 HM m1_; have kgr := MS.c3 HM m2_
     go_wp2_with (first | (go_at_call 38; (with_reducible refine (rclose_as (MS.oc HM m0_) (MS.bel HM) H2.out HFT11.out (R11.out S0.out S1.out S2.out S3.out)).mono ?_); rintro e wk ⟨zv, rfl, hzv, ho, hb⟩; replace HM := MS.cl HM hb ho; clear ho hb; replace kgc := MS.c3 HM m1_; replace kgr := MS.c3 HM m2_))
     replace HM := MS.po2 zv HM
     generalize World.setCell _ _ _ = wk at HM ⊢
     refine MS.rt HM m2_ ?_
     exact ⟨zv, rfl, hzv, HM.out.S.own _ m0_, HM.out.S.below⟩
    ·
     have S3 := Aside0.mk S3_; clear S3_
     have t2 := decide_eq_false S3.out
     replace kgc := MS.c3 HM m0_; have kgi := MS.c2 HM m2_; have kgl := MS.c5 HM m3_
     go_upto_region 18 with fail
     clear t2
     have kgr := MS.c3 HM m1_
     go_wp2_with (first | (go_at_call 38; (with_reducible refine (rclose_as (MS.oc HM m0_) (MS.bel HM) H1.out HFT10.out (R10.out S0.out S1.out S2.out S3.out)).mono ?_); rintro e wk ⟨zv, rfl, hzv, ho, hb⟩; replace HM := MS.cl HM hb ho; clear ho hb; replace kgc := MS.c3 HM m0_; replace kgr := MS.c3 HM m1_))
     replace HM := MS.po1 zv HM
     generalize World.setCell _ _ _ = wk at HM ⊢
     refine MS.rt HM m1_ ?_
     exact ⟨zv, rfl, hzv, HM.out.S.own _ m0_, HM.out.S.below⟩
   ·
    have S2 := Aside0.mk S2_; clear S2_
    have t1 := decide_eq_false S2.out
    by_cases S3_ : -4611686018427387904 < a
    ·
     have S3 := Aside0.mk S3_; clear S3_
     have t2 := decide_eq_true S3.out
     go_upto_region 14 with fail
     clear t2 t1
     go_upto_region 15 with (first | ((with_reducible refine gate_dst (N := 8) rfl ?_); refine bx_ 8 #[.int .i64 0, .int .i64 0, .int .i64 0, .int .i64 0, .int .i64 0] 34 ?_; intro gm hg wk hbox hb; replace HM := MS.md HM hg hbox hb; clear hg hbox hb; have kgm := MS.c5 HM m0_; replace kgl := MS.c5 HM m4_))
     replace HM := MS.pl0 x sx y sy c HM
     generalize World.setCell _ _ _ = wk at HM ⊢
     obtain ⟨s1, s1'⟩ := WS.out; obtain ⟨s2, s2'⟩ := WT.out
     replace kgm := MS.c5 HM m0_; replace kgl := MS.c5 HM m4_
     go_upto_region 16 with fail
     replace HM := MS.pj0 (cs' := #[.int .i64 x, .int .i64 sx', .int .i64 y, .int .i64 sy, .int .i64 c]) 1 (.int .i64 sx') HM rfl
     generalize World.setCell _ _ _ = wk at HM ⊢
     replace kgm := MS.c5 HM m0_; replace kgl := MS.c5 HM m4_
     go_upto_region 17 with fail
     replace HM := MS.pj0 (cs' := #[.int .i64 x, .int .i64 sx', .int .i64 y, .int .i64 sy', .int .i64 c]) 3 (.int .i64 sy') HM rfl
     generalize World.setCell _ _ _ = wk at HM ⊢
     clear s1 s1' s2 s2'; obtain ⟨s1, s1'⟩ := W2.out
     replace HM := MS.dr HM
     clear kgc kgi kgl kgm kgr
     refine st_ 10 (fun w' => oR gc cv w' ∧ lR gm x sx' y sy' c w' ∧ w'.cell? ⟨gl, 4, none⟩ = some (.int .i64 c) ∧ w'.cell? ⟨gi, 0, none⟩ = some (.int .i64 a)) [9] ⟨kO HM m1_, kL HM m0_, MS.k HM m4_ 4 rfl, MS.k HM m3_ 0 rfl⟩ (fun hHeld => ?_)
     refine with_tabW rguard_tab17 rguard_bits17 (fun HT_ HW_ => ?_)
     generalize World.drew _ = wk at HM hHeld ⊢
     refine tV_ 0 65 (mB 10 1) HT_ HW_ hHeld ?_
     refine tV_ 1 66 (mB 10 3) HT_ HW_ hHeld ?_
     refine pV_ 2 67 (mB 10 7) HT_ ?_
     refine tV_ 3 68 (mB 10 15) HT_ HW_ hHeld ?_
     refine pV_ 4 69 (mB 10 31) HT_ ?_
     refine tV_ 5 70 (mB 10 63) HT_ HW_ hHeld ?_
     refine pV_ 6 71 (mB 10 127) HT_ ?_
     refine on_ 7 (some 72) (mB 10 255) HT_ (fun K hK => ?_)
     refine gs_ Try.func68 #[.int .i64 z2] ?_
     with_reducible refine sk_ (cut_as HC2.out) fun wk hb => ?_
     replace HM := MS.nx HM hb; clear hb
     refine hK.out _ _ ⟨kO HM m1_, kL HM m0_, MS.k HM m4_ 4 rfl, MS.k HM m3_ 0 rfl⟩ (fun hHeld => ?_)
     clear hK K
     refine nO_ 72 ?_
     refine on_ 8 (some 73) (mB 10 511) HT_ (fun K hK => ?_)
     refine gs_ Try.func67 #[cv.val, lV x sx' y sy' c, .int .i64 u2] ?_
     with_reducible refine (atMost_o HM.out HCV.out L8.out SC.out (HP.out S1.out) (NS.out S1.out) HQ'.out (HPQ'.out S1.out) B2.out).mono ?_
     rintro e wk ⟨c2, rfl, hc2, ho⟩; refine ⟨_, rfl, ?_⟩
     clear HM; have HM := Aside0.mk ho; clear ho
     refine hK.out _ _ ⟨kO HM m1_, kL HM m0_, MS.k HM m4_ 4 rfl, MS.k HM m3_ 0 rfl⟩ (fun hHeld => ?_)
     clear hK K
     refine nO_ 73 ?_
     have kgc := MS.c3 HM m1_
     refine la_ 9 (mB 10 1023) HT_ (fun K hK => ?_)
     refine skip_ (w1 := ?_) (by rfl) rfl ?_ ?_
     rotate_left
     ·
      go_simp
      rfl
     refine hK.out _ _ ?_
     clear hK K
     refine dn_ HT_ ?_
     clear HT_ HW_ hHeld
     replace HM := MS.po1 c2 HM
     generalize World.setCell _ _ _ = wk at HM ⊢
     clear s1 s1'; have H2 := Aside0.mk hc2; clear hc2
     replace kgc := MS.c3 HM m1_; have kgr := MS.c3 HM m2_
     go_wp2_with (first | (go_at_call 38; (with_reducible refine (rclose_as (MS.oc HM m0_) (MS.bel HM) H2.out HFT01.out (R01.out S0.out S1.out S2.out S3.out)).mono ?_); rintro e wk ⟨zv, rfl, hzv, ho, hb⟩; replace HM := MS.cl HM hb ho; clear ho hb; replace kgc := MS.c3 HM m1_; replace kgr := MS.c3 HM m2_))
     replace HM := MS.po2 zv HM
     generalize World.setCell _ _ _ = wk at HM ⊢
     refine MS.rt HM m2_ ?_
     exact ⟨zv, rfl, hzv, HM.out.S.own _ m0_, HM.out.S.below⟩
    ·
     have S3 := Aside0.mk S3_; clear S3_
     have t2 := decide_eq_false S3.out
     go_upto_region 18 with fail
     clear t2 t1
     go_wp2_with (first | (go_at_call 38; (with_reducible refine (rclose_as (MS.oc HM m0_) (MS.bel HM) HCV.out HFT00.out (R00.out S0.out S1.out S2.out S3.out)).mono ?_); rintro e wk ⟨zv, rfl, hzv, ho, hb⟩; replace HM := MS.cl HM hb ho; clear ho hb; replace kgc := MS.c3 HM m0_; replace kgr := MS.c3 HM m1_))
     replace HM := MS.po1 zv HM
     generalize World.setCell _ _ _ = wk at HM ⊢
     refine MS.rt HM m1_ ?_
     exact ⟨zv, rfl, hzv, HM.out.S.own _ m0_, HM.out.S.below⟩
theorem rguard_own (X : OV) (x sx y sy c lo hi : Int) {w0 w : World} (hX : Oc w0 w X) (h0 : Below w0.heap.size w0 w) (fx : OFit X.v X.m X.e) :
 Calls Try.prog 20 #[X.val, lV x sx y sy c, iV lo hi] w fun e W' => ∃ z : OV, e = .returned z.val ∧ z.o = guardF X.v X.m X.e x sx y sy c lo hi ∧ Own w W' z ∧ Below w.heap.size w W' := by
 have HX : Aside0 (Oc w w X) := ⟨⟨⟨hX.r0.le, .inl (hX.r0.reads h0)⟩, ⟨hX.r1.le, .inl (hX.r1.reads h0)⟩⟩⟩
 have l8 := fx.1.1
 have LK : Aside0 (X.v.length ≤ 1000) := ⟨by omega⟩
 have cases := close_cases fx
 by_cases hof : ofB X.v x sx y sy c = false
 ·
  have hg : guardF X.v X.m X.e x sx y sy c lo hi = closeF X.v X.m X.e := by unfold guardF; rw [if_pos (.inr hof)]
  rw [hg]
  obtain ⟨cm, ce, ha, _⟩ := cl_ex fx
  rw [ha]
  exact rg_not X x sx y sy c lo hi HX ⟨fx⟩ LK ⟨ha⟩ ⟨hof⟩
 ·
  have hof' : ofB X.v x sx y sy c = true := by simpa using hof
  rcases cases with ⟨hcl, _⟩ | ⟨he, hc, hcl⟩
  ·
   have hg : guardF X.v X.m X.e x sx y sy c lo hi = closeF X.v X.m X.e := by unfold guardF; rw [if_pos (.inl (by rw [hcl]))]
   rw [hg, hcl]
   exact rg_bot (cm := []) (ce := true) X x sx y sy c lo hi HX ⟨fx⟩ LK ⟨hcl⟩ ⟨hof'⟩
  ·
   obtain ⟨a, b, hab⟩ : ∃ a b, itvOf lo hi = (a, b) := ⟨_, _, rfl⟩
   have hge : guardF X.v X.m X.e x sx y sy c lo hi = if a > b ∨ (sx = 0 ∧ itvHas a b c = false) then (X.v, [], true) else if sx = 0 then closeF X.v X.m X.e else closeF X.v (lst (2 * X.v.length) (upC (upC (closeM (2 * X.v.length) (lowM X.v.length X.m)) (placeF X.v x).toNat sx (placeF X.v y).toNat sy (bupF b (-c))) (placeF X.v x).toNat (-sx) (placeF X.v y).toNat (-sy) (bupF (bnegF a) c))) false := by
    unfold guardF; rw [if_neg (by rw [hcl, hof']; simp), hab]
   rw [hge]
   have hsc := snd_close (snd_of_fit (by rw [he] at fx; exact fx)) hc
   generalize closeM (2 * X.v.length) (lowM X.v.length X.m) = C at hcl hsc ⊢
   have hP := of_decide_eq_true hof'
   have hp : sx ≠ 0 → placeF X.v x = ((placeF X.v x).toNat : Int) := fun hs => by have := hP.2.1; omega
   have hq : sy ≠ 0 → placeF X.v y = ((placeF X.v y).toNat : Int) := fun h => by have := hP.2.2; omega
   have hb : -1099511627776 ≤ c ∧ c ≤ 1099511627776 := ⟨hP.1.1, hP.1.2.1⟩
   have hsx : sx = 0 ∨ sx = 1 ∨ sx = -1 := by have := hP.1.2.2.2; omega
   have hsy : sy = 0 ∨ sy = 1 ∨ sy = -1 := by have := hP.1.2.2.2; omega
   have hpq : sx ≠ 0 → sy ≠ 0 → (placeF X.v x).toNat ≠ (placeF X.v y).toNat := fun hs h e => by
    have hxy : x < y := by have := hP.1.2.2.2; omega
    have e2 : placeF X.v x = placeF X.v y := by rw [hp hs, hq h, e]
    rcases placeF_cases X.v x with ⟨p1, h1, h2, h3, _⟩ | ⟨h2, _⟩
    ·
     rcases placeF_cases X.v y with ⟨p2, h4, h5, h6, _⟩ | ⟨h5, _⟩
     ·
      rw [h2, h5] at e2
      have : p1 = p2 := by omega
      subst this
      rw [h3] at h6
      omega
     ·
      omega
    ·
     omega
   generalize (placeF X.v x).toNat = p at hp hpq ⊢
   generalize (placeF X.v y).toNat = q at hq hpq ⊢
   have ba : -4611686018427387904 ≤ a ∧ a ≤ 4611686018427387903 ∧ -4611686018427387903 ≤ b ∧ b ≤ 4611686018427387904 := by
    have h1 : a = (itvOf lo hi).1 := by rw [hab]
    have h2 : b = (itvOf lo hi).2 := by rw [hab]
    unfold itvOf mx mn at h1 h2
    by_cases hlh : lo > hi
    ·
     rw [if_pos hlh] at h1 h2; dsimp only at h1 h2; omega
    ·
     rw [if_neg hlh] at h1 h2
     dsimp only at h1 h2
     (repeat' split at h1) <;> (repeat' split at h2) <;> omega
   have hna : bnegF a = -a := by
    unfold bnegF; congr 1; unfold bfit; (repeat' split) <;> omega
   rw [hna]
   obtain ⟨sx', hsx'⟩ : ∃ u, -sx = u := ⟨_, rfl⟩
   obtain ⟨sy', hsy'⟩ : ∃ u, -sy = u := ⟨_, rfl⟩
   rw [hsx', hsy']
   obtain ⟨z1, hz1⟩ : ∃ u, b - c = u := ⟨_, rfl⟩
   obtain ⟨z2, hz2⟩ : ∃ u, c - a = u := ⟨_, rfl⟩
   obtain ⟨u1, hu1⟩ : ∃ u, cutF z1 = u := ⟨_, rfl⟩
   obtain ⟨u2, hu2⟩ : ∃ u, cutF z2 = u := ⟨_, rfl⟩
   have e1 : b < 4611686018427387904 → lst (2 * X.v.length) (upC C p sx q sy (bupF b (-c))) = lst (2 * X.v.length) (amC C p sx q sy u1) := fun h => by
    rw [up_is hsc (by omega) (by omega), show b + -c = z1 by omega, hu1]
   have e2 : ∀ D, Snd (2 * X.v.length) D → -4611686018427387904 < a → lst (2 * X.v.length) (upC D p sx' q sy' (bupF (-a) c)) = lst (2 * X.v.length) (amC D p sx' q sy' u2) := fun D hD h => by
    rw [up_is hD (by omega) (by omega), show -a + c = z2 by omega, hu2]
   have sc1 := amC_snd (p := p) (sx := sx) (q := q) (sy := sy) (b := u1) hsc
   obtain ⟨r, hr⟩ : ∃ r, (if a > b ∨ (sx = 0 ∧ itvHas a b c = false) then (X.v, [], true) else if sx = 0 then closeF X.v X.m X.e else closeF X.v (lst (2 * X.v.length) (upC (upC C p sx q sy (bupF b (-c))) p sx' q sy' (bupF (-a) c))) false) = r := ⟨_, rfl⟩
   rw [hr]
   have hr2 : ¬ a > b → sx ≠ 0 → closeF X.v (lst (2 * X.v.length) (upC (upC C p sx q sy (bupF b (-c))) p sx' q sy' (bupF (-a) c))) false = r := fun h1 h2 => by
    rw [← hr, if_neg (fun h => h.elim h1 (fun h => h2 h.1)), if_neg h2]
   refine rg_gen (cm := []) (ce := true) X x sx y sy c lo hi HX ⟨fx⟩ LK (C := C) (p := p) (q := q) (a := a) (b := b) (sx' := sx') (sy' := sy') (z1 := z1) (z2 := z2) (u1 := u1) (u2 := u2) ⟨hcl⟩ ⟨l8⟩ ⟨fx.1⟩ ⟨hof'⟩ ⟨hab⟩ ⟨hsc⟩ ⟨sc1⟩ ⟨hp⟩ ⟨hq⟩ ⟨hpq⟩ ⟨fun h => by omega⟩ ⟨fun h => hq (by omega)⟩ ⟨fun h1 h2 => hpq h1 (by omega)⟩
    ⟨⟨by rw [IntKind.wrap_i64]; omega, by unfold wrap64; omega⟩⟩ ⟨⟨by rw [IntKind.wrap_i64]; omega, by unfold wrap64; omega⟩⟩ ⟨⟨by rw [IntKind.wrap_i64]; omega, by unfold wrap64; omega⟩⟩ ⟨⟨by rw [IntKind.wrap_i64]; omega, by unfold wrap64; omega⟩⟩ ⟨hu1⟩ ⟨hu2⟩
    ⟨by rw [← hu1]; unfold cutF; (repeat' split) <;> omega⟩ ⟨by rw [← hu2]; unfold cutF; (repeat' split) <;> omega⟩ ⟨fit_of_snd fx.1 (amC_snd sc1)⟩ ⟨fit_of_snd fx.1 sc1⟩ ⟨fit_of_snd fx.1 (amC_snd hsc)⟩ ⟨fit_of_snd fx.1 hsc⟩
    ⟨fun h => by rw [← hr, if_pos (.inl h)]⟩ ⟨fun h1 h2 h3 => by rw [← hr, if_pos (.inr ⟨h2, h3⟩)]⟩ ⟨fun h1 h2 h3 => by rw [← hr, if_neg (fun h => h.elim h1 (fun h => by rw [h3] at h; exact absurd h.2 (by decide))), if_pos h2, hcl]⟩
    ⟨fun h1 h2 h3 h4 => by rw [← hr2 h1 h2, lst_ext (upC_ext' (lst_at_ (e1 h3))), e2 _ sc1 h4]⟩ ⟨fun h1 h2 h3 h4 => by rw [← hr2 h1 h2, lst_ext (upC_ext' (lst_at_ (e1 h3))), up_none (hi := -a) (by omega)]⟩
    ⟨fun h1 h2 h3 h4 => by rw [← hr2 h1 h2, up_none (hi := b) (by omega), e2 _ hsc h4]⟩ ⟨fun h1 h2 h3 h4 => by rw [← hr2 h1 h2, up_none (hi := b) (by omega), up_none (hi := -a) (by omega)]⟩
theorem rguard_as {w W : World} {x : OV} {v m : List Int} {e : Bool} {a : Tri} (hx : Oc w W x) (hb : Below w.heap.size w W) (ho : x.o = (v, m, e)) (fx : OFit v m e) (lx sx y sy c lo hi : Int) (ha : guardF v m e lx sx y sy c lo hi = a) :
 Calls Try.prog 20 #[x.val, lV lx sx y sy c, iV lo hi] W fun e W' => ∃ z : OV, e = .returned z.val ∧ z.o = a ∧ Own W W' z ∧ Below W.heap.size W W' := by
 obtain ⟨P, p, Q, q, v', m', e'⟩ := x
 cases ho
 rw [← ha]; exact rguard_own _ lx sx y sy c lo hi hx hb fx
end Go.Proofs.Ytphfchbggechhaa.QO
end
end
section
noncomputable section
namespace Go.Proofs.Ytphfchbggechhaa.QO
open Go.RowKit Go.Shelf YtphfchbggechhaaW.PrintWords YtphfchbggechhaaW.PrintLast YtphfchbggechhaaW.PrintMore
open Ytphfchbggechhaa.Pure
set_option linter.unusedVariables false
section
variable {w W : World} {z : OV} {v m : List Int} {e : Bool}
theorem rless_as {x s y r1 r2 r3 r4 : Int} (hs : -1 ≤ s ∧ s ≤ 1) (h : (if x < y then (x, 1, y, -s) else (y, -s, x, 1)) = (r1, r2, r3, r4)) :
 Says 73 #[.int .i64 x, .int .i64 y, .int .i64 s] W (.agg #[.int .i64 r1, .int .i64 r2, .int .i64 r3, .int .i64 r4, .int .i64 0]) := by
 refine gimbalref12_less.calls x y s r1 r2 r3 r4 0 W ?_
 have hw : wrap64 (-s) = -s := by unfold wrap64; omega
 unfold gimbalref12_less.f
 rw [hw]
 by_cases c : x < y
 ·
  rw [if_pos c] at h ⊢; cases h; rfl
 ·
  rw [if_neg c] at h ⊢; cases h; rfl
end
end Go.Proofs.Ytphfchbggechhaa.QO
end
end
section
noncomputable section
namespace Go.Proofs.Ytphfchbggechhaa.QO
open Go.RowKit Go.Shelf YtphfchbggechhaaW.PrintWords YtphfchbggechhaaW.PrintLast YtphfchbggechhaaW.PrintMore
open Ytphfchbggechhaa.Pure
attribute [local go_sem] Oper.semAt_some
attribute [local go_sem ↓] Go.wp_at_zero Go.wp_at_succ
set_option linter.unusedVariables false
set_option linter.unusedSimpArgs false
def rassign_T10 : Bool × List (List Nat × List Nat) := (true, [([], []), ([], []), ([], []), ([2], [2]), ([], []), ([4], [4]), ([3, 5], [3, 5]), ([0, 1, 6, 6], [0, 1, 6]), ([7, 7, 0, 1, 2, 3, 4, 5, 6, 7], [7])])
def rassign_B10 : List Nat := [0, 0, 0, 4, 0, 16, 60, 127, 255]
theorem rassign_tab10 : rtab .any (opsOf Try.f22 10) = rassign_T10 := by kernel_rfl
theorem rassign_bits10 : waitsOk rassign_T10.2 rassign_B10 = true := by kernel_rfl
def rassign_T14 : Bool × List (List Nat × List Nat) := (true, [([], []), ([], []), ([], []), ([2], [2]), ([], []), ([4], [4]), ([1, 3, 5], [1, 3, 5]), ([], []), ([7], [7]), ([], []), ([9], [9]), ([8, 10, 6], [8, 10]), ([0, 6, 11, 11], [0, 6, 11]), ([12, 12, 0, 1, 2, 3, 4, 5, 6, 7, 8, 9, 10, 11, 12], [12])])
def rassign_B14 : List Nat := [0, 0, 0, 4, 0, 16, 62, 0, 128, 0, 512, 2046, 4095, 8191]
theorem rassign_tab14 : rtab .any (opsOf Try.f22 14) = rassign_T14 := by kernel_rfl
theorem rassign_bits14 : waitsOk rassign_T14.2 rassign_B14 = true := by kernel_rfl
def rassign_T15 : Bool × List (List Nat × List Nat) := (true, [([], []), ([], []), ([], []), ([], []), ([2, 3], [2, 3]), ([0, 1, 4, 4], [0, 1, 4]), ([5, 5, 0, 1, 2, 3, 4, 5], [5])])
def rassign_B15 : List Nat := [0, 0, 0, 0, 12, 31, 63]
theorem rassign_tab15 : rtab .any (opsOf Try.f22 15) = rassign_T15 := by kernel_rfl
theorem rassign_bits15 : waitsOk rassign_T15.2 rassign_B15 = true := by kernel_rfl
def rassign_T17 : Bool × List (List Nat × List Nat) := (true, [([], []), ([], []), ([], []), ([2], [2]), ([], []), ([4], [4]), ([1, 3, 5], [1, 3, 5]), ([], []), ([], []), ([8], [8]), ([], []), ([10], [10]), ([], []), ([12], [12]), ([9, 11, 13], [9, 11, 13]), ([7, 14, 6], [7, 14]), ([0, 6, 15, 15], [0, 6, 15]), ([16, 16, 0, 1, 2, 3, 4, 5, 6, 7, 8, 9, 10, 11, 12, 13, 14, 15, 16], [16])])
def rassign_B17 : List Nat := [0, 0, 0, 4, 0, 16, 62, 0, 0, 256, 0, 1024, 0, 4096, 16128, 32766, 65535, 131071]
theorem rassign_tab17 : rtab .any (opsOf Try.f22 17) = rassign_T17 := by kernel_rfl
theorem rassign_bits17 : waitsOk rassign_T17.2 rassign_B17 = true := by kernel_rfl
def rassign_T19 : Bool × List (List Nat × List Nat) := (true, [([], []), ([], []), ([], []), ([2], [2]), ([], []), ([4], [4]), ([1, 3, 5], [1, 3, 5]), ([], []), ([], []), ([8], [8]), ([], []), ([10], [10]), ([], []), ([12], [12]), ([9, 11, 13], [9, 11, 13]), ([7, 14, 6], [7, 14]), ([0, 6, 15, 15], [0, 6, 15]), ([16, 16, 0, 1, 2, 3, 4, 5, 6, 7, 8, 9, 10, 11, 12, 13, 14, 15, 16], [16])])
def rassign_B19 : List Nat := [0, 0, 0, 4, 0, 16, 62, 0, 0, 256, 0, 1024, 0, 4096, 16128, 32766, 65535, 131071]
theorem rassign_tab19 : rtab .any (opsOf Try.f22 19) = rassign_T19 := by kernel_rfl
theorem rassign_bits19 : waitsOk rassign_T19.2 rassign_B19 = true := by kernel_rfl
theorem rasg_bot (X : OV) (x lx sx y sy c : Int) {cm : List Int} {w : World} (HX : Aside0 (Oc w w X)) (FX_ : Aside0 (OFit X.v X.m X.e)) (LK : Aside0 (X.v.length ≤ 1000)) (HC : Aside0 (closeF X.v X.m X.e = (X.v, cm, true))) {pv : Int} (HP : Aside0 (placeF X.v x = pv))
 :
 Calls Try.prog 22 #[X.val, .int .i64 x, lV lx sx y sy c] w fun e W' => ∃ z : OV, e = .returned z.val ∧ z.o = (X.v, cm, true) ∧ Own w W' z ∧ Below w.heap.size w W' := by
 have hu25 := Try.underlying25
 have hu34 := Try.underlying34
 go_enter Try.func22, Try.ntmps22
 go_upto_region 1 with fail
 have HM := MS.n3 w X.cells (lC lx sx y sy c) zeroO
 generalize World.alloc _ _ = wk at HM ⊢
 generalize w.heap.size + 2 = gr at HM ⊢
 generalize w.heap.size + 1 = gl at HM ⊢
 generalize w.heap.size = go at HM ⊢
 have kgo := MS.c3 HM m2_
 go_upto_region 2 with (first | (go_at_call 38; (with_reducible refine (rclose_as (Oc.now HX (MS.bel HM)) (Below.refl _ _) rfl FX_.out HC.out).mono ?_); rintro e wk ⟨cv, rfl, hcv, ho, hb⟩; replace HM := MS.cl HM hb ho; clear ho hb; replace kgo := MS.c3 HM m2_) | ((with_reducible refine gate_dst (N := 7) rfl ?_); refine bx_ 7 #[.slice none 0 0, .slice none 0 0, .bool false] 25 ?_; intro gc hg wk hbox hb; replace HM := MS.md HM hg hbox hb; clear hg hbox hb; have kgc := MS.c3 HM m0_; replace kgo := MS.c3 HM m3_))
 replace HM := MS.sb HM (.refl _) (.cons_cons _ (.cons_cons _ (.cons_cons _ (.cons _ .slnil)))); clear kgo
 replace HM := MS.po0 cv HM
 generalize World.setCell _ _ _ = wk at HM ⊢
 have HCV := Aside0.mk hcv; clear hcv
 replace kgc := MS.c3 HM m0_
 go_upto_region 3 with (first | (go_at_call 28; (with_reducible refine (rplace_as (MS.oc HM m0_) (MS.bel HM) HCV.out LK.out x HP.out).mono ?_); rintro e wk ⟨rfl, hb⟩; replace HM := MS.nx HM hb; clear hb; replace kgc := MS.c3 HM m0_))
 have hem : cv.e = true := congrArg (·.2.2) HCV.out
 go_upto_region 4 with fail
 clear hem
 have kgr := MS.c3 HM m1_; have kgl := MS.c5 HM m2_
 go_wp2
 replace HM := MS.po1 cv HM
 generalize World.setCell _ _ _ = wk at HM ⊢
 refine MS.rt HM m1_ ?_
 exact ⟨cv, rfl, HCV.out, HM.out.S.own _ m0_, HM.out.S.below⟩
theorem rasg_no (X : OV) (x lx sx y sy c : Int) {cm : List Int} {w : World} (HX : Aside0 (Oc w w X)) (FX_ : Aside0 (OFit X.v X.m X.e)) (LK : Aside0 (X.v.length ≤ 1000)) (HC : Aside0 (closeF X.v X.m X.e = (X.v, cm, false))) {pv : Int} (HP : Aside0 (placeF X.v x = pv)) (PN : Aside0 (pv < 0))
 :
 Calls Try.prog 22 #[X.val, .int .i64 x, lV lx sx y sy c] w fun e W' => ∃ z : OV, e = .returned z.val ∧ z.o = (X.v, cm, false) ∧ Own w W' z ∧ Below w.heap.size w W' := by
 have hu25 := Try.underlying25
 have hu34 := Try.underlying34
 go_enter Try.func22, Try.ntmps22
 go_upto_region 1 with fail
 have HM := MS.n3 w X.cells (lC lx sx y sy c) zeroO
 generalize World.alloc _ _ = wk at HM ⊢
 generalize w.heap.size + 2 = gr at HM ⊢
 generalize w.heap.size + 1 = gl at HM ⊢
 generalize w.heap.size = go at HM ⊢
 have kgo := MS.c3 HM m2_
 go_upto_region 2 with (first | (go_at_call 38; (with_reducible refine (rclose_as (Oc.now HX (MS.bel HM)) (Below.refl _ _) rfl FX_.out HC.out).mono ?_); rintro e wk ⟨cv, rfl, hcv, ho, hb⟩; replace HM := MS.cl HM hb ho; clear ho hb; replace kgo := MS.c3 HM m2_) | ((with_reducible refine gate_dst (N := 7) rfl ?_); refine bx_ 7 #[.slice none 0 0, .slice none 0 0, .bool false] 25 ?_; intro gc hg wk hbox hb; replace HM := MS.md HM hg hbox hb; clear hg hbox hb; have kgc := MS.c3 HM m0_; replace kgo := MS.c3 HM m3_))
 replace HM := MS.sb HM (.refl _) (.cons_cons _ (.cons_cons _ (.cons_cons _ (.cons _ .slnil)))); clear kgo
 replace HM := MS.po0 cv HM
 generalize World.setCell _ _ _ = wk at HM ⊢
 have HCV := Aside0.mk hcv; clear hcv
 replace kgc := MS.c3 HM m0_
 go_upto_region 3 with (first | (go_at_call 28; (with_reducible refine (rplace_as (MS.oc HM m0_) (MS.bel HM) HCV.out LK.out x HP.out).mono ?_); rintro e wk ⟨rfl, hb⟩; replace HM := MS.nx HM hb; clear hb; replace kgc := MS.c3 HM m0_))
 have hem : cv.e = false := congrArg (·.2.2) HCV.out
 have q0 := PN.out
 go_upto_region 4 with fail
 clear hem q0
 have kgr := MS.c3 HM m1_; have kgl := MS.c5 HM m2_
 go_wp2
 replace HM := MS.po1 cv HM
 generalize World.setCell _ _ _ = wk at HM ⊢
 refine MS.rt HM m1_ ?_
 exact ⟨cv, rfl, HCV.out, HM.out.S.own _ m0_, HM.out.S.below⟩
theorem rasg_not (X : OV) (x lx sx y sy c : Int) {cm : List Int} {w : World} (HX : Aside0 (Oc w w X)) (FX_ : Aside0 (OFit X.v X.m X.e)) (LK : Aside0 (X.v.length ≤ 1000)) (HC : Aside0 (closeF X.v X.m X.e = (X.v, cm, false))) {p : Nat} {fm : List Int} {fe : Bool} (HP : Aside0 (placeF X.v x = (p : Int))) (CF : Aside0 (OFit X.v cm false)) (HFG : Aside0 (forgetF X.v cm false x = (X.v, fm, fe))) (HOF : Aside0 (ofB X.v lx sx y sy c = false))
 :
 Calls Try.prog 22 #[X.val, .int .i64 x, lV lx sx y sy c] w fun e W' => ∃ z : OV, e = .returned z.val ∧ z.o = (X.v, fm, fe) ∧ Own w W' z ∧ Below w.heap.size w W' := by
 have hu25 := Try.underlying25
 have hu34 := Try.underlying34
 go_enter Try.func22, Try.ntmps22
 go_upto_region 1 with fail
 have HM := MS.n3 w X.cells (lC lx sx y sy c) zeroO
 generalize World.alloc _ _ = wk at HM ⊢
 generalize w.heap.size + 2 = gr at HM ⊢
 generalize w.heap.size + 1 = gl at HM ⊢
 generalize w.heap.size = go at HM ⊢
 have kgo := MS.c3 HM m2_
 go_upto_region 2 with (first | (go_at_call 38; (with_reducible refine (rclose_as (Oc.now HX (MS.bel HM)) (Below.refl _ _) rfl FX_.out HC.out).mono ?_); rintro e wk ⟨cv, rfl, hcv, ho, hb⟩; replace HM := MS.cl HM hb ho; clear ho hb; replace kgo := MS.c3 HM m2_) | ((with_reducible refine gate_dst (N := 7) rfl ?_); refine bx_ 7 #[.slice none 0 0, .slice none 0 0, .bool false] 25 ?_; intro gc hg wk hbox hb; replace HM := MS.md HM hg hbox hb; clear hg hbox hb; have kgc := MS.c3 HM m0_; replace kgo := MS.c3 HM m3_))
 replace HM := MS.sb HM (.refl _) (.cons_cons _ (.cons_cons _ (.cons_cons _ (.cons _ .slnil)))); clear kgo
 replace HM := MS.po0 cv HM
 generalize World.setCell _ _ _ = wk at HM ⊢
 have HCV := Aside0.mk hcv; clear hcv
 replace kgc := MS.c3 HM m0_
 go_upto_region 3 with (first | (go_at_call 28; (with_reducible refine (rplace_as (MS.oc HM m0_) (MS.bel HM) HCV.out LK.out x HP.out).mono ?_); rintro e wk ⟨rfl, hb⟩; replace HM := MS.nx HM hb; clear hb; replace kgc := MS.c3 HM m0_))
 have hem : cv.e = false := congrArg (·.2.2) HCV.out
 have q0 : (0 : Int) ≤ (p : Int) := Int.natCast_nonneg _
 have kgr := MS.c3 HM m1_
 go_upto_region 5 with fail
 clear hem q0
 go_upto_region 6 with (first | (go_at_call 18; (with_reducible refine (rforget_as (MS.oc HM m0_) (MS.bel HM) HCV.out CF.out x HFG.out).mono ?_); rintro e wk ⟨fv, rfl, hfv, ho, hb⟩; replace HM := MS.cl HM hb ho; clear ho hb; replace kgc := MS.c3 HM m0_) | ((with_reducible refine gate_dst (N := 9) rfl ?_); refine bx_ 9 #[.slice none 0 0, .slice none 0 0, .bool false] 25 ?_; intro gf hg wk hbox hb; replace HM := MS.md HM hg hbox hb; clear hg hbox hb; have kgf := MS.c3 HM m0_; replace kgc := MS.c3 HM m1_))
 replace HM := MS.po0 fv HM
 generalize World.setCell _ _ _ = wk at HM ⊢
 have HFV := Aside0.mk hfv; clear hfv
 replace kgc := MS.c3 HM m1_; have kgl := MS.c5 HM m3_
 go_upto_region 7 with (first | (go_at_call 62; (with_reducible refine (among_as (MS.oc HM m1_) (MS.bel HM) HCV.out LK.out HOF.out).mono ?_); rintro e wk ⟨rfl, hb⟩; replace HM := MS.nx HM hb; clear hb; replace kgc := MS.c3 HM m1_; replace kgl := MS.c5 HM m3_))
 replace kgf := MS.c3 HM m0_; replace kgr := MS.c3 HM m2_
 go_wp2
 replace HM := MS.po2 fv HM
 generalize World.setCell _ _ _ = wk at HM ⊢
 refine MS.rt HM m2_ ?_
 exact ⟨fv, rfl, HFV.out, HM.out.S.own _ m0_, HM.out.S.below⟩
theorem rasg_gen (X : OV) (x lx sx y sy c : Int) {cm : List Int} {w : World} (HX : Aside0 (Oc w w X)) (FX_ : Aside0 (OFit X.v X.m X.e)) (LK : Aside0 (X.v.length ≤ 1000)) (HC : Aside0 (closeF X.v X.m X.e = (X.v, cm, false))) {p : Nat} {fm : List Int} {fe : Bool} (HP : Aside0 (placeF X.v x = (p : Int))) (CF : Aside0 (OFit X.v cm false)) (HFG : Aside0 (forgetF X.v cm false x = (X.v, fm, fe))) {gm0 gm1 : List Int} {ge0 ge1 : Bool} {r : Tri} {a b a0 b0 a1 b1 a2 b2 r01 r02 r03 r04 r11 r12 r13 r14 : Int} {C : Mx} (HOF : Aside0 (ofB X.v lx sx y sy c = true)) (FF : Aside0 (OFit X.v fm fe))
 (CB : Aside0 (-1099511627776 ≤ c ∧ c ≤ 1099511627776)) (SXB : Aside0 (-1 ≤ sx ∧ sx ≤ 1)) (SYB : Aside0 (-1 ≤ sy ∧ sy ≤ 1)) (ZB : Aside0 ((-1 : Int) ≤ 0 ∧ (0 : Int) ≤ 1)) (NE : Aside0 (sy ≠ 0 → lx ≠ y)) (BX : Aside0 (sx ≠ 0 → 0 ≤ placeF X.v lx)) (BY : Aside0 (sy ≠ 0 → 0 ≤ placeF X.v y)) (HV : Aside0 (VarsOk X.v)) (P16 : Aside0 (p < 16)) (HCM : Aside0 ((X.v, cm, false) = (X.v, lst (2 * X.v.length) C, false))) (SC : Aside0 (Snd (2 * X.v.length) C))
 (HIT : Aside0 (itvOf c c = (a, b))) (HB0 : Aside0 (BndF.bndF X.v cm false lx sx y sy c = (a0, b0))) (HB1 : Aside0 (BndF.bndF X.v cm false y sy 0 0 c = (a1, b1))) (HB2 : Aside0 (BndF.bndF X.v cm false lx sx 0 0 c = (a2, b2)))
 (HL0 : Aside0 ((if x < lx then (x, 1, lx, -sx) else (lx, -sx, x, 1)) = (r01, r02, r03, r04))) (HL1 : Aside0 ((if x < y then (x, 1, y, -sy) else (y, -sy, x, 1)) = (r11, r12, r13, r14)))
 (HG0 : Aside0 (guardF X.v fm fe x 1 0 0 0 a0 b0 = (X.v, gm0, ge0))) (GF0 : Aside0 (OFit X.v gm0 ge0)) (HG1 : Aside0 (guardF X.v gm0 ge0 r01 r02 r03 r04 0 a1 b1 = (X.v, gm1, ge1))) (GF1 : Aside0 (OFit X.v gm1 ge1))
 (R0 : Aside0 (sx = 0 → guardF X.v fm fe x 1 0 0 0 a b = r)) (R1 : Aside0 (sx ≠ 0 → sy = 0 → lx = x → closeF X.v (lst (2 * X.v.length) (movM C sx p c)) false = r)) (R2 : Aside0 (sx ≠ 0 → sy = 0 → lx ≠ x → guardF X.v fm fe r01 r02 r03 r04 0 a b = r))
 (R3 : Aside0 (sx ≠ 0 → sy ≠ 0 → lx ≠ x → y ≠ x → guardF X.v gm1 ge1 r11 r12 r13 r14 0 a2 b2 = r)) (R4 : Aside0 (sx ≠ 0 → sy ≠ 0 → lx ≠ x → y = x → (X.v, gm1, ge1) = r)) (R5 : Aside0 (sx ≠ 0 → sy ≠ 0 → lx = x → guardF X.v gm0 ge0 r11 r12 r13 r14 0 a2 b2 = r))
 :
 Calls Try.prog 22 #[X.val, .int .i64 x, lV lx sx y sy c] w fun e W' => ∃ z : OV, e = .returned z.val ∧ z.o = r ∧ Own w W' z ∧ Below w.heap.size w W' := by
 have hu25 := Try.underlying25
 have hu34 := Try.underlying34
 have hu36 := Try.underlying36
 go_enter Try.func22, Try.ntmps22
 go_upto_region 1 with fail
 have HM := MS.n3 w X.cells (lC lx sx y sy c) zeroO
 generalize World.alloc _ _ = wk at HM ⊢
 generalize w.heap.size + 2 = gr at HM ⊢
 generalize w.heap.size + 1 = gl at HM ⊢
 generalize w.heap.size = go at HM ⊢
 have kgo := MS.c3 HM m2_
 go_upto_region 2 with (first | (go_at_call 38; (with_reducible refine (rclose_as (Oc.now HX (MS.bel HM)) (Below.refl _ _) rfl FX_.out HC.out).mono ?_); rintro e wk ⟨cv, rfl, hcv, ho, hb⟩; replace HM := MS.cl HM hb ho; clear ho hb; replace kgo := MS.c3 HM m2_) | ((with_reducible refine gate_dst (N := 7) rfl ?_); refine bx_ 7 #[.slice none 0 0, .slice none 0 0, .bool false] 25 ?_; intro gc hg wk hbox hb; replace HM := MS.md HM hg hbox hb; clear hg hbox hb; have kgc := MS.c3 HM m0_; replace kgo := MS.c3 HM m3_))
 replace HM := MS.sb HM (.refl _) (.cons_cons _ (.cons_cons _ (.cons_cons _ (.cons _ .slnil)))); clear kgo
 replace HM := MS.po0 cv HM
 generalize World.setCell _ _ _ = wk at HM ⊢
 have HCV := Aside0.mk hcv; clear hcv
 replace kgc := MS.c3 HM m0_
 go_upto_region 3 with (first | (go_at_call 28; (with_reducible refine (rplace_as (MS.oc HM m0_) (MS.bel HM) HCV.out LK.out x HP.out).mono ?_); rintro e wk ⟨rfl, hb⟩; replace HM := MS.nx HM hb; clear hb; replace kgc := MS.c3 HM m0_))
 have hem : cv.e = false := congrArg (·.2.2) HCV.out
 have q0 : (0 : Int) ≤ (p : Int) := Int.natCast_nonneg _
 have kgr := MS.c3 HM m1_
 go_upto_region 5 with fail
 clear hem q0
 go_upto_region 6 with (first | (go_at_call 18; (with_reducible refine (rforget_as (MS.oc HM m0_) (MS.bel HM) HCV.out CF.out x HFG.out).mono ?_); rintro e wk ⟨fv, rfl, hfv, ho, hb⟩; replace HM := MS.cl HM hb ho; clear ho hb; replace kgc := MS.c3 HM m0_) | ((with_reducible refine gate_dst (N := 9) rfl ?_); refine bx_ 9 #[.slice none 0 0, .slice none 0 0, .bool false] 25 ?_; intro gf hg wk hbox hb; replace HM := MS.md HM hg hbox hb; clear hg hbox hb; have kgf := MS.c3 HM m0_; replace kgc := MS.c3 HM m1_))
 replace HM := MS.po0 fv HM
 generalize World.setCell _ _ _ = wk at HM ⊢
 have HFV := Aside0.mk hfv; clear hfv
 replace kgf := MS.c3 HM m0_; replace kgc := MS.c3 HM m1_; replace kgr := MS.c3 HM m2_; have kgl := MS.c5 HM m3_
 go_upto_region 8 with (first | (go_at_call 62; (with_reducible refine (among_as (MS.oc HM m1_) (MS.bel HM) HCV.out LK.out HOF.out).mono ?_); rintro e wk ⟨rfl, hb⟩; replace HM := MS.nx HM hb; clear hb; replace kgf := MS.c3 HM m0_; replace kgc := MS.c3 HM m1_; replace kgr := MS.c3 HM m2_; replace kgl := MS.c5 HM m3_))
 go_upto_region 9 with (first | ((with_reducible refine gate_dst (N := 10) rfl ?_); refine bx_ 10 #[.int .i64 0, .int .i64 0, .int .i64 0, .int .i64 0, .int .i64 0] 34 ?_; intro gm hg wk hbox hb; replace HM := MS.md HM hg hbox hb; clear hg hbox hb; have kgm := MS.c5 HM m0_))
 replace HM := MS.pl0 x 1 0 0 0 HM
 generalize World.setCell _ _ _ = wk at HM ⊢
 by_cases S1_ : sx = 0
 ·
  have S1 := Aside0.mk S1_; clear S1_
  have t1 : (sx == 0) = true := beq_iff_eq.2 S1.out
  replace kgl := MS.c5 HM m4_
  go_upto_region 10 with fail
  clear t1
  replace HM := MS.dr HM
  clear kgc kgf kgl kgm kgr
  refine st_ 9 (fun w' => oR gf fv w' ∧ lR gm x 1 0 0 0 w' ∧ w'.cell? ⟨gl, 4, none⟩ = some (.int .i64 c)) [8] ⟨kO HM m1_, kL HM m0_, MS.k HM m4_ 4 rfl⟩ (fun hHeld => ?_)
  refine with_tabW rassign_tab10 rassign_bits10 (fun HT_ HW_ => ?_)
  generalize World.drew _ = wk at HM hHeld ⊢
  refine tV_ 0 36 (mB 9 1) HT_ HW_ hHeld ?_
  refine tV_ 1 37 (mB 9 3) HT_ HW_ hHeld ?_
  refine pV_ 2 38 (mB 9 7) HT_ ?_
  refine tV_ 3 39 (mB 9 15) HT_ HW_ hHeld ?_
  refine pV_ 4 40 (mB 9 31) HT_ ?_
  refine tV_ 5 41 (mB 9 63) HT_ HW_ hHeld ?_
  refine on_ 6 (some 42) (mB 9 127) HT_ (fun K hK => ?_)
  refine gs_ Try.func63 #[.int .i64 c, .int .i64 c] ?_
  with_reducible refine sk_ (ritvOf_as HIT.out) fun wk hb => ?_
  replace HM := MS.nx HM hb; clear hb
  refine hK.out _ _ ⟨kO HM m1_, kL HM m0_, MS.k HM m4_ 4 rfl⟩ (fun hHeld => ?_)
  clear hK K
  refine nO_ 42 ?_
  refine on_ 7 (some 43) (mB 9 255) HT_ (fun K hK => ?_)
  refine gs_ Try.func20 #[fv.val, lV x 1 0 0 0, iV a b] ?_
  with_reducible refine ok_ (rguard_as (MS.oc HM m0_) (MS.bel HM) HFV.out FF.out x 1 0 0 0 a b (R0.out S1.out)) fun zv wk hzv ho hb => ?_
  replace HM := MS.cl HM hb ho; clear hb ho
  refine hK.out _ _ ⟨kO HM m1_, kL HM m0_, MS.k HM m4_ 4 rfl⟩ (fun hHeld => ?_)
  clear hK K
  refine nO_ 43 ?_
  have kgr := MS.c3 HM m3_
  refine la_ 8 (mB 9 511) HT_ (fun K hK => ?_)
  refine skip_ (w1 := ?_) (by rfl) rfl ?_ ?_
  rotate_left
  ·
   go_simp
   rfl
  refine hK.out _ _ ?_
  clear hK K
  refine dn_ HT_ ?_
  clear HT_ HW_ hHeld
  replace HM := MS.po3 zv HM
  generalize World.setCell _ _ _ = wk at HM ⊢
  have kgm := MS.c5 HM m0_; have kgf := MS.c3 HM m1_; have kgc := MS.c3 HM m2_; replace kgr := MS.c3 HM m3_; have kgl := MS.c5 HM m4_
  go_wp2
  refine MS.rt HM m3_ ?_
  exact ⟨zv, rfl, hzv, HM.out.S.own _ m0_, HM.out.S.below⟩
 ·
  have S1 := Aside0.mk S1_; clear S1_
  have t1 : (sx == 0) = false := beq_eq_false_iff_ne.2 S1.out
  replace kgm := MS.c5 HM m0_; replace kgf := MS.c3 HM m1_; replace kgr := MS.c3 HM m3_; replace kgl := MS.c5 HM m4_
  go_upto_region 11 with fail
  clear t1
  by_cases S2_ : sy = 0
  ·
   have S2 := Aside0.mk S2_; clear S2_
   have t1 : (sy == 0) = true := beq_iff_eq.2 S2.out
   by_cases S3_ : lx = x
   ·
    have S3 := Aside0.mk S3_; clear S3_
    have t2 : (lx == x) = true := beq_iff_eq.2 S3.out
    go_upto_region 12 with fail
    clear t1 t2
    replace kgc := MS.c3 HM m2_
    go_wp2_with (first | (go_at_call 72; (with_reducible refine (shift_as (MS.oc HM m1_) (MS.bel HM) (HCV.out.trans HCM.out) HV.out SC.out P16.out CB.out).mono ?_); rintro e wk ⟨zv, rfl, hzv, ho, hb⟩; replace HM := MS.cl HM hb ho; clear ho hb; replace kgm := MS.c5 HM m0_; replace kgf := MS.c3 HM m1_; replace kgc := MS.c3 HM m2_; replace kgr := MS.c3 HM m3_; replace kgl := MS.c5 HM m4_))
    replace HM := MS.po3 zv HM
    generalize World.setCell _ _ _ = wk at HM ⊢
    refine MS.rt HM m3_ ?_
    exact ⟨zv, rfl, (hzv.trans (R1.out S1.out S2.out S3.out)), HM.out.S.own _ m0_, HM.out.S.below⟩
   ·
    have S3 := Aside0.mk S3_; clear S3_
    have t2 : (lx == x) = false := beq_eq_false_iff_ne.2 S3.out
    replace kgc := MS.c3 HM m2_
    go_upto_region 13 with fail
    clear t2
    go_upto_region 14 with fail
    clear t1
    replace HM := MS.dr HM
    clear kgc kgf kgl kgm kgr
    refine st_ 14 (fun w' => oR gf fv w' ∧ w'.cell? ⟨gl, 0, none⟩ = some (.int .i64 lx) ∧ w'.cell? ⟨gl, 1, none⟩ = some (.int .i64 sx) ∧ w'.cell? ⟨gl, 4, none⟩ = some (.int .i64 c)) [13] ⟨kO HM m1_, MS.k HM m4_ 0 rfl, MS.k HM m4_ 1 rfl, MS.k HM m4_ 4 rfl⟩ (fun hHeld => ?_)
    refine with_tabW rassign_tab14 rassign_bits14 (fun HT_ HW_ => ?_)
    generalize World.drew _ = wk at HM hHeld ⊢
    refine tV_ 0 63 (mB 14 1) HT_ HW_ hHeld ?_
    refine pV_ 1 64 (mB 14 3) HT_ ?_
    refine pV_ 2 65 (mB 14 7) HT_ ?_
    refine tV_ 3 66 (mB 14 15) HT_ HW_ hHeld ?_
    refine pV_ 4 67 (mB 14 31) HT_ ?_
    refine tV_ 5 68 (mB 14 63) HT_ HW_ hHeld ?_
    refine pV_ 7 70 (mB 14 191) HT_ ?_
    refine tV_ 8 71 (mB 14 447) HT_ HW_ hHeld ?_
    refine pV_ 9 72 (mB 14 959) HT_ ?_
    refine tV_ 10 73 (mB 14 1983) HT_ HW_ hHeld ?_
    refine on_ 6 (some 69) (mB 14 2047) HT_ (fun K hK => ?_)
    refine gs_ Try.func73 #[.int .i64 x, .int .i64 lx, .int .i64 sx] ?_
    with_reducible refine sk_ (rless_as SXB.out HL0.out) fun wk hb => ?_
    replace HM := MS.nx HM hb; clear hb
    refine hK.out _ _ ⟨kO HM m1_, MS.k HM m4_ 0 rfl, MS.k HM m4_ 1 rfl, MS.k HM m4_ 4 rfl⟩ (fun hHeld => ?_)
    clear hK K
    refine nO_ 69 ?_
    refine on_ 11 (some 74) (mB 14 4095) HT_ (fun K hK => ?_)
    refine gs_ Try.func63 #[.int .i64 c, .int .i64 c] ?_
    with_reducible refine sk_ (ritvOf_as HIT.out) fun wk hb => ?_
    replace HM := MS.nx HM hb; clear hb
    refine hK.out _ _ ⟨kO HM m1_, MS.k HM m4_ 0 rfl, MS.k HM m4_ 1 rfl, MS.k HM m4_ 4 rfl⟩ (fun hHeld => ?_)
    clear hK K
    refine nO_ 74 ?_
    refine on_ 12 (some 75) (mB 14 8191) HT_ (fun K hK => ?_)
    refine gs_ Try.func20 #[fv.val, lV r01 r02 r03 r04 0, iV a b] ?_
    with_reducible refine ok_ (rguard_as (MS.oc HM m0_) (MS.bel HM) HFV.out FF.out r01 r02 r03 r04 0 a b (R2.out S1.out S2.out S3.out)) fun zv wk hzv ho hb => ?_
    replace HM := MS.cl HM hb ho; clear hb ho
    refine hK.out _ _ ⟨kO HM m1_, MS.k HM m4_ 0 rfl, MS.k HM m4_ 1 rfl, MS.k HM m4_ 4 rfl⟩ (fun hHeld => ?_)
    clear hK K
    refine nO_ 75 ?_
    have kgr := MS.c3 HM m3_
    refine la_ 13 (mB 14 16383) HT_ (fun K hK => ?_)
    refine skip_ (w1 := ?_) (by rfl) rfl ?_ ?_
    rotate_left
    ·
     go_simp
     rfl
    refine hK.out _ _ ?_
    clear hK K
    refine dn_ HT_ ?_
    clear HT_ HW_ hHeld
    replace HM := MS.po3 zv HM
    generalize World.setCell _ _ _ = wk at HM ⊢
    have kgm := MS.c5 HM m0_; have kgf := MS.c3 HM m1_; have kgc := MS.c3 HM m2_; replace kgr := MS.c3 HM m3_; have kgl := MS.c5 HM m4_
    go_wp2
    refine MS.rt HM m3_ ?_
    exact ⟨zv, rfl, hzv, HM.out.S.own _ m0_, HM.out.S.below⟩
  ·
   have S2 := Aside0.mk S2_; clear S2_
   have t1 : (sy == 0) = false := beq_eq_false_iff_ne.2 S2.out
   replace kgc := MS.c3 HM m2_
   go_upto_region 13 with fail
   go_upto_region 15 with fail
   clear t1
   replace HM := MS.dr HM
   clear kgc kgf kgl kgm kgr
   refine st_ 7 (fun w' => oR gf fv w' ∧ lR gm x 1 0 0 0 w' ∧ oR gc cv w' ∧ lR gl lx sx y sy c w') [6] ⟨kO HM m1_, kL HM m0_, kO HM m2_, kL HM m4_⟩ (fun hHeld => ?_)
   refine with_tabW rassign_tab15 rassign_bits15 (fun HT_ HW_ => ?_)
   generalize World.drew _ = wk at HM hHeld ⊢
   refine tV_ 0 76 (mB 7 1) HT_ HW_ hHeld ?_
   refine tV_ 1 77 (mB 7 3) HT_ HW_ hHeld ?_
   refine tV_ 2 78 (mB 7 7) HT_ HW_ hHeld ?_
   refine tV_ 3 79 (mB 7 15) HT_ HW_ hHeld ?_
   refine on_ 4 (some 80) (mB 7 31) HT_ (fun K hK => ?_)
   refine gs_ Try.func50 #[cv.val, lV lx sx y sy c] ?_
   with_reducible refine sk_ (rbnd_as (MS.oc HM m1_) (MS.bel HM) HCV.out CF.out lx sx y sy c CB.out SXB.out SYB.out S1.out (BX.out S1.out) BY.out HB0.out) fun wk hb => ?_
   replace HM := MS.nx HM hb; clear hb
   refine hK.out _ _ ⟨kO HM m1_, kL HM m0_, kO HM m2_, kL HM m4_⟩ (fun hHeld => ?_)
   clear hK K
   refine nO_ 80 ?_
   refine on_ 5 (some 81) (mB 7 63) HT_ (fun K hK => ?_)
   refine gs_ Try.func20 #[fv.val, lV x 1 0 0 0, iV a0 b0] ?_
   with_reducible refine ok_ (rguard_as (MS.oc HM m0_) (MS.bel HM) HFV.out FF.out x 1 0 0 0 a0 b0 HG0.out) fun o0 wk ho0 ho hb => ?_
   replace HM := MS.cl HM hb ho; clear hb ho
   refine hK.out _ _ ⟨kO HM m1_, kL HM m0_, kO HM m2_, kL HM m4_⟩ (fun hHeld => ?_)
   clear hK K
   refine nO_ 81 ?_
   have kgf := MS.c3 HM m1_
   refine la_ 6 (mB 7 127) HT_ (fun K hK => ?_)
   refine skip_ (w1 := ?_) (by rfl) rfl ?_ ?_
   rotate_left
   ·
    go_simp
    rfl
   refine hK.out _ _ ?_
   clear hK K
   refine dn_ HT_ ?_
   clear HT_ HW_ hHeld
   replace HM := MS.po1 o0 HM
   generalize World.setCell _ _ _ = wk at HM ⊢
   have HO0 := Aside0.mk ho0; clear ho0
   replace HM := MS.sb HM (.cons_cons _ (.cons _ (.refl _))) (.refl _)
   by_cases S3_ : lx = x
   ·
    have S3 := Aside0.mk S3_; clear S3_
    have t1 : (lx != x) = false := bne_eq_false_iff_eq.2 S3.out
    have S4 : Aside0 (y ≠ x) := ⟨fun h => NE.out S2.out (S3.out.trans h.symm)⟩
    have t2 : (y != x) = true := bne_iff_ne.2 S4.out
    replace kgf := MS.c3 HM m1_; have kgc := MS.c3 HM m2_; have kgl := MS.c5 HM m4_
    go_upto_region 18 with fail
    clear t1
    go_upto_region 19 with fail
    clear t2
    replace HM := MS.dr HM
    clear kgc kgf kgl
    refine st_ 18 (fun w' => oR gf o0 w' ∧ w'.cell? ⟨gl, 2, none⟩ = some (.int .i64 y) ∧ w'.cell? ⟨gl, 3, none⟩ = some (.int .i64 sy) ∧ oR gc cv w' ∧ w'.cell? ⟨gl, 0, none⟩ = some (.int .i64 lx) ∧ w'.cell? ⟨gl, 1, none⟩ = some (.int .i64 sx) ∧ w'.cell? ⟨gl, 4, none⟩ = some (.int .i64 c)) [17] ⟨kO HM m1_, MS.k HM m4_ 2 rfl, MS.k HM m4_ 3 rfl, kO HM m2_, MS.k HM m4_ 0 rfl, MS.k HM m4_ 1 rfl, MS.k HM m4_ 4 rfl⟩ (fun hHeld => ?_)
    refine with_tabW rassign_tab19 rassign_bits19 (fun HT_ HW_ => ?_)
    generalize World.drew _ = wk at HM hHeld ⊢
    refine tV_ 0 107 (mB 18 1) HT_ HW_ hHeld ?_
    refine pV_ 1 108 (mB 18 3) HT_ ?_
    refine pV_ 2 109 (mB 18 7) HT_ ?_
    refine tV_ 3 110 (mB 18 15) HT_ HW_ hHeld ?_
    refine pV_ 4 111 (mB 18 31) HT_ ?_
    refine tV_ 5 112 (mB 18 63) HT_ HW_ hHeld ?_
    refine tV_ 7 114 (mB 18 191) HT_ HW_ hHeld ?_
    refine pV_ 8 115 (mB 18 447) HT_ ?_
    refine tV_ 9 116 (mB 18 959) HT_ HW_ hHeld ?_
    refine pV_ 10 117 (mB 18 1983) HT_ ?_
    refine tV_ 11 118 (mB 18 4031) HT_ HW_ hHeld ?_
    refine pV_ 12 119 (mB 18 8127) HT_ ?_
    refine tV_ 13 120 (mB 18 16319) HT_ HW_ hHeld ?_
    refine pV_ 14 121 (mB 18 32703) HT_ ?_
    refine on_ 6 (some 113) (mB 18 32767) HT_ (fun K hK => ?_)
    refine gs_ Try.func73 #[.int .i64 x, .int .i64 y, .int .i64 sy] ?_
    with_reducible refine sk_ (rless_as SYB.out HL1.out) fun wk hb => ?_
    replace HM := MS.nx HM hb; clear hb
    refine hK.out _ _ ⟨kO HM m1_, MS.k HM m4_ 2 rfl, MS.k HM m4_ 3 rfl, kO HM m2_, MS.k HM m4_ 0 rfl, MS.k HM m4_ 1 rfl, MS.k HM m4_ 4 rfl⟩ (fun hHeld => ?_)
    clear hK K
    refine nO_ 113 ?_
    refine on_ 15 (some 122) (mB 18 65535) HT_ (fun K hK => ?_)
    refine gs_ Try.func50 #[cv.val, lV lx sx 0 0 c] ?_
    with_reducible refine sk_ (rbnd_as (MS.oc HM m1_) (MS.bel HM) HCV.out CF.out lx sx 0 0 c CB.out SXB.out ZB.out S1.out (BX.out S1.out) (fun h => absurd rfl h) HB2.out) fun wk hb => ?_
    replace HM := MS.nx HM hb; clear hb
    refine hK.out _ _ ⟨kO HM m1_, MS.k HM m4_ 2 rfl, MS.k HM m4_ 3 rfl, kO HM m2_, MS.k HM m4_ 0 rfl, MS.k HM m4_ 1 rfl, MS.k HM m4_ 4 rfl⟩ (fun hHeld => ?_)
    clear hK K
    refine nO_ 122 ?_
    refine on_ 16 (some 123) (mB 18 131071) HT_ (fun K hK => ?_)
    refine gs_ Try.func20 #[o0.val, lV r11 r12 r13 r14 0, iV a2 b2] ?_
    with_reducible refine ok_ (rguard_as (MS.oc HM m0_) (MS.bel HM) HO0.out GF0.out r11 r12 r13 r14 0 a2 b2 (R5.out S1.out S2.out S3.out)) fun o2 wk ho2 ho hb => ?_
    replace HM := MS.cl HM hb ho; clear hb ho
    refine hK.out _ _ ⟨kO HM m1_, MS.k HM m4_ 2 rfl, MS.k HM m4_ 3 rfl, kO HM m2_, MS.k HM m4_ 0 rfl, MS.k HM m4_ 1 rfl, MS.k HM m4_ 4 rfl⟩ (fun hHeld => ?_)
    clear hK K
    refine nO_ 123 ?_
    have kgf := MS.c3 HM m1_
    refine la_ 17 (mB 18 262143) HT_ (fun K hK => ?_)
    refine skip_ (w1 := ?_) (by rfl) rfl ?_ ?_
    rotate_left
    ·
     go_simp
     rfl
    refine hK.out _ _ ?_
    clear hK K
    refine dn_ HT_ ?_
    clear HT_ HW_ hHeld
    replace HM := MS.po1 o2 HM
    generalize World.setCell _ _ _ = wk at HM ⊢
    have kgm := MS.c5 HM m0_; replace kgf := MS.c3 HM m1_; have kgc := MS.c3 HM m2_; have kgr := MS.c3 HM m3_; have kgl := MS.c5 HM m4_
    go_wp2
    replace HM := MS.po3 o2 HM
    generalize World.setCell _ _ _ = wk at HM ⊢
    refine MS.rt HM m3_ ?_
    exact ⟨o2, rfl, ho2, HM.out.S.own _ m0_, HM.out.S.below⟩
   ·
    have S3 := Aside0.mk S3_; clear S3_
    have t1 : (lx != x) = true := bne_iff_ne.2 S3.out
    have kgl := MS.c5 HM m4_
    go_upto_region 17 with fail
    clear t1
    replace HM := MS.dr HM
    clear kgf kgl
    refine st_ 18 (fun w' => oR gf o0 w' ∧ w'.cell? ⟨gl, 0, none⟩ = some (.int .i64 lx) ∧ w'.cell? ⟨gl, 1, none⟩ = some (.int .i64 sx) ∧ oR gc cv w' ∧ w'.cell? ⟨gl, 2, none⟩ = some (.int .i64 y) ∧ w'.cell? ⟨gl, 3, none⟩ = some (.int .i64 sy) ∧ w'.cell? ⟨gl, 4, none⟩ = some (.int .i64 c)) [17] ⟨kO HM m1_, MS.k HM m4_ 0 rfl, MS.k HM m4_ 1 rfl, kO HM m2_, MS.k HM m4_ 2 rfl, MS.k HM m4_ 3 rfl, MS.k HM m4_ 4 rfl⟩ (fun hHeld => ?_)
    refine with_tabW rassign_tab17 rassign_bits17 (fun HT_ HW_ => ?_)
    generalize World.drew _ = wk at HM hHeld ⊢
    refine tV_ 0 86 (mB 18 1) HT_ HW_ hHeld ?_
    refine pV_ 1 87 (mB 18 3) HT_ ?_
    refine pV_ 2 88 (mB 18 7) HT_ ?_
    refine tV_ 3 89 (mB 18 15) HT_ HW_ hHeld ?_
    refine pV_ 4 90 (mB 18 31) HT_ ?_
    refine tV_ 5 91 (mB 18 63) HT_ HW_ hHeld ?_
    refine tV_ 7 93 (mB 18 191) HT_ HW_ hHeld ?_
    refine pV_ 8 94 (mB 18 447) HT_ ?_
    refine tV_ 9 95 (mB 18 959) HT_ HW_ hHeld ?_
    refine pV_ 10 96 (mB 18 1983) HT_ ?_
    refine tV_ 11 97 (mB 18 4031) HT_ HW_ hHeld ?_
    refine pV_ 12 98 (mB 18 8127) HT_ ?_
    refine tV_ 13 99 (mB 18 16319) HT_ HW_ hHeld ?_
    refine pV_ 14 100 (mB 18 32703) HT_ ?_
    refine on_ 6 (some 92) (mB 18 32767) HT_ (fun K hK => ?_)
    refine gs_ Try.func73 #[.int .i64 x, .int .i64 lx, .int .i64 sx] ?_
    with_reducible refine sk_ (rless_as SXB.out HL0.out) fun wk hb => ?_
    replace HM := MS.nx HM hb; clear hb
    refine hK.out _ _ ⟨kO HM m1_, MS.k HM m4_ 0 rfl, MS.k HM m4_ 1 rfl, kO HM m2_, MS.k HM m4_ 2 rfl, MS.k HM m4_ 3 rfl, MS.k HM m4_ 4 rfl⟩ (fun hHeld => ?_)
    clear hK K
    refine nO_ 92 ?_
    refine on_ 15 (some 101) (mB 18 65535) HT_ (fun K hK => ?_)
    refine gs_ Try.func50 #[cv.val, lV y sy 0 0 c] ?_
    with_reducible refine sk_ (rbnd_as (MS.oc HM m1_) (MS.bel HM) HCV.out CF.out y sy 0 0 c CB.out SYB.out ZB.out S2.out (BY.out S2.out) (fun h => absurd rfl h) HB1.out) fun wk hb => ?_
    replace HM := MS.nx HM hb; clear hb
    refine hK.out _ _ ⟨kO HM m1_, MS.k HM m4_ 0 rfl, MS.k HM m4_ 1 rfl, kO HM m2_, MS.k HM m4_ 2 rfl, MS.k HM m4_ 3 rfl, MS.k HM m4_ 4 rfl⟩ (fun hHeld => ?_)
    clear hK K
    refine nO_ 101 ?_
    refine on_ 16 (some 102) (mB 18 131071) HT_ (fun K hK => ?_)
    refine gs_ Try.func20 #[o0.val, lV r01 r02 r03 r04 0, iV a1 b1] ?_
    with_reducible refine ok_ (rguard_as (MS.oc HM m0_) (MS.bel HM) HO0.out GF0.out r01 r02 r03 r04 0 a1 b1 (HG1.out)) fun o1 wk ho1 ho hb => ?_
    replace HM := MS.cl HM hb ho; clear hb ho
    refine hK.out _ _ ⟨kO HM m1_, MS.k HM m4_ 0 rfl, MS.k HM m4_ 1 rfl, kO HM m2_, MS.k HM m4_ 2 rfl, MS.k HM m4_ 3 rfl, MS.k HM m4_ 4 rfl⟩ (fun hHeld => ?_)
    clear hK K
    refine nO_ 102 ?_
    have kgf := MS.c3 HM m1_
    refine la_ 17 (mB 18 262143) HT_ (fun K hK => ?_)
    refine skip_ (w1 := ?_) (by rfl) rfl ?_ ?_
    rotate_left
    ·
     go_simp
     rfl
    refine hK.out _ _ ?_
    clear hK K
    refine dn_ HT_ ?_
    clear HT_ HW_ hHeld
    replace HM := MS.po1 o1 HM
    generalize World.setCell _ _ _ = wk at HM ⊢
    have HO1 := Aside0.mk ho1; clear ho1
    replace HM := MS.sb HM (.cons_cons _ (.cons _ (.refl _))) (.refl _)
    go_upto_region 18 with fail
    by_cases S4_ : y = x
    ·
     have S4 := Aside0.mk S4_; clear S4_
     have t1 : (y != x) = false := bne_eq_false_iff_eq.2 S4.out
     replace kgf := MS.c3 HM m1_; have kgc := MS.c3 HM m2_; have kgl := MS.c5 HM m4_
     go_upto_region 20 with fail
     clear t1
     have kgr := MS.c3 HM m3_
     go_wp2
     replace HM := MS.po3 o1 HM
     generalize World.setCell _ _ _ = wk at HM ⊢
     refine MS.rt HM m3_ ?_
     exact ⟨o1, rfl, (HO1.out.trans (R4.out S1.out S2.out S3.out S4.out)), HM.out.S.own _ m0_, HM.out.S.below⟩
    ·
     have S4 := Aside0.mk S4_; clear S4_
     have t1 : (y != x) = true := bne_iff_ne.2 S4.out
     have kgl := MS.c5 HM m4_
     go_upto_region 19 with fail
     clear t1
     replace HM := MS.dr HM
     clear kgf kgl
     refine st_ 18 (fun w' => oR gf o1 w' ∧ w'.cell? ⟨gl, 2, none⟩ = some (.int .i64 y) ∧ w'.cell? ⟨gl, 3, none⟩ = some (.int .i64 sy) ∧ oR gc cv w' ∧ w'.cell? ⟨gl, 0, none⟩ = some (.int .i64 lx) ∧ w'.cell? ⟨gl, 1, none⟩ = some (.int .i64 sx) ∧ w'.cell? ⟨gl, 4, none⟩ = some (.int .i64 c)) [17] ⟨kO HM m1_, MS.k HM m4_ 2 rfl, MS.k HM m4_ 3 rfl, kO HM m2_, MS.k HM m4_ 0 rfl, MS.k HM m4_ 1 rfl, MS.k HM m4_ 4 rfl⟩ (fun hHeld => ?_)
     refine with_tabW rassign_tab19 rassign_bits19 (fun HT_ HW_ => ?_)
     generalize World.drew _ = wk at HM hHeld ⊢
     refine tV_ 0 107 (mB 18 1) HT_ HW_ hHeld ?_
     refine pV_ 1 108 (mB 18 3) HT_ ?_
     refine pV_ 2 109 (mB 18 7) HT_ ?_
     refine tV_ 3 110 (mB 18 15) HT_ HW_ hHeld ?_
     refine pV_ 4 111 (mB 18 31) HT_ ?_
     refine tV_ 5 112 (mB 18 63) HT_ HW_ hHeld ?_
     refine tV_ 7 114 (mB 18 191) HT_ HW_ hHeld ?_
     refine pV_ 8 115 (mB 18 447) HT_ ?_
     refine tV_ 9 116 (mB 18 959) HT_ HW_ hHeld ?_
     refine pV_ 10 117 (mB 18 1983) HT_ ?_
     refine tV_ 11 118 (mB 18 4031) HT_ HW_ hHeld ?_
     refine pV_ 12 119 (mB 18 8127) HT_ ?_
     refine tV_ 13 120 (mB 18 16319) HT_ HW_ hHeld ?_
     refine pV_ 14 121 (mB 18 32703) HT_ ?_
     refine on_ 6 (some 113) (mB 18 32767) HT_ (fun K hK => ?_)
     refine gs_ Try.func73 #[.int .i64 x, .int .i64 y, .int .i64 sy] ?_
     with_reducible refine sk_ (rless_as SYB.out HL1.out) fun wk hb => ?_
     replace HM := MS.nx HM hb; clear hb
     refine hK.out _ _ ⟨kO HM m1_, MS.k HM m4_ 2 rfl, MS.k HM m4_ 3 rfl, kO HM m2_, MS.k HM m4_ 0 rfl, MS.k HM m4_ 1 rfl, MS.k HM m4_ 4 rfl⟩ (fun hHeld => ?_)
     clear hK K
     refine nO_ 113 ?_
     refine on_ 15 (some 122) (mB 18 65535) HT_ (fun K hK => ?_)
     refine gs_ Try.func50 #[cv.val, lV lx sx 0 0 c] ?_
     with_reducible refine sk_ (rbnd_as (MS.oc HM m1_) (MS.bel HM) HCV.out CF.out lx sx 0 0 c CB.out SXB.out ZB.out S1.out (BX.out S1.out) (fun h => absurd rfl h) HB2.out) fun wk hb => ?_
     replace HM := MS.nx HM hb; clear hb
     refine hK.out _ _ ⟨kO HM m1_, MS.k HM m4_ 2 rfl, MS.k HM m4_ 3 rfl, kO HM m2_, MS.k HM m4_ 0 rfl, MS.k HM m4_ 1 rfl, MS.k HM m4_ 4 rfl⟩ (fun hHeld => ?_)
     clear hK K
     refine nO_ 122 ?_
     refine on_ 16 (some 123) (mB 18 131071) HT_ (fun K hK => ?_)
     refine gs_ Try.func20 #[o1.val, lV r11 r12 r13 r14 0, iV a2 b2] ?_
     with_reducible refine ok_ (rguard_as (MS.oc HM m0_) (MS.bel HM) HO1.out GF1.out r11 r12 r13 r14 0 a2 b2 (R3.out S1.out S2.out S3.out S4.out)) fun o2 wk ho2 ho hb => ?_
     replace HM := MS.cl HM hb ho; clear hb ho
     refine hK.out _ _ ⟨kO HM m1_, MS.k HM m4_ 2 rfl, MS.k HM m4_ 3 rfl, kO HM m2_, MS.k HM m4_ 0 rfl, MS.k HM m4_ 1 rfl, MS.k HM m4_ 4 rfl⟩ (fun hHeld => ?_)
     clear hK K
     refine nO_ 123 ?_
     have kgf := MS.c3 HM m1_
     refine la_ 17 (mB 18 262143) HT_ (fun K hK => ?_)
     refine skip_ (w1 := ?_) (by rfl) rfl ?_ ?_
     rotate_left
     ·
      go_simp
      rfl
     refine hK.out _ _ ?_
     clear hK K
     refine dn_ HT_ ?_
     clear HT_ HW_ hHeld
     replace HM := MS.po1 o2 HM
     generalize World.setCell _ _ _ = wk at HM ⊢
     have kgm := MS.c5 HM m0_; replace kgf := MS.c3 HM m1_; have kgc := MS.c3 HM m2_; have kgr := MS.c3 HM m3_; have kgl := MS.c5 HM m4_
     go_wp2
     replace HM := MS.po3 o2 HM
     generalize World.setCell _ _ _ = wk at HM ⊢
     refine MS.rt HM m3_ ?_
     exact ⟨o2, rfl, ho2, HM.out.S.own _ m0_, HM.out.S.below⟩
theorem rassign_own (X : OV) (s lx sx y sy c : Int) {w0 w : World} (hX : Oc w0 w X) (h0 : Below w0.heap.size w0 w) (fx : OFit X.v X.m X.e) :
 Calls Try.prog 22 #[X.val, .int .i64 s, lV lx sx y sy c] w fun e W' => ∃ z : OV, e = .returned z.val ∧ z.o = assignF X.v X.m X.e s lx sx y sy c ∧ Own w W' z ∧ Below w.heap.size w W' := by
 have HX : Aside0 (Oc w w X) := ⟨⟨⟨hX.r0.le, .inl (hX.r0.reads h0)⟩, ⟨hX.r1.le, .inl (hX.r1.reads h0)⟩⟩⟩
 have FX_ := Aside0.mk fx
 have l8 := fx.1.1
 have LK : Aside0 (X.v.length ≤ 1000) := ⟨by omega⟩
 obtain ⟨cm, ce, hcl, cf⟩ := cl_ex fx
 cases ce with
 | true => rw [asgn_bot hcl]; exact rasg_bot X s lx sx y sy c HX FX_ LK ⟨hcl⟩ ⟨rfl⟩
 | false =>
  rcases placeF_cases X.v s with ⟨p, hp1, hp2, _, _⟩ | ⟨hp2, _⟩
  case inr => rw [asgn_no hcl (by omega)]; exact rasg_no X s lx sx y sy c HX FX_ LK ⟨hcl⟩ ⟨rfl⟩ ⟨by omega⟩
  case inl =>
   obtain ⟨fm, fe, hfg, ff⟩ := fgt_ex cf s
   by_cases hof : ofB X.v lx sx y sy c = false
   ·
    rw [asgn_not hcl (by omega) hof, hfg]
    exact rasg_not X s lx sx y sy c HX FX_ LK ⟨hcl⟩ ⟨hp2⟩ ⟨cf⟩ ⟨hfg⟩ ⟨hof⟩
   ·
    have hof' : ofB X.v lx sx y sy c = true := by simpa using hof
    rw [asgn_of hcl (by omega) hof']
    obtain ⟨C, gm0, gm1, ge0, ge1, a, b, a0, b0, a1, b1, a2, b2, r01, r02, r03, r04, r11, r12, r13, r14, g⟩ := asgF_ways (s := s) (lx := lx) (sx := sx) (y := y) (sy := sy) (c := c) fx hcl cf hp2 hfg ff hof'
    exact rasg_gen X s lx sx y sy c HX FX_ LK ⟨hcl⟩ ⟨hp2⟩ ⟨cf⟩ ⟨hfg⟩ ⟨hof'⟩ ⟨ff⟩ ⟨g.cb⟩ ⟨g.sxb⟩ ⟨g.syb⟩ ⟨by decide⟩ ⟨g.ne⟩ ⟨g.px⟩ ⟨g.py⟩ ⟨fx.1⟩ ⟨by omega⟩ ⟨by rw [g.hcm]⟩ ⟨g.sc⟩ ⟨g.it⟩ ⟨g.e0⟩ ⟨g.e1⟩ ⟨g.e2⟩ ⟨g.l0⟩ ⟨g.l1⟩ ⟨g.g0⟩ ⟨g.f0⟩ ⟨g.g1⟩ ⟨g.f1⟩ ⟨g.r0⟩ ⟨g.r1⟩ ⟨g.r2⟩ ⟨g.r3⟩ ⟨g.r4⟩ ⟨g.r5⟩
theorem rassign_as {w W : World} {x : OV} {v m : List Int} {e : Bool} {a : Tri} (hx : Oc w W x) (hb : Below w.heap.size w W) (ho : x.o = (v, m, e)) (fx : OFit v m e) (s lx sx y sy c : Int) (ha : assignF v m e s lx sx y sy c = a) :
 Calls Try.prog 22 #[x.val, .int .i64 s, lV lx sx y sy c] W fun e W' => ∃ z : OV, e = .returned z.val ∧ z.o = a ∧ Own W W' z ∧ Below W.heap.size W W' := by
 obtain ⟨P, p, Q, q, v', m', e'⟩ := x
 cases ho
 rw [← ha]; exact rassign_own _ s lx sx y sy c hx hb fx
def octopAssigns_T8 : Bool × List (List Nat × List Nat) := (true, [([], []), ([], []), ([], []), ([], []), ([1, 2, 3], [1, 2, 3]), ([0, 4, 4], [0, 4]), ([5, 5], [5]), ([6, 6], [6]), ([6, 7], [6, 7]), ([8, 7, 0, 1, 2, 3, 4, 5, 6, 7, 8], [8])])
def octopAssigns_B8 : List Nat := [0, 0, 0, 0, 14, 31, 63, 127, 255, 511]
theorem octopAssigns_tab8 : rtab .any (opsOf Try.f5 8) = octopAssigns_T8 := by kernel_rfl
theorem octopAssigns_bits8 : waitsOk octopAssigns_T8.2 octopAssigns_B8 = true := by kernel_rfl
theorem octopAssigns_w (AW : ∀ W : World, Says 13 #[] W (.bool true)) (X : OV) (x lx sx y sy c : Int) (w : World) (hX : Oc w w X) (lenx : X.v.length ≤ 17592186044416) : Says 5 #[X.val, .int .i64 x, lV lx sx y sy c] w (.bool true) := by
 have hu25 := Try.underlying25
 have hu34 := Try.underlying34
 have hu36 := Try.underlying36
 have HX := Aside0.mk hX
 have LX := Aside0.mk lenx
 cases hfit : ofitB X.v X.m X.e with
 | false =>
  have HFT := Aside0.mk hfit
  clear hX lenx hfit
  go_enter Try.func5, Try.ntmps5
  go_upto_region 1 with fail
  have HM := MS.n2 w X.cells (lC lx sx y sy c)
  generalize World.alloc _ _ = wk at HM ⊢
  generalize w.heap.size + 1 = gl at HM ⊢
  generalize w.heap.size = go at HM ⊢
  have kgl := MS.c5 HM m0_; have kgo := MS.c3 HM m1_
  go_wp2_with (first | (go_at_call 12; (with_reducible refine (rfit_o (Oc.now HX (MS.bel HM)) (Below.refl _ _) LX.out HFT.out).mono ?_); rintro e wk ⟨rfl, hb⟩; replace HM := MS.nx HM hb; clear hb; replace kgl := MS.c5 HM m0_; replace kgo := MS.c3 HM m1_) | (go_at_call 13; (with_reducible refine (AW _).mono ?_); rintro e wk ⟨rfl, hb⟩; replace HM := MS.nx HM hb; clear hb; replace kgl := MS.c5 HM m0_; replace kgo := MS.c3 HM m1_))
  go_ret
  exact ⟨rfl, MS.bel HM⟩
 | true =>
  have HFT := Aside0.mk hfit
  have fx := ofitB_true.1 hfit
  have FX_ := Aside0.mk fx
  obtain ⟨fm, fe, hr, fr⟩ := asg_ex fx x lx sx y sy c
  have HR := Aside0.mk hr
  have FR := Aside0.mk fr
  have HOF : Aside0 (∀ z : OV, z.o = X.o → OFit z.v z.m z.e) := ⟨fun z e => by
   obtain ⟨P, p, Q, q, v, m, b⟩ := X
   obtain ⟨P', p', Q', q', v', m', b'⟩ := z
   cases e; exact fx⟩
  clear hX lenx hfit fx hr fr
  go_enter Try.func5, Try.ntmps5
  go_upto_region 1 with fail
  have HM := MS.n2 w X.cells (lC lx sx y sy c)
  generalize World.alloc _ _ = wk at HM ⊢
  generalize w.heap.size + 1 = gl at HM ⊢
  generalize w.heap.size = go at HM ⊢
  have kgo := MS.c3 HM m1_
  go_upto_region 3 with (first | (go_at_call 12; (with_reducible refine (rfit_o (Oc.now HX (MS.bel HM)) (Below.refl _ _) LX.out HFT.out).mono ?_); rintro e wk ⟨rfl, hb⟩; replace HM := MS.nx HM hb; clear hb; replace kgo := MS.c3 HM m1_))
  go_upto_region 4 with (first | (go_at_call 14; (with_reducible refine (deep_own (Oc.now HX (MS.bel HM)) (Below.refl _ _) FX_.out).mono ?_); rintro e wk ⟨ow, rfl, how, ho, hb⟩; replace HM := MS.cl HM hb ho; clear ho hb; replace kgo := MS.c3 HM m1_) | ((with_reducible refine gate_dst (N := 7) rfl ?_); refine bx_ 7 #[.slice none 0 0, .slice none 0 0, .bool false] 25 ?_; intro gw hg wk hbox hb; replace HM := MS.md HM hg hbox hb; clear hg hbox hb; have kgw := MS.c3 HM m0_; replace kgo := MS.c3 HM m2_))
  replace HM := MS.po0 ow HM
  generalize World.setCell _ _ _ = wk at HM ⊢
  have HFW := Aside0.mk (HOF.out _ how); have HOW := Aside0.mk how; clear how
  replace kgw := MS.c3 HM m0_; have kgl := MS.c5 HM m1_
  go_upto_region 5 with (first | (go_at_call 21; (with_reducible refine (assign_as (MS.oc HM m0_) (MS.bel HM) HOW.out FX_.out x lx sx y sy c HR.out).mono ?_); rintro e wk ⟨av, rfl, hav, ho, hb⟩; replace HM := MS.cl HM hb ho; clear ho hb; replace kgw := MS.c3 HM m0_; replace kgl := MS.c5 HM m1_) | ((with_reducible refine gate_dst (N := 8) rfl ?_); refine bx_ 8 #[.slice none 0 0, .slice none 0 0, .bool false] 25 ?_; intro ga hg wk hbox hb; replace HM := MS.md HM hg hbox hb; clear hg hbox hb; have kga := MS.c3 HM m0_; replace kgw := MS.c3 HM m1_; replace kgl := MS.c5 HM m2_))
  replace HM := MS.po0 av HM
  generalize World.setCell _ _ _ = wk at HM ⊢
  have HAV := Aside0.mk hav; clear hav
  replace kgw := MS.c3 HM m1_; replace kgo := MS.c3 HM m3_
  go_upto_region 7 with (first | (go_at_call 16; (with_reducible refine (equal_as (MS.oc HM m1_) (Oc.at_ HX (MS.bel HM)) (MS.bel HM) HOW.out rfl FX_.out).mono ?_); rintro e wk ⟨rfl, hb⟩; replace HM := MS.nx HM hb; clear hb; replace kgw := MS.c3 HM m1_; replace kgo := MS.c3 HM m3_))
  have n_ := Aside0.mk (HM.out.swap); clear HM; have HM := n_; clear n_
  replace kgw := MS.c3 HM m1_
  go_upto_region 8 with (first | (go_at_call 17; (with_reducible refine (spoil_ms (MS.to HM) HFW.out).mono ?_); rintro e wk ⟨rfl, ho⟩; clear HM; have HM := Aside0.mk ho; clear ho; replace kgw := MS.c3 HM m1_))
  replace HM := MS.dr HM
  clear kga kgl kgo kgw
  refine st_ 10 (fun w' => oR ga av w' ∧ oR go X w' ∧ lR gl lx sx y sy c w') [] ⟨kO HM m0_, kO HM m3_, kL HM m2_⟩ (fun hHeld => ?_)
  refine with_tabW octopAssigns_tab8 octopAssigns_bits8 (fun HT_ HW_ => ?_)
  generalize World.drew _ = wk at HM hHeld ⊢
  refine tV_ 0 25 (mB 10 1) HT_ HW_ hHeld ?_
  refine tV_ 1 26 (mB 10 3) HT_ HW_ hHeld ?_
  refine pV_ 2 27 (mB 10 7) HT_ ?_
  refine tV_ 3 28 (mB 10 15) HT_ HW_ hHeld ?_
  refine on_ 4 (some 29) (mB 10 31) HT_ (fun K hK => ?_)
  refine gs_ Try.func22 #[X.val, .int .i64 x, lV lx sx y sy c] ?_
  with_reducible refine ok_ (rassign_as (Oc.now HX HM.out.S.below) (Below.refl _ _) rfl FX_.out x lx sx y sy c HR.out) fun zv wk hzv ho hb => ?_
  replace HM := MS.cl HM hb ho; clear hb ho
  refine hK.out _ _ ⟨kO HM m0_, kO HM m3_, kL HM m2_⟩ (fun hHeld => ?_)
  clear hK K
  refine nO_ 29 ?_
  refine on_ 5 (some 30) (mB 10 63) HT_ (fun K hK => ?_)
  refine gs_ Try.func16 #[av.val, zv.val] ?_
  with_reducible refine sk_ (equal_as (MS.oc HM m1_) (MS.oc HM m0_) (MS.bel HM) HAV.out hzv FR.out) fun wk hb => ?_
  replace HM := MS.nx HM hb; clear hb
  refine hK.out _ _ ⟨kO HM m0_, kO HM m3_, kL HM m2_⟩ (fun hHeld => ?_)
  clear hK K
  refine nO_ 30 ?_
  refine pV_ 6 31 (mB 10 127) HT_ ?_
  refine on_ 7 (some 32) (mB 10 255) HT_ (fun K hK => ?_)
  refine gs_ Try.func13 #[] ?_
  with_reducible refine sk_ (AW _) fun wk hb => ?_
  replace HM := MS.nx HM hb; clear hb
  refine hK.out _ _ ⟨kO HM m0_, kO HM m3_, kL HM m2_⟩ (fun hHeld => ?_)
  clear hK K
  refine nO_ 32 ?_
  refine pV_ 8 33 (mB 10 511) HT_ ?_
  refine pV_ 9 6 (mB 10 1023) HT_ ?_
  refine dn_ HT_ ?_
  clear HT_ HW_ hHeld
  go_wp2
  go_ret
  exact ⟨rfl, MS.bel HM⟩
theorem octopAssigns_walk (X : OV) (x lx sx y sy c : Int) (w : World) (hX : Oc w w X) (lenx : X.v.length ≤ 17592186044416) : Says 5 #[X.val, .int .i64 x, lV lx sx y sy c] w (.bool true) := octopAssigns_w awake_o X x lx sx y sy c w hX lenx
end Go.Proofs.Ytphfchbggechhaa.QO
end
end
section
namespace Go.Proofs.Ytphfchbggechhaa.Open
open Go.RowKit Go.ChangeShapes Go.WideShapes YtphfchbggechhaaW.PrintWords YtphfchbggechhaaW.PrintMore
def Opens {α : Type} (P : Program) (t : TypeId) (R : World → α → List Value → Prop) (Q : α → Prop) : Prop :=
 ∀ (H : Type) (enc : TypeId × Value → H) (w : World) (base : Nat) (spare : Nat → Bool) (held : Bool) (fuel : Nat) (cs : List Value) (x : DataW H × List MemPlace),
  DataW.trod enc P w base spare held fuel t cs = some x → (∀ n ∈ DataW.weights P t x.1, n ≤ 140737488351232) → ∃ a : α, R w a cs ∧ Q a
variable {P : Program} {t e : TypeId}
theorem opens_int {k : IntKind} (ht : P.underlying t = some (.int k)) : Opens P t (Kd.int k).K (fun n => (Lit.int k n).wf = true) := by
 intro H enc w base spare held fuel cs x h _
 obtain ⟨n, rfl, _, hw⟩ := DataW.trod_int ht h
 exact ⟨n, rfl, hw⟩
theorem opens_bool (ht : P.underlying t = some .bool) : Opens P t Kd.bool.K (fun _ => True) := by
 intro H enc w base spare held fuel cs x h _
 obtain ⟨n, rfl, _⟩ := DataW.trod_bool ht h
 exact ⟨n, rfl, trivial⟩
theorem weightsAll_mem {H : Type} {l : List (DataW H)} {d : DataW H} (hd : d ∈ l) {n : Nat} (hn : n ∈ DataW.weights P e d) : n ∈ DataW.weightsAll P e l := by
 induction l with
 | nil => cases hd
 | cons y r ih =>
  unfold DataW.weightsAll
  rcases List.mem_cons.1 hd with rfl | h
  ·
   exact List.mem_append_left _ hn
  ·
   exact List.mem_append_right _ (ih h)
theorem weightsEach_mem {H : Type} : ∀ {ts : List TypeId} {l : List (DataW H)} {i : Nat} {t : TypeId} {d : DataW H}, ts[i]? = some t → l[i]? = some d → ∀ {n : Nat}, n ∈ DataW.weights P t d → n ∈ DataW.weightsEach P ts l
 | [], _, i, _, _, h, _, _, _ => by simp at h
 | _ :: _, [], i, _, _, _, h, _, _ => by simp at h
 | t' :: ts, d' :: l, 0, t, d, h1, h2, n, hn => by
  simp at h1 h2; subst h1; subst h2
  unfold DataW.weightsEach; exact List.mem_append_left _ hn
 | t' :: ts, d' :: l, i + 1, t, d, h1, h2, n, hn => by
  simp at h1 h2
  unfold DataW.weightsEach; exact List.mem_append_right _ (weightsEach_mem h1 h2 hn)
theorem all_some {α β : Type} {Q : Nat → α → β → Prop} : ∀ (xs : List β) (_ : ∀ i y, xs[i]? = some y → ∃ a, Q i a y), ∃ l : List α, l.length = xs.length ∧ ∀ i a, l[i]? = some a → ∃ y, xs[i]? = some y ∧ Q i a y
 | [], _ => ⟨[], rfl, fun i a h => by simp at h⟩
 | y :: r, h => by
  obtain ⟨a0, h0⟩ := h 0 y rfl
  obtain ⟨l, hl, hr⟩ := all_some (Q := fun i a y => Q (i + 1) a y) r (fun i y hy => h (i + 1) y (by simpa using hy))
  refine ⟨a0 :: l, by simp [hl], fun i a hi => ?_⟩
  cases i with
  | zero => simp at hi; subst hi; exact ⟨y, rfl, h0⟩
  | succ i => obtain ⟨z, hz, hq⟩ := hr i a (by simpa using hi); exact ⟨z, by simpa using hz, hq⟩
theorem opens_slice {α : Type} {d : Kd α} {Q : α → Prop} {B : Nat} (ht : P.underlying t = some (.slice e)) (hs : P.cellsOf e = d.sz) (hB : P.bytesOf e = B) (ho : Opens P e d.K Q) :
 Opens P t (Kd.slice e d).K (fun l => l.length * B ≤ 140737488351232 ∧ l.length ≤ maxLen ∧ ∀ x ∈ l, Q x) := by
 intro H enc w base spare held fuel cs x h hw
 rcases DataW.trod_slice ht h with ⟨rfl, _⟩ | ⟨a, len, cap, elems, rest, n, _, rfl, rfl, hb, hl, hc, hlen, hel, _, _⟩
 ·
  exact ⟨[], ⟨none, 0, rfl, Nat.le_refl _, ⟨rfl, by simp, fun h => absurd h (by simp)⟩⟩, by simp, by simp, fun x hx => by cases hx⟩
 ·
  have hwt : ∀ m ∈ DataW.weights P t (.slice (elems.map (·.1)) (rest.map (·.1))), m ≤ 140737488351232 := hw
  have each : ∀ i y, elems[i]? = some y → ∃ a' : α, (∃ c : List Value, c.length = d.sz ∧ d.K w a' c ∧ ∀ j u, c[j]? = some u → w.cell? (a.add (i * d.sz + j)) = some u) ∧ Q a' := by
   intro i y hy
   have hi : i < len := by rw [← hlen]; exact (List.getElem?_eq_some_iff.1 hy).1
   have h1 := hel i hi
   rw [hy] at h1
   obtain ⟨c, hc1, hc2⟩ := Option.bind_eq_some_iff.1 h1
   obtain ⟨a', hk, hq⟩ := ho H enc w base spare held n c y hc2 (fun m hm => hwt m (by
    simp only [DataW.weights, ht]
    exact List.mem_cons_of_mem _ (List.mem_append_left _ (weightsAll_mem (List.mem_map_of_mem (List.mem_of_getElem? hy)) hm))))
   refine ⟨a', ⟨c, d.K_len hk, hk, fun j u hj => ?_⟩, hq⟩
   unfold World.cells? at hc1
   split at hc1
   ·
    have hlc := mapM_some_length hc1
    have hj' : j < P.cellsOf e := by have := (List.getElem?_eq_some_iff.1 hj).1; rw [List.length_range] at hlc; omega
    have := mapM_some_get hc1 j j (by simp [hj'])
    rw [hj] at this
    rw [← hs, ← Addr.add_add]
    exact this
   ·
    cases hc1
  obtain ⟨l, hll, hlr⟩ := all_some elems each
  refine ⟨l, ⟨some a, cap, ?_, by omega, ⟨rfl, ?_, fun _ => ⟨a, rfl, fun j p hj => ?_⟩⟩⟩, ?_, by omega, fun x hx => ?_⟩
  ·
   rw [hll, hlen]
  ·
   unfold maxLen at hc; omega
  ·
   obtain ⟨_, _, ⟨c, h1, h2, h3⟩, _⟩ := hlr j p hj
   exact ⟨c, h1, h2, h3⟩
  ·
   have := hwt (((elems.map (·.1)).length + (rest.map (·.1)).length) * P.bytesOf e) (by simp only [DataW.weights, ht]; exact List.mem_cons_self ..)
   rw [hB] at this
   simp only [List.length_map] at this
   rw [hll]
   exact Nat.le_trans (Nat.mul_le_mul_right _ (by omega)) this
  ·
   obtain ⟨i, hi⟩ := List.getElem?_of_mem hx
   obtain ⟨_, _, _, hq⟩ := hlr i x hi
   exact hq
theorem open_field {H : Type} {enc : TypeId × Value → H} {w : World} {base : Nat} {spare : Nat → Bool} {held : Bool} {fs : Array Field} {xs : List (DataW H × List MemPlace)} {n : Nat} {cs : List Value}
 (ht : P.underlying t = some (.struct fs)) (hw : ∀ m ∈ DataW.weights P t (.agg (xs.map (·.1))), m ≤ 140737488351232) (hx : xs.length = fs.size)
 (hf : ∀ (i : Nat) (f : Field), fs[i]? = some f → DataW.trod enc P w base spare held n f.type ((cs.drop f.offset).take (P.cellsOf f.type)) = xs[i]?)
 (i : Nat) (f : Field) (hi : fs[i]? = some f) (o s : Nat) (eo : f.offset = o) (es : P.cellsOf f.type = s) {α : Type} {R : World → α → List Value → Prop} {Q : α → Prop} (ho : Opens P f.type R Q) : ∃ a : α, R w a ((cs.drop o).take s) ∧ Q a := by
 have h1 := hf i f hi
 rw [eo, es] at h1
 have hlt : i < xs.length := by rw [hx]; exact (Array.getElem?_eq_some_iff.1 hi).1
 rw [List.getElem?_eq_getElem hlt] at h1
 refine ho H enc w base spare held n _ _ h1 (fun m hm => hw m ?_)
 simp only [DataW.weights, ht]
 refine weightsEach_mem (i := i) (t := f.type) (d := xs[i].1) ?_ ?_ hm
 ·
  simp only [List.getElem?_map, Array.getElem?_toList, hi, Option.map_some]
 ·
  simp only [List.getElem?_map, List.getElem?_eq_getElem hlt, Option.map_some]
theorem weights_at {H : Type} {ts : List TypeId} {ds : List (DataW H)} (hsz : (DataW.weightsEach P ts ds).all (· ≤ reachBytes) = true) {j : Nat} {d : DataW H} (h1 : ts[j]? = some t) (h2 : ds[j]? = some d) : ∀ m ∈ DataW.weights P t d, m ≤ 140737488351232 := by
 intro m hm
 exact of_decide_eq_true (List.all_eq_true.1 hsz m (weightsEach_mem h1 h2 hm))
end Go.Proofs.Ytphfchbggechhaa.Open
end
