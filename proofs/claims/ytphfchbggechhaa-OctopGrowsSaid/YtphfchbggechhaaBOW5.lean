/- Own texts of this claim, joined. -/
import Derived.Test.YtphfchbggechhaaBOW0
import Derived.Test.YtphfchbggechhaaBOW1
import Derived.Test.YtphfchbggechhaaBOW2
import Derived.Test.YtphfchbggechhaaBOW3
import Derived.Test.YtphfchbggechhaaBOW4
import Derived.LoopN
import Derived.ChangeArms
import Derived.SizedLaws
set_option maxRecDepth 100000
set_option maxHeartbeats 16000000
section
noncomputable section
namespace Go.Proofs.Ytphfchbggechhaa.QO
open Go.RowKit Go.Shelf YtphfchbggechhaaW.PrintWords YtphfchbggechhaaW.PrintLast YtphfchbggechhaaW.PrintMore
open Ytphfchbggechhaa.Pure
attribute [local go_sem] Oper.semAt_some
attribute [local go_sem ↓] Go.wp_at_zero Go.wp_at_succ
set_option linter.unusedVariables false
set_option linter.unusedSimpArgs false
def rjn_T1 : Bool × List (List Nat × List Nat) := (true, [([], []), ([0], [0]), ([], []), ([2, 1], [2]), ([], []), ([], []), ([4, 1, 3, 0, 1, 4, 5], [1, 4]), ([5, 3, 6, 0, 1, 2, 3, 4, 5, 6], [3, 5])])
def rjn_B1 : List Nat := [0, 1, 0, 7, 0, 0, 63, 127]
theorem rjn_tab1 : rtab .any (opsOf Try.f23 1) = rjn_T1 := by kernel_rfl
theorem rjn_bits1 : waitsOk rjn_T1.2 rjn_B1 = true := by kernel_rfl
def rjn_T9 : Bool × List (List Nat × List Nat) := (true, [([], []), ([0], [0]), ([], []), ([], []), ([3], [3]), ([], []), ([4, 5], [4, 5]), ([6], [6]), ([], []), ([8], [8]), ([], []), ([9, 10], [9, 10]), ([11], [11]), ([7, 12], [7, 12]), ([1, 2, 0, 1, 2, 3, 4, 5, 6, 7, 8, 9, 10, 11, 12, 13], [1, 2]), ([14, 13, 0, 1, 2, 3, 4, 5, 6, 7, 8, 9, 10, 11, 12, 13], [13, 14])])
def rjn_B9 : List Nat := [0, 1, 0, 0, 8, 0, 56, 120, 0, 256, 0, 1792, 3840, 8184, 16383, 32767]
theorem rjn_tab9 : rtab .any (opsOf Try.f23 9) = rjn_T9 := by kernel_rfl
theorem rjn_bits9 : waitsOk rjn_T9.2 rjn_B9 = true := by kernel_rfl
theorem rd_set_same {l : List Int} {a : Nat} {u : Int} (h : a < l.length) : rd (l.set a u) (a : Int) = u := by unfold rd; simp [List.getD_eq_getElem?_getD, h]
theorem rd_set_ne {l : List Int} {a b : Nat} {u : Int} (h : b ≠ a) : rd (l.set a u) (b : Int) = rd l (b : Int) := by unfold rd; simp [List.getD_eq_getElem?_getD, List.getElem?_set_ne (Ne.symm h)]
theorem rjoin_x (X Y : OV) {v : List Int} {w : World} (HX : Aside0 (Oc w w X)) (HY : Aside0 (Oc w w Y)) (FX_ : Aside0 (OFit X.v X.m X.e)) (FY_ : Aside0 (OFit Y.v Y.m Y.e)) {t : Tri} (HCX : Aside0 (closeF X.v X.m X.e = (v, [], true))) (HCY : Aside0 (closeF Y.v Y.m Y.e = t)) : Calls Try.prog 23 #[X.val, Y.val] w fun e W' => ∃ z : OV, e = .returned z.val ∧ z.o = t ∧ Own w W' z ∧ Below w.heap.size w W' := by
 have hu25 := Try.underlying25
 go_enter Try.func23, Try.ntmps23
 go_upto_region 1 with fail
 have HM := MS.n3 w X.cells Y.cells zeroO
 generalize World.alloc _ _ = wk at HM ⊢
 generalize w.heap.size + 2 = gr at HM ⊢
 generalize w.heap.size + 1 = gb at HM ⊢
 generalize w.heap.size = ga at HM ⊢
 replace HM := MS.dr HM
 refine startN_ (n := 8) (S := fun w' => oR ga X w' ∧ oR gb Y w') (ds := [6, 7]) (mB 8 0) (by kernel_rfl) rfl (by kernel_rfl) ⟨kO HM m2_, kO HM m1_⟩ (fun hHeld => ?_)
 refine with_tabW rjn_tab1 rjn_bits1 (fun HT_ HW_ => ?_)
 generalize World.drew _ = wk at HM hHeld ⊢
 refine tV_ 0 8 (mB 8 1) HT_ HW_ hHeld ?_
 refine tV_ 2 10 (mB 8 5) HT_ HW_ hHeld ?_
 refine join_ (σ := OV × OV × Nat × Nat) 2 (mB 8 63) (fun s_ => [(9, .agg #[.slice s_.1.P s_.1.v.length s_.1.p, .slice s_.1.Q s_.1.m.length s_.1.q, .bool s_.1.e]), (11, .agg #[.slice s_.2.1.P s_.2.1.v.length s_.2.1.p, .slice s_.2.1.Q s_.2.1.m.length s_.2.1.q, .bool s_.2.1.e]), (5, .pointer (some ⟨s_.2.2.1, 0, none⟩)), (6, .pointer (some ⟨s_.2.2.2, 0, none⟩))]) (fun s_ w' => (s_.1.o = (v, [], true)) ∧ (s_.2.1.o = t) ∧ MS w [s_.2.1, s_.1] [(s_.2.2.2, zeroO), (s_.2.2.1, zeroO), (gr, zeroO), (gb, Y.cells), (ga, X.cells)] w') ?_ ?_
 rotate_left
 ·
  intro hJ
  refine th_ 1 4 5 (some 9) (some 5) (some 6) (mB 8 7) (mB 8 21) (mB 8 37) HT_ (fun K hK => ?_) (fun K hK => ?_) (fun K hK => ?_)
  ·
   refine gs_ Try.func38 #[X.val] ?_
   with_reducible refine ok_ (rclose_as (Oc.now HX HM.out.S.below) (Below.refl _ _) rfl FX_.out HCX.out) fun xv wk hx ho hb => ?_
   replace HM := MS.cl HM hb ho; clear hb ho
   refine hK.out _ _ ⟨kO HM m2_, kO HM m1_⟩ (fun hHeld => ?_)
   clear hK K
   refine nO_ 9 ?_
   refine th_ 3 4 5 (some 11) (some 5) (some 6) (mB 8 15) (mB 8 23) (mB 8 39) HT_ (fun K hK => ?_) (fun K hK => ?_) (fun K hK => ?_)
   ·
    refine gs_ Try.func38 #[Y.val] ?_
    with_reducible refine ok_ (rclose_as (Oc.now HY HM.out.S.below) (Below.refl _ _) rfl FY_.out HCY.out) fun yv wk hy ho hb => ?_
    replace HM := MS.cl HM hb ho; clear hb ho
    refine hK.out _ _ ⟨kO HM m2_, kO HM m1_⟩ (fun hHeld => ?_)
    clear hK K
    refine nO_ 11 ?_
    refine tw_ 4 5 (some 5) (some 6) (mB 8 31) (mB 8 47) HT_ (fun K hK => ?_) (fun K hK => ?_)
    ·
     refine bs_ 5 #[.slice none 0 0, .slice none 0 0, .bool false] 25 ?_
     intro gx hg wk hbox hb
     replace HM := MS.md HM hg hbox hb; clear hg hbox hb
     refine hK.out _ _ ⟨kO HM m3_, kO HM m2_⟩ (fun hHeld => ?_)
     clear hK K
     refine nO_ 5 ?_
     refine on_ 5 (some 6) (mB 8 63) HT_ (fun K hK => ?_)
     refine bs_ 6 #[.slice none 0 0, .slice none 0 0, .bool false] 25 ?_
     intro gy hg wk hbox hb
     replace HM := MS.md HM hg hbox hb; clear hg hbox hb
     refine hK.out _ _ ⟨kO HM m4_, kO HM m3_⟩ (fun hHeld => ?_)
     clear hK K
     refine nO_ 6 ?_
     exact nP_ (hJ (xv, yv, gx, gy) _ ⟨hx, hy, HM.out⟩)
    ·
     refine bs_ 6 #[.slice none 0 0, .slice none 0 0, .bool false] 25 ?_
     intro gy hg wk hbox hb
     replace HM := MS.md HM hg hbox hb; clear hg hbox hb
     refine hK.out _ _ ⟨kO HM m3_, kO HM m2_⟩ (fun hHeld => ?_)
     clear hK K
     refine nO_ 6 ?_
     refine on_ 4 (some 5) (mB 8 63) HT_ (fun K hK => ?_)
     refine bs_ 5 #[.slice none 0 0, .slice none 0 0, .bool false] 25 ?_
     intro gx hg wk hbox hb
     replace HM := MS.md HM hg hbox hb; clear hg hbox hb
     refine hK.out _ _ ⟨kO HM m4_, kO HM m3_⟩ (fun hHeld => ?_)
     clear hK K
     refine nO_ 5 ?_
     replace HM := MS.fswap HM
     exact nP_ (hJ (xv, yv, gx, gy) _ ⟨hx, hy, HM.out⟩)
   ·
    refine bs_ 5 #[.slice none 0 0, .slice none 0 0, .bool false] 25 ?_
    intro gx hg wk hbox hb
    replace HM := MS.md HM hg hbox hb; clear hg hbox hb
    refine hK.out _ _ ⟨kO HM m3_, kO HM m2_⟩ (fun hHeld => ?_)
    clear hK K
    refine nO_ 5 ?_
    refine tw_ 3 5 (some 11) (some 6) (mB 8 31) (mB 8 55) HT_ (fun K hK => ?_) (fun K hK => ?_)
    ·
     refine gs_ Try.func38 #[Y.val] ?_
     with_reducible refine ok_ (rclose_as (Oc.now HY HM.out.S.below) (Below.refl _ _) rfl FY_.out HCY.out) fun yv wk hy ho hb => ?_
     replace HM := MS.cl HM hb ho; clear hb ho
     refine hK.out _ _ ⟨kO HM m3_, kO HM m2_⟩ (fun hHeld => ?_)
     clear hK K
     refine nO_ 11 ?_
     refine on_ 5 (some 6) (mB 8 63) HT_ (fun K hK => ?_)
     refine bs_ 6 #[.slice none 0 0, .slice none 0 0, .bool false] 25 ?_
     intro gy hg wk hbox hb
     replace HM := MS.md HM hg hbox hb; clear hg hbox hb
     refine hK.out _ _ ⟨kO HM m4_, kO HM m3_⟩ (fun hHeld => ?_)
     clear hK K
     refine nO_ 6 ?_
     exact nP_ (hJ (xv, yv, gx, gy) _ ⟨hx, hy, HM.out⟩)
    ·
     refine bs_ 6 #[.slice none 0 0, .slice none 0 0, .bool false] 25 ?_
     intro gy hg wk hbox hb
     replace HM := MS.md HM hg hbox hb; clear hg hbox hb
     refine hK.out _ _ ⟨kO HM m4_, kO HM m3_⟩ (fun hHeld => ?_)
     clear hK K
     refine nO_ 6 ?_
     refine on_ 3 (some 11) (mB 8 63) HT_ (fun K hK => ?_)
     refine gs_ Try.func38 #[Y.val] ?_
     with_reducible refine ok_ (rclose_as (Oc.now HY HM.out.S.below) (Below.refl _ _) rfl FY_.out HCY.out) fun yv wk hy ho hb => ?_
     replace HM := MS.cl HM hb ho; clear hb ho
     refine hK.out _ _ ⟨kO HM m4_, kO HM m3_⟩ (fun hHeld => ?_)
     clear hK K
     refine nO_ 11 ?_
     exact nP_ (hJ (xv, yv, gx, gy) _ ⟨hx, hy, HM.out⟩)
   ·
    refine bs_ 6 #[.slice none 0 0, .slice none 0 0, .bool false] 25 ?_
    intro gy hg wk hbox hb
    replace HM := MS.md HM hg hbox hb; clear hg hbox hb
    refine hK.out _ _ ⟨kO HM m3_, kO HM m2_⟩ (fun hHeld => ?_)
    clear hK K
    refine nO_ 6 ?_
    refine tw_ 3 4 (some 11) (some 5) (mB 8 47) (mB 8 55) HT_ (fun K hK => ?_) (fun K hK => ?_)
    ·
     refine gs_ Try.func38 #[Y.val] ?_
     with_reducible refine ok_ (rclose_as (Oc.now HY HM.out.S.below) (Below.refl _ _) rfl FY_.out HCY.out) fun yv wk hy ho hb => ?_
     replace HM := MS.cl HM hb ho; clear hb ho
     refine hK.out _ _ ⟨kO HM m3_, kO HM m2_⟩ (fun hHeld => ?_)
     clear hK K
     refine nO_ 11 ?_
     refine on_ 4 (some 5) (mB 8 63) HT_ (fun K hK => ?_)
     refine bs_ 5 #[.slice none 0 0, .slice none 0 0, .bool false] 25 ?_
     intro gx hg wk hbox hb
     replace HM := MS.md HM hg hbox hb; clear hg hbox hb
     refine hK.out _ _ ⟨kO HM m4_, kO HM m3_⟩ (fun hHeld => ?_)
     clear hK K
     refine nO_ 5 ?_
     replace HM := MS.fswap HM
     exact nP_ (hJ (xv, yv, gx, gy) _ ⟨hx, hy, HM.out⟩)
    ·
     refine bs_ 5 #[.slice none 0 0, .slice none 0 0, .bool false] 25 ?_
     intro gx hg wk hbox hb
     replace HM := MS.md HM hg hbox hb; clear hg hbox hb
     refine hK.out _ _ ⟨kO HM m4_, kO HM m3_⟩ (fun hHeld => ?_)
     clear hK K
     refine nO_ 5 ?_
     refine on_ 3 (some 11) (mB 8 63) HT_ (fun K hK => ?_)
     refine gs_ Try.func38 #[Y.val] ?_
     with_reducible refine ok_ (rclose_as (Oc.now HY HM.out.S.below) (Below.refl _ _) rfl FY_.out HCY.out) fun yv wk hy ho hb => ?_
     replace HM := MS.cl HM hb ho; clear hb ho
     refine hK.out _ _ ⟨kO HM m4_, kO HM m3_⟩ (fun hHeld => ?_)
     clear hK K
     refine nO_ 11 ?_
     replace HM := MS.fswap HM
     exact nP_ (hJ (xv, yv, gx, gy) _ ⟨hx, hy, HM.out⟩)
  ·
   refine bs_ 5 #[.slice none 0 0, .slice none 0 0, .bool false] 25 ?_
   intro gx hg wk hbox hb
   replace HM := MS.md HM hg hbox hb; clear hg hbox hb
   refine hK.out _ _ ⟨kO HM m3_, kO HM m2_⟩ (fun hHeld => ?_)
   clear hK K
   refine nO_ 5 ?_
   refine tw_ 1 5 (some 9) (some 6) (mB 8 23) (mB 8 53) HT_ (fun K hK => ?_) (fun K hK => ?_)
   ·
    refine gs_ Try.func38 #[X.val] ?_
    with_reducible refine ok_ (rclose_as (Oc.now HX HM.out.S.below) (Below.refl _ _) rfl FX_.out HCX.out) fun xv wk hx ho hb => ?_
    replace HM := MS.cl HM hb ho; clear hb ho
    refine hK.out _ _ ⟨kO HM m3_, kO HM m2_⟩ (fun hHeld => ?_)
    clear hK K
    refine nO_ 9 ?_
    refine tw_ 3 5 (some 11) (some 6) (mB 8 31) (mB 8 55) HT_ (fun K hK => ?_) (fun K hK => ?_)
    ·
     refine gs_ Try.func38 #[Y.val] ?_
     with_reducible refine ok_ (rclose_as (Oc.now HY HM.out.S.below) (Below.refl _ _) rfl FY_.out HCY.out) fun yv wk hy ho hb => ?_
     replace HM := MS.cl HM hb ho; clear hb ho
     refine hK.out _ _ ⟨kO HM m3_, kO HM m2_⟩ (fun hHeld => ?_)
     clear hK K
     refine nO_ 11 ?_
     refine on_ 5 (some 6) (mB 8 63) HT_ (fun K hK => ?_)
     refine bs_ 6 #[.slice none 0 0, .slice none 0 0, .bool false] 25 ?_
     intro gy hg wk hbox hb
     replace HM := MS.md HM hg hbox hb; clear hg hbox hb
     refine hK.out _ _ ⟨kO HM m4_, kO HM m3_⟩ (fun hHeld => ?_)
     clear hK K
     refine nO_ 6 ?_
     exact nP_ (hJ (xv, yv, gx, gy) _ ⟨hx, hy, HM.out⟩)
    ·
     refine bs_ 6 #[.slice none 0 0, .slice none 0 0, .bool false] 25 ?_
     intro gy hg wk hbox hb
     replace HM := MS.md HM hg hbox hb; clear hg hbox hb
     refine hK.out _ _ ⟨kO HM m4_, kO HM m3_⟩ (fun hHeld => ?_)
     clear hK K
     refine nO_ 6 ?_
     refine on_ 3 (some 11) (mB 8 63) HT_ (fun K hK => ?_)
     refine gs_ Try.func38 #[Y.val] ?_
     with_reducible refine ok_ (rclose_as (Oc.now HY HM.out.S.below) (Below.refl _ _) rfl FY_.out HCY.out) fun yv wk hy ho hb => ?_
     replace HM := MS.cl HM hb ho; clear hb ho
     refine hK.out _ _ ⟨kO HM m4_, kO HM m3_⟩ (fun hHeld => ?_)
     clear hK K
     refine nO_ 11 ?_
     exact nP_ (hJ (xv, yv, gx, gy) _ ⟨hx, hy, HM.out⟩)
   ·
    refine bs_ 6 #[.slice none 0 0, .slice none 0 0, .bool false] 25 ?_
    intro gy hg wk hbox hb
    replace HM := MS.md HM hg hbox hb; clear hg hbox hb
    refine hK.out _ _ ⟨kO HM m4_, kO HM m3_⟩ (fun hHeld => ?_)
    clear hK K
    refine nO_ 6 ?_
    refine on_ 1 (some 9) (mB 8 55) HT_ (fun K hK => ?_)
    refine gs_ Try.func38 #[X.val] ?_
    with_reducible refine ok_ (rclose_as (Oc.now HX HM.out.S.below) (Below.refl _ _) rfl FX_.out HCX.out) fun xv wk hx ho hb => ?_
    replace HM := MS.cl HM hb ho; clear hb ho
    refine hK.out _ _ ⟨kO HM m4_, kO HM m3_⟩ (fun hHeld => ?_)
    clear hK K
    refine nO_ 9 ?_
    refine on_ 3 (some 11) (mB 8 63) HT_ (fun K hK => ?_)
    refine gs_ Try.func38 #[Y.val] ?_
    with_reducible refine ok_ (rclose_as (Oc.now HY HM.out.S.below) (Below.refl _ _) rfl FY_.out HCY.out) fun yv wk hy ho hb => ?_
    replace HM := MS.cl HM hb ho; clear hb ho
    refine hK.out _ _ ⟨kO HM m4_, kO HM m3_⟩ (fun hHeld => ?_)
    clear hK K
    refine nO_ 11 ?_
    exact nP_ (hJ (xv, yv, gx, gy) _ ⟨hx, hy, HM.out⟩)
  ·
   refine bs_ 6 #[.slice none 0 0, .slice none 0 0, .bool false] 25 ?_
   intro gy hg wk hbox hb
   replace HM := MS.md HM hg hbox hb; clear hg hbox hb
   refine hK.out _ _ ⟨kO HM m3_, kO HM m2_⟩ (fun hHeld => ?_)
   clear hK K
   refine nO_ 6 ?_
   refine tw_ 1 4 (some 9) (some 5) (mB 8 39) (mB 8 53) HT_ (fun K hK => ?_) (fun K hK => ?_)
   ·
    refine gs_ Try.func38 #[X.val] ?_
    with_reducible refine ok_ (rclose_as (Oc.now HX HM.out.S.below) (Below.refl _ _) rfl FX_.out HCX.out) fun xv wk hx ho hb => ?_
    replace HM := MS.cl HM hb ho; clear hb ho
    refine hK.out _ _ ⟨kO HM m3_, kO HM m2_⟩ (fun hHeld => ?_)
    clear hK K
    refine nO_ 9 ?_
    refine tw_ 3 4 (some 11) (some 5) (mB 8 47) (mB 8 55) HT_ (fun K hK => ?_) (fun K hK => ?_)
    ·
     refine gs_ Try.func38 #[Y.val] ?_
     with_reducible refine ok_ (rclose_as (Oc.now HY HM.out.S.below) (Below.refl _ _) rfl FY_.out HCY.out) fun yv wk hy ho hb => ?_
     replace HM := MS.cl HM hb ho; clear hb ho
     refine hK.out _ _ ⟨kO HM m3_, kO HM m2_⟩ (fun hHeld => ?_)
     clear hK K
     refine nO_ 11 ?_
     refine on_ 4 (some 5) (mB 8 63) HT_ (fun K hK => ?_)
     refine bs_ 5 #[.slice none 0 0, .slice none 0 0, .bool false] 25 ?_
     intro gx hg wk hbox hb
     replace HM := MS.md HM hg hbox hb; clear hg hbox hb
     refine hK.out _ _ ⟨kO HM m4_, kO HM m3_⟩ (fun hHeld => ?_)
     clear hK K
     refine nO_ 5 ?_
     replace HM := MS.fswap HM
     exact nP_ (hJ (xv, yv, gx, gy) _ ⟨hx, hy, HM.out⟩)
    ·
     refine bs_ 5 #[.slice none 0 0, .slice none 0 0, .bool false] 25 ?_
     intro gx hg wk hbox hb
     replace HM := MS.md HM hg hbox hb; clear hg hbox hb
     refine hK.out _ _ ⟨kO HM m4_, kO HM m3_⟩ (fun hHeld => ?_)
     clear hK K
     refine nO_ 5 ?_
     refine on_ 3 (some 11) (mB 8 63) HT_ (fun K hK => ?_)
     refine gs_ Try.func38 #[Y.val] ?_
     with_reducible refine ok_ (rclose_as (Oc.now HY HM.out.S.below) (Below.refl _ _) rfl FY_.out HCY.out) fun yv wk hy ho hb => ?_
     replace HM := MS.cl HM hb ho; clear hb ho
     refine hK.out _ _ ⟨kO HM m4_, kO HM m3_⟩ (fun hHeld => ?_)
     clear hK K
     refine nO_ 11 ?_
     replace HM := MS.fswap HM
     exact nP_ (hJ (xv, yv, gx, gy) _ ⟨hx, hy, HM.out⟩)
   ·
    refine bs_ 5 #[.slice none 0 0, .slice none 0 0, .bool false] 25 ?_
    intro gx hg wk hbox hb
    replace HM := MS.md HM hg hbox hb; clear hg hbox hb
    refine hK.out _ _ ⟨kO HM m4_, kO HM m3_⟩ (fun hHeld => ?_)
    clear hK K
    refine nO_ 5 ?_
    refine on_ 1 (some 9) (mB 8 55) HT_ (fun K hK => ?_)
    refine gs_ Try.func38 #[X.val] ?_
    with_reducible refine ok_ (rclose_as (Oc.now HX HM.out.S.below) (Below.refl _ _) rfl FX_.out HCX.out) fun xv wk hx ho hb => ?_
    replace HM := MS.cl HM hb ho; clear hb ho
    refine hK.out _ _ ⟨kO HM m4_, kO HM m3_⟩ (fun hHeld => ?_)
    clear hK K
    refine nO_ 9 ?_
    refine on_ 3 (some 11) (mB 8 63) HT_ (fun K hK => ?_)
    refine gs_ Try.func38 #[Y.val] ?_
    with_reducible refine ok_ (rclose_as (Oc.now HY HM.out.S.below) (Below.refl _ _) rfl FY_.out HCY.out) fun yv wk hy ho hb => ?_
    replace HM := MS.cl HM hb ho; clear hb ho
    refine hK.out _ _ ⟨kO HM m4_, kO HM m3_⟩ (fun hHeld => ?_)
    clear hK K
    refine nO_ 11 ?_
    replace HM := MS.fswap HM
    exact nP_ (hJ (xv, yv, gx, gy) _ ⟨hx, hy, HM.out⟩)
 rintro ⟨xv, yv, gx, gy⟩ wk ⟨hx, hy, HM4⟩
 clear HM hHeld; have HM := Aside0.mk HM4; clear HM4; dsimp only at HM hx hy
 refine nS_ ?_
 have kgx := MS.c3 HM m1_
 refine la_ 6 (mB 8 127) HT_ (fun K hK => ?_)
 refine skip_ (w1 := ?_) (by rfl) rfl ?_ ?_
 rotate_left
 ·
  go_simp
  rfl
 refine hK.out _ _ ?_
 clear hK K
 replace HM := MS.po1 xv HM
 generalize World.setCell _ _ _ = wk at HM ⊢
 have kgy := MS.c3 HM m0_
 refine la_ 7 (mB 8 255) HT_ (fun K hK => ?_)
 refine skip_ (w1 := ?_) (by rfl) rfl ?_ ?_
 rotate_left
 ·
  go_simp
  rfl
 refine hK.out _ _ ?_
 clear hK K
 refine dn_ HT_ ?_
 clear HT_ HW_
 unfold OnlyN
 replace HM := MS.po0 yv HM
 generalize World.setCell _ _ _ = wk at HM ⊢
 replace HM := MS.sb HM (.refl _) (.cons_cons _ (.cons_cons _ (.cons_cons _ (.cons _ (.cons _ .slnil)))))
 have HXV := Aside0.mk hx; have HYV := Aside0.mk hy; clear hx hy
 have e1 : xv.e = true := congrArg (·.2.2) HXV.out
 replace kgy := MS.c3 HM m0_; replace kgx := MS.c3 HM m1_; have kgr := MS.c3 HM m2_
 go_wp2
 replace HM := MS.po2 yv HM
 generalize World.setCell _ _ _ = wk at HM ⊢
 refine MS.rt HM m2_ ?_
 exact ⟨yv, rfl, HYV.out, HM.out.S.own _ m0_, HM.out.S.below⟩
theorem rjoin_y (X Y : OV) {v : List Int} {w : World} (HX : Aside0 (Oc w w X)) (HY : Aside0 (Oc w w Y)) (FX_ : Aside0 (OFit X.v X.m X.e)) (FY_ : Aside0 (OFit Y.v Y.m Y.e)) {l1 : List Int} (HCX : Aside0 (closeF X.v X.m X.e = (v, l1, false))) (HCY : Aside0 (closeF Y.v Y.m Y.e = (v, [], true))) : Calls Try.prog 23 #[X.val, Y.val] w fun e W' => ∃ z : OV, e = .returned z.val ∧ z.o = (v, l1, false) ∧ Own w W' z ∧ Below w.heap.size w W' := by
 have hu25 := Try.underlying25
 go_enter Try.func23, Try.ntmps23
 go_upto_region 1 with fail
 have HM := MS.n3 w X.cells Y.cells zeroO
 generalize World.alloc _ _ = wk at HM ⊢
 generalize w.heap.size + 2 = gr at HM ⊢
 generalize w.heap.size + 1 = gb at HM ⊢
 generalize w.heap.size = ga at HM ⊢
 replace HM := MS.dr HM
 refine startN_ (n := 8) (S := fun w' => oR ga X w' ∧ oR gb Y w') (ds := [6, 7]) (mB 8 0) (by kernel_rfl) rfl (by kernel_rfl) ⟨kO HM m2_, kO HM m1_⟩ (fun hHeld => ?_)
 refine with_tabW rjn_tab1 rjn_bits1 (fun HT_ HW_ => ?_)
 generalize World.drew _ = wk at HM hHeld ⊢
 refine tV_ 0 8 (mB 8 1) HT_ HW_ hHeld ?_
 refine tV_ 2 10 (mB 8 5) HT_ HW_ hHeld ?_
 refine join_ (σ := OV × OV × Nat × Nat) 2 (mB 8 63) (fun s_ => [(9, .agg #[.slice s_.1.P s_.1.v.length s_.1.p, .slice s_.1.Q s_.1.m.length s_.1.q, .bool s_.1.e]), (11, .agg #[.slice s_.2.1.P s_.2.1.v.length s_.2.1.p, .slice s_.2.1.Q s_.2.1.m.length s_.2.1.q, .bool s_.2.1.e]), (5, .pointer (some ⟨s_.2.2.1, 0, none⟩)), (6, .pointer (some ⟨s_.2.2.2, 0, none⟩))]) (fun s_ w' => (s_.1.o = (v, l1, false)) ∧ (s_.2.1.o = (v, [], true)) ∧ MS w [s_.2.1, s_.1] [(s_.2.2.2, zeroO), (s_.2.2.1, zeroO), (gr, zeroO), (gb, Y.cells), (ga, X.cells)] w') ?_ ?_
 rotate_left
 ·
  intro hJ
  refine th_ 1 4 5 (some 9) (some 5) (some 6) (mB 8 7) (mB 8 21) (mB 8 37) HT_ (fun K hK => ?_) (fun K hK => ?_) (fun K hK => ?_)
  ·
   refine gs_ Try.func38 #[X.val] ?_
   with_reducible refine ok_ (rclose_as (Oc.now HX HM.out.S.below) (Below.refl _ _) rfl FX_.out HCX.out) fun xv wk hx ho hb => ?_
   replace HM := MS.cl HM hb ho; clear hb ho
   refine hK.out _ _ ⟨kO HM m2_, kO HM m1_⟩ (fun hHeld => ?_)
   clear hK K
   refine nO_ 9 ?_
   refine th_ 3 4 5 (some 11) (some 5) (some 6) (mB 8 15) (mB 8 23) (mB 8 39) HT_ (fun K hK => ?_) (fun K hK => ?_) (fun K hK => ?_)
   ·
    refine gs_ Try.func38 #[Y.val] ?_
    with_reducible refine ok_ (rclose_as (Oc.now HY HM.out.S.below) (Below.refl _ _) rfl FY_.out HCY.out) fun yv wk hy ho hb => ?_
    replace HM := MS.cl HM hb ho; clear hb ho
    refine hK.out _ _ ⟨kO HM m2_, kO HM m1_⟩ (fun hHeld => ?_)
    clear hK K
    refine nO_ 11 ?_
    refine tw_ 4 5 (some 5) (some 6) (mB 8 31) (mB 8 47) HT_ (fun K hK => ?_) (fun K hK => ?_)
    ·
     refine bs_ 5 #[.slice none 0 0, .slice none 0 0, .bool false] 25 ?_
     intro gx hg wk hbox hb
     replace HM := MS.md HM hg hbox hb; clear hg hbox hb
     refine hK.out _ _ ⟨kO HM m3_, kO HM m2_⟩ (fun hHeld => ?_)
     clear hK K
     refine nO_ 5 ?_
     refine on_ 5 (some 6) (mB 8 63) HT_ (fun K hK => ?_)
     refine bs_ 6 #[.slice none 0 0, .slice none 0 0, .bool false] 25 ?_
     intro gy hg wk hbox hb
     replace HM := MS.md HM hg hbox hb; clear hg hbox hb
     refine hK.out _ _ ⟨kO HM m4_, kO HM m3_⟩ (fun hHeld => ?_)
     clear hK K
     refine nO_ 6 ?_
     exact nP_ (hJ (xv, yv, gx, gy) _ ⟨hx, hy, HM.out⟩)
    ·
     refine bs_ 6 #[.slice none 0 0, .slice none 0 0, .bool false] 25 ?_
     intro gy hg wk hbox hb
     replace HM := MS.md HM hg hbox hb; clear hg hbox hb
     refine hK.out _ _ ⟨kO HM m3_, kO HM m2_⟩ (fun hHeld => ?_)
     clear hK K
     refine nO_ 6 ?_
     refine on_ 4 (some 5) (mB 8 63) HT_ (fun K hK => ?_)
     refine bs_ 5 #[.slice none 0 0, .slice none 0 0, .bool false] 25 ?_
     intro gx hg wk hbox hb
     replace HM := MS.md HM hg hbox hb; clear hg hbox hb
     refine hK.out _ _ ⟨kO HM m4_, kO HM m3_⟩ (fun hHeld => ?_)
     clear hK K
     refine nO_ 5 ?_
     replace HM := MS.fswap HM
     exact nP_ (hJ (xv, yv, gx, gy) _ ⟨hx, hy, HM.out⟩)
   ·
    refine bs_ 5 #[.slice none 0 0, .slice none 0 0, .bool false] 25 ?_
    intro gx hg wk hbox hb
    replace HM := MS.md HM hg hbox hb; clear hg hbox hb
    refine hK.out _ _ ⟨kO HM m3_, kO HM m2_⟩ (fun hHeld => ?_)
    clear hK K
    refine nO_ 5 ?_
    refine tw_ 3 5 (some 11) (some 6) (mB 8 31) (mB 8 55) HT_ (fun K hK => ?_) (fun K hK => ?_)
    ·
     refine gs_ Try.func38 #[Y.val] ?_
     with_reducible refine ok_ (rclose_as (Oc.now HY HM.out.S.below) (Below.refl _ _) rfl FY_.out HCY.out) fun yv wk hy ho hb => ?_
     replace HM := MS.cl HM hb ho; clear hb ho
     refine hK.out _ _ ⟨kO HM m3_, kO HM m2_⟩ (fun hHeld => ?_)
     clear hK K
     refine nO_ 11 ?_
     refine on_ 5 (some 6) (mB 8 63) HT_ (fun K hK => ?_)
     refine bs_ 6 #[.slice none 0 0, .slice none 0 0, .bool false] 25 ?_
     intro gy hg wk hbox hb
     replace HM := MS.md HM hg hbox hb; clear hg hbox hb
     refine hK.out _ _ ⟨kO HM m4_, kO HM m3_⟩ (fun hHeld => ?_)
     clear hK K
     refine nO_ 6 ?_
     exact nP_ (hJ (xv, yv, gx, gy) _ ⟨hx, hy, HM.out⟩)
    ·
     refine bs_ 6 #[.slice none 0 0, .slice none 0 0, .bool false] 25 ?_
     intro gy hg wk hbox hb
     replace HM := MS.md HM hg hbox hb; clear hg hbox hb
     refine hK.out _ _ ⟨kO HM m4_, kO HM m3_⟩ (fun hHeld => ?_)
     clear hK K
     refine nO_ 6 ?_
     refine on_ 3 (some 11) (mB 8 63) HT_ (fun K hK => ?_)
     refine gs_ Try.func38 #[Y.val] ?_
     with_reducible refine ok_ (rclose_as (Oc.now HY HM.out.S.below) (Below.refl _ _) rfl FY_.out HCY.out) fun yv wk hy ho hb => ?_
     replace HM := MS.cl HM hb ho; clear hb ho
     refine hK.out _ _ ⟨kO HM m4_, kO HM m3_⟩ (fun hHeld => ?_)
     clear hK K
     refine nO_ 11 ?_
     exact nP_ (hJ (xv, yv, gx, gy) _ ⟨hx, hy, HM.out⟩)
   ·
    refine bs_ 6 #[.slice none 0 0, .slice none 0 0, .bool false] 25 ?_
    intro gy hg wk hbox hb
    replace HM := MS.md HM hg hbox hb; clear hg hbox hb
    refine hK.out _ _ ⟨kO HM m3_, kO HM m2_⟩ (fun hHeld => ?_)
    clear hK K
    refine nO_ 6 ?_
    refine tw_ 3 4 (some 11) (some 5) (mB 8 47) (mB 8 55) HT_ (fun K hK => ?_) (fun K hK => ?_)
    ·
     refine gs_ Try.func38 #[Y.val] ?_
     with_reducible refine ok_ (rclose_as (Oc.now HY HM.out.S.below) (Below.refl _ _) rfl FY_.out HCY.out) fun yv wk hy ho hb => ?_
     replace HM := MS.cl HM hb ho; clear hb ho
     refine hK.out _ _ ⟨kO HM m3_, kO HM m2_⟩ (fun hHeld => ?_)
     clear hK K
     refine nO_ 11 ?_
     refine on_ 4 (some 5) (mB 8 63) HT_ (fun K hK => ?_)
     refine bs_ 5 #[.slice none 0 0, .slice none 0 0, .bool false] 25 ?_
     intro gx hg wk hbox hb
     replace HM := MS.md HM hg hbox hb; clear hg hbox hb
     refine hK.out _ _ ⟨kO HM m4_, kO HM m3_⟩ (fun hHeld => ?_)
     clear hK K
     refine nO_ 5 ?_
     replace HM := MS.fswap HM
     exact nP_ (hJ (xv, yv, gx, gy) _ ⟨hx, hy, HM.out⟩)
    ·
     refine bs_ 5 #[.slice none 0 0, .slice none 0 0, .bool false] 25 ?_
     intro gx hg wk hbox hb
     replace HM := MS.md HM hg hbox hb; clear hg hbox hb
     refine hK.out _ _ ⟨kO HM m4_, kO HM m3_⟩ (fun hHeld => ?_)
     clear hK K
     refine nO_ 5 ?_
     refine on_ 3 (some 11) (mB 8 63) HT_ (fun K hK => ?_)
     refine gs_ Try.func38 #[Y.val] ?_
     with_reducible refine ok_ (rclose_as (Oc.now HY HM.out.S.below) (Below.refl _ _) rfl FY_.out HCY.out) fun yv wk hy ho hb => ?_
     replace HM := MS.cl HM hb ho; clear hb ho
     refine hK.out _ _ ⟨kO HM m4_, kO HM m3_⟩ (fun hHeld => ?_)
     clear hK K
     refine nO_ 11 ?_
     replace HM := MS.fswap HM
     exact nP_ (hJ (xv, yv, gx, gy) _ ⟨hx, hy, HM.out⟩)
  ·
   refine bs_ 5 #[.slice none 0 0, .slice none 0 0, .bool false] 25 ?_
   intro gx hg wk hbox hb
   replace HM := MS.md HM hg hbox hb; clear hg hbox hb
   refine hK.out _ _ ⟨kO HM m3_, kO HM m2_⟩ (fun hHeld => ?_)
   clear hK K
   refine nO_ 5 ?_
   refine tw_ 1 5 (some 9) (some 6) (mB 8 23) (mB 8 53) HT_ (fun K hK => ?_) (fun K hK => ?_)
   ·
    refine gs_ Try.func38 #[X.val] ?_
    with_reducible refine ok_ (rclose_as (Oc.now HX HM.out.S.below) (Below.refl _ _) rfl FX_.out HCX.out) fun xv wk hx ho hb => ?_
    replace HM := MS.cl HM hb ho; clear hb ho
    refine hK.out _ _ ⟨kO HM m3_, kO HM m2_⟩ (fun hHeld => ?_)
    clear hK K
    refine nO_ 9 ?_
    refine tw_ 3 5 (some 11) (some 6) (mB 8 31) (mB 8 55) HT_ (fun K hK => ?_) (fun K hK => ?_)
    ·
     refine gs_ Try.func38 #[Y.val] ?_
     with_reducible refine ok_ (rclose_as (Oc.now HY HM.out.S.below) (Below.refl _ _) rfl FY_.out HCY.out) fun yv wk hy ho hb => ?_
     replace HM := MS.cl HM hb ho; clear hb ho
     refine hK.out _ _ ⟨kO HM m3_, kO HM m2_⟩ (fun hHeld => ?_)
     clear hK K
     refine nO_ 11 ?_
     refine on_ 5 (some 6) (mB 8 63) HT_ (fun K hK => ?_)
     refine bs_ 6 #[.slice none 0 0, .slice none 0 0, .bool false] 25 ?_
     intro gy hg wk hbox hb
     replace HM := MS.md HM hg hbox hb; clear hg hbox hb
     refine hK.out _ _ ⟨kO HM m4_, kO HM m3_⟩ (fun hHeld => ?_)
     clear hK K
     refine nO_ 6 ?_
     exact nP_ (hJ (xv, yv, gx, gy) _ ⟨hx, hy, HM.out⟩)
    ·
     refine bs_ 6 #[.slice none 0 0, .slice none 0 0, .bool false] 25 ?_
     intro gy hg wk hbox hb
     replace HM := MS.md HM hg hbox hb; clear hg hbox hb
     refine hK.out _ _ ⟨kO HM m4_, kO HM m3_⟩ (fun hHeld => ?_)
     clear hK K
     refine nO_ 6 ?_
     refine on_ 3 (some 11) (mB 8 63) HT_ (fun K hK => ?_)
     refine gs_ Try.func38 #[Y.val] ?_
     with_reducible refine ok_ (rclose_as (Oc.now HY HM.out.S.below) (Below.refl _ _) rfl FY_.out HCY.out) fun yv wk hy ho hb => ?_
     replace HM := MS.cl HM hb ho; clear hb ho
     refine hK.out _ _ ⟨kO HM m4_, kO HM m3_⟩ (fun hHeld => ?_)
     clear hK K
     refine nO_ 11 ?_
     exact nP_ (hJ (xv, yv, gx, gy) _ ⟨hx, hy, HM.out⟩)
   ·
    refine bs_ 6 #[.slice none 0 0, .slice none 0 0, .bool false] 25 ?_
    intro gy hg wk hbox hb
    replace HM := MS.md HM hg hbox hb; clear hg hbox hb
    refine hK.out _ _ ⟨kO HM m4_, kO HM m3_⟩ (fun hHeld => ?_)
    clear hK K
    refine nO_ 6 ?_
    refine on_ 1 (some 9) (mB 8 55) HT_ (fun K hK => ?_)
    refine gs_ Try.func38 #[X.val] ?_
    with_reducible refine ok_ (rclose_as (Oc.now HX HM.out.S.below) (Below.refl _ _) rfl FX_.out HCX.out) fun xv wk hx ho hb => ?_
    replace HM := MS.cl HM hb ho; clear hb ho
    refine hK.out _ _ ⟨kO HM m4_, kO HM m3_⟩ (fun hHeld => ?_)
    clear hK K
    refine nO_ 9 ?_
    refine on_ 3 (some 11) (mB 8 63) HT_ (fun K hK => ?_)
    refine gs_ Try.func38 #[Y.val] ?_
    with_reducible refine ok_ (rclose_as (Oc.now HY HM.out.S.below) (Below.refl _ _) rfl FY_.out HCY.out) fun yv wk hy ho hb => ?_
    replace HM := MS.cl HM hb ho; clear hb ho
    refine hK.out _ _ ⟨kO HM m4_, kO HM m3_⟩ (fun hHeld => ?_)
    clear hK K
    refine nO_ 11 ?_
    exact nP_ (hJ (xv, yv, gx, gy) _ ⟨hx, hy, HM.out⟩)
  ·
   refine bs_ 6 #[.slice none 0 0, .slice none 0 0, .bool false] 25 ?_
   intro gy hg wk hbox hb
   replace HM := MS.md HM hg hbox hb; clear hg hbox hb
   refine hK.out _ _ ⟨kO HM m3_, kO HM m2_⟩ (fun hHeld => ?_)
   clear hK K
   refine nO_ 6 ?_
   refine tw_ 1 4 (some 9) (some 5) (mB 8 39) (mB 8 53) HT_ (fun K hK => ?_) (fun K hK => ?_)
   ·
    refine gs_ Try.func38 #[X.val] ?_
    with_reducible refine ok_ (rclose_as (Oc.now HX HM.out.S.below) (Below.refl _ _) rfl FX_.out HCX.out) fun xv wk hx ho hb => ?_
    replace HM := MS.cl HM hb ho; clear hb ho
    refine hK.out _ _ ⟨kO HM m3_, kO HM m2_⟩ (fun hHeld => ?_)
    clear hK K
    refine nO_ 9 ?_
    refine tw_ 3 4 (some 11) (some 5) (mB 8 47) (mB 8 55) HT_ (fun K hK => ?_) (fun K hK => ?_)
    ·
     refine gs_ Try.func38 #[Y.val] ?_
     with_reducible refine ok_ (rclose_as (Oc.now HY HM.out.S.below) (Below.refl _ _) rfl FY_.out HCY.out) fun yv wk hy ho hb => ?_
     replace HM := MS.cl HM hb ho; clear hb ho
     refine hK.out _ _ ⟨kO HM m3_, kO HM m2_⟩ (fun hHeld => ?_)
     clear hK K
     refine nO_ 11 ?_
     refine on_ 4 (some 5) (mB 8 63) HT_ (fun K hK => ?_)
     refine bs_ 5 #[.slice none 0 0, .slice none 0 0, .bool false] 25 ?_
     intro gx hg wk hbox hb
     replace HM := MS.md HM hg hbox hb; clear hg hbox hb
     refine hK.out _ _ ⟨kO HM m4_, kO HM m3_⟩ (fun hHeld => ?_)
     clear hK K
     refine nO_ 5 ?_
     replace HM := MS.fswap HM
     exact nP_ (hJ (xv, yv, gx, gy) _ ⟨hx, hy, HM.out⟩)
    ·
     refine bs_ 5 #[.slice none 0 0, .slice none 0 0, .bool false] 25 ?_
     intro gx hg wk hbox hb
     replace HM := MS.md HM hg hbox hb; clear hg hbox hb
     refine hK.out _ _ ⟨kO HM m4_, kO HM m3_⟩ (fun hHeld => ?_)
     clear hK K
     refine nO_ 5 ?_
     refine on_ 3 (some 11) (mB 8 63) HT_ (fun K hK => ?_)
     refine gs_ Try.func38 #[Y.val] ?_
     with_reducible refine ok_ (rclose_as (Oc.now HY HM.out.S.below) (Below.refl _ _) rfl FY_.out HCY.out) fun yv wk hy ho hb => ?_
     replace HM := MS.cl HM hb ho; clear hb ho
     refine hK.out _ _ ⟨kO HM m4_, kO HM m3_⟩ (fun hHeld => ?_)
     clear hK K
     refine nO_ 11 ?_
     replace HM := MS.fswap HM
     exact nP_ (hJ (xv, yv, gx, gy) _ ⟨hx, hy, HM.out⟩)
   ·
    refine bs_ 5 #[.slice none 0 0, .slice none 0 0, .bool false] 25 ?_
    intro gx hg wk hbox hb
    replace HM := MS.md HM hg hbox hb; clear hg hbox hb
    refine hK.out _ _ ⟨kO HM m4_, kO HM m3_⟩ (fun hHeld => ?_)
    clear hK K
    refine nO_ 5 ?_
    refine on_ 1 (some 9) (mB 8 55) HT_ (fun K hK => ?_)
    refine gs_ Try.func38 #[X.val] ?_
    with_reducible refine ok_ (rclose_as (Oc.now HX HM.out.S.below) (Below.refl _ _) rfl FX_.out HCX.out) fun xv wk hx ho hb => ?_
    replace HM := MS.cl HM hb ho; clear hb ho
    refine hK.out _ _ ⟨kO HM m4_, kO HM m3_⟩ (fun hHeld => ?_)
    clear hK K
    refine nO_ 9 ?_
    refine on_ 3 (some 11) (mB 8 63) HT_ (fun K hK => ?_)
    refine gs_ Try.func38 #[Y.val] ?_
    with_reducible refine ok_ (rclose_as (Oc.now HY HM.out.S.below) (Below.refl _ _) rfl FY_.out HCY.out) fun yv wk hy ho hb => ?_
    replace HM := MS.cl HM hb ho; clear hb ho
    refine hK.out _ _ ⟨kO HM m4_, kO HM m3_⟩ (fun hHeld => ?_)
    clear hK K
    refine nO_ 11 ?_
    replace HM := MS.fswap HM
    exact nP_ (hJ (xv, yv, gx, gy) _ ⟨hx, hy, HM.out⟩)
 rintro ⟨xv, yv, gx, gy⟩ wk ⟨hx, hy, HM4⟩
 clear HM hHeld; have HM := Aside0.mk HM4; clear HM4; dsimp only at HM hx hy
 refine nS_ ?_
 have kgx := MS.c3 HM m1_
 refine la_ 6 (mB 8 127) HT_ (fun K hK => ?_)
 refine skip_ (w1 := ?_) (by rfl) rfl ?_ ?_
 rotate_left
 ·
  go_simp
  rfl
 refine hK.out _ _ ?_
 clear hK K
 replace HM := MS.po1 xv HM
 generalize World.setCell _ _ _ = wk at HM ⊢
 have kgy := MS.c3 HM m0_
 refine la_ 7 (mB 8 255) HT_ (fun K hK => ?_)
 refine skip_ (w1 := ?_) (by rfl) rfl ?_ ?_
 rotate_left
 ·
  go_simp
  rfl
 refine hK.out _ _ ?_
 clear hK K
 refine dn_ HT_ ?_
 clear HT_ HW_
 unfold OnlyN
 replace HM := MS.po0 yv HM
 generalize World.setCell _ _ _ = wk at HM ⊢
 replace HM := MS.sb HM (.refl _) (.cons_cons _ (.cons_cons _ (.cons_cons _ (.cons _ (.cons _ .slnil)))))
 have HXV := Aside0.mk hx; have HYV := Aside0.mk hy; clear hx hy
 have e1 : xv.e = false := congrArg (·.2.2) HXV.out
 replace kgy := MS.c3 HM m0_; replace kgx := MS.c3 HM m1_; have kgr := MS.c3 HM m2_
 go_upto_region 4 with fail
 clear e1
 have e2 : yv.e = true := congrArg (·.2.2) HYV.out
 go_upto_region 5 with fail
 clear e2
 go_wp2
 replace HM := MS.po2 xv HM
 generalize World.setCell _ _ _ = wk at HM ⊢
 refine MS.rt HM m2_ ?_
 exact ⟨xv, rfl, HXV.out, HM.out.S.own _ m1_, HM.out.S.below⟩
theorem rjoin_in (X Y : OV) {v : List Int} {w : World} (HX : Aside0 (Oc w w X)) (HY : Aside0 (Oc w w Y)) (FX_ : Aside0 (OFit X.v X.m X.e)) (FY_ : Aside0 (OFit Y.v Y.m Y.e)) {l1 l2 l3 : List Int} (HCX : Aside0 (closeF X.v X.m X.e = (v, l1, false))) (HCY : Aside0 (closeF Y.v Y.m Y.e = (v, l2, false))) (HL : Aside0 (l1.length = l2.length ∧ l1.length ≤ 256)) (HJ : Aside0 (∀ xs : List Int, xs.length = l1.length → (∀ k : Nat, k < l1.length → rd xs (k : Int) = mx (rd l1 (k : Int)) (rd l2 (k : Int))) → xs = l3)) : Calls Try.prog 23 #[X.val, Y.val] w fun e W' => ∃ z : OV, e = .returned z.val ∧ z.o = (v, l3, false) ∧ Own w W' z ∧ Below w.heap.size w W' := by
 have hu25 := Try.underlying25
 go_enter Try.func23, Try.ntmps23
 go_upto_region 1 with fail
 have HM := MS.n3 w X.cells Y.cells zeroO
 generalize World.alloc _ _ = wk at HM ⊢
 generalize w.heap.size + 2 = gr at HM ⊢
 generalize w.heap.size + 1 = gb at HM ⊢
 generalize w.heap.size = ga at HM ⊢
 replace HM := MS.dr HM
 refine startN_ (n := 8) (S := fun w' => oR ga X w' ∧ oR gb Y w') (ds := [6, 7]) (mB 8 0) (by kernel_rfl) rfl (by kernel_rfl) ⟨kO HM m2_, kO HM m1_⟩ (fun hHeld => ?_)
 refine with_tabW rjn_tab1 rjn_bits1 (fun HT_ HW_ => ?_)
 generalize World.drew _ = wk at HM hHeld ⊢
 refine tV_ 0 8 (mB 8 1) HT_ HW_ hHeld ?_
 refine tV_ 2 10 (mB 8 5) HT_ HW_ hHeld ?_
 refine join_ (σ := OV × OV × Nat × Nat) 2 (mB 8 63) (fun s_ => [(9, .agg #[.slice s_.1.P s_.1.v.length s_.1.p, .slice s_.1.Q s_.1.m.length s_.1.q, .bool s_.1.e]), (11, .agg #[.slice s_.2.1.P s_.2.1.v.length s_.2.1.p, .slice s_.2.1.Q s_.2.1.m.length s_.2.1.q, .bool s_.2.1.e]), (5, .pointer (some ⟨s_.2.2.1, 0, none⟩)), (6, .pointer (some ⟨s_.2.2.2, 0, none⟩))]) (fun s_ w' => (s_.1.o = (v, l1, false)) ∧ (s_.2.1.o = (v, l2, false)) ∧ MS w [s_.2.1, s_.1] [(s_.2.2.2, zeroO), (s_.2.2.1, zeroO), (gr, zeroO), (gb, Y.cells), (ga, X.cells)] w') ?_ ?_
 rotate_left
 ·
  intro hJ
  refine th_ 1 4 5 (some 9) (some 5) (some 6) (mB 8 7) (mB 8 21) (mB 8 37) HT_ (fun K hK => ?_) (fun K hK => ?_) (fun K hK => ?_)
  ·
   refine gs_ Try.func38 #[X.val] ?_
   with_reducible refine ok_ (rclose_as (Oc.now HX HM.out.S.below) (Below.refl _ _) rfl FX_.out HCX.out) fun xv wk hx ho hb => ?_
   replace HM := MS.cl HM hb ho; clear hb ho
   refine hK.out _ _ ⟨kO HM m2_, kO HM m1_⟩ (fun hHeld => ?_)
   clear hK K
   refine nO_ 9 ?_
   refine th_ 3 4 5 (some 11) (some 5) (some 6) (mB 8 15) (mB 8 23) (mB 8 39) HT_ (fun K hK => ?_) (fun K hK => ?_) (fun K hK => ?_)
   ·
    refine gs_ Try.func38 #[Y.val] ?_
    with_reducible refine ok_ (rclose_as (Oc.now HY HM.out.S.below) (Below.refl _ _) rfl FY_.out HCY.out) fun yv wk hy ho hb => ?_
    replace HM := MS.cl HM hb ho; clear hb ho
    refine hK.out _ _ ⟨kO HM m2_, kO HM m1_⟩ (fun hHeld => ?_)
    clear hK K
    refine nO_ 11 ?_
    refine tw_ 4 5 (some 5) (some 6) (mB 8 31) (mB 8 47) HT_ (fun K hK => ?_) (fun K hK => ?_)
    ·
     refine bs_ 5 #[.slice none 0 0, .slice none 0 0, .bool false] 25 ?_
     intro gx hg wk hbox hb
     replace HM := MS.md HM hg hbox hb; clear hg hbox hb
     refine hK.out _ _ ⟨kO HM m3_, kO HM m2_⟩ (fun hHeld => ?_)
     clear hK K
     refine nO_ 5 ?_
     refine on_ 5 (some 6) (mB 8 63) HT_ (fun K hK => ?_)
     refine bs_ 6 #[.slice none 0 0, .slice none 0 0, .bool false] 25 ?_
     intro gy hg wk hbox hb
     replace HM := MS.md HM hg hbox hb; clear hg hbox hb
     refine hK.out _ _ ⟨kO HM m4_, kO HM m3_⟩ (fun hHeld => ?_)
     clear hK K
     refine nO_ 6 ?_
     exact nP_ (hJ (xv, yv, gx, gy) _ ⟨hx, hy, HM.out⟩)
    ·
     refine bs_ 6 #[.slice none 0 0, .slice none 0 0, .bool false] 25 ?_
     intro gy hg wk hbox hb
     replace HM := MS.md HM hg hbox hb; clear hg hbox hb
     refine hK.out _ _ ⟨kO HM m3_, kO HM m2_⟩ (fun hHeld => ?_)
     clear hK K
     refine nO_ 6 ?_
     refine on_ 4 (some 5) (mB 8 63) HT_ (fun K hK => ?_)
     refine bs_ 5 #[.slice none 0 0, .slice none 0 0, .bool false] 25 ?_
     intro gx hg wk hbox hb
     replace HM := MS.md HM hg hbox hb; clear hg hbox hb
     refine hK.out _ _ ⟨kO HM m4_, kO HM m3_⟩ (fun hHeld => ?_)
     clear hK K
     refine nO_ 5 ?_
     replace HM := MS.fswap HM
     exact nP_ (hJ (xv, yv, gx, gy) _ ⟨hx, hy, HM.out⟩)
   ·
    refine bs_ 5 #[.slice none 0 0, .slice none 0 0, .bool false] 25 ?_
    intro gx hg wk hbox hb
    replace HM := MS.md HM hg hbox hb; clear hg hbox hb
    refine hK.out _ _ ⟨kO HM m3_, kO HM m2_⟩ (fun hHeld => ?_)
    clear hK K
    refine nO_ 5 ?_
    refine tw_ 3 5 (some 11) (some 6) (mB 8 31) (mB 8 55) HT_ (fun K hK => ?_) (fun K hK => ?_)
    ·
     refine gs_ Try.func38 #[Y.val] ?_
     with_reducible refine ok_ (rclose_as (Oc.now HY HM.out.S.below) (Below.refl _ _) rfl FY_.out HCY.out) fun yv wk hy ho hb => ?_
     replace HM := MS.cl HM hb ho; clear hb ho
     refine hK.out _ _ ⟨kO HM m3_, kO HM m2_⟩ (fun hHeld => ?_)
     clear hK K
     refine nO_ 11 ?_
     refine on_ 5 (some 6) (mB 8 63) HT_ (fun K hK => ?_)
     refine bs_ 6 #[.slice none 0 0, .slice none 0 0, .bool false] 25 ?_
     intro gy hg wk hbox hb
     replace HM := MS.md HM hg hbox hb; clear hg hbox hb
     refine hK.out _ _ ⟨kO HM m4_, kO HM m3_⟩ (fun hHeld => ?_)
     clear hK K
     refine nO_ 6 ?_
     exact nP_ (hJ (xv, yv, gx, gy) _ ⟨hx, hy, HM.out⟩)
    ·
     refine bs_ 6 #[.slice none 0 0, .slice none 0 0, .bool false] 25 ?_
     intro gy hg wk hbox hb
     replace HM := MS.md HM hg hbox hb; clear hg hbox hb
     refine hK.out _ _ ⟨kO HM m4_, kO HM m3_⟩ (fun hHeld => ?_)
     clear hK K
     refine nO_ 6 ?_
     refine on_ 3 (some 11) (mB 8 63) HT_ (fun K hK => ?_)
     refine gs_ Try.func38 #[Y.val] ?_
     with_reducible refine ok_ (rclose_as (Oc.now HY HM.out.S.below) (Below.refl _ _) rfl FY_.out HCY.out) fun yv wk hy ho hb => ?_
     replace HM := MS.cl HM hb ho; clear hb ho
     refine hK.out _ _ ⟨kO HM m4_, kO HM m3_⟩ (fun hHeld => ?_)
     clear hK K
     refine nO_ 11 ?_
     exact nP_ (hJ (xv, yv, gx, gy) _ ⟨hx, hy, HM.out⟩)
   ·
    refine bs_ 6 #[.slice none 0 0, .slice none 0 0, .bool false] 25 ?_
    intro gy hg wk hbox hb
    replace HM := MS.md HM hg hbox hb; clear hg hbox hb
    refine hK.out _ _ ⟨kO HM m3_, kO HM m2_⟩ (fun hHeld => ?_)
    clear hK K
    refine nO_ 6 ?_
    refine tw_ 3 4 (some 11) (some 5) (mB 8 47) (mB 8 55) HT_ (fun K hK => ?_) (fun K hK => ?_)
    ·
     refine gs_ Try.func38 #[Y.val] ?_
     with_reducible refine ok_ (rclose_as (Oc.now HY HM.out.S.below) (Below.refl _ _) rfl FY_.out HCY.out) fun yv wk hy ho hb => ?_
     replace HM := MS.cl HM hb ho; clear hb ho
     refine hK.out _ _ ⟨kO HM m3_, kO HM m2_⟩ (fun hHeld => ?_)
     clear hK K
     refine nO_ 11 ?_
     refine on_ 4 (some 5) (mB 8 63) HT_ (fun K hK => ?_)
     refine bs_ 5 #[.slice none 0 0, .slice none 0 0, .bool false] 25 ?_
     intro gx hg wk hbox hb
     replace HM := MS.md HM hg hbox hb; clear hg hbox hb
     refine hK.out _ _ ⟨kO HM m4_, kO HM m3_⟩ (fun hHeld => ?_)
     clear hK K
     refine nO_ 5 ?_
     replace HM := MS.fswap HM
     exact nP_ (hJ (xv, yv, gx, gy) _ ⟨hx, hy, HM.out⟩)
    ·
     refine bs_ 5 #[.slice none 0 0, .slice none 0 0, .bool false] 25 ?_
     intro gx hg wk hbox hb
     replace HM := MS.md HM hg hbox hb; clear hg hbox hb
     refine hK.out _ _ ⟨kO HM m4_, kO HM m3_⟩ (fun hHeld => ?_)
     clear hK K
     refine nO_ 5 ?_
     refine on_ 3 (some 11) (mB 8 63) HT_ (fun K hK => ?_)
     refine gs_ Try.func38 #[Y.val] ?_
     with_reducible refine ok_ (rclose_as (Oc.now HY HM.out.S.below) (Below.refl _ _) rfl FY_.out HCY.out) fun yv wk hy ho hb => ?_
     replace HM := MS.cl HM hb ho; clear hb ho
     refine hK.out _ _ ⟨kO HM m4_, kO HM m3_⟩ (fun hHeld => ?_)
     clear hK K
     refine nO_ 11 ?_
     replace HM := MS.fswap HM
     exact nP_ (hJ (xv, yv, gx, gy) _ ⟨hx, hy, HM.out⟩)
  ·
   refine bs_ 5 #[.slice none 0 0, .slice none 0 0, .bool false] 25 ?_
   intro gx hg wk hbox hb
   replace HM := MS.md HM hg hbox hb; clear hg hbox hb
   refine hK.out _ _ ⟨kO HM m3_, kO HM m2_⟩ (fun hHeld => ?_)
   clear hK K
   refine nO_ 5 ?_
   refine tw_ 1 5 (some 9) (some 6) (mB 8 23) (mB 8 53) HT_ (fun K hK => ?_) (fun K hK => ?_)
   ·
    refine gs_ Try.func38 #[X.val] ?_
    with_reducible refine ok_ (rclose_as (Oc.now HX HM.out.S.below) (Below.refl _ _) rfl FX_.out HCX.out) fun xv wk hx ho hb => ?_
    replace HM := MS.cl HM hb ho; clear hb ho
    refine hK.out _ _ ⟨kO HM m3_, kO HM m2_⟩ (fun hHeld => ?_)
    clear hK K
    refine nO_ 9 ?_
    refine tw_ 3 5 (some 11) (some 6) (mB 8 31) (mB 8 55) HT_ (fun K hK => ?_) (fun K hK => ?_)
    ·
     refine gs_ Try.func38 #[Y.val] ?_
     with_reducible refine ok_ (rclose_as (Oc.now HY HM.out.S.below) (Below.refl _ _) rfl FY_.out HCY.out) fun yv wk hy ho hb => ?_
     replace HM := MS.cl HM hb ho; clear hb ho
     refine hK.out _ _ ⟨kO HM m3_, kO HM m2_⟩ (fun hHeld => ?_)
     clear hK K
     refine nO_ 11 ?_
     refine on_ 5 (some 6) (mB 8 63) HT_ (fun K hK => ?_)
     refine bs_ 6 #[.slice none 0 0, .slice none 0 0, .bool false] 25 ?_
     intro gy hg wk hbox hb
     replace HM := MS.md HM hg hbox hb; clear hg hbox hb
     refine hK.out _ _ ⟨kO HM m4_, kO HM m3_⟩ (fun hHeld => ?_)
     clear hK K
     refine nO_ 6 ?_
     exact nP_ (hJ (xv, yv, gx, gy) _ ⟨hx, hy, HM.out⟩)
    ·
     refine bs_ 6 #[.slice none 0 0, .slice none 0 0, .bool false] 25 ?_
     intro gy hg wk hbox hb
     replace HM := MS.md HM hg hbox hb; clear hg hbox hb
     refine hK.out _ _ ⟨kO HM m4_, kO HM m3_⟩ (fun hHeld => ?_)
     clear hK K
     refine nO_ 6 ?_
     refine on_ 3 (some 11) (mB 8 63) HT_ (fun K hK => ?_)
     refine gs_ Try.func38 #[Y.val] ?_
     with_reducible refine ok_ (rclose_as (Oc.now HY HM.out.S.below) (Below.refl _ _) rfl FY_.out HCY.out) fun yv wk hy ho hb => ?_
     replace HM := MS.cl HM hb ho; clear hb ho
     refine hK.out _ _ ⟨kO HM m4_, kO HM m3_⟩ (fun hHeld => ?_)
     clear hK K
     refine nO_ 11 ?_
     exact nP_ (hJ (xv, yv, gx, gy) _ ⟨hx, hy, HM.out⟩)
   ·
    refine bs_ 6 #[.slice none 0 0, .slice none 0 0, .bool false] 25 ?_
    intro gy hg wk hbox hb
    replace HM := MS.md HM hg hbox hb; clear hg hbox hb
    refine hK.out _ _ ⟨kO HM m4_, kO HM m3_⟩ (fun hHeld => ?_)
    clear hK K
    refine nO_ 6 ?_
    refine on_ 1 (some 9) (mB 8 55) HT_ (fun K hK => ?_)
    refine gs_ Try.func38 #[X.val] ?_
    with_reducible refine ok_ (rclose_as (Oc.now HX HM.out.S.below) (Below.refl _ _) rfl FX_.out HCX.out) fun xv wk hx ho hb => ?_
    replace HM := MS.cl HM hb ho; clear hb ho
    refine hK.out _ _ ⟨kO HM m4_, kO HM m3_⟩ (fun hHeld => ?_)
    clear hK K
    refine nO_ 9 ?_
    refine on_ 3 (some 11) (mB 8 63) HT_ (fun K hK => ?_)
    refine gs_ Try.func38 #[Y.val] ?_
    with_reducible refine ok_ (rclose_as (Oc.now HY HM.out.S.below) (Below.refl _ _) rfl FY_.out HCY.out) fun yv wk hy ho hb => ?_
    replace HM := MS.cl HM hb ho; clear hb ho
    refine hK.out _ _ ⟨kO HM m4_, kO HM m3_⟩ (fun hHeld => ?_)
    clear hK K
    refine nO_ 11 ?_
    exact nP_ (hJ (xv, yv, gx, gy) _ ⟨hx, hy, HM.out⟩)
  ·
   refine bs_ 6 #[.slice none 0 0, .slice none 0 0, .bool false] 25 ?_
   intro gy hg wk hbox hb
   replace HM := MS.md HM hg hbox hb; clear hg hbox hb
   refine hK.out _ _ ⟨kO HM m3_, kO HM m2_⟩ (fun hHeld => ?_)
   clear hK K
   refine nO_ 6 ?_
   refine tw_ 1 4 (some 9) (some 5) (mB 8 39) (mB 8 53) HT_ (fun K hK => ?_) (fun K hK => ?_)
   ·
    refine gs_ Try.func38 #[X.val] ?_
    with_reducible refine ok_ (rclose_as (Oc.now HX HM.out.S.below) (Below.refl _ _) rfl FX_.out HCX.out) fun xv wk hx ho hb => ?_
    replace HM := MS.cl HM hb ho; clear hb ho
    refine hK.out _ _ ⟨kO HM m3_, kO HM m2_⟩ (fun hHeld => ?_)
    clear hK K
    refine nO_ 9 ?_
    refine tw_ 3 4 (some 11) (some 5) (mB 8 47) (mB 8 55) HT_ (fun K hK => ?_) (fun K hK => ?_)
    ·
     refine gs_ Try.func38 #[Y.val] ?_
     with_reducible refine ok_ (rclose_as (Oc.now HY HM.out.S.below) (Below.refl _ _) rfl FY_.out HCY.out) fun yv wk hy ho hb => ?_
     replace HM := MS.cl HM hb ho; clear hb ho
     refine hK.out _ _ ⟨kO HM m3_, kO HM m2_⟩ (fun hHeld => ?_)
     clear hK K
     refine nO_ 11 ?_
     refine on_ 4 (some 5) (mB 8 63) HT_ (fun K hK => ?_)
     refine bs_ 5 #[.slice none 0 0, .slice none 0 0, .bool false] 25 ?_
     intro gx hg wk hbox hb
     replace HM := MS.md HM hg hbox hb; clear hg hbox hb
     refine hK.out _ _ ⟨kO HM m4_, kO HM m3_⟩ (fun hHeld => ?_)
     clear hK K
     refine nO_ 5 ?_
     replace HM := MS.fswap HM
     exact nP_ (hJ (xv, yv, gx, gy) _ ⟨hx, hy, HM.out⟩)
    ·
     refine bs_ 5 #[.slice none 0 0, .slice none 0 0, .bool false] 25 ?_
     intro gx hg wk hbox hb
     replace HM := MS.md HM hg hbox hb; clear hg hbox hb
     refine hK.out _ _ ⟨kO HM m4_, kO HM m3_⟩ (fun hHeld => ?_)
     clear hK K
     refine nO_ 5 ?_
     refine on_ 3 (some 11) (mB 8 63) HT_ (fun K hK => ?_)
     refine gs_ Try.func38 #[Y.val] ?_
     with_reducible refine ok_ (rclose_as (Oc.now HY HM.out.S.below) (Below.refl _ _) rfl FY_.out HCY.out) fun yv wk hy ho hb => ?_
     replace HM := MS.cl HM hb ho; clear hb ho
     refine hK.out _ _ ⟨kO HM m4_, kO HM m3_⟩ (fun hHeld => ?_)
     clear hK K
     refine nO_ 11 ?_
     replace HM := MS.fswap HM
     exact nP_ (hJ (xv, yv, gx, gy) _ ⟨hx, hy, HM.out⟩)
   ·
    refine bs_ 5 #[.slice none 0 0, .slice none 0 0, .bool false] 25 ?_
    intro gx hg wk hbox hb
    replace HM := MS.md HM hg hbox hb; clear hg hbox hb
    refine hK.out _ _ ⟨kO HM m4_, kO HM m3_⟩ (fun hHeld => ?_)
    clear hK K
    refine nO_ 5 ?_
    refine on_ 1 (some 9) (mB 8 55) HT_ (fun K hK => ?_)
    refine gs_ Try.func38 #[X.val] ?_
    with_reducible refine ok_ (rclose_as (Oc.now HX HM.out.S.below) (Below.refl _ _) rfl FX_.out HCX.out) fun xv wk hx ho hb => ?_
    replace HM := MS.cl HM hb ho; clear hb ho
    refine hK.out _ _ ⟨kO HM m4_, kO HM m3_⟩ (fun hHeld => ?_)
    clear hK K
    refine nO_ 9 ?_
    refine on_ 3 (some 11) (mB 8 63) HT_ (fun K hK => ?_)
    refine gs_ Try.func38 #[Y.val] ?_
    with_reducible refine ok_ (rclose_as (Oc.now HY HM.out.S.below) (Below.refl _ _) rfl FY_.out HCY.out) fun yv wk hy ho hb => ?_
    replace HM := MS.cl HM hb ho; clear hb ho
    refine hK.out _ _ ⟨kO HM m4_, kO HM m3_⟩ (fun hHeld => ?_)
    clear hK K
    refine nO_ 11 ?_
    replace HM := MS.fswap HM
    exact nP_ (hJ (xv, yv, gx, gy) _ ⟨hx, hy, HM.out⟩)
 rintro ⟨xv, yv, gx, gy⟩ wk ⟨hx, hy, HM4⟩
 clear HM hHeld; have HM := Aside0.mk HM4; clear HM4; dsimp only at HM hx hy
 refine nS_ ?_
 have kgx := MS.c3 HM m1_
 refine la_ 6 (mB 8 127) HT_ (fun K hK => ?_)
 refine skip_ (w1 := ?_) (by rfl) rfl ?_ ?_
 rotate_left
 ·
  go_simp
  rfl
 refine hK.out _ _ ?_
 clear hK K
 replace HM := MS.po1 xv HM
 generalize World.setCell _ _ _ = wk at HM ⊢
 have kgy := MS.c3 HM m0_
 refine la_ 7 (mB 8 255) HT_ (fun K hK => ?_)
 refine skip_ (w1 := ?_) (by rfl) rfl ?_ ?_
 rotate_left
 ·
  go_simp
  rfl
 refine hK.out _ _ ?_
 clear hK K
 refine dn_ HT_ ?_
 clear HT_ HW_
 unfold OnlyN
 replace HM := MS.po0 yv HM
 generalize World.setCell _ _ _ = wk at HM ⊢
 replace HM := MS.sb HM (.refl _) (.cons_cons _ (.cons_cons _ (.cons_cons _ (.cons _ (.cons _ .slnil)))))
 have HXV := Aside0.mk hx; have HYV := Aside0.mk hy; clear hx hy
 have e1 : xv.e = false := congrArg (·.2.2) HXV.out; have e2 : yv.e = false := congrArg (·.2.2) HYV.out
 replace kgy := MS.c3 HM m0_; replace kgx := MS.c3 HM m1_; have kgr := MS.c3 HM m2_
 go_upto_region 6 with fail
 clear e1 e2
 obtain ⟨xP, xp, xQ, xq, xV, xM, xE⟩ := xv; obtain ⟨yP, yp, yQ, yq, yV, yM, yE⟩ := yv
 have ex := HXV.out; have ey := HYV.out; clear HXV HYV; cases ex; cases ey
 replace HM : Aside0 (MS w [⟨xP, xp, xQ, xq, xV, xM, false⟩, ⟨yP, yp, yQ, yq, xV, yM, false⟩] [(gy, .cells #[.slice yP xV.length yp, .slice yQ yM.length yq, .bool false] 25 (0, 0)), (gx, .cells #[.slice xP xV.length xp, .slice xQ xM.length xq, .bool false] 25 (0, 0)), (gr, zeroO)] _) := ⟨HM.out.swap⟩
 go_wp2
 go_loopg [21] xM.length (fun kq v21 w' => ∃ (i : Int) (xs : List Int), v21 = .int .i64 i ∧ Aside0 (0 ≤ i ∧ i + (kq : Int) = (xM.length : Int)) ∧ Aside0 (xs.length = xM.length) ∧ Aside0 (∀ k : Nat, k < xM.length → rd xs (k : Int) = if (k : Int) < i then mx (rd xM (k : Int)) (rd yM (k : Int)) else rd xM (k : Int)) ∧ Aside0 (MS w [⟨xP, xp, xQ, xq, xV, xs, false⟩, ⟨yP, yp, yQ, yq, xV, yM, false⟩] [(gy, .cells #[.slice yP xV.length yp, .slice yQ yM.length yq, .bool false] 25 (0, 0)), (gx, .cells #[.slice xP xV.length xp, .slice xQ xM.length xq, .bool false] 25 (0, 0)), (gr, zeroO)] w'))
 case atStart => exact ⟨0, xM, by rfl, ⟨by omega⟩, ⟨rfl⟩, ⟨fun k h => by rw [if_neg (by omega)]⟩, ⟨MS.to HM⟩⟩
 case round =>
  clear HM; clear kgr kgx kgy
  obtain ⟨i, xs, rfl, HI, HN, HK, HM⟩ := hrel
  cases gk with
  | zero =>
   have q1 : (decide (i < (xM.length : Int))) = false := decide_eq_false (by have := HI.out; omega)
   have kgx := MS.c3 HM m1_; have kgr := MS.c3 HM m2_
   go_wp2
   have n_ : Aside0 (MS w [⟨xP, xp, xQ, xq, xV, xs, false⟩, ⟨yP, yp, yQ, yq, xV, yM, false⟩] [(gy, .cells #[.slice yP xV.length yp, .slice yQ yM.length yq, .bool false] 25 (0, 0)), (gx, .cells #[.slice xP xV.length xp, .slice xQ xM.length xq, .bool false] 25 (0, 0)), (gr, .cells #[.slice xP xV.length xp, .slice xQ xM.length xq, .bool false] 25 (0, 0))] _) := ⟨MS.put3 [(gy, .cells #[.slice yP xV.length yp, .slice yQ yM.length yq, .bool false] 25 (0, 0)), (gx, .cells #[.slice xP xV.length xp, .slice xQ xM.length xq, .bool false] 25 (0, 0))] HM.out (a' := .slice xP xV.length xp) (b' := .slice xQ xM.length xq) (c' := .bool false)⟩; clear HM; have HM := n_; clear n_
   generalize World.setCell _ _ _ = wk at HM ⊢
   refine MS.rt HM m2_ ?_
   have hl : xs = l3 := HJ.out xs HN.out (fun k hk => by rw [HK.out k hk, if_pos (by have := HI.out; omega)])
   exact ⟨⟨xP, xp, xQ, xq, xV, xs, false⟩, by simp only [OV.val, HN.out], (by first | exact ⟨rfl, hl, rfl⟩ | exact congrArg (fun q : List Int => (xV, q, false)) hl), HM.out.S.own _ m0_, HM.out.S.below⟩
  | succ k =>
   have q1 : (decide (i < (xM.length : Int))) = true := decide_eq_true (by have := HI.out; omega)
   have p2 : 0 ≤ i := HI.out.1
   have q2 : i < (xM.length : Int) := by have := HI.out; omega
   have q3 : i < (yM.length : Int) := by have := HL.out.1; omega
   have q4 : i < (xs.length : Int) := by rw [HN.out]; exact q2
   obtain ⟨xb, xc, ex, _, _, _, _⟩ := HM.out.S.place (show 0 < xs.length by omega)
   cases ex
   obtain ⟨bd, eb, hy0⟩ := Kd.at_int ((HM.out.S.own _ m1_).oc.r1.reads HM.out.S.below) i p2 q3
   cases eb; clear hy0
   have Q4 := Aside0.mk q4; clear q4
   replace p2 := eq_true p2; replace q2 := eq_true q2; replace q3 := eq_true q3
   obtain ⟨ji, hji⟩ : ∃ j : Int, (if rd xs i < rd yM i then rd yM i else rd xs i) = j := ⟨_, rfl⟩
   have kgy := MS.c3 HM m0_; have kgx := MS.c3 HM m1_; have kgr := MS.c3 HM m2_
   go_upto_region 9 with fail
   replace HM := MS.dr HM
   clear kgr kgx kgy
   refine st_ 16 (fun w' => w'.cell? ⟨gx, 1, none⟩ = some (.slice (some ⟨xb, 0, none⟩) xM.length xq) ∧ w'.cell? ⟨gy, 1, none⟩ = some (.slice (some bd) yM.length yq) ∧ w'.cell? ⟨xb, i.toNat, none⟩ = some (.int .i64 (rd xs i)) ∧ w'.cell? (bd.add i.toNat) = some (.int .i64 (rd yM i))) [15] ⟨MS.k HM m1_ 1 rfl, MS.k HM m0_ 1 rfl, (Kd.R_cell 0 (HM.out.S.own _ m0_).r1 i HI.out.1 Q4.out).1, (by obtain ⟨_, e_, h_⟩ := Kd.at_int ((HM.out.S.own _ m1_).oc.r1.reads HM.out.S.below) i HI.out.1 (of_eq_true q3); cases e_; exact h_)⟩ (fun hHeld => ?_)
   refine with_tabW rjn_tab9 rjn_bits9 (fun HT_ HW_ => ?_)
   generalize World.drew _ = wk at HM hHeld ⊢
   refine pV_ 0 24 (mB 16 1) HT_ ?_
   refine tV_ 1 25 (mB 16 3) HT_ HW_ hHeld ?_
   refine pV_ 2 26 (mB 16 7) HT_ ?_
   refine pV_ 3 27 (mB 16 15) HT_ ?_
   refine tV_ 4 28 (mB 16 31) HT_ HW_ hHeld ?_
   refine pV_ 5 29 (mB 16 63) HT_ ?_
   refine pV_ 6 30 (mB 16 127) HT_ ?_
   refine tV_ 7 31 (mB 16 255) HT_ HW_ hHeld ?_
   refine pV_ 8 32 (mB 16 511) HT_ ?_
   refine tV_ 9 33 (mB 16 1023) HT_ HW_ hHeld ?_
   refine pV_ 10 34 (mB 16 2047) HT_ ?_
   refine pV_ 11 35 (mB 16 4095) HT_ ?_
   refine tV_ 12 36 (mB 16 8191) HT_ HW_ hHeld ?_
   refine pV_ 13 37 (mB 16 16383) HT_ ?_
   obtain ⟨hx0, hfx⟩ := Kd.R_cell 0 (HM.out.S.own _ m0_).r1 i HI.out.1 Q4.out
   refine pV_ 14 38 (mB 16 32767) HT_ ?_
   have kgy := MS.c3 HM m0_; have kgx := MS.c3 HM m1_; have kgr := MS.c3 HM m2_
   refine la_ 15 (mB 16 65535) HT_ (fun K hK => ?_)
   refine skip_ (w1 := ?_) (by rfl) rfl ?_ ?_
   rotate_left
   ·
    go_simp
    rfl
   refine hK.out _ _ ?_
   clear hK K
   refine dn_ HT_ ?_
   clear HT_ HW_ hHeld
   replace HM : Aside0 (MS w [⟨xP, xp, some ⟨xb, 0, none⟩, xq, xV, (xs.set i.toNat ji), false⟩, ⟨yP, yp, some bd, yq, xV, yM, false⟩] [(gy, .cells #[.slice yP xV.length yp, .slice (some bd) yM.length yq, .bool false] 25 (0, 0)), (gx, .cells #[.slice xP xV.length xp, .slice (some ⟨xb, 0, none⟩) xM.length xq, .bool false] 25 (0, 0)), (gr, zeroO)] _) := ⟨HM.out.poke rfl (show 0 < xs.length by have := Q4.out; have := HI.out; omega) i ji⟩
   generalize World.setCell _ _ _ = wk at HM ⊢
   try go_wp2
   have hji' : mx (rd xs i) (rd yM i) = ji := hji
   go_roundg k
   case measure => exact Nat.lt_succ_self k
   case rel =>
    have hw : wrap64 (i + 1) = i + 1 := by have := HI.out; have := HL.out.2; unfold wrap64; omega
    refine ⟨wrap64 (i + 1), xs.set i.toNat ji, rfl, ⟨by rw [hw]; have := HI.out; omega⟩, ⟨by rw [List.length_set]; exact HN.out⟩, ⟨?_⟩, ⟨MS.to HM⟩⟩
    rw [hw]; intro j hj; have h1 := HK.out j hj
    have hi := HI.out.1
    obtain ⟨a, ha⟩ : ∃ a : Nat, i = (a : Int) := ⟨i.toNat, by omega⟩
    rw [ha] at hji' h1 ⊢
    rw [Int.toNat_natCast]
    by_cases e : j = a
    ·
     subst e; rw [if_neg (by omega)] at h1; rw [if_pos (by omega), rd_set_same (by rw [HN.out]; exact hj), ← hji', h1]
    ·
     rw [rd_set_ne e, h1]; congr 1; exact propext ⟨fun h => by omega, fun h => by omega⟩
end Go.Proofs.Ytphfchbggechhaa.QO
end
end
section
noncomputable section
namespace Go.Proofs.Ytphfchbggechhaa.Pure
open Go.RowKit Ytphfchbggechhaa.QO YtphfchbggechhaaW.PrintWords YtphfchbggechhaaW.PrintLast YtphfchbggechhaaW.PrintMore
namespace Octs
end Octs
end Go.Proofs.Ytphfchbggechhaa.Pure
namespace Go.Proofs.Ytphfchbggechhaa.QO
open Go.RowKit Go.Shelf YtphfchbggechhaaW.PrintWords YtphfchbggechhaaW.PrintLast YtphfchbggechhaaW.PrintMore
open Ytphfchbggechhaa.Pure Octs
set_option linter.unusedVariables false
section
variable {w W W' W0 : World} {x y z : OV} {os : List OV} {fs : List (Nat × Obj)}
theorem rfit_o {b : Bool} (hx : Oc w W x) (hb : Below w.heap.size w W) (l : x.v.length ≤ 17592186044416) (h : ofitB x.v x.m x.e = b) : Says 12 #[x.val] W (.bool b) :=
 gimbalref11_Fit.calls x.P x.p x.v x.Q x.q x.m x.e b W (hx.r0.reads hb) hx.r0.le (hx.r1.reads hb) hx.r1.le (by unfold gimbalref11_Fit.f; rw [if_pos l, h])
end
end Go.Proofs.Ytphfchbggechhaa.QO
end
end
section
noncomputable section
namespace Go.Proofs.Ytphfchbggechhaa.QO
open Go.RowKit YtphfchbggechhaaW.PrintWords YtphfchbggechhaaW.PrintLast
set_option linter.unusedVariables false
set_option linter.unusedSimpArgs false
def itv_Join.f (a0_0 : Int) (a0_1 : Int) (a1_0 : Int) (a1_1 : Int) : Option (Int × Int) := (itv_sound.f a0_0 a0_1).bind fun bt595 => ((itv_sound.f a1_0 a1_1).bind fun bt597 => ((itv_None.f bt595.1 bt595.2).bind fun t599 => (if t599 = true then (some (bt597.1, bt597.2)) else ((itv_None.f bt597.1 bt597.2).bind fun t600 => (if t600 = true then (some (bt595.1, bt595.2)) else (some (mn bt595.1 bt597.1, mx bt595.2 bt597.2)))))))
theorem itv_Join.calls (a0_0 : Int) (a0_1 : Int) (a1_0 : Int) (a1_1 : Int) (r1 : Int) (r2 : Int) (w : World) (h : itv_Join.f a0_0 a0_1 a1_0 a1_1 = some (r1, r2)) :
 Calls Try.prog 24 #[.agg #[.int .i64 a0_0, .int .i64 a0_1], .agg #[.int .i64 a1_0, .int .i64 a1_1]] w fun e w' => e = .returned (.agg #[.int .i64 r1, .int .i64 r2]) ∧ Below w.heap.size w w' := by
 have hu36 := Try.underlying36
 have HB := Aside0.mk (Below.refl w.heap.size w)
 have H := h
 unfold itv_Join.f at H
 clear h
 replace H := Option.bind_eq_some_iff.mp H
 obtain ⟨⟨t595, t596⟩, A30, H⟩ := H
 try dsimp only at H
 have A3 := Aside0.mk A30
 clear A30
 replace H := Option.bind_eq_some_iff.mp H
 obtain ⟨⟨t597, t598⟩, A40, H⟩ := H
 try dsimp only at H
 have A4 := Aside0.mk A40
 clear A40
 replace H := Option.bind_eq_some_iff.mp H
 obtain ⟨t599, A50, H⟩ := H
 try dsimp only at H
 have A5 := Aside0.mk A50
 clear A50
 by_cases c6 : t599 = true
 ·
  subst c6
  rw [if_pos rfl] at H
  try dsimp only at H
  simp only [Option.some.injEq, Prod.mk.injEq] at H
  obtain ⟨rfl, rfl⟩ := H
  go_enter Try.func24, Try.ntmps24
  try go_wp2_with (first | ((with_reducible refine gate_dst (N := 2) rfl ?_); refine bx_ 2 #[.int .i64 a0_0, .int .i64 a0_1] 36 ?_; intro gb592 hg w7 hbox hb; have n0_ := Aside0.mk (below_step (by repeat (first | (with_reducible first | exact HB.out | apply below_alloc | apply pw_below_drewN | apply below_drew1) | exact HB.out)) hb); have n1_ := Aside0.mk (hbox); have n2_ := Aside0.mk ((by rw [hg]; exact (below_size (by repeat (first | (with_reducible first | exact HB.out | apply below_alloc | apply pw_below_drewN | apply below_drew1) | exact HB.out))) : w.heap.size ≤ gb592)); have n3_ := Aside0.mk ((by rw [hg]; exact (below_size (by repeat (first | (with_reducible first | exact HB.out | apply below_alloc | apply pw_below_drewN | apply below_drew1) | exact HB.out))) : w.heap.size ≤ gb592)); clear HB; have HB := n0_; have BK592 := n1_; have GW592 := n2_; have GE592 := n3_; clear n0_ n1_ n2_ n3_; clear hb hbox hg) | ((with_reducible refine gate_dst (N := 3) rfl ?_); refine bx_ 3 #[.int .i64 a1_0, .int .i64 a1_1] 36 ?_; intro gb593 hg w8 hbox hb; have n0_ := Aside0.mk (blk_below (g := gb592) (o := .cells #[.int .i64 a0_0, .int .i64 a0_1] 36 (0, 0)) (by (with_reducible repeat (first | refine blk_drewN ?_ _ | refine blk_drew ?_ | refine blk_alloc ?_ _)); exact BK592.out) hb); have n1_ := Aside0.mk (below_step (by repeat (first | (with_reducible first | exact HB.out | apply below_alloc | apply pw_below_drewN | apply below_drew1 | refine below_set ?_ GE592.out) | exact HB.out)) hb); have n2_ := Aside0.mk (hbox); have n3_ := Aside0.mk ((by rw [hg]; exact (below_size (by repeat (first | (with_reducible first | exact HB.out | apply below_alloc | apply pw_below_drewN | apply below_drew1 | refine below_set ?_ GE592.out) | exact HB.out))) : w.heap.size ≤ gb593)); have n4_ := Aside0.mk ((by rw [hg]; exact (below_size (by repeat (first | (with_reducible first | exact HB.out | apply below_alloc | apply pw_below_drewN | apply below_drew1 | refine below_set ?_ GE592.out) | exact HB.out))) : w.heap.size ≤ gb593)); have n5_ := Aside0.mk ((by rw [hg]; exact Nat.ne_of_lt (blk_lt (g := gb592) (o := .cells #[.int .i64 a0_0, .int .i64 a0_1] 36 (0, 0)) (by (with_reducible repeat (first | refine blk_drewN ?_ _ | refine blk_drew ?_ | refine blk_alloc ?_ _)); exact BK592.out)) : gb592 ≠ gb593)); have n6_ := Aside0.mk ((by rw [hg]; exact Nat.ne_of_gt (blk_lt (g := gb592) (o := .cells #[.int .i64 a0_0, .int .i64 a0_1] 36 (0, 0)) (by (with_reducible repeat (first | refine blk_drewN ?_ _ | refine blk_drew ?_ | refine blk_alloc ?_ _)); exact BK592.out)) : gb593 ≠ gb592)); clear BK592; clear HB; have BK592 := n0_; have HB := n1_; have BK593 := n2_; have GW593 := n3_; have GE593 := n4_; have NB592_593 := n5_; have NB593_592 := n6_; clear n0_ n1_ n2_ n3_ n4_ n5_ n6_; clear hb hbox hg) | ((with_reducible refine gate_dst (N := 4) rfl ?_); refine bx_ 4 #[.int .i64 0, .int .i64 0] 36 ?_; intro gb594 hg w9 hbox hb; have n0_ := Aside0.mk (blk_below (g := gb592) (o := .cells #[.int .i64 a0_0, .int .i64 a0_1] 36 (0, 0)) (by (with_reducible repeat (first | refine blk_drewN ?_ _ | refine blk_drew ?_ | refine blk_alloc ?_ _)); exact BK592.out) hb); have n1_ := Aside0.mk (blk_below (g := gb593) (o := .cells #[.int .i64 a1_0, .int .i64 a1_1] 36 (0, 0)) (by (with_reducible repeat (first | refine blk_drewN ?_ _ | refine blk_drew ?_ | refine blk_alloc ?_ _)); exact BK593.out) hb); have n2_ := Aside0.mk (below_step (by repeat (first | (with_reducible first | exact HB.out | apply below_alloc | apply pw_below_drewN | apply below_drew1 | refine below_set ?_ GE592.out | refine below_set ?_ GE593.out) | exact HB.out)) hb); have n3_ := Aside0.mk (hbox); have n4_ := Aside0.mk ((by rw [hg]; exact (below_size (by repeat (first | (with_reducible first | exact HB.out | apply below_alloc | apply pw_below_drewN | apply below_drew1 | refine below_set ?_ GE592.out | refine below_set ?_ GE593.out) | exact HB.out))) : w.heap.size ≤ gb594)); have n5_ := Aside0.mk ((by rw [hg]; exact (below_size (by repeat (first | (with_reducible first | exact HB.out | apply below_alloc | apply pw_below_drewN | apply below_drew1 | refine below_set ?_ GE592.out | refine below_set ?_ GE593.out) | exact HB.out))) : w.heap.size ≤ gb594)); have n6_ := Aside0.mk ((by rw [hg]; exact Nat.ne_of_lt (blk_lt (g := gb592) (o := .cells #[.int .i64 a0_0, .int .i64 a0_1] 36 (0, 0)) (by (with_reducible repeat (first | refine blk_drewN ?_ _ | refine blk_drew ?_ | refine blk_alloc ?_ _)); exact BK592.out)) : gb592 ≠ gb594)); have n7_ := Aside0.mk ((by rw [hg]; exact Nat.ne_of_gt (blk_lt (g := gb592) (o := .cells #[.int .i64 a0_0, .int .i64 a0_1] 36 (0, 0)) (by (with_reducible repeat (first | refine blk_drewN ?_ _ | refine blk_drew ?_ | refine blk_alloc ?_ _)); exact BK592.out)) : gb594 ≠ gb592)); have n8_ := Aside0.mk ((by rw [hg]; exact Nat.ne_of_lt (blk_lt (g := gb593) (o := .cells #[.int .i64 a1_0, .int .i64 a1_1] 36 (0, 0)) (by (with_reducible repeat (first | refine blk_drewN ?_ _ | refine blk_drew ?_ | refine blk_alloc ?_ _)); exact BK593.out)) : gb593 ≠ gb594)); have n9_ := Aside0.mk ((by rw [hg]; exact Nat.ne_of_gt (blk_lt (g := gb593) (o := .cells #[.int .i64 a1_0, .int .i64 a1_1] 36 (0, 0)) (by (with_reducible repeat (first | refine blk_drewN ?_ _ | refine blk_drew ?_ | refine blk_alloc ?_ _)); exact BK593.out)) : gb594 ≠ gb593)); clear BK592; clear BK593; clear HB; have BK592 := n0_; have BK593 := n1_; have HB := n2_; have BK594 := n3_; have GW594 := n4_; have GE594 := n5_; have NB592_594 := n6_; have NB594_592 := n7_; have NB593_594 := n8_; have NB594_593 := n9_; clear n0_ n1_ n2_ n3_ n4_ n5_ n6_ n7_ n8_ n9_; clear hb hbox hg))
  have n0_ := Aside0.mk (blk_drew BK592.out)
  have n1_ := Aside0.mk (blk_drew BK593.out)
  have n2_ := Aside0.mk (blk_drew BK594.out)
  have n3_ := Aside0.mk (below_drew1 HB.out)
  clear BK592
  clear BK593
  clear BK594
  clear HB
  have BK592 := n0_
  have BK593 := n1_
  have BK594 := n2_
  have HB := n3_
  clear n0_ n1_ n2_ n3_
  refine start_ (n := 6) (S := fun w' => w'.cell? ⟨gb592, 0, none⟩ = some (.int .i64 a0_0) ∧ w'.cell? ⟨gb592, 1, none⟩ = some (.int .i64 a0_1) ∧ w'.cell? ⟨gb593, 0, none⟩ = some (.int .i64 a1_0) ∧ w'.cell? ⟨gb593, 1, none⟩ = some (.int .i64 a1_1)) (ds := [4, 5]) #[false, false, false, false, false, false] (by kernel_rfl) rfl rfl ⟨(blk_cell BK592.out 0).trans rfl, (blk_cell BK592.out 1).trans rfl, (blk_cell BK593.out 0).trans rfl, (blk_cell BK593.out 1).trans rfl⟩ (fun hHeld => ?_)
  generalize w9.drew = w10 at BK592 BK593 BK594 HB hHeld ⊢
  refine take_ (i := 0) (N := some 5) (v := ?_) (a' := ?_) #[true, false, false, false, false, false] rfl rfl (by kernel_rfl) (fun _ _ _ h => h) (Or.inl ⟨by rfl, ?_⟩) hHeld ?_ ?_
  rotate_left
  ·
   rintro w' ⟨s0, s1, s2, s3⟩
   go_simp
   with_reducible rfl
  rotate_left
  ·
   simp only [Act.put, List.setIfInBounds_toArray, List.set_cons_zero, List.set_cons_succ, i64_w, i32_w]
   rfl
  refine take_ (i := 2) (N := some 7) (v := ?_) (a' := ?_) #[true, false, true, false, false, false] rfl rfl (by kernel_rfl) (fun _ _ _ h => h) (Or.inl ⟨by rfl, ?_⟩) hHeld ?_ ?_
  rotate_left
  ·
   rintro w' ⟨s0, s1, s2, s3⟩
   go_simp
   with_reducible rfl
  rotate_left
  ·
   simp only [Act.put, List.setIfInBounds_toArray, List.set_cons_zero, List.set_cons_succ, i64_w, i32_w]
   rfl
  refine one_ (i := 1) (N := some 6) #[true, true, true, false, false, false] rfl rfl (by kernel_rfl) (by decide) (fun K hK => ?_)
  refine goes_ Try.func74 (by kernel_rfl) rfl #[.agg #[.int .i64 a0_0, .int .i64 a0_1]] (by rfl) rfl rfl (by (try simp only [List.map_toArray, List.map_cons, List.map_nil]); first | done | rfl | (simp only [List.length_drop, List.length_take]; rfl)) ?_
  with_reducible refine (itv_sound.calls a0_0 a0_1 t595 t596 _ A3.out).mono ?_
  rintro e w11 ⟨rfl, hb⟩
  refine ⟨_, rfl, ?_⟩
  have n0_ := Aside0.mk (blk_below (g := gb592) (o := .cells #[.int .i64 a0_0, .int .i64 a0_1] 36 (0, 0)) (by (with_reducible repeat (first | refine blk_drewN ?_ _ | refine blk_drew ?_ | refine blk_alloc ?_ _)); exact BK592.out) hb)
  have n1_ := Aside0.mk (blk_below (g := gb593) (o := .cells #[.int .i64 a1_0, .int .i64 a1_1] 36 (0, 0)) (by (with_reducible repeat (first | refine blk_drewN ?_ _ | refine blk_drew ?_ | refine blk_alloc ?_ _)); exact BK593.out) hb)
  have n2_ := Aside0.mk (blk_below (g := gb594) (o := .cells #[.int .i64 0, .int .i64 0] 36 (0, 0)) (by (with_reducible repeat (first | refine blk_drewN ?_ _ | refine blk_drew ?_ | refine blk_alloc ?_ _)); exact BK594.out) hb)
  have n3_ := Aside0.mk (below_step (by repeat (first | (with_reducible first | exact HB.out | apply below_alloc | apply pw_below_drewN | apply below_drew1 | refine below_set ?_ GE592.out | refine below_set ?_ GE593.out | refine below_set ?_ GE594.out) | exact HB.out)) hb)
  clear BK592
  clear BK593
  clear BK594
  clear HB
  have BK592 := n0_
  have BK593 := n1_
  have BK594 := n2_
  have HB := n3_
  clear n0_ n1_ n2_ n3_
  (try clear hb)
  (try clear hb2)
  (try clear hk)
  (try clear hi)
  refine hK.out _ _ ⟨(blk_cell BK592.out 0).trans rfl, (blk_cell BK592.out 1).trans rfl, (blk_cell BK593.out 0).trans rfl, (blk_cell BK593.out 1).trans rfl⟩ (fun hHeld => ?_)
  clear hK K
  refine norm_ (a' := ?_) ?_ ?_
  rotate_left
  ·
   show Act.put _ (some 6) _ = _
   simp only [Act.put, List.setIfInBounds_toArray, List.set_cons_zero, List.set_cons_succ, i64_w, i32_w]
   rfl
  refine one_ (i := 3) (N := some 8) #[true, true, true, true, false, false] rfl rfl (by kernel_rfl) (by decide) (fun K hK => ?_)
  refine goes_ Try.func74 (by kernel_rfl) rfl #[.agg #[.int .i64 a1_0, .int .i64 a1_1]] (by rfl) rfl rfl (by (try simp only [List.map_toArray, List.map_cons, List.map_nil]); first | done | rfl | (simp only [List.length_drop, List.length_take]; rfl)) ?_
  with_reducible refine (itv_sound.calls a1_0 a1_1 t597 t598 _ A4.out).mono ?_
  rintro e w12 ⟨rfl, hb⟩
  refine ⟨_, rfl, ?_⟩
  have n0_ := Aside0.mk (blk_below (g := gb592) (o := .cells #[.int .i64 a0_0, .int .i64 a0_1] 36 (0, 0)) (by (with_reducible repeat (first | refine blk_drewN ?_ _ | refine blk_drew ?_ | refine blk_alloc ?_ _)); exact BK592.out) hb)
  have n1_ := Aside0.mk (blk_below (g := gb593) (o := .cells #[.int .i64 a1_0, .int .i64 a1_1] 36 (0, 0)) (by (with_reducible repeat (first | refine blk_drewN ?_ _ | refine blk_drew ?_ | refine blk_alloc ?_ _)); exact BK593.out) hb)
  have n2_ := Aside0.mk (blk_below (g := gb594) (o := .cells #[.int .i64 0, .int .i64 0] 36 (0, 0)) (by (with_reducible repeat (first | refine blk_drewN ?_ _ | refine blk_drew ?_ | refine blk_alloc ?_ _)); exact BK594.out) hb)
  have n3_ := Aside0.mk (below_step (by repeat (first | (with_reducible first | exact HB.out | apply below_alloc | apply pw_below_drewN | apply below_drew1 | refine below_set ?_ GE592.out | refine below_set ?_ GE593.out | refine below_set ?_ GE594.out) | exact HB.out)) hb)
  clear BK592
  clear BK593
  clear BK594
  clear HB
  have BK592 := n0_
  have BK593 := n1_
  have BK594 := n2_
  have HB := n3_
  clear n0_ n1_ n2_ n3_
  (try clear hb)
  (try clear hb2)
  (try clear hk)
  (try clear hi)
  refine hK.out _ _ ⟨(blk_cell BK592.out 0).trans rfl, (blk_cell BK592.out 1).trans rfl, (blk_cell BK593.out 0).trans rfl, (blk_cell BK593.out 1).trans rfl⟩ (fun hHeld => ?_)
  clear hK K
  refine norm_ (a' := ?_) ?_ ?_
  rotate_left
  ·
   show Act.put _ (some 8) _ = _
   simp only [Act.put, List.setIfInBounds_toArray, List.set_cons_zero, List.set_cons_succ, i64_w, i32_w]
   rfl
  refine last_ (i := 4) (N := none) #[true, true, true, true, true, false] rfl rfl (by kernel_rfl) (by decide) (fun K hK => ?_)
  have hs13 : w12.cell? ⟨gb592, 0, none⟩ = some (.int .i64 a0_0) := (blk_cell BK592.out 0).trans rfl
  have hfs13 := blk_frozen BK592.out 0
  have hns13_1 := NB593_592.out
  have hns13_2 := NB594_592.out
  have hms13_1 := NB592_593.out
  have hms13_2 := NB592_594.out
  have hs14 : w12.cell? ⟨gb592, 1, none⟩ = some (.int .i64 a0_1) := (blk_cell BK592.out 1).trans rfl
  have hfs14 := blk_frozen BK592.out 1
  have hns14_1 := NB593_592.out
  have hns14_2 := NB594_592.out
  have hms14_1 := NB592_593.out
  have hms14_2 := NB592_594.out
  refine skip_ (w1 := ?_) (by rfl) rfl ?_ ?_
  rotate_left
  ·
   go_simp
   rfl
  refine hK.out _ _ ?_
  clear hK K
  refine last_ (i := 5) (N := none) #[true, true, true, true, true, true] rfl rfl (by kernel_rfl) (by decide) (fun K hK => ?_)
  have hs15 : w12.cell? ⟨gb593, 0, none⟩ = some (.int .i64 a1_0) := (blk_cell BK593.out 0).trans rfl
  have hfs15 := blk_frozen BK593.out 0
  have hns15_0 := NB592_593.out
  have hns15_2 := NB594_593.out
  have hms15_0 := NB593_592.out
  have hms15_2 := NB593_594.out
  have hs16 : w12.cell? ⟨gb593, 1, none⟩ = some (.int .i64 a1_1) := (blk_cell BK593.out 1).trans rfl
  have hfs16 := blk_frozen BK593.out 1
  have hns16_0 := NB592_593.out
  have hns16_2 := NB594_593.out
  have hms16_0 := NB593_592.out
  have hms16_2 := NB593_594.out
  refine skip_ (w1 := ?_) (by rfl) rfl ?_ ?_
  rotate_left
  ·
   go_simp
   rfl
  refine hK.out _ _ ?_
  clear hK K
  refine done_ (by kernel_rfl) ?_
  have hnb17 := NB592_593.out
  have hnc17 := NB593_592.out
  have hnb18 := NB592_594.out
  have hnc18 := NB594_592.out
  have hcz19_0 : w12.cell? ⟨gb592, 0, none⟩ = some (.int .i64 a0_0) := (blk_cell BK592.out 0).trans rfl
  have hcz19_1 : w12.cell? ⟨gb592, 1, none⟩ = some (.int .i64 a0_1) := (blk_cell BK592.out 1).trans rfl
  have hfz19_0 := blk_frozen BK592.out 0
  have hfz19_1 := blk_frozen BK592.out 1
  try go_wp2_with (first | ((with_reducible refine gate_callee (f := 57) rfl ?_); refine goesL_ (some 11) rfl rfl Try.func57 (by kernel_rfl) rfl #[.agg #[.int .i64 t595, .int .i64 t596]] rfl (by (try simp only [List.map_toArray, List.map_cons, List.map_nil]); first | done | rfl | (simp only [List.length_drop, List.length_take]; rfl)) ?_; (with_reducible refine (itv_None.calls t595 t596 true _ A5.out).mono ?_); rintro e w20 ⟨rfl, hb⟩; refine ⟨_, rfl, ?_⟩; have n0_ := Aside0.mk (blk_below (g := gb592) (o := .cells #[.int .i64 t595, .int .i64 t596] 36 (0, 0)) (by (with_reducible repeat (first | refine blk_drewN ?_ _ | refine blk_drew ?_ | refine blk_alloc ?_ _)); refine blk_far ?_ NB592_593.out _; (with_reducible repeat (first | refine blk_drewN ?_ _ | refine blk_drew ?_ | refine blk_alloc ?_ _)); refine blk_far ?_ NB592_593.out _; (with_reducible repeat (first | refine blk_drewN ?_ _ | refine blk_drew ?_ | refine blk_alloc ?_ _)); refine blk_put (cs := #[.int .i64 t595, .int .i64 a0_1]) ?_ 1 _ rfl; (with_reducible repeat (first | refine blk_drewN ?_ _ | refine blk_drew ?_ | refine blk_alloc ?_ _)); refine blk_put (cs := #[.int .i64 a0_0, .int .i64 a0_1]) ?_ 0 _ rfl; (with_reducible repeat (first | refine blk_drewN ?_ _ | refine blk_drew ?_ | refine blk_alloc ?_ _)); exact BK592.out) hb); have n1_ := Aside0.mk (blk_below (g := gb593) (o := .cells #[.int .i64 t597, .int .i64 t598] 36 (0, 0)) (by (with_reducible repeat (first | refine blk_drewN ?_ _ | refine blk_drew ?_ | refine blk_alloc ?_ _)); refine blk_put (cs := #[.int .i64 t597, .int .i64 a1_1]) ?_ 1 _ rfl; (with_reducible repeat (first | refine blk_drewN ?_ _ | refine blk_drew ?_ | refine blk_alloc ?_ _)); refine blk_put (cs := #[.int .i64 a1_0, .int .i64 a1_1]) ?_ 0 _ rfl; (with_reducible repeat (first | refine blk_drewN ?_ _ | refine blk_drew ?_ | refine blk_alloc ?_ _)); refine blk_far ?_ NB593_592.out _; (with_reducible repeat (first | refine blk_drewN ?_ _ | refine blk_drew ?_ | refine blk_alloc ?_ _)); refine blk_far ?_ NB593_592.out _; (with_reducible repeat (first | refine blk_drewN ?_ _ | refine blk_drew ?_ | refine blk_alloc ?_ _)); exact BK593.out) hb); have n2_ := Aside0.mk (blk_below (g := gb594) (o := .cells #[.int .i64 0, .int .i64 0] 36 (0, 0)) (by (with_reducible repeat (first | refine blk_drewN ?_ _ | refine blk_drew ?_ | refine blk_alloc ?_ _)); refine blk_far ?_ NB594_593.out _; (with_reducible repeat (first | refine blk_drewN ?_ _ | refine blk_drew ?_ | refine blk_alloc ?_ _)); refine blk_far ?_ NB594_593.out _; (with_reducible repeat (first | refine blk_drewN ?_ _ | refine blk_drew ?_ | refine blk_alloc ?_ _)); refine blk_far ?_ NB594_592.out _; (with_reducible repeat (first | refine blk_drewN ?_ _ | refine blk_drew ?_ | refine blk_alloc ?_ _)); refine blk_far ?_ NB594_592.out _; (with_reducible repeat (first | refine blk_drewN ?_ _ | refine blk_drew ?_ | refine blk_alloc ?_ _)); exact BK594.out) hb); have n3_ := Aside0.mk (below_step (by repeat (first | (with_reducible first | exact HB.out | apply below_alloc | apply pw_below_drewN | apply below_drew1 | refine below_set ?_ GE592.out | refine below_set ?_ GE593.out | refine below_set ?_ GE594.out) | exact HB.out)) hb); clear BK592; clear BK593; clear BK594; clear HB; have BK592 := n0_; have BK593 := n1_; have BK594 := n2_; have HB := n3_; clear n0_ n1_ n2_ n3_; (try clear hb); (try clear hb2); (try clear hk); (try clear hi); have hnb21 := NB593_594.out; have hnc21 := NB594_593.out; have hcz22_0 : w20.cell? ⟨gb593, 0, none⟩ = some (.int .i64 t597) := (blk_cell BK593.out 0).trans rfl; have hcz22_1 : w20.cell? ⟨gb593, 1, none⟩ = some (.int .i64 t598) := (blk_cell BK593.out 1).trans rfl; have hfz22_0 := blk_frozen BK593.out 0; have hfz22_1 := blk_frozen BK593.out 1; have hcz23_0 : w20.cell? ⟨gb594, 0, none⟩ = some (.int .i64 0) := (blk_cell BK594.out 0).trans rfl; have hcz23_1 : w20.cell? ⟨gb594, 1, none⟩ = some (.int .i64 0) := (blk_cell BK594.out 1).trans rfl; have hfz23_0 := blk_frozen BK594.out 0; have hfz23_1 := blk_frozen BK594.out 1))
  refine bodyPost_ret (results_cell_row rfl _ _ gb594 36 #[.int .i64 t597, .int .i64 t598] (0, 0) _ rfl (vP2 BK594.out) Try.underlying36 rfl (by kernel_rfl)) rfl ?_
  exact ⟨vE, by repeat (first | (with_reducible first | exact HB.out | apply below_alloc | apply pw_below_drewN | apply below_drew1 | refine below_set ?_ GE592.out | refine below_set ?_ GE593.out | refine below_set ?_ GE594.out) | exact HB.out)⟩
 ·
  replace c6 := Bool.eq_false_iff.mpr c6
  subst c6
  rw [if_neg (show ¬ (false = true) by decide)] at H
  try dsimp only at H
  replace H := Option.bind_eq_some_iff.mp H
  obtain ⟨t600, A240, H⟩ := H
  try dsimp only at H
  have A24 := Aside0.mk A240
  clear A240
  by_cases c25 : t600 = true
  ·
   subst c25
   rw [if_pos rfl] at H
   try dsimp only at H
   simp only [Option.some.injEq, Prod.mk.injEq] at H
   obtain ⟨rfl, rfl⟩ := H
   go_enter Try.func24, Try.ntmps24
   try go_wp2_with (first | ((with_reducible refine gate_dst (N := 2) rfl ?_); refine bx_ 2 #[.int .i64 a0_0, .int .i64 a0_1] 36 ?_; intro gb592 hg w26 hbox hb; have n0_ := Aside0.mk (below_step (by repeat (first | (with_reducible first | exact HB.out | apply below_alloc | apply pw_below_drewN | apply below_drew1) | exact HB.out)) hb); have n1_ := Aside0.mk (hbox); have n2_ := Aside0.mk ((by rw [hg]; exact (below_size (by repeat (first | (with_reducible first | exact HB.out | apply below_alloc | apply pw_below_drewN | apply below_drew1) | exact HB.out))) : w.heap.size ≤ gb592)); have n3_ := Aside0.mk ((by rw [hg]; exact (below_size (by repeat (first | (with_reducible first | exact HB.out | apply below_alloc | apply pw_below_drewN | apply below_drew1) | exact HB.out))) : w.heap.size ≤ gb592)); clear HB; have HB := n0_; have BK592 := n1_; have GW592 := n2_; have GE592 := n3_; clear n0_ n1_ n2_ n3_; clear hb hbox hg) | ((with_reducible refine gate_dst (N := 3) rfl ?_); refine bx_ 3 #[.int .i64 a1_0, .int .i64 a1_1] 36 ?_; intro gb593 hg w27 hbox hb; have n0_ := Aside0.mk (blk_below (g := gb592) (o := .cells #[.int .i64 a0_0, .int .i64 a0_1] 36 (0, 0)) (by (with_reducible repeat (first | refine blk_drewN ?_ _ | refine blk_drew ?_ | refine blk_alloc ?_ _)); exact BK592.out) hb); have n1_ := Aside0.mk (below_step (by repeat (first | (with_reducible first | exact HB.out | apply below_alloc | apply pw_below_drewN | apply below_drew1 | refine below_set ?_ GE592.out) | exact HB.out)) hb); have n2_ := Aside0.mk (hbox); have n3_ := Aside0.mk ((by rw [hg]; exact (below_size (by repeat (first | (with_reducible first | exact HB.out | apply below_alloc | apply pw_below_drewN | apply below_drew1 | refine below_set ?_ GE592.out) | exact HB.out))) : w.heap.size ≤ gb593)); have n4_ := Aside0.mk ((by rw [hg]; exact (below_size (by repeat (first | (with_reducible first | exact HB.out | apply below_alloc | apply pw_below_drewN | apply below_drew1 | refine below_set ?_ GE592.out) | exact HB.out))) : w.heap.size ≤ gb593)); have n5_ := Aside0.mk ((by rw [hg]; exact Nat.ne_of_lt (blk_lt (g := gb592) (o := .cells #[.int .i64 a0_0, .int .i64 a0_1] 36 (0, 0)) (by (with_reducible repeat (first | refine blk_drewN ?_ _ | refine blk_drew ?_ | refine blk_alloc ?_ _)); exact BK592.out)) : gb592 ≠ gb593)); have n6_ := Aside0.mk ((by rw [hg]; exact Nat.ne_of_gt (blk_lt (g := gb592) (o := .cells #[.int .i64 a0_0, .int .i64 a0_1] 36 (0, 0)) (by (with_reducible repeat (first | refine blk_drewN ?_ _ | refine blk_drew ?_ | refine blk_alloc ?_ _)); exact BK592.out)) : gb593 ≠ gb592)); clear BK592; clear HB; have BK592 := n0_; have HB := n1_; have BK593 := n2_; have GW593 := n3_; have GE593 := n4_; have NB592_593 := n5_; have NB593_592 := n6_; clear n0_ n1_ n2_ n3_ n4_ n5_ n6_; clear hb hbox hg) | ((with_reducible refine gate_dst (N := 4) rfl ?_); refine bx_ 4 #[.int .i64 0, .int .i64 0] 36 ?_; intro gb594 hg w28 hbox hb; have n0_ := Aside0.mk (blk_below (g := gb592) (o := .cells #[.int .i64 a0_0, .int .i64 a0_1] 36 (0, 0)) (by (with_reducible repeat (first | refine blk_drewN ?_ _ | refine blk_drew ?_ | refine blk_alloc ?_ _)); exact BK592.out) hb); have n1_ := Aside0.mk (blk_below (g := gb593) (o := .cells #[.int .i64 a1_0, .int .i64 a1_1] 36 (0, 0)) (by (with_reducible repeat (first | refine blk_drewN ?_ _ | refine blk_drew ?_ | refine blk_alloc ?_ _)); exact BK593.out) hb); have n2_ := Aside0.mk (below_step (by repeat (first | (with_reducible first | exact HB.out | apply below_alloc | apply pw_below_drewN | apply below_drew1 | refine below_set ?_ GE592.out | refine below_set ?_ GE593.out) | exact HB.out)) hb); have n3_ := Aside0.mk (hbox); have n4_ := Aside0.mk ((by rw [hg]; exact (below_size (by repeat (first | (with_reducible first | exact HB.out | apply below_alloc | apply pw_below_drewN | apply below_drew1 | refine below_set ?_ GE592.out | refine below_set ?_ GE593.out) | exact HB.out))) : w.heap.size ≤ gb594)); have n5_ := Aside0.mk ((by rw [hg]; exact (below_size (by repeat (first | (with_reducible first | exact HB.out | apply below_alloc | apply pw_below_drewN | apply below_drew1 | refine below_set ?_ GE592.out | refine below_set ?_ GE593.out) | exact HB.out))) : w.heap.size ≤ gb594)); have n6_ := Aside0.mk ((by rw [hg]; exact Nat.ne_of_lt (blk_lt (g := gb592) (o := .cells #[.int .i64 a0_0, .int .i64 a0_1] 36 (0, 0)) (by (with_reducible repeat (first | refine blk_drewN ?_ _ | refine blk_drew ?_ | refine blk_alloc ?_ _)); exact BK592.out)) : gb592 ≠ gb594)); have n7_ := Aside0.mk ((by rw [hg]; exact Nat.ne_of_gt (blk_lt (g := gb592) (o := .cells #[.int .i64 a0_0, .int .i64 a0_1] 36 (0, 0)) (by (with_reducible repeat (first | refine blk_drewN ?_ _ | refine blk_drew ?_ | refine blk_alloc ?_ _)); exact BK592.out)) : gb594 ≠ gb592)); have n8_ := Aside0.mk ((by rw [hg]; exact Nat.ne_of_lt (blk_lt (g := gb593) (o := .cells #[.int .i64 a1_0, .int .i64 a1_1] 36 (0, 0)) (by (with_reducible repeat (first | refine blk_drewN ?_ _ | refine blk_drew ?_ | refine blk_alloc ?_ _)); exact BK593.out)) : gb593 ≠ gb594)); have n9_ := Aside0.mk ((by rw [hg]; exact Nat.ne_of_gt (blk_lt (g := gb593) (o := .cells #[.int .i64 a1_0, .int .i64 a1_1] 36 (0, 0)) (by (with_reducible repeat (first | refine blk_drewN ?_ _ | refine blk_drew ?_ | refine blk_alloc ?_ _)); exact BK593.out)) : gb594 ≠ gb593)); clear BK592; clear BK593; clear HB; have BK592 := n0_; have BK593 := n1_; have HB := n2_; have BK594 := n3_; have GW594 := n4_; have GE594 := n5_; have NB592_594 := n6_; have NB594_592 := n7_; have NB593_594 := n8_; have NB594_593 := n9_; clear n0_ n1_ n2_ n3_ n4_ n5_ n6_ n7_ n8_ n9_; clear hb hbox hg))
   have n0_ := Aside0.mk (blk_drew BK592.out)
   have n1_ := Aside0.mk (blk_drew BK593.out)
   have n2_ := Aside0.mk (blk_drew BK594.out)
   have n3_ := Aside0.mk (below_drew1 HB.out)
   clear BK592
   clear BK593
   clear BK594
   clear HB
   have BK592 := n0_
   have BK593 := n1_
   have BK594 := n2_
   have HB := n3_
   clear n0_ n1_ n2_ n3_
   refine start_ (n := 6) (S := fun w' => w'.cell? ⟨gb592, 0, none⟩ = some (.int .i64 a0_0) ∧ w'.cell? ⟨gb592, 1, none⟩ = some (.int .i64 a0_1) ∧ w'.cell? ⟨gb593, 0, none⟩ = some (.int .i64 a1_0) ∧ w'.cell? ⟨gb593, 1, none⟩ = some (.int .i64 a1_1)) (ds := [4, 5]) #[false, false, false, false, false, false] (by kernel_rfl) rfl rfl ⟨(blk_cell BK592.out 0).trans rfl, (blk_cell BK592.out 1).trans rfl, (blk_cell BK593.out 0).trans rfl, (blk_cell BK593.out 1).trans rfl⟩ (fun hHeld => ?_)
   generalize w28.drew = w29 at BK592 BK593 BK594 HB hHeld ⊢
   refine take_ (i := 0) (N := some 5) (v := ?_) (a' := ?_) #[true, false, false, false, false, false] rfl rfl (by kernel_rfl) (fun _ _ _ h => h) (Or.inl ⟨by rfl, ?_⟩) hHeld ?_ ?_
   rotate_left
   ·
    rintro w' ⟨s0, s1, s2, s3⟩
    go_simp
    with_reducible rfl
   rotate_left
   ·
    simp only [Act.put, List.setIfInBounds_toArray, List.set_cons_zero, List.set_cons_succ, i64_w, i32_w]
    rfl
   refine take_ (i := 2) (N := some 7) (v := ?_) (a' := ?_) #[true, false, true, false, false, false] rfl rfl (by kernel_rfl) (fun _ _ _ h => h) (Or.inl ⟨by rfl, ?_⟩) hHeld ?_ ?_
   rotate_left
   ·
    rintro w' ⟨s0, s1, s2, s3⟩
    go_simp
    with_reducible rfl
   rotate_left
   ·
    simp only [Act.put, List.setIfInBounds_toArray, List.set_cons_zero, List.set_cons_succ, i64_w, i32_w]
    rfl
   refine one_ (i := 1) (N := some 6) #[true, true, true, false, false, false] rfl rfl (by kernel_rfl) (by decide) (fun K hK => ?_)
   refine goes_ Try.func74 (by kernel_rfl) rfl #[.agg #[.int .i64 a0_0, .int .i64 a0_1]] (by rfl) rfl rfl (by (try simp only [List.map_toArray, List.map_cons, List.map_nil]); first | done | rfl | (simp only [List.length_drop, List.length_take]; rfl)) ?_
   with_reducible refine (itv_sound.calls a0_0 a0_1 t595 t596 _ A3.out).mono ?_
   rintro e w30 ⟨rfl, hb⟩
   refine ⟨_, rfl, ?_⟩
   have n0_ := Aside0.mk (blk_below (g := gb592) (o := .cells #[.int .i64 a0_0, .int .i64 a0_1] 36 (0, 0)) (by (with_reducible repeat (first | refine blk_drewN ?_ _ | refine blk_drew ?_ | refine blk_alloc ?_ _)); exact BK592.out) hb)
   have n1_ := Aside0.mk (blk_below (g := gb593) (o := .cells #[.int .i64 a1_0, .int .i64 a1_1] 36 (0, 0)) (by (with_reducible repeat (first | refine blk_drewN ?_ _ | refine blk_drew ?_ | refine blk_alloc ?_ _)); exact BK593.out) hb)
   have n2_ := Aside0.mk (blk_below (g := gb594) (o := .cells #[.int .i64 0, .int .i64 0] 36 (0, 0)) (by (with_reducible repeat (first | refine blk_drewN ?_ _ | refine blk_drew ?_ | refine blk_alloc ?_ _)); exact BK594.out) hb)
   have n3_ := Aside0.mk (below_step (by repeat (first | (with_reducible first | exact HB.out | apply below_alloc | apply pw_below_drewN | apply below_drew1 | refine below_set ?_ GE592.out | refine below_set ?_ GE593.out | refine below_set ?_ GE594.out) | exact HB.out)) hb)
   clear BK592
   clear BK593
   clear BK594
   clear HB
   have BK592 := n0_
   have BK593 := n1_
   have BK594 := n2_
   have HB := n3_
   clear n0_ n1_ n2_ n3_
   (try clear hb)
   (try clear hb2)
   (try clear hk)
   (try clear hi)
   refine hK.out _ _ ⟨(blk_cell BK592.out 0).trans rfl, (blk_cell BK592.out 1).trans rfl, (blk_cell BK593.out 0).trans rfl, (blk_cell BK593.out 1).trans rfl⟩ (fun hHeld => ?_)
   clear hK K
   refine norm_ (a' := ?_) ?_ ?_
   rotate_left
   ·
    show Act.put _ (some 6) _ = _
    simp only [Act.put, List.setIfInBounds_toArray, List.set_cons_zero, List.set_cons_succ, i64_w, i32_w]
    rfl
   refine one_ (i := 3) (N := some 8) #[true, true, true, true, false, false] rfl rfl (by kernel_rfl) (by decide) (fun K hK => ?_)
   refine goes_ Try.func74 (by kernel_rfl) rfl #[.agg #[.int .i64 a1_0, .int .i64 a1_1]] (by rfl) rfl rfl (by (try simp only [List.map_toArray, List.map_cons, List.map_nil]); first | done | rfl | (simp only [List.length_drop, List.length_take]; rfl)) ?_
   with_reducible refine (itv_sound.calls a1_0 a1_1 t597 t598 _ A4.out).mono ?_
   rintro e w31 ⟨rfl, hb⟩
   refine ⟨_, rfl, ?_⟩
   have n0_ := Aside0.mk (blk_below (g := gb592) (o := .cells #[.int .i64 a0_0, .int .i64 a0_1] 36 (0, 0)) (by (with_reducible repeat (first | refine blk_drewN ?_ _ | refine blk_drew ?_ | refine blk_alloc ?_ _)); exact BK592.out) hb)
   have n1_ := Aside0.mk (blk_below (g := gb593) (o := .cells #[.int .i64 a1_0, .int .i64 a1_1] 36 (0, 0)) (by (with_reducible repeat (first | refine blk_drewN ?_ _ | refine blk_drew ?_ | refine blk_alloc ?_ _)); exact BK593.out) hb)
   have n2_ := Aside0.mk (blk_below (g := gb594) (o := .cells #[.int .i64 0, .int .i64 0] 36 (0, 0)) (by (with_reducible repeat (first | refine blk_drewN ?_ _ | refine blk_drew ?_ | refine blk_alloc ?_ _)); exact BK594.out) hb)
   have n3_ := Aside0.mk (below_step (by repeat (first | (with_reducible first | exact HB.out | apply below_alloc | apply pw_below_drewN | apply below_drew1 | refine below_set ?_ GE592.out | refine below_set ?_ GE593.out | refine below_set ?_ GE594.out) | exact HB.out)) hb)
   clear BK592
   clear BK593
   clear BK594
   clear HB
   have BK592 := n0_
   have BK593 := n1_
   have BK594 := n2_
   have HB := n3_
   clear n0_ n1_ n2_ n3_
   (try clear hb)
   (try clear hb2)
   (try clear hk)
   (try clear hi)
   refine hK.out _ _ ⟨(blk_cell BK592.out 0).trans rfl, (blk_cell BK592.out 1).trans rfl, (blk_cell BK593.out 0).trans rfl, (blk_cell BK593.out 1).trans rfl⟩ (fun hHeld => ?_)
   clear hK K
   refine norm_ (a' := ?_) ?_ ?_
   rotate_left
   ·
    show Act.put _ (some 8) _ = _
    simp only [Act.put, List.setIfInBounds_toArray, List.set_cons_zero, List.set_cons_succ, i64_w, i32_w]
    rfl
   refine last_ (i := 4) (N := none) #[true, true, true, true, true, false] rfl rfl (by kernel_rfl) (by decide) (fun K hK => ?_)
   have hs32 : w31.cell? ⟨gb592, 0, none⟩ = some (.int .i64 a0_0) := (blk_cell BK592.out 0).trans rfl
   have hfs32 := blk_frozen BK592.out 0
   have hns32_1 := NB593_592.out
   have hns32_2 := NB594_592.out
   have hms32_1 := NB592_593.out
   have hms32_2 := NB592_594.out
   have hs33 : w31.cell? ⟨gb592, 1, none⟩ = some (.int .i64 a0_1) := (blk_cell BK592.out 1).trans rfl
   have hfs33 := blk_frozen BK592.out 1
   have hns33_1 := NB593_592.out
   have hns33_2 := NB594_592.out
   have hms33_1 := NB592_593.out
   have hms33_2 := NB592_594.out
   refine skip_ (w1 := ?_) (by rfl) rfl ?_ ?_
   rotate_left
   ·
    go_simp
    rfl
   refine hK.out _ _ ?_
   clear hK K
   refine last_ (i := 5) (N := none) #[true, true, true, true, true, true] rfl rfl (by kernel_rfl) (by decide) (fun K hK => ?_)
   have hs34 : w31.cell? ⟨gb593, 0, none⟩ = some (.int .i64 a1_0) := (blk_cell BK593.out 0).trans rfl
   have hfs34 := blk_frozen BK593.out 0
   have hns34_0 := NB592_593.out
   have hns34_2 := NB594_593.out
   have hms34_0 := NB593_592.out
   have hms34_2 := NB593_594.out
   have hs35 : w31.cell? ⟨gb593, 1, none⟩ = some (.int .i64 a1_1) := (blk_cell BK593.out 1).trans rfl
   have hfs35 := blk_frozen BK593.out 1
   have hns35_0 := NB592_593.out
   have hns35_2 := NB594_593.out
   have hms35_0 := NB593_592.out
   have hms35_2 := NB593_594.out
   refine skip_ (w1 := ?_) (by rfl) rfl ?_ ?_
   rotate_left
   ·
    go_simp
    rfl
   refine hK.out _ _ ?_
   clear hK K
   refine done_ (by kernel_rfl) ?_
   have hnb36 := NB592_593.out
   have hnc36 := NB593_592.out
   have hnb37 := NB592_594.out
   have hnc37 := NB594_592.out
   have hcz38_0 : w31.cell? ⟨gb592, 0, none⟩ = some (.int .i64 a0_0) := (blk_cell BK592.out 0).trans rfl
   have hcz38_1 : w31.cell? ⟨gb592, 1, none⟩ = some (.int .i64 a0_1) := (blk_cell BK592.out 1).trans rfl
   have hfz38_0 := blk_frozen BK592.out 0
   have hfz38_1 := blk_frozen BK592.out 1
   try go_wp2_with (first | ((with_reducible refine gate_callee (f := 57) rfl ?_); refine goesL_ (some 11) rfl rfl Try.func57 (by kernel_rfl) rfl #[.agg #[.int .i64 t595, .int .i64 t596]] rfl (by (try simp only [List.map_toArray, List.map_cons, List.map_nil]); first | done | rfl | (simp only [List.length_drop, List.length_take]; rfl)) ?_; (with_reducible refine (itv_None.calls t595 t596 false _ A5.out).mono ?_); rintro e w39 ⟨rfl, hb⟩; refine ⟨_, rfl, ?_⟩; have n0_ := Aside0.mk (blk_below (g := gb592) (o := .cells #[.int .i64 t595, .int .i64 t596] 36 (0, 0)) (by (with_reducible repeat (first | refine blk_drewN ?_ _ | refine blk_drew ?_ | refine blk_alloc ?_ _)); refine blk_far ?_ NB592_593.out _; (with_reducible repeat (first | refine blk_drewN ?_ _ | refine blk_drew ?_ | refine blk_alloc ?_ _)); refine blk_far ?_ NB592_593.out _; (with_reducible repeat (first | refine blk_drewN ?_ _ | refine blk_drew ?_ | refine blk_alloc ?_ _)); refine blk_put (cs := #[.int .i64 t595, .int .i64 a0_1]) ?_ 1 _ rfl; (with_reducible repeat (first | refine blk_drewN ?_ _ | refine blk_drew ?_ | refine blk_alloc ?_ _)); refine blk_put (cs := #[.int .i64 a0_0, .int .i64 a0_1]) ?_ 0 _ rfl; (with_reducible repeat (first | refine blk_drewN ?_ _ | refine blk_drew ?_ | refine blk_alloc ?_ _)); exact BK592.out) hb); have n1_ := Aside0.mk (blk_below (g := gb593) (o := .cells #[.int .i64 t597, .int .i64 t598] 36 (0, 0)) (by (with_reducible repeat (first | refine blk_drewN ?_ _ | refine blk_drew ?_ | refine blk_alloc ?_ _)); refine blk_put (cs := #[.int .i64 t597, .int .i64 a1_1]) ?_ 1 _ rfl; (with_reducible repeat (first | refine blk_drewN ?_ _ | refine blk_drew ?_ | refine blk_alloc ?_ _)); refine blk_put (cs := #[.int .i64 a1_0, .int .i64 a1_1]) ?_ 0 _ rfl; (with_reducible repeat (first | refine blk_drewN ?_ _ | refine blk_drew ?_ | refine blk_alloc ?_ _)); refine blk_far ?_ NB593_592.out _; (with_reducible repeat (first | refine blk_drewN ?_ _ | refine blk_drew ?_ | refine blk_alloc ?_ _)); refine blk_far ?_ NB593_592.out _; (with_reducible repeat (first | refine blk_drewN ?_ _ | refine blk_drew ?_ | refine blk_alloc ?_ _)); exact BK593.out) hb); have n2_ := Aside0.mk (blk_below (g := gb594) (o := .cells #[.int .i64 0, .int .i64 0] 36 (0, 0)) (by (with_reducible repeat (first | refine blk_drewN ?_ _ | refine blk_drew ?_ | refine blk_alloc ?_ _)); refine blk_far ?_ NB594_593.out _; (with_reducible repeat (first | refine blk_drewN ?_ _ | refine blk_drew ?_ | refine blk_alloc ?_ _)); refine blk_far ?_ NB594_593.out _; (with_reducible repeat (first | refine blk_drewN ?_ _ | refine blk_drew ?_ | refine blk_alloc ?_ _)); refine blk_far ?_ NB594_592.out _; (with_reducible repeat (first | refine blk_drewN ?_ _ | refine blk_drew ?_ | refine blk_alloc ?_ _)); refine blk_far ?_ NB594_592.out _; (with_reducible repeat (first | refine blk_drewN ?_ _ | refine blk_drew ?_ | refine blk_alloc ?_ _)); exact BK594.out) hb); have n3_ := Aside0.mk (below_step (by repeat (first | (with_reducible first | exact HB.out | apply below_alloc | apply pw_below_drewN | apply below_drew1 | refine below_set ?_ GE592.out | refine below_set ?_ GE593.out | refine below_set ?_ GE594.out) | exact HB.out)) hb); clear BK592; clear BK593; clear BK594; clear HB; have BK592 := n0_; have BK593 := n1_; have BK594 := n2_; have HB := n3_; clear n0_ n1_ n2_ n3_; (try clear hb); (try clear hb2); (try clear hk); (try clear hi); have hnb40 := NB593_594.out; have hnc40 := NB594_593.out; have hcz41_0 : w39.cell? ⟨gb593, 0, none⟩ = some (.int .i64 t597) := (blk_cell BK593.out 0).trans rfl; have hcz41_1 : w39.cell? ⟨gb593, 1, none⟩ = some (.int .i64 t598) := (blk_cell BK593.out 1).trans rfl; have hfz41_0 := blk_frozen BK593.out 0; have hfz41_1 := blk_frozen BK593.out 1) | ((with_reducible refine gate_callee (f := 57) rfl ?_); refine goesL_ (some 15) rfl rfl Try.func57 (by kernel_rfl) rfl #[.agg #[.int .i64 t597, .int .i64 t598]] rfl (by (try simp only [List.map_toArray, List.map_cons, List.map_nil]); first | done | rfl | (simp only [List.length_drop, List.length_take]; rfl)) ?_; (with_reducible refine (itv_None.calls t597 t598 true _ A24.out).mono ?_); rintro e w42 ⟨rfl, hb⟩; refine ⟨_, rfl, ?_⟩; have n0_ := Aside0.mk (blk_below (g := gb592) (o := .cells #[.int .i64 t595, .int .i64 t596] 36 (0, 0)) (by (with_reducible repeat (first | refine blk_drewN ?_ _ | refine blk_drew ?_ | refine blk_alloc ?_ _)); exact BK592.out) hb); have n1_ := Aside0.mk (blk_below (g := gb593) (o := .cells #[.int .i64 t597, .int .i64 t598] 36 (0, 0)) (by (with_reducible repeat (first | refine blk_drewN ?_ _ | refine blk_drew ?_ | refine blk_alloc ?_ _)); exact BK593.out) hb); have n2_ := Aside0.mk (blk_below (g := gb594) (o := .cells #[.int .i64 0, .int .i64 0] 36 (0, 0)) (by (with_reducible repeat (first | refine blk_drewN ?_ _ | refine blk_drew ?_ | refine blk_alloc ?_ _)); exact BK594.out) hb); have n3_ := Aside0.mk (below_step (by repeat (first | (with_reducible first | exact HB.out | apply below_alloc | apply pw_below_drewN | apply below_drew1 | refine below_set ?_ GE592.out | refine below_set ?_ GE593.out | refine below_set ?_ GE594.out) | exact HB.out)) hb); clear BK592; clear BK593; clear BK594; clear HB; have BK592 := n0_; have BK593 := n1_; have BK594 := n2_; have HB := n3_; clear n0_ n1_ n2_ n3_; (try clear hb); (try clear hb2); (try clear hk); (try clear hi); have hcz43_0 : w42.cell? ⟨gb592, 0, none⟩ = some (.int .i64 t595) := (blk_cell BK592.out 0).trans rfl; have hcz43_1 : w42.cell? ⟨gb592, 1, none⟩ = some (.int .i64 t596) := (blk_cell BK592.out 1).trans rfl; have hfz43_0 := blk_frozen BK592.out 0; have hfz43_1 := blk_frozen BK592.out 1; have hcz44_0 : w42.cell? ⟨gb594, 0, none⟩ = some (.int .i64 0) := (blk_cell BK594.out 0).trans rfl; have hcz44_1 : w42.cell? ⟨gb594, 1, none⟩ = some (.int .i64 0) := (blk_cell BK594.out 1).trans rfl; have hfz44_0 := blk_frozen BK594.out 0; have hfz44_1 := blk_frozen BK594.out 1))
   refine bodyPost_ret (results_cell_row rfl _ _ gb594 36 #[.int .i64 t595, .int .i64 t596] (0, 0) _ rfl (vP2 BK594.out) Try.underlying36 rfl (by kernel_rfl)) rfl ?_
   exact ⟨vE, by repeat (first | (with_reducible first | exact HB.out | apply below_alloc | apply pw_below_drewN | apply below_drew1 | refine below_set ?_ GE592.out | refine below_set ?_ GE593.out | refine below_set ?_ GE594.out) | exact HB.out)⟩
  ·
   replace c25 := Bool.eq_false_iff.mpr c25
   subst c25
   rw [if_neg (show ¬ (false = true) by decide)] at H
   try dsimp only at H
   obtain ⟨ji45, hji45⟩ : ∃ j_ : Int, (mn t595 t597) = j_ := ⟨_, rfl⟩
   first | rw [hji45] at H | simp only [hji45] at H
   (try rw [hji45] at A3)
   (try rw [hji45] at A4)
   (try rw [hji45] at A5)
   (try rw [hji45] at A24)
   have hji45_ : (if t597 < t595 then t597 else t595) = ji45 := hji45
   obtain ⟨ji46, hji46⟩ : ∃ j_ : Int, (mx t596 t598) = j_ := ⟨_, rfl⟩
   first | rw [hji46] at H | simp only [hji46] at H
   (try rw [hji46] at A3)
   (try rw [hji46] at A4)
   (try rw [hji46] at A5)
   (try rw [hji46] at A24)
   have hji46_ : (if t596 < t598 then t598 else t596) = ji46 := hji46
   simp only [Option.some.injEq, Prod.mk.injEq] at H
   obtain ⟨rfl, rfl⟩ := H
   go_enter Try.func24, Try.ntmps24
   try go_wp2_with (first | ((with_reducible refine gate_dst (N := 2) rfl ?_); refine bx_ 2 #[.int .i64 a0_0, .int .i64 a0_1] 36 ?_; intro gb592 hg w47 hbox hb; have n0_ := Aside0.mk (below_step (by repeat (first | (with_reducible first | exact HB.out | apply below_alloc | apply pw_below_drewN | apply below_drew1) | exact HB.out)) hb); have n1_ := Aside0.mk (hbox); have n2_ := Aside0.mk ((by rw [hg]; exact (below_size (by repeat (first | (with_reducible first | exact HB.out | apply below_alloc | apply pw_below_drewN | apply below_drew1) | exact HB.out))) : w.heap.size ≤ gb592)); have n3_ := Aside0.mk ((by rw [hg]; exact (below_size (by repeat (first | (with_reducible first | exact HB.out | apply below_alloc | apply pw_below_drewN | apply below_drew1) | exact HB.out))) : w.heap.size ≤ gb592)); clear HB; have HB := n0_; have BK592 := n1_; have GW592 := n2_; have GE592 := n3_; clear n0_ n1_ n2_ n3_; clear hb hbox hg) | ((with_reducible refine gate_dst (N := 3) rfl ?_); refine bx_ 3 #[.int .i64 a1_0, .int .i64 a1_1] 36 ?_; intro gb593 hg w48 hbox hb; have n0_ := Aside0.mk (blk_below (g := gb592) (o := .cells #[.int .i64 a0_0, .int .i64 a0_1] 36 (0, 0)) (by (with_reducible repeat (first | refine blk_drewN ?_ _ | refine blk_drew ?_ | refine blk_alloc ?_ _)); exact BK592.out) hb); have n1_ := Aside0.mk (below_step (by repeat (first | (with_reducible first | exact HB.out | apply below_alloc | apply pw_below_drewN | apply below_drew1 | refine below_set ?_ GE592.out) | exact HB.out)) hb); have n2_ := Aside0.mk (hbox); have n3_ := Aside0.mk ((by rw [hg]; exact (below_size (by repeat (first | (with_reducible first | exact HB.out | apply below_alloc | apply pw_below_drewN | apply below_drew1 | refine below_set ?_ GE592.out) | exact HB.out))) : w.heap.size ≤ gb593)); have n4_ := Aside0.mk ((by rw [hg]; exact (below_size (by repeat (first | (with_reducible first | exact HB.out | apply below_alloc | apply pw_below_drewN | apply below_drew1 | refine below_set ?_ GE592.out) | exact HB.out))) : w.heap.size ≤ gb593)); have n5_ := Aside0.mk ((by rw [hg]; exact Nat.ne_of_lt (blk_lt (g := gb592) (o := .cells #[.int .i64 a0_0, .int .i64 a0_1] 36 (0, 0)) (by (with_reducible repeat (first | refine blk_drewN ?_ _ | refine blk_drew ?_ | refine blk_alloc ?_ _)); exact BK592.out)) : gb592 ≠ gb593)); have n6_ := Aside0.mk ((by rw [hg]; exact Nat.ne_of_gt (blk_lt (g := gb592) (o := .cells #[.int .i64 a0_0, .int .i64 a0_1] 36 (0, 0)) (by (with_reducible repeat (first | refine blk_drewN ?_ _ | refine blk_drew ?_ | refine blk_alloc ?_ _)); exact BK592.out)) : gb593 ≠ gb592)); clear BK592; clear HB; have BK592 := n0_; have HB := n1_; have BK593 := n2_; have GW593 := n3_; have GE593 := n4_; have NB592_593 := n5_; have NB593_592 := n6_; clear n0_ n1_ n2_ n3_ n4_ n5_ n6_; clear hb hbox hg) | ((with_reducible refine gate_dst (N := 4) rfl ?_); refine bx_ 4 #[.int .i64 0, .int .i64 0] 36 ?_; intro gb594 hg w49 hbox hb; have n0_ := Aside0.mk (blk_below (g := gb592) (o := .cells #[.int .i64 a0_0, .int .i64 a0_1] 36 (0, 0)) (by (with_reducible repeat (first | refine blk_drewN ?_ _ | refine blk_drew ?_ | refine blk_alloc ?_ _)); exact BK592.out) hb); have n1_ := Aside0.mk (blk_below (g := gb593) (o := .cells #[.int .i64 a1_0, .int .i64 a1_1] 36 (0, 0)) (by (with_reducible repeat (first | refine blk_drewN ?_ _ | refine blk_drew ?_ | refine blk_alloc ?_ _)); exact BK593.out) hb); have n2_ := Aside0.mk (below_step (by repeat (first | (with_reducible first | exact HB.out | apply below_alloc | apply pw_below_drewN | apply below_drew1 | refine below_set ?_ GE592.out | refine below_set ?_ GE593.out) | exact HB.out)) hb); have n3_ := Aside0.mk (hbox); have n4_ := Aside0.mk ((by rw [hg]; exact (below_size (by repeat (first | (with_reducible first | exact HB.out | apply below_alloc | apply pw_below_drewN | apply below_drew1 | refine below_set ?_ GE592.out | refine below_set ?_ GE593.out) | exact HB.out))) : w.heap.size ≤ gb594)); have n5_ := Aside0.mk ((by rw [hg]; exact (below_size (by repeat (first | (with_reducible first | exact HB.out | apply below_alloc | apply pw_below_drewN | apply below_drew1 | refine below_set ?_ GE592.out | refine below_set ?_ GE593.out) | exact HB.out))) : w.heap.size ≤ gb594)); have n6_ := Aside0.mk ((by rw [hg]; exact Nat.ne_of_lt (blk_lt (g := gb592) (o := .cells #[.int .i64 a0_0, .int .i64 a0_1] 36 (0, 0)) (by (with_reducible repeat (first | refine blk_drewN ?_ _ | refine blk_drew ?_ | refine blk_alloc ?_ _)); exact BK592.out)) : gb592 ≠ gb594)); have n7_ := Aside0.mk ((by rw [hg]; exact Nat.ne_of_gt (blk_lt (g := gb592) (o := .cells #[.int .i64 a0_0, .int .i64 a0_1] 36 (0, 0)) (by (with_reducible repeat (first | refine blk_drewN ?_ _ | refine blk_drew ?_ | refine blk_alloc ?_ _)); exact BK592.out)) : gb594 ≠ gb592)); have n8_ := Aside0.mk ((by rw [hg]; exact Nat.ne_of_lt (blk_lt (g := gb593) (o := .cells #[.int .i64 a1_0, .int .i64 a1_1] 36 (0, 0)) (by (with_reducible repeat (first | refine blk_drewN ?_ _ | refine blk_drew ?_ | refine blk_alloc ?_ _)); exact BK593.out)) : gb593 ≠ gb594)); have n9_ := Aside0.mk ((by rw [hg]; exact Nat.ne_of_gt (blk_lt (g := gb593) (o := .cells #[.int .i64 a1_0, .int .i64 a1_1] 36 (0, 0)) (by (with_reducible repeat (first | refine blk_drewN ?_ _ | refine blk_drew ?_ | refine blk_alloc ?_ _)); exact BK593.out)) : gb594 ≠ gb593)); clear BK592; clear BK593; clear HB; have BK592 := n0_; have BK593 := n1_; have HB := n2_; have BK594 := n3_; have GW594 := n4_; have GE594 := n5_; have NB592_594 := n6_; have NB594_592 := n7_; have NB593_594 := n8_; have NB594_593 := n9_; clear n0_ n1_ n2_ n3_ n4_ n5_ n6_ n7_ n8_ n9_; clear hb hbox hg))
   have n0_ := Aside0.mk (blk_drew BK592.out)
   have n1_ := Aside0.mk (blk_drew BK593.out)
   have n2_ := Aside0.mk (blk_drew BK594.out)
   have n3_ := Aside0.mk (below_drew1 HB.out)
   clear BK592
   clear BK593
   clear BK594
   clear HB
   have BK592 := n0_
   have BK593 := n1_
   have BK594 := n2_
   have HB := n3_
   clear n0_ n1_ n2_ n3_
   refine start_ (n := 6) (S := fun w' => w'.cell? ⟨gb592, 0, none⟩ = some (.int .i64 a0_0) ∧ w'.cell? ⟨gb592, 1, none⟩ = some (.int .i64 a0_1) ∧ w'.cell? ⟨gb593, 0, none⟩ = some (.int .i64 a1_0) ∧ w'.cell? ⟨gb593, 1, none⟩ = some (.int .i64 a1_1)) (ds := [4, 5]) #[false, false, false, false, false, false] (by kernel_rfl) rfl rfl ⟨(blk_cell BK592.out 0).trans rfl, (blk_cell BK592.out 1).trans rfl, (blk_cell BK593.out 0).trans rfl, (blk_cell BK593.out 1).trans rfl⟩ (fun hHeld => ?_)
   generalize w49.drew = w50 at BK592 BK593 BK594 HB hHeld ⊢
   refine take_ (i := 0) (N := some 5) (v := ?_) (a' := ?_) #[true, false, false, false, false, false] rfl rfl (by kernel_rfl) (fun _ _ _ h => h) (Or.inl ⟨by rfl, ?_⟩) hHeld ?_ ?_
   rotate_left
   ·
    rintro w' ⟨s0, s1, s2, s3⟩
    go_simp
    with_reducible rfl
   rotate_left
   ·
    simp only [Act.put, List.setIfInBounds_toArray, List.set_cons_zero, List.set_cons_succ, i64_w, i32_w]
    rfl
   refine take_ (i := 2) (N := some 7) (v := ?_) (a' := ?_) #[true, false, true, false, false, false] rfl rfl (by kernel_rfl) (fun _ _ _ h => h) (Or.inl ⟨by rfl, ?_⟩) hHeld ?_ ?_
   rotate_left
   ·
    rintro w' ⟨s0, s1, s2, s3⟩
    go_simp
    with_reducible rfl
   rotate_left
   ·
    simp only [Act.put, List.setIfInBounds_toArray, List.set_cons_zero, List.set_cons_succ, i64_w, i32_w]
    rfl
   refine one_ (i := 1) (N := some 6) #[true, true, true, false, false, false] rfl rfl (by kernel_rfl) (by decide) (fun K hK => ?_)
   refine goes_ Try.func74 (by kernel_rfl) rfl #[.agg #[.int .i64 a0_0, .int .i64 a0_1]] (by rfl) rfl rfl (by (try simp only [List.map_toArray, List.map_cons, List.map_nil]); first | done | rfl | (simp only [List.length_drop, List.length_take]; rfl)) ?_
   with_reducible refine (itv_sound.calls a0_0 a0_1 t595 t596 _ A3.out).mono ?_
   rintro e w51 ⟨rfl, hb⟩
   refine ⟨_, rfl, ?_⟩
   have n0_ := Aside0.mk (blk_below (g := gb592) (o := .cells #[.int .i64 a0_0, .int .i64 a0_1] 36 (0, 0)) (by (with_reducible repeat (first | refine blk_drewN ?_ _ | refine blk_drew ?_ | refine blk_alloc ?_ _)); exact BK592.out) hb)
   have n1_ := Aside0.mk (blk_below (g := gb593) (o := .cells #[.int .i64 a1_0, .int .i64 a1_1] 36 (0, 0)) (by (with_reducible repeat (first | refine blk_drewN ?_ _ | refine blk_drew ?_ | refine blk_alloc ?_ _)); exact BK593.out) hb)
   have n2_ := Aside0.mk (blk_below (g := gb594) (o := .cells #[.int .i64 0, .int .i64 0] 36 (0, 0)) (by (with_reducible repeat (first | refine blk_drewN ?_ _ | refine blk_drew ?_ | refine blk_alloc ?_ _)); exact BK594.out) hb)
   have n3_ := Aside0.mk (below_step (by repeat (first | (with_reducible first | exact HB.out | apply below_alloc | apply pw_below_drewN | apply below_drew1 | refine below_set ?_ GE592.out | refine below_set ?_ GE593.out | refine below_set ?_ GE594.out) | exact HB.out)) hb)
   clear BK592
   clear BK593
   clear BK594
   clear HB
   have BK592 := n0_
   have BK593 := n1_
   have BK594 := n2_
   have HB := n3_
   clear n0_ n1_ n2_ n3_
   (try clear hb)
   (try clear hb2)
   (try clear hk)
   (try clear hi)
   refine hK.out _ _ ⟨(blk_cell BK592.out 0).trans rfl, (blk_cell BK592.out 1).trans rfl, (blk_cell BK593.out 0).trans rfl, (blk_cell BK593.out 1).trans rfl⟩ (fun hHeld => ?_)
   clear hK K
   refine norm_ (a' := ?_) ?_ ?_
   rotate_left
   ·
    show Act.put _ (some 6) _ = _
    simp only [Act.put, List.setIfInBounds_toArray, List.set_cons_zero, List.set_cons_succ, i64_w, i32_w]
    rfl
   refine one_ (i := 3) (N := some 8) #[true, true, true, true, false, false] rfl rfl (by kernel_rfl) (by decide) (fun K hK => ?_)
   refine goes_ Try.func74 (by kernel_rfl) rfl #[.agg #[.int .i64 a1_0, .int .i64 a1_1]] (by rfl) rfl rfl (by (try simp only [List.map_toArray, List.map_cons, List.map_nil]); first | done | rfl | (simp only [List.length_drop, List.length_take]; rfl)) ?_
   with_reducible refine (itv_sound.calls a1_0 a1_1 t597 t598 _ A4.out).mono ?_
   rintro e w52 ⟨rfl, hb⟩
   refine ⟨_, rfl, ?_⟩
   have n0_ := Aside0.mk (blk_below (g := gb592) (o := .cells #[.int .i64 a0_0, .int .i64 a0_1] 36 (0, 0)) (by (with_reducible repeat (first | refine blk_drewN ?_ _ | refine blk_drew ?_ | refine blk_alloc ?_ _)); exact BK592.out) hb)
   have n1_ := Aside0.mk (blk_below (g := gb593) (o := .cells #[.int .i64 a1_0, .int .i64 a1_1] 36 (0, 0)) (by (with_reducible repeat (first | refine blk_drewN ?_ _ | refine blk_drew ?_ | refine blk_alloc ?_ _)); exact BK593.out) hb)
   have n2_ := Aside0.mk (blk_below (g := gb594) (o := .cells #[.int .i64 0, .int .i64 0] 36 (0, 0)) (by (with_reducible repeat (first | refine blk_drewN ?_ _ | refine blk_drew ?_ | refine blk_alloc ?_ _)); exact BK594.out) hb)
   have n3_ := Aside0.mk (below_step (by repeat (first | (with_reducible first | exact HB.out | apply below_alloc | apply pw_below_drewN | apply below_drew1 | refine below_set ?_ GE592.out | refine below_set ?_ GE593.out | refine below_set ?_ GE594.out) | exact HB.out)) hb)
   clear BK592
   clear BK593
   clear BK594
   clear HB
   have BK592 := n0_
   have BK593 := n1_
   have BK594 := n2_
   have HB := n3_
   clear n0_ n1_ n2_ n3_
   (try clear hb)
   (try clear hb2)
   (try clear hk)
   (try clear hi)
   refine hK.out _ _ ⟨(blk_cell BK592.out 0).trans rfl, (blk_cell BK592.out 1).trans rfl, (blk_cell BK593.out 0).trans rfl, (blk_cell BK593.out 1).trans rfl⟩ (fun hHeld => ?_)
   clear hK K
   refine norm_ (a' := ?_) ?_ ?_
   rotate_left
   ·
    show Act.put _ (some 8) _ = _
    simp only [Act.put, List.setIfInBounds_toArray, List.set_cons_zero, List.set_cons_succ, i64_w, i32_w]
    rfl
   refine last_ (i := 4) (N := none) #[true, true, true, true, true, false] rfl rfl (by kernel_rfl) (by decide) (fun K hK => ?_)
   have hs53 : w52.cell? ⟨gb592, 0, none⟩ = some (.int .i64 a0_0) := (blk_cell BK592.out 0).trans rfl
   have hfs53 := blk_frozen BK592.out 0
   have hns53_1 := NB593_592.out
   have hns53_2 := NB594_592.out
   have hms53_1 := NB592_593.out
   have hms53_2 := NB592_594.out
   have hs54 : w52.cell? ⟨gb592, 1, none⟩ = some (.int .i64 a0_1) := (blk_cell BK592.out 1).trans rfl
   have hfs54 := blk_frozen BK592.out 1
   have hns54_1 := NB593_592.out
   have hns54_2 := NB594_592.out
   have hms54_1 := NB592_593.out
   have hms54_2 := NB592_594.out
   refine skip_ (w1 := ?_) (by rfl) rfl ?_ ?_
   rotate_left
   ·
    go_simp
    rfl
   refine hK.out _ _ ?_
   clear hK K
   refine last_ (i := 5) (N := none) #[true, true, true, true, true, true] rfl rfl (by kernel_rfl) (by decide) (fun K hK => ?_)
   have hs55 : w52.cell? ⟨gb593, 0, none⟩ = some (.int .i64 a1_0) := (blk_cell BK593.out 0).trans rfl
   have hfs55 := blk_frozen BK593.out 0
   have hns55_0 := NB592_593.out
   have hns55_2 := NB594_593.out
   have hms55_0 := NB593_592.out
   have hms55_2 := NB593_594.out
   have hs56 : w52.cell? ⟨gb593, 1, none⟩ = some (.int .i64 a1_1) := (blk_cell BK593.out 1).trans rfl
   have hfs56 := blk_frozen BK593.out 1
   have hns56_0 := NB592_593.out
   have hns56_2 := NB594_593.out
   have hms56_0 := NB593_592.out
   have hms56_2 := NB593_594.out
   refine skip_ (w1 := ?_) (by rfl) rfl ?_ ?_
   rotate_left
   ·
    go_simp
    rfl
   refine hK.out _ _ ?_
   clear hK K
   refine done_ (by kernel_rfl) ?_
   have hnb57 := NB592_593.out
   have hnc57 := NB593_592.out
   have hnb58 := NB592_594.out
   have hnc58 := NB594_592.out
   have hcz59_0 : w52.cell? ⟨gb592, 0, none⟩ = some (.int .i64 a0_0) := (blk_cell BK592.out 0).trans rfl
   have hcz59_1 : w52.cell? ⟨gb592, 1, none⟩ = some (.int .i64 a0_1) := (blk_cell BK592.out 1).trans rfl
   have hfz59_0 := blk_frozen BK592.out 0
   have hfz59_1 := blk_frozen BK592.out 1
   try go_wp2_with (first | ((with_reducible refine gate_callee (f := 57) rfl ?_); refine goesL_ (some 11) rfl rfl Try.func57 (by kernel_rfl) rfl #[.agg #[.int .i64 t595, .int .i64 t596]] rfl (by (try simp only [List.map_toArray, List.map_cons, List.map_nil]); first | done | rfl | (simp only [List.length_drop, List.length_take]; rfl)) ?_; (with_reducible refine (itv_None.calls t595 t596 false _ A5.out).mono ?_); rintro e w60 ⟨rfl, hb⟩; refine ⟨_, rfl, ?_⟩; have n0_ := Aside0.mk (blk_below (g := gb592) (o := .cells #[.int .i64 t595, .int .i64 t596] 36 (0, 0)) (by (with_reducible repeat (first | refine blk_drewN ?_ _ | refine blk_drew ?_ | refine blk_alloc ?_ _)); refine blk_far ?_ NB592_593.out _; (with_reducible repeat (first | refine blk_drewN ?_ _ | refine blk_drew ?_ | refine blk_alloc ?_ _)); refine blk_far ?_ NB592_593.out _; (with_reducible repeat (first | refine blk_drewN ?_ _ | refine blk_drew ?_ | refine blk_alloc ?_ _)); refine blk_put (cs := #[.int .i64 t595, .int .i64 a0_1]) ?_ 1 _ rfl; (with_reducible repeat (first | refine blk_drewN ?_ _ | refine blk_drew ?_ | refine blk_alloc ?_ _)); refine blk_put (cs := #[.int .i64 a0_0, .int .i64 a0_1]) ?_ 0 _ rfl; (with_reducible repeat (first | refine blk_drewN ?_ _ | refine blk_drew ?_ | refine blk_alloc ?_ _)); exact BK592.out) hb); have n1_ := Aside0.mk (blk_below (g := gb593) (o := .cells #[.int .i64 t597, .int .i64 t598] 36 (0, 0)) (by (with_reducible repeat (first | refine blk_drewN ?_ _ | refine blk_drew ?_ | refine blk_alloc ?_ _)); refine blk_put (cs := #[.int .i64 t597, .int .i64 a1_1]) ?_ 1 _ rfl; (with_reducible repeat (first | refine blk_drewN ?_ _ | refine blk_drew ?_ | refine blk_alloc ?_ _)); refine blk_put (cs := #[.int .i64 a1_0, .int .i64 a1_1]) ?_ 0 _ rfl; (with_reducible repeat (first | refine blk_drewN ?_ _ | refine blk_drew ?_ | refine blk_alloc ?_ _)); refine blk_far ?_ NB593_592.out _; (with_reducible repeat (first | refine blk_drewN ?_ _ | refine blk_drew ?_ | refine blk_alloc ?_ _)); refine blk_far ?_ NB593_592.out _; (with_reducible repeat (first | refine blk_drewN ?_ _ | refine blk_drew ?_ | refine blk_alloc ?_ _)); exact BK593.out) hb); have n2_ := Aside0.mk (blk_below (g := gb594) (o := .cells #[.int .i64 0, .int .i64 0] 36 (0, 0)) (by (with_reducible repeat (first | refine blk_drewN ?_ _ | refine blk_drew ?_ | refine blk_alloc ?_ _)); refine blk_far ?_ NB594_593.out _; (with_reducible repeat (first | refine blk_drewN ?_ _ | refine blk_drew ?_ | refine blk_alloc ?_ _)); refine blk_far ?_ NB594_593.out _; (with_reducible repeat (first | refine blk_drewN ?_ _ | refine blk_drew ?_ | refine blk_alloc ?_ _)); refine blk_far ?_ NB594_592.out _; (with_reducible repeat (first | refine blk_drewN ?_ _ | refine blk_drew ?_ | refine blk_alloc ?_ _)); refine blk_far ?_ NB594_592.out _; (with_reducible repeat (first | refine blk_drewN ?_ _ | refine blk_drew ?_ | refine blk_alloc ?_ _)); exact BK594.out) hb); have n3_ := Aside0.mk (below_step (by repeat (first | (with_reducible first | exact HB.out | apply below_alloc | apply pw_below_drewN | apply below_drew1 | refine below_set ?_ GE592.out | refine below_set ?_ GE593.out | refine below_set ?_ GE594.out) | exact HB.out)) hb); clear BK592; clear BK593; clear BK594; clear HB; have BK592 := n0_; have BK593 := n1_; have BK594 := n2_; have HB := n3_; clear n0_ n1_ n2_ n3_; (try clear hb); (try clear hb2); (try clear hk); (try clear hi); have hnb61 := NB593_594.out; have hnc61 := NB594_593.out; have hcz62_0 : w60.cell? ⟨gb593, 0, none⟩ = some (.int .i64 t597) := (blk_cell BK593.out 0).trans rfl; have hcz62_1 : w60.cell? ⟨gb593, 1, none⟩ = some (.int .i64 t598) := (blk_cell BK593.out 1).trans rfl; have hfz62_0 := blk_frozen BK593.out 0; have hfz62_1 := blk_frozen BK593.out 1) | ((with_reducible refine gate_callee (f := 57) rfl ?_); refine goesL_ (some 15) rfl rfl Try.func57 (by kernel_rfl) rfl #[.agg #[.int .i64 t597, .int .i64 t598]] rfl (by (try simp only [List.map_toArray, List.map_cons, List.map_nil]); first | done | rfl | (simp only [List.length_drop, List.length_take]; rfl)) ?_; (with_reducible refine (itv_None.calls t597 t598 false _ A24.out).mono ?_); rintro e w63 ⟨rfl, hb⟩; refine ⟨_, rfl, ?_⟩; have n0_ := Aside0.mk (blk_below (g := gb592) (o := .cells #[.int .i64 t595, .int .i64 t596] 36 (0, 0)) (by (with_reducible repeat (first | refine blk_drewN ?_ _ | refine blk_drew ?_ | refine blk_alloc ?_ _)); exact BK592.out) hb); have n1_ := Aside0.mk (blk_below (g := gb593) (o := .cells #[.int .i64 t597, .int .i64 t598] 36 (0, 0)) (by (with_reducible repeat (first | refine blk_drewN ?_ _ | refine blk_drew ?_ | refine blk_alloc ?_ _)); exact BK593.out) hb); have n2_ := Aside0.mk (blk_below (g := gb594) (o := .cells #[.int .i64 0, .int .i64 0] 36 (0, 0)) (by (with_reducible repeat (first | refine blk_drewN ?_ _ | refine blk_drew ?_ | refine blk_alloc ?_ _)); exact BK594.out) hb); have n3_ := Aside0.mk (below_step (by repeat (first | (with_reducible first | exact HB.out | apply below_alloc | apply pw_below_drewN | apply below_drew1 | refine below_set ?_ GE592.out | refine below_set ?_ GE593.out | refine below_set ?_ GE594.out) | exact HB.out)) hb); clear BK592; clear BK593; clear BK594; clear HB; have BK592 := n0_; have BK593 := n1_; have BK594 := n2_; have HB := n3_; clear n0_ n1_ n2_ n3_; (try clear hb); (try clear hb2); (try clear hk); (try clear hi); have hcz64_0 : w63.cell? ⟨gb592, 0, none⟩ = some (.int .i64 t595) := (blk_cell BK592.out 0).trans rfl; have hcz64_1 : w63.cell? ⟨gb592, 1, none⟩ = some (.int .i64 t596) := (blk_cell BK592.out 1).trans rfl; have hfz64_0 := blk_frozen BK592.out 0; have hfz64_1 := blk_frozen BK592.out 1; have hcz65_0 : w63.cell? ⟨gb593, 0, none⟩ = some (.int .i64 t597) := (blk_cell BK593.out 0).trans rfl; have hcz65_1 : w63.cell? ⟨gb593, 1, none⟩ = some (.int .i64 t598) := (blk_cell BK593.out 1).trans rfl; have hfz65_0 := blk_frozen BK593.out 0; have hfz65_1 := blk_frozen BK593.out 1; have hcz66_0 : w63.cell? ⟨gb594, 0, none⟩ = some (.int .i64 0) := (blk_cell BK594.out 0).trans rfl; have hcz66_1 : w63.cell? ⟨gb594, 1, none⟩ = some (.int .i64 0) := (blk_cell BK594.out 1).trans rfl; have hfz66_0 := blk_frozen BK594.out 0; have hfz66_1 := blk_frozen BK594.out 1))
   refine bodyPost_ret (results_cell_row rfl _ _ gb594 36 #[.int .i64 ji45, .int .i64 ji46] (0, 0) _ rfl (vP2 BK594.out) Try.underlying36 rfl (by kernel_rfl)) rfl ?_
   exact ⟨by first | rfl | (simp [errW_none, errW_some] <;> rfl) | (simp only [← hji45, ← hji46]; first | rfl | (simp [errW_none, errW_some] <;> rfl)) | (simp [*, errW_none, errW_some] <;> rfl) | (simp [wrap64]; done), by repeat (first | (with_reducible first | exact HB.out | apply below_alloc | apply pw_below_drewN | apply below_drew1 | refine below_set ?_ GE592.out | refine below_set ?_ GE593.out | refine below_set ?_ GE594.out) | exact HB.out)⟩
end Go.Proofs.Ytphfchbggechhaa.QO
end
end
section
noncomputable section
namespace Go.Proofs.Ytphfchbggechhaa.QO
open Go.RowKit Go.Shelf YtphfchbggechhaaW.PrintWords YtphfchbggechhaaW.PrintLast YtphfchbggechhaaW.PrintMore
open Ytphfchbggechhaa.Pure
open OctMath (Le Fin')
set_option linter.unusedVariables false
section
variable {v : List Int} {a b : Tri}
theorem rd_at {n k : Nat} {C : Mx} (hk : k < n * n) : rd (lst n C) (k : Int) = C (k / n) (k % n) := by
 have h0 : 0 < n := by
  by_cases e : n = 0
  ·
   rw [e] at hk; omega
  ·
   omega
 refine lst_rd (Nat.div_lt_of_lt_mul hk) (Nat.mod_lt _ h0) ?_
 congr 1
 rw [Nat.mul_comm]; exact (Nat.div_add_mod k _).symm
theorem sq_le {n : Nat} (h : n ≤ 8) : 2 * n * (2 * n) ≤ 256 := Nat.le_trans (Nat.mul_le_mul (show 2 * n ≤ 16 by omega) (show 2 * n ≤ 16 by omega)) (by decide)
def jT (v : List Int) (a b : Tri) : Tri :=
 if (clT v a).2.2 = true then clT v b else if (clT v b).2.2 = true then clT v a
 else (v, lst (2 * v.length) (fun i j => mx (closeM (2 * v.length) (lowM v.length a.2.1) i j) (closeM (2 * v.length) (lowM v.length b.2.1) i j)), false)
theorem jT_in (o : On v a) (o' : On v b) {A B : Mx} (ha : clT v a = (v, lst (2 * v.length) A, false)) (hb : clT v b = (v, lst (2 * v.length) B, false)) : jT v a b = (v, lst (2 * v.length) (fun i j => mx (A i j) (B i j)), false) := by
 unfold jT
 rw [if_neg (by rw [ha]; simp), if_neg (by rw [hb]; simp), lst_ext fun i j hi hj => by rw [closeM_at o ha i j hi hj, closeM_at o' hb i j hi hj]]
theorem jT_on (o : On v a) (o' : On v b) : On v (jT v a b) := by
 rcases o.cases with h | ⟨A, hA, h⟩
 ·
  unfold jT; rw [if_pos (by rw [h])]; exact o'.cl
 ·
  rcases o'.cases with h' | ⟨B, hB, h'⟩
  ·
   unfold jT; rw [if_neg (by rw [h]; simp), if_pos (by rw [h'])]; exact o.cl
  ·
   rw [jT_in o o' h h']; exact On.mat o.vok (snd_mx hA.s hB.s)
theorem jT_ge (o : On v a) (o' : On v b) : QLe v a (jT v a b) := by
 rcases o.cases with h | ⟨A, hA, h⟩
 ·
  exact .inl h
 ·
  rw [qle_left o hA h]
  rcases o'.cases with h' | ⟨B, hB, h'⟩
  ·
   unfold jT; rw [if_neg (by rw [h]; simp), if_pos (by rw [h']), h]; exact cl_mono o.vok hA.s hA.s Le.refl
  ·
   rw [jT_in o o' h h']
   exact cl_mono o.vok hA.s (snd_mx hA.s hB.s) fun i j hi hj => by unfold mx; split <;> omega
end
section
variable {w W : World} {X Y : OV} {v : List Int}
theorem rleq_as (hx : Oc w W X) (hy : Oc w W Y) (hb : Below w.heap.size w W) (o : On v X.o) (o' : On v Y.o) (q : QLe v X.o Y.o) : Says 75 #[X.val, Y.val] W (.bool true) := by
 have HX : Aside0 (Oc W W X) := ⟨⟨⟨hx.r0.le, .inl (hx.r0.reads hb)⟩, ⟨hx.r1.le, .inl (hx.r1.reads hb)⟩⟩⟩
 have HY : Aside0 (Oc W W Y) := ⟨⟨⟨hy.r0.le, .inl (hy.r0.reads hb)⟩, ⟨hy.r1.le, .inl (hy.r1.reads hb)⟩⟩⟩
 have e1 : X.v = v := o.1
 have e2 : Y.v = v := o'.1
 have f1 : OFit X.v X.m X.e := by rw [e1]; exact o.2
 have f2 : OFit Y.v Y.m Y.e := by rw [e2]; exact o'.2
 rcases q with q | ⟨A, B, hA, hB, qa, qb, l⟩
 ·
  exact rleq_bot X Y (v := v) (t := clT v Y.o) HX HY ⟨f1⟩ ⟨f2⟩ ⟨by rw [e1]; exact q⟩ ⟨by rw [e2]; rfl⟩
 ·
  refine rleq_in X Y (v := v) HX HY ⟨f1⟩ ⟨f2⟩ ⟨by rw [e1]; exact qa⟩ ⟨by rw [e2]; exact qb⟩ ⟨by rw [lst_length, lst_length], by rw [lst_length]; exact sq_le o.vok.1, fun k hk => ?_⟩
  rw [lst_length] at hk
  have h0 : 0 < 2 * v.length := by
   by_cases e : 2 * v.length = 0
   ·
    rw [e] at hk; omega
   ·
    omega
  rw [rd_at hk, rd_at hk]
  exact l _ _ (Nat.div_lt_of_lt_mul hk) (Nat.mod_lt _ h0)
theorem rjoin_as (hx : Oc w W X) (hy : Oc w W Y) (hb : Below w.heap.size w W) (o : On v X.o) (o' : On v Y.o) :
 Calls Try.prog 23 #[X.val, Y.val] W fun e W' => ∃ z : OV, e = .returned z.val ∧ z.o = jT v X.o Y.o ∧ Own W W' z ∧ Below W.heap.size W W' := by
 have HX : Aside0 (Oc W W X) := ⟨⟨⟨hx.r0.le, .inl (hx.r0.reads hb)⟩, ⟨hx.r1.le, .inl (hx.r1.reads hb)⟩⟩⟩
 have HY : Aside0 (Oc W W Y) := ⟨⟨⟨hy.r0.le, .inl (hy.r0.reads hb)⟩, ⟨hy.r1.le, .inl (hy.r1.reads hb)⟩⟩⟩
 have e1 : X.v = v := o.1
 have e2 : Y.v = v := o'.1
 have f1 : OFit X.v X.m X.e := by rw [e1]; exact o.2
 have f2 : OFit Y.v Y.m Y.e := by rw [e2]; exact o'.2
 rcases o.cases with h | ⟨A, hA, h⟩
 ·
  have : jT v X.o Y.o = clT v Y.o := by unfold jT; rw [if_pos (by rw [h])]
  rw [this]
  exact rjoin_x X Y (v := v) HX HY ⟨f1⟩ ⟨f2⟩ ⟨by rw [e1]; exact h⟩ ⟨by rw [e2]; rfl⟩
 ·
  rcases o'.cases with h' | ⟨B, hB, h'⟩
  ·
   have : jT v X.o Y.o = (v, lst (2 * v.length) A, false) := by unfold jT; rw [if_neg (by rw [h]; simp), if_pos (by rw [h']), h]
   rw [this]
   exact rjoin_y X Y (v := v) HX HY ⟨f1⟩ ⟨f2⟩ ⟨by rw [e1]; exact h⟩ ⟨by rw [e2]; exact h'⟩
  ·
   rw [jT_in o o' h h']
   refine rjoin_in X Y (v := v) HX HY ⟨f1⟩ ⟨f2⟩ ⟨by rw [e1]; exact h⟩ ⟨by rw [e2]; exact h'⟩ ⟨by rw [lst_length, lst_length], by rw [lst_length]; exact sq_le o.vok.1⟩ ⟨fun xs hl hk => ?_⟩
   rw [lst_length] at hl hk
   refine List.ext_getElem (by rw [hl, lst_length]) fun k h1 h2 => ?_
   have hk' : k < 2 * v.length * (2 * v.length) := by rw [← hl]; exact h1
   have g := hk k hk'
   have r1 : rd xs (k : Int) = xs[k] := by unfold rd; simp [List.getD_eq_getElem?_getD, h1]
   have r2 : rd (lst (2 * v.length) (fun i j => mx (A i j) (B i j))) (k : Int) = (lst (2 * v.length) (fun i j => mx (A i j) (B i j)))[k] := by unfold rd; simp [List.getD_eq_getElem?_getD, h2]
   rw [← r1, ← r2, g, rd_at hk', rd_at hk', rd_at hk']
def itvJ (i j : Int × Int) : Int × Int := if (itvOf i.1 i.2).1 > (itvOf i.1 i.2).2 then itvOf j.1 j.2 else if (itvOf j.1 j.2).1 > (itvOf j.1 j.2).2 then itvOf i.1 i.2 else (mn (itvOf i.1 i.2).1 (itvOf j.1 j.2).1, mx (itvOf i.1 i.2).2 (itvOf j.1 j.2).2)
theorem ijoin_as {a b c d l h : Int} (e : itvJ (a, b) (c, d) = (l, h)) : Says 24 #[.agg #[.int .i64 a, .int .i64 b], .agg #[.int .i64 c, .int .i64 d]] W (.agg #[.int .i64 l, .int .i64 h]) := by
 refine itv_Join.calls a b c d l h W ?_
 have so : ∀ a b, itv_sound.f a b = some (itvOf a b) := fun a b => rfl
 unfold itv_Join.f itv_None.f
 rw [so, so]
 simp only [Option.bind_some]
 rw [← e]
 unfold itvJ
 dsimp only
 by_cases h1 : (itvOf a b).1 > (itvOf a b).2
 ·
  rw [if_pos (decide_eq_true h1), if_pos h1]
 ·
  rw [if_neg (by simpa using h1), if_neg h1]
  by_cases h2 : (itvOf c d).1 > (itvOf c d).2
  ·
   rw [if_pos (decide_eq_true h2), if_pos h2]
  ·
   rw [if_neg (by simpa using h2), if_neg h2]
theorem itvOf_bd {a b : Int} (h : ¬ (itvOf a b).1 > (itvOf a b).2) : -4611686018427387904 ≤ (itvOf a b).1 ∧ (itvOf a b).1 < 4611686018427387904 ∧ -4611686018427387904 < (itvOf a b).2 ∧ (itvOf a b).2 ≤ 4611686018427387904 := by
 unfold itvOf mx mn at *
 by_cases c : a > b
 ·
  rw [if_pos c] at h; exact absurd (by decide) h
 ·
  rw [if_neg c] at h ⊢
  dsimp only at h ⊢
  refine ⟨?_, ?_, ?_, ?_⟩ <;> ((repeat' split) <;> omega)
theorem itvOf_id {a b : Int} (h : -4611686018427387904 ≤ a ∧ a < 4611686018427387904 ∧ -4611686018427387904 < b ∧ b ≤ 4611686018427387904) (l : a ≤ b) : itvOf a b = (a, b) := by
 unfold itvOf mx mn
 rw [if_neg (by omega), if_neg (show ¬ a ≥ 4611686018427387904 by omega), if_neg (show ¬ b ≤ -4611686018427387904 by omega)]
 refine Prod.ext ?_ ?_ <;> dsimp only <;> split <;> omega
theorem isub_join (i j : Int × Int) : ISub i (itvJ i j) := by
 unfold itvJ
 by_cases h1 : (itvOf i.1 i.2).1 > (itvOf i.1 i.2).2
 ·
  exact .inl h1
 ·
  rw [if_neg h1]
  by_cases h2 : (itvOf j.1 j.2).1 > (itvOf j.1 j.2).2
  ·
   rw [if_pos h2]; right; rw [itvOf_idem]; exact ⟨Int.le_refl _, Int.le_refl _⟩
  ·
   rw [if_neg h2]
   have b1 := itvOf_bd h1
   have b2 := itvOf_bd h2
   right
   generalize itvOf i.1 i.2 = s at *
   generalize itvOf j.1 j.2 = t at *
   dsimp only
   have l1 : mn s.1 t.1 ≤ s.1 := by unfold mn; split <;> omega
   have l2 : s.2 ≤ mx s.2 t.2 := by unfold mx; split <;> omega
   rw [itvOf_id (by unfold mn mx; (repeat' split) <;> omega) (by omega)]
   exact ⟨l1, l2⟩
end
end Go.Proofs.Ytphfchbggechhaa.QO
end
end
section
noncomputable section
namespace Go.Proofs.Ytphfchbggechhaa.QO
open Go.RowKit Go.Shelf YtphfchbggechhaaW.PrintWords YtphfchbggechhaaW.PrintLast YtphfchbggechhaaW.PrintMore
open Ytphfchbggechhaa.Pure
attribute [local go_sem] Oper.semAt_some
attribute [local go_sem ↓] Go.wp_at_zero Go.wp_at_succ
set_option linter.unusedVariables false
set_option linter.unusedSimpArgs false
theorem leq12_w (X Y : OV) {v : List Int} {w : World} (HX : Aside0 (Oc w w X)) (HY : Aside0 (Oc w w Y)) (LX : Aside0 (X.v.length ≤ 17592186044416)) (LY : Aside0 (Y.v.length ≤ 17592186044416)) (FX_ : Aside0 (ofitB X.v X.m X.e = true)) (FY_ : Aside0 (ofitB Y.v Y.m Y.e = true)) (OA : Aside0 (On v X.o)) (OB : Aside0 (On v Y.o)) (QL : Aside0 (QLe v X.o Y.o)) (LE : ((X.v.length : Int) == (Y.v.length : Int)) = true) : Says 25 #[X.val, Y.val] w (.bool true) := by
 have hu25 := Try.underlying25
 go_enter Try.func25, Try.ntmps25
 go_upto_region 1 with fail
 have HM := MS.n2 w X.cells Y.cells
 generalize World.alloc _ _ = wk at HM ⊢
 generalize w.heap.size + 1 = gb at HM ⊢
 generalize w.heap.size = ga at HM ⊢
 have kgb := MS.c3 HM m0_; have kga := MS.c3 HM m1_
 go_wp2_with (first | (go_at_call 12; (with_reducible refine (rfit_o (Oc.now HX (MS.bel HM)) (Below.refl _ _) LX.out FX_.out).mono ?_); rintro e wk ⟨rfl, hb⟩; replace HM := MS.nx HM hb; clear hb; replace kgb := MS.c3 HM m0_; replace kga := MS.c3 HM m1_) | (go_at_call 12; (with_reducible refine (rfit_o (Oc.now HY (MS.bel HM)) (Below.refl _ _) LY.out FY_.out).mono ?_); rintro e wk ⟨rfl, hb⟩; replace HM := MS.nx HM hb; clear hb; replace kgb := MS.c3 HM m0_; replace kga := MS.c3 HM m1_) | (go_at_call 75; (with_reducible refine (rleq_as (Oc.now HX (MS.bel HM)) (Oc.now HY (MS.bel HM)) (Below.refl _ _) OA.out OB.out QL.out).mono ?_); rintro e wk ⟨rfl, hb⟩; replace HM := MS.nx HM hb; clear hb; replace kgb := MS.c3 HM m0_; replace kga := MS.c3 HM m1_))
 go_ret
 exact ⟨rfl, MS.bel HM⟩
theorem leq12_as {w W : World} {X Y : OV} {v : List Int} {a b : Tri} (hx : Oc w W X) (hy : Oc w W Y) (hb : Below w.heap.size w W) (ha : X.o = a) (hb' : Y.o = b) (o : On v a) (o' : On v b) (q : QLe v a b) : Says 25 #[X.val, Y.val] W (.bool true) := by
 subst ha hb'
 have e1 : X.v = v := o.1
 have e2 : Y.v = v := o'.1
 have l8 := o.vok.1
 have f1 : OFit X.v X.m X.e := by rw [e1]; exact o.2
 have f2 : OFit Y.v Y.m Y.e := by rw [e2]; exact o'.2
 exact leq12_w X Y (v := v) ⟨⟨⟨hx.r0.le, .inl (hx.r0.reads hb)⟩, ⟨hx.r1.le, .inl (hx.r1.reads hb)⟩⟩⟩ ⟨⟨⟨hy.r0.le, .inl (hy.r0.reads hb)⟩, ⟨hy.r1.le, .inl (hy.r1.reads hb)⟩⟩⟩ ⟨by rw [e1]; omega⟩ ⟨by rw [e2]; omega⟩ ⟨ofitB_true.2 f1⟩ ⟨ofitB_true.2 f2⟩ ⟨o⟩ ⟨o'⟩ ⟨q⟩ (by rw [e1, e2]; exact beq_self_eq_true _)
end Go.Proofs.Ytphfchbggechhaa.QO
end
end
section
noncomputable section
namespace Go.Proofs.Ytphfchbggechhaa.QO
open Go.RowKit Go.Shelf YtphfchbggechhaaW.PrintWords YtphfchbggechhaaW.PrintLast YtphfchbggechhaaW.PrintMore
open Ytphfchbggechhaa.Pure
set_option linter.unusedVariables false
def nodeF (v : List Int) (a s : Int) : Int := if 0 ≤ placeF v a ∧ s < 0 then 2 * placeF v a + 1 else 2 * placeF v a
section
variable {w W : World} {x : OV} {v m : List Int} {e : Bool}
theorem onode_as {a s p : Int} (hx : Oc w W x) (hb : Below w.heap.size w W) (ho : x.o = (v, m, e)) (l : v.length ≤ 1000) (h : nodeF v a s = p) : Says 112 #[x.val, .int .i64 a, .int .i64 s] W (.int .i64 p) := by
 obtain ⟨P, p0, Q, q, v', m', e'⟩ := x
 cases ho
 exact oct_node.calls (v'.length + 1) P p0 _ Q q _ _ a s _ W (hx.r0.reads hb) hx.r0.le (hx.r1.reads hb) hx.r1.le ((BndF.node_at v' l a m' e' s _ (Nat.lt_succ_self _)).trans (by rw [← h]; rfl))
theorem omost_as {lx sx y sy c g : Int} {K : Nat} (hx : Oc w W x) (hb : Below w.heap.size w W) (ho : x.o = (v, m, e)) (hg : oct_most.f K v m e lx sx y sy c = some g) :
 Says 114 #[x.val, .agg #[.int .i64 lx, .int .i64 sx, .int .i64 y, .int .i64 sy, .int .i64 c]] W (.int .i64 g) := by
 obtain ⟨P, p, Q, q, v', m', e'⟩ := x
 cases ho
 exact oct_most.calls K P p _ Q q _ _ lx sx y sy c _ W (hx.r0.reads hb) hx.r0.le (hx.r1.reads hb) hx.r1.le hg
theorem bneg2_as {a r : Int} (h : bound_Neg.f a = some r) : Says 61 #[.int .i64 a] W (.int .i64 r) := (bound_Neg.calls a r W h).mono fun _ _ q => ⟨q.1, q.2.below⟩
theorem bup2_as {a b r : Int} (h : bound_Up.f a b = some r) : Says 60 #[.int .i64 a, .int .i64 b] W (.int .i64 r) := bound_Up.calls a b r W h
theorem bdown2_as {a b r : Int} (h : bound_Down.f a b = some r) : Says 113 #[.int .i64 a, .int .i64 b] W (.int .i64 r) := bound_Down.calls a b r W h
end
end Go.Proofs.Ytphfchbggechhaa.QO
end
end
section
noncomputable section
namespace Go.Proofs.Ytphfchbggechhaa.QO
open Go.RowKit Go.Shelf YtphfchbggechhaaW.PrintWords YtphfchbggechhaaW.PrintLast YtphfchbggechhaaW.PrintMore
open Ytphfchbggechhaa.Pure
attribute [local go_sem] Oper.semAt_some
attribute [local go_sem ↓] Go.wp_at_zero Go.wp_at_succ
set_option linter.unusedVariables false
set_option linter.unusedSimpArgs false
def bnd2_T7 : Bool × List (List Nat × List Nat) := (true, [([], []), ([0], [0]), ([1], [1]), ([], []), ([3], [3]), ([4], [4]), ([0, 1, 2], []), ([6, 2, 0, 1, 2], [2, 6]), ([0, 1, 2, 3, 4, 5, 6, 7], []), ([8, 5, 7, 0, 1, 2, 3, 4, 5, 6, 7], [5, 8])])
def bnd2_B7 : List Nat := [0, 1, 3, 0, 8, 24, 7, 71, 255, 511]
theorem bnd2_tab7 : rtab .any (opsOf Try.f71 7) = bnd2_T7 := by kernel_rfl
theorem bnd2_bits7 : waitsOk bnd2_T7.2 bnd2_B7 = true := by kernel_rfl
def bnd2_T8 : Bool × List (List Nat × List Nat) := (true, [([], []), ([0], [0]), ([], []), ([], []), ([2, 3], [2, 3]), ([4, 4], [4]), ([1, 5, 5], [1, 5]), ([], []), ([7], [7]), ([], []), ([], []), ([9, 10, 6], [9, 10]), ([8, 11, 11], [8, 11]), ([6, 12], [6, 12]), ([13, 12, 0, 1, 2, 3, 4, 5, 6, 7, 8, 9, 10, 11, 12, 13], [13])])
def bnd2_B8 : List Nat := [0, 1, 0, 0, 12, 28, 63, 0, 128, 0, 0, 1663, 4095, 8191, 16383]
theorem bnd2_tab8 : rtab .any (opsOf Try.f71 8) = bnd2_T8 := by kernel_rfl
theorem bnd2_bits8 : waitsOk bnd2_T8.2 bnd2_B8 = true := by kernel_rfl
theorem bnd2_bot (X : OV) (lx sx y sy c : Int) {cm : List Int} {w : World} (HX : Aside0 (Oc w w X)) (FX_ : Aside0 (OFit X.v X.m X.e)) (LK : Aside0 (X.v.length ≤ 1000)) (HC : Aside0 (closeF X.v X.m X.e = (X.v, cm, true))) :
 Says 71 #[X.val, lV lx sx y sy c] w (iV 1 0) := by
 have hu25 := Try.underlying25
 have hu34 := Try.underlying34
 have hu36 := Try.underlying36
 go_enter Try.func71, Try.ntmps71
 go_upto_region 1 with fail
 have HM := MS.n3 w X.cells (lC lx sx y sy c) (iC 0 0)
 generalize World.alloc _ _ = wk at HM ⊢
 generalize w.heap.size + 2 = gr at HM ⊢
 generalize w.heap.size + 1 = gl at HM ⊢
 generalize w.heap.size = go at HM ⊢
 have kgo := MS.c3 HM m2_
 go_upto_region 2 with (first | (go_at_call 51; (with_reducible refine (close_as (Oc.now HX (MS.bel HM)) (Below.refl _ _) rfl FX_.out HC.out).mono ?_); rintro e wk ⟨cv, rfl, hcv, ho, hb⟩; replace HM := MS.cl HM hb ho; clear ho hb; replace kgo := MS.c3 HM m2_) | ((with_reducible refine gate_dst (N := 5) rfl ?_); refine bx_ 5 #[.slice none 0 0, .slice none 0 0, .bool false] 25 ?_; intro gc hg wk hbox hb; replace HM := MS.md HM hg hbox hb; clear hg hbox hb; have kgc := MS.c3 HM m0_; replace kgo := MS.c3 HM m3_))
 replace HM := MS.sb HM (.refl _) (.cons_cons _ (.cons_cons _ (.cons_cons _ (.cons _ .slnil)))); clear kgo
 replace HM := MS.po0 cv HM
 generalize World.setCell _ _ _ = wk at HM ⊢
 have HCV := Aside0.mk hcv; clear hcv
 have hem : cv.e = true := congrArg (·.2.2) HCV.out
 replace kgc := MS.c3 HM m0_; have kgr := MS.c2 HM m1_; have kgl := MS.c5 HM m2_
 go_wp2
 clear hem
 replace HM := MS.pi1 1 0 HM
 generalize World.setCell _ _ _ = wk at HM ⊢
 refine MS.rt HM m1_ ?_
 exact ⟨rfl, HM.out.S.below⟩
theorem bnd2_in (X : OV) (lx sx y sy c : Int) {cm : List Int} {w : World} (HX : Aside0 (Oc w w X)) (FX_ : Aside0 (OFit X.v X.m X.e)) (LK : Aside0 (X.v.length ≤ 1000)) {px py sx' sy' g1 g2 ng lo hi : Int} {K : Nat} (HC : Aside0 (closeF X.v X.m X.e = (X.v, cm, false))) (HPX : Aside0 (nodeF X.v lx 1 = px)) (HPY : Aside0 (nodeF X.v y 1 = py)) (TSX : Aside0 ((sx != 0) = true)) (TPX : Aside0 (decide (px < 0) = false)) (TPY : Aside0 (sy ≠ 0 → decide (py < 0) = false)) (WN : Aside0 (IntKind.i64.wrap (-sx) = sx' ∧ wrap64 (-sx) = sx' ∧ IntKind.i64.wrap (-sy) = sy' ∧ wrap64 (-sy) = sy'))
 (HG1 : Aside0 (oct_most.f K X.v cm false lx sx y sy c = some g1)) (HG2 : Aside0 (oct_most.f K X.v cm false lx sx' y sy' c = some g2)) (HN : Aside0 (bound_Neg.f g2 = some ng)) (HD : Aside0 (bound_Down.f c ng = some lo)) (HU : Aside0 (bound_Up.f c g1 = some hi)) :
 Says 71 #[X.val, lV lx sx y sy c] w (iV lo hi) := by
 have hu25 := Try.underlying25
 have hu34 := Try.underlying34
 have hu36 := Try.underlying36
 go_enter Try.func71, Try.ntmps71
 go_upto_region 1 with fail
 have HM := MS.n3 w X.cells (lC lx sx y sy c) (iC 0 0)
 generalize World.alloc _ _ = wk at HM ⊢
 generalize w.heap.size + 2 = gr at HM ⊢
 generalize w.heap.size + 1 = gl at HM ⊢
 generalize w.heap.size = go at HM ⊢
 have kgo := MS.c3 HM m2_
 go_upto_region 2 with (first | (go_at_call 51; (with_reducible refine (close_as (Oc.now HX (MS.bel HM)) (Below.refl _ _) rfl FX_.out HC.out).mono ?_); rintro e wk ⟨cv, rfl, hcv, ho, hb⟩; replace HM := MS.cl HM hb ho; clear ho hb; replace kgo := MS.c3 HM m2_) | ((with_reducible refine gate_dst (N := 5) rfl ?_); refine bx_ 5 #[.slice none 0 0, .slice none 0 0, .bool false] 25 ?_; intro gc hg wk hbox hb; replace HM := MS.md HM hg hbox hb; clear hg hbox hb; have kgc := MS.c3 HM m0_; replace kgo := MS.c3 HM m3_))
 replace HM := MS.sb HM (.refl _) (.cons_cons _ (.cons_cons _ (.cons_cons _ (.cons _ .slnil)))); clear kgo
 replace HM := MS.po0 cv HM
 generalize World.setCell _ _ _ = wk at HM ⊢
 have HCV := Aside0.mk hcv; clear hcv
 have hem : cv.e = false := congrArg (·.2.2) HCV.out
 replace kgc := MS.c3 HM m0_; have kgr := MS.c2 HM m1_
 go_upto_region 4 with fail
 clear hem
 (try simp only [Act.put, List.setIfInBounds_toArray, List.set_cons_zero, List.set_cons_succ])
 go_cut [33] from 7 (fun v33 wc => v33 = .bool false ∧ Aside0 (MS w [cv] [(gc, cv.cells), (gr, iC 0 0), (gl, lC lx sx y sy c)] wc))
 case first =>
  have t1 := TSX.out; have t2 := TPX.out
  by_cases S_ : sy = 0
  ·
   have S := Aside0.mk S_; clear S_
   have t3 : (sy != 0) = false := bne_eq_false_iff_eq.2 S.out
   have kgl := MS.c5 HM m2_
   go_wp2_with (first | (go_at_call 112; (with_reducible refine (onode_as (MS.oc HM m0_) (MS.bel HM) HCV.out LK.out HPX.out).mono ?_); rintro e wk ⟨rfl, hb⟩; replace HM := MS.nx HM hb; clear hb; replace kgc := MS.c3 HM m0_; replace kgr := MS.c2 HM m1_; replace kgl := MS.c5 HM m2_))
   go_meet
   case rel => exact ⟨rfl, HM⟩
  ·
   have S := Aside0.mk S_; clear S_
   have t3 : (sy != 0) = true := bne_iff_ne.2 S.out; have t4 := TPY.out S.out
   have kgl := MS.c5 HM m2_
   go_wp2_with (first | (go_at_call 112; (with_reducible refine (onode_as (MS.oc HM m0_) (MS.bel HM) HCV.out LK.out HPX.out).mono ?_); rintro e wk ⟨rfl, hb⟩; replace HM := MS.nx HM hb; clear hb; replace kgc := MS.c3 HM m0_; replace kgr := MS.c2 HM m1_; replace kgl := MS.c5 HM m2_) | (go_at_call 112; (with_reducible refine (onode_as (MS.oc HM m0_) (MS.bel HM) HCV.out LK.out HPY.out).mono ?_); rintro e wk ⟨rfl, hb⟩; replace HM := MS.nx HM hb; clear hb; replace kgc := MS.c3 HM m0_; replace kgr := MS.c2 HM m1_; replace kgl := MS.c5 HM m2_))
   go_meet
   case rel => exact ⟨rfl, HM⟩
 case rest =>
  clear HM; clear kgc kgr
  obtain ⟨rfl, HM⟩ := hcut
  have kgc := MS.c3 HM m0_; have kgr := MS.c2 HM m1_; have kgl := MS.c5 HM m2_
  go_upto_region 7 with (first | ((with_reducible refine gate_dst (N := 6) rfl ?_); refine bx_ 6 #[.int .i64 0, .int .i64 0, .int .i64 0, .int .i64 0, .int .i64 0] 34 ?_; intro gm hg wk hbox hb; replace HM := MS.md HM hg hbox hb; clear hg hbox hb; have kgm := MS.c5 HM m0_; replace kgc := MS.c3 HM m1_; replace kgr := MS.c2 HM m2_; replace kgl := MS.c5 HM m3_))
  replace HM := MS.pl0 lx sx y sy c HM
  generalize World.setCell _ _ _ = wk at HM ⊢
  obtain ⟨wx, wx', wy, wy'⟩ := WN.out
  replace HM := MS.dr HM
  clear kgc kgl kgm kgr
  refine st_ 10 (fun w' => w'.cell? ⟨gl, 1, none⟩ = some (.int .i64 sx) ∧ w'.cell? ⟨gl, 3, none⟩ = some (.int .i64 sy)) [] ⟨MS.k HM m3_ 1 rfl, MS.k HM m3_ 3 rfl⟩ (fun hHeld => ?_)
  refine with_tabW bnd2_tab7 bnd2_bits7 (fun HT_ HW_ => ?_)
  generalize World.drew _ = wk at HM hHeld ⊢
  refine pV_ 0 36 (mB 10 1) HT_ ?_
  refine tV_ 1 37 (mB 10 3) HT_ HW_ hHeld ?_
  refine pV_ 2 38 (mB 10 7) HT_ ?_
  refine pV_ 3 39 (mB 10 15) HT_ ?_
  refine tV_ 4 40 (mB 10 31) HT_ HW_ hHeld ?_
  refine pV_ 5 41 (mB 10 63) HT_ ?_
  refine pV_ 6 42 (mB 10 127) HT_ ?_
  refine on_ 7 none (mB 10 255) HT_ (fun K hK => ?_)
  have kgm := MS.c5 HM m0_
  refine skip_ (w1 := ?_) (by rfl) rfl ?_ ?_
  rotate_left
  ·
   go_simp
   rfl
  replace HM := MS.pj0 (cs' := #[.int .i64 lx, .int .i64 sx', .int .i64 y, .int .i64 sy, .int .i64 c]) 1 (.int .i64 sx') HM rfl
  clear kgm
  refine hK.out _ _ ⟨MS.k HM m3_ 1 rfl, MS.k HM m3_ 3 rfl⟩ (fun hHeld => ?_)
  clear hK K
  generalize World.setCell _ _ _ = wk at HM hHeld ⊢
  refine pV_ 8 43 (mB 10 511) HT_ ?_
  refine on_ 9 none (mB 10 1023) HT_ (fun K hK => ?_)
  have kgm := MS.c5 HM m0_
  refine skip_ (w1 := ?_) (by rfl) rfl ?_ ?_
  rotate_left
  ·
   go_simp
   rfl
  replace HM := MS.pj0 (cs' := #[.int .i64 lx, .int .i64 sx', .int .i64 y, .int .i64 sy', .int .i64 c]) 3 (.int .i64 sy') HM rfl
  clear kgm
  refine hK.out _ _ ⟨MS.k HM m3_ 1 rfl, MS.k HM m3_ 3 rfl⟩ (fun hHeld => ?_)
  clear hK K
  generalize World.setCell _ _ _ = wk at HM hHeld ⊢
  refine dn_ HT_ ?_
  clear HT_ HW_ hHeld
  clear wx wx' wy wy'
  go_upto_region 8 with fail
  replace HM := MS.dr HM
  refine st_ 15 (fun w' => w'.cell? ⟨gl, 4, none⟩ = some (.int .i64 c) ∧ oR gc cv w' ∧ lR gm lx sx' y sy' c w' ∧ lR gl lx sx y sy c w') [14] ⟨MS.k HM m3_ 4 rfl, kO HM m1_, kL HM m0_, kL HM m3_⟩ (fun hHeld => ?_)
  refine with_tabW bnd2_tab8 bnd2_bits8 (fun HT_ HW_ => ?_)
  generalize World.drew _ = wk at HM hHeld ⊢
  refine pV_ 0 44 (mB 15 1) HT_ ?_
  refine tV_ 1 45 (mB 15 3) HT_ HW_ hHeld ?_
  refine tV_ 2 46 (mB 15 7) HT_ HW_ hHeld ?_
  refine tV_ 3 47 (mB 15 15) HT_ HW_ hHeld ?_
  refine pV_ 7 51 (mB 15 143) HT_ ?_
  refine tV_ 8 52 (mB 15 399) HT_ HW_ hHeld ?_
  refine tV_ 9 53 (mB 15 911) HT_ HW_ hHeld ?_
  refine tV_ 10 54 (mB 15 1935) HT_ HW_ hHeld ?_
  refine on_ 4 (some 48) (mB 15 1951) HT_ (fun K hK => ?_)
  refine gs_ Try.func114 #[cv.val, lV lx sx' y sy' c] ?_
  with_reducible refine sk_ (omost_as (MS.oc HM m0_) (MS.bel HM) HCV.out HG2.out) fun wk hb => ?_
  replace HM := MS.nx HM hb; clear hb
  refine hK.out _ _ ⟨MS.k HM m3_ 4 rfl, kO HM m1_, kL HM m0_, kL HM m3_⟩ (fun hHeld => ?_)
  clear hK K
  refine nO_ 48 ?_
  refine on_ 5 (some 49) (mB 15 1983) HT_ (fun K hK => ?_)
  refine gs_ Try.func61 #[.int .i64 g2] ?_
  with_reducible refine sk_ (bneg2_as HN.out) fun wk hb => ?_
  replace HM := MS.nx HM hb; clear hb
  refine hK.out _ _ ⟨MS.k HM m3_ 4 rfl, kO HM m1_, kL HM m0_, kL HM m3_⟩ (fun hHeld => ?_)
  clear hK K
  refine nO_ 49 ?_
  refine on_ 6 (some 50) (mB 15 2047) HT_ (fun K hK => ?_)
  refine gs_ Try.func113 #[.int .i64 c, .int .i64 ng] ?_
  with_reducible refine sk_ (bdown2_as HD.out) fun wk hb => ?_
  replace HM := MS.nx HM hb; clear hb
  refine hK.out _ _ ⟨MS.k HM m3_ 4 rfl, kO HM m1_, kL HM m0_, kL HM m3_⟩ (fun hHeld => ?_)
  clear hK K
  refine nO_ 50 ?_
  refine on_ 11 (some 55) (mB 15 4095) HT_ (fun K hK => ?_)
  refine gs_ Try.func114 #[cv.val, lV lx sx y sy c] ?_
  with_reducible refine sk_ (omost_as (MS.oc HM m0_) (MS.bel HM) HCV.out HG1.out) fun wk hb => ?_
  replace HM := MS.nx HM hb; clear hb
  refine hK.out _ _ ⟨MS.k HM m3_ 4 rfl, kO HM m1_, kL HM m0_, kL HM m3_⟩ (fun hHeld => ?_)
  clear hK K
  refine nO_ 55 ?_
  refine on_ 12 (some 56) (mB 15 8191) HT_ (fun K hK => ?_)
  refine gs_ Try.func60 #[.int .i64 c, .int .i64 g1] ?_
  with_reducible refine sk_ (bup2_as HU.out) fun wk hb => ?_
  replace HM := MS.nx HM hb; clear hb
  refine hK.out _ _ ⟨MS.k HM m3_ 4 rfl, kO HM m1_, kL HM m0_, kL HM m3_⟩ (fun hHeld => ?_)
  clear hK K
  refine nO_ 56 ?_
  refine pV_ 13 57 (mB 15 16383) HT_ ?_
  have kgr := MS.c2 HM m2_
  refine la_ 14 (mB 15 32767) HT_ (fun K hK => ?_)
  refine skip_ (w1 := ?_) (by rfl) rfl ?_ ?_
  rotate_left
  ·
   go_simp
   rfl
  refine hK.out _ _ ?_
  clear hK K
  refine dn_ HT_ ?_
  clear HT_ HW_ hHeld
  replace HM := MS.pi2 lo hi HM
  generalize World.setCell _ _ _ = wk at HM ⊢
  go_wp2
  refine MS.rt HM m2_ ?_
  exact ⟨rfl, HM.out.S.below⟩
end Go.Proofs.Ytphfchbggechhaa.QO
end
end
section
noncomputable section
namespace Go.Proofs.Ytphfchbggechhaa.QO
open Go.RowKit Go.Shelf YtphfchbggechhaaW.PrintWords YtphfchbggechhaaW.PrintLast YtphfchbggechhaaW.PrintMore
open Ytphfchbggechhaa.Pure
open BndF (bndF mostF loF hiF most_sm omost_ev)
set_option linter.unusedVariables false
theorem bnd_as {w W : World} {x : OV} {v m : List Int} {e : Bool} (hx : Oc w W x) (hb : Below w.heap.size w W) (ho : x.o = (v, m, e)) (fx : OFit v m e) (lx sx y sy c : Int) {l h : Int} (hc : -1099511627776 ≤ c ∧ c ≤ 1099511627776) (h1 : -1 ≤ sx ∧ sx ≤ 1) (h2 : -1 ≤ sy ∧ sy ≤ 1) (hs : sx ≠ 0) (hp : 0 ≤ placeF v lx) (hq : sy ≠ 0 → 0 ≤ placeF v y) (ha : bndF v m e lx sx y sy c = (l, h)) :
 Says 71 #[x.val, .agg #[.int .i64 lx, .int .i64 sx, .int .i64 y, .int .i64 sy, .int .i64 c]] W (.agg #[.int .i64 l, .int .i64 h]) := by
 have HX : Aside0 (Oc W W x) := ⟨⟨⟨hx.r0.le, .inl (hx.r0.reads hb)⟩, ⟨hx.r1.le, .inl (hx.r1.reads hb)⟩⟩⟩
 have e1 : x.v = v := congrArg Prod.fst ho
 have e2 : x.m = m := congrArg (·.2.1) ho
 have e3 : x.e = e := congrArg (·.2.2) ho
 subst e1 e2 e3
 clear ho
 have l8 := fx.1.1
 rcases close_cases fx with ⟨h3, _⟩ | ⟨he, hk, h3⟩
 ·
  unfold bndF at ha
  rw [if_pos (by rw [h3])] at ha
  cases ha
  exact bnd2_bot x lx sx y sy c HX ⟨fx⟩ ⟨show x.v.length ≤ 1000 by omega⟩ ⟨h3⟩
 ·
  have hN := snd_close (snd_of_fit (by rw [he] at fx; exact fx)) hk
  unfold bndF at ha
  rw [if_neg (by rw [h3]; simp), if_neg (fun h => by rcases h with h | h; exact absurd hp (by omega); have := hq h.1; omega)] at ha
  generalize closeM (2 * x.v.length) (lowM x.v.length x.m) = C at h3 hN ha
  have sm1 := most_sm (v := placeF x.v lx) (u := placeF x.v y) (sx := sx) (sy := sy) hN (placeF_lt x.v lx).2 (placeF_lt x.v y).2 (fun _ => hp) hq
  have sm2 := most_sm (v := placeF x.v lx) (u := placeF x.v y) (sx := -sx) (sy := -sy) hN (placeF_lt x.v lx).2 (placeF_lt x.v y).2 (fun _ => hp) (fun h => hq (by omega))
  have g1 := omost_ev fx h3 hN lx sx y sy c (fun _ => hp) hq (x.v.length + 1) (by omega)
  have g2 := omost_ev fx h3 hN lx (-sx) y (-sy) c (fun _ => hp) (fun h => hq (by omega)) (x.v.length + 1) (by omega)
  generalize mostF C (placeF x.v lx) sx (placeF x.v y) sy = a1 at *
  generalize mostF C (placeF x.v lx) (-sx) (placeF x.v y) (-sy) = a2 at *
  obtain ⟨rfl, rfl⟩ := Prod.mk.inj ha
  have wn : IntKind.i64.wrap (-sx) = -sx ∧ wrap64 (-sx) = -sx ∧ IntKind.i64.wrap (-sy) = -sy ∧ wrap64 (-sy) = -sy := by
   have e1 : wrap64 (-sx) = -sx := by unfold wrap64; omega
   have e2 : wrap64 (-sy) = -sy := by unfold wrap64; omega
   rw [IntKind.wrap_i64, IntKind.wrap_i64]
   exact ⟨by omega, e1, by omega, e2⟩
  have tsx : (sx != 0) = true := bne_iff_ne.2 hs
  exact bnd2_in x lx sx y sy c HX ⟨fx⟩ ⟨show x.v.length ≤ 1000 by omega⟩ (K := x.v.length + 1) ⟨h3⟩ ⟨rfl⟩ ⟨rfl⟩ ⟨tsx⟩ ⟨decide_eq_false (by unfold nodeF; simp; omega)⟩ ⟨fun h => decide_eq_false (by have := hq h; unfold nodeF; simp; omega)⟩ ⟨wn⟩ ⟨g1.1⟩ ⟨g2.1⟩ ⟨Arith.neg_sm sm2⟩ ⟨Arith.down_sm (by omega) sm2⟩ ⟨Arith.up_sm (by omega) sm1⟩
end Go.Proofs.Ytphfchbggechhaa.QO
end
end
section
noncomputable section
namespace Go.Proofs.Ytphfchbggechhaa.QO
open Go.RowKit Go.Shelf YtphfchbggechhaaW.PrintWords YtphfchbggechhaaW.PrintLast YtphfchbggechhaaW.PrintMore
open Ytphfchbggechhaa.Pure
attribute [local go_sem] Oper.semAt_some
attribute [local go_sem ↓] Go.wp_at_zero Go.wp_at_succ
set_option linter.unusedVariables false
set_option linter.unusedSimpArgs false
def assign_T7 : Bool × List (List Nat × List Nat) := (true, [([], []), ([], []), ([0, 1], [0, 1]), ([], []), ([3], [3]), ([], []), ([5], [5]), ([], []), ([7], [7]), ([6, 8, 2], [6, 8]), ([2, 4, 9, 9], [2, 4, 9]), ([10, 10, 0, 1, 2, 3, 4, 5, 6, 7, 8, 9, 10], [10])])
def assign_B7 : List Nat := [0, 0, 3, 0, 8, 0, 32, 0, 128, 487, 1023, 2047]
theorem assign_tab7 : rtab .any (opsOf Try.f21 7) = assign_T7 := by kernel_rfl
theorem assign_bits7 : waitsOk assign_T7.2 assign_B7 = true := by kernel_rfl
def assign_T9 : Bool × List (List Nat × List Nat) := (true, [([], []), ([], []), ([], []), ([1, 2], [1, 2]), ([], []), ([4], [4]), ([], []), ([6], [6]), ([0, 3, 5, 7, 3], [0, 3, 5, 7]), ([8, 8], [8]), ([9, 9, 0, 1, 2, 3, 4, 5, 6, 7, 8, 9], [9])])
def assign_B9 : List Nat := [0, 0, 0, 6, 0, 16, 0, 64, 255, 511, 1023]
theorem assign_tab9 : rtab .any (opsOf Try.f21 9) = assign_T9 := by kernel_rfl
theorem assign_bits9 : waitsOk assign_T9.2 assign_B9 = true := by kernel_rfl
def assign_T11 : Bool × List (List Nat × List Nat) := (true, [([], []), ([], []), ([0, 1], [0, 1]), ([], []), ([], []), ([4], [4]), ([], []), ([6], [6]), ([3, 5, 7, 2], [3, 5, 7]), ([], []), ([9], [9]), ([], []), ([11], [11]), ([10, 12, 8], [10, 12]), ([2, 8, 13, 13], [2, 8, 13]), ([14, 14, 0, 1, 2, 3, 4, 5, 6, 7, 8, 9, 10, 11, 12, 13, 14], [14])])
def assign_B11 : List Nat := [0, 0, 3, 0, 0, 16, 0, 64, 255, 0, 512, 0, 2048, 8191, 16383, 32767]
theorem assign_tab11 : rtab .any (opsOf Try.f21 11) = assign_T11 := by kernel_rfl
theorem assign_bits11 : waitsOk assign_T11.2 assign_B11 = true := by kernel_rfl
def assign_T12 : Bool × List (List Nat × List Nat) := (true, [([], []), ([], []), ([0, 1], [0, 1]), ([], []), ([3], [3]), ([], []), ([], []), ([5, 6, 2], [5, 6]), ([2, 4, 7, 7], [2, 4, 7]), ([], []), ([9, 8, 8, 0, 1, 2, 3, 4, 5, 6, 7, 8, 9], [8, 9])])
def assign_B12 : List Nat := [0, 0, 3, 0, 8, 0, 0, 103, 255, 0, 1023]
theorem assign_tab12 : rtab .any (opsOf Try.f21 12) = assign_T12 := by kernel_rfl
theorem assign_bits12 : waitsOk assign_T12.2 assign_B12 = true := by kernel_rfl
def assign_T20 : Bool × List (List Nat × List Nat) := (true, [([], []), ([], []), ([], []), ([2], [2]), ([], []), ([4], [4]), ([1, 3, 5], [1, 3, 5]), ([], []), ([], []), ([7, 8, 6], [7, 8]), ([0, 6, 9, 9], [0, 6, 9]), ([10, 10, 0, 1, 2, 3, 4, 5, 6, 7, 8, 9, 10], [10])])
def assign_B20 : List Nat := [0, 0, 0, 4, 0, 16, 62, 0, 0, 510, 1023, 2047]
theorem assign_tab20 : rtab .any (opsOf Try.f21 20) = assign_T20 := by kernel_rfl
theorem assign_bits20 : waitsOk assign_T20.2 assign_B20 = true := by kernel_rfl
theorem MS.put10 (pre : List (Nat × Obj)) {post : List (Nat × Obj)} {w W : World} {os : List OV} {g : Nat} {v0 v1 v2 v3 v4 v5 v6 v7 v8 v9 u0 u1 u2 u3 u4 u5 u6 u7 u8 u9 : Value} {t : TypeId} (h : MS w os (pre ++ (g, .cells #[v0, v1, v2, v3, v4, v5, v6, v7, v8, v9] t (0, 0)) :: post) W) : MS w os (pre ++ (g, .cells #[u0, u1, u2, u3, u4, u5, u6, u7, u8, u9] t (0, 0)) :: post) ((((((((((W.setCell ⟨g, 0, none⟩ u0).setCell ⟨g, 1, none⟩ u1).setCell ⟨g, 2, none⟩ u2).setCell ⟨g, 3, none⟩ u3).setCell ⟨g, 4, none⟩ u4).setCell ⟨g, 5, none⟩ u5).setCell ⟨g, 6, none⟩ u6).setCell ⟨g, 7, none⟩ u7).setCell ⟨g, 8, none⟩ u8).setCell ⟨g, 9, none⟩ u9) :=
 (MS.put (cs' := #[u0, u1, u2, u3, u4, u5, u6, u7, u8, u9]) pre (MS.put (cs' := #[u0, u1, u2, u3, u4, u5, u6, u7, u8, v9]) pre (MS.put (cs' := #[u0, u1, u2, u3, u4, u5, u6, u7, v8, v9]) pre (MS.put (cs' := #[u0, u1, u2, u3, u4, u5, u6, v7, v8, v9]) pre (MS.put (cs' := #[u0, u1, u2, u3, u4, u5, v6, v7, v8, v9]) pre (MS.put (cs' := #[u0, u1, u2, u3, u4, v5, v6, v7, v8, v9]) pre (MS.put (cs' := #[u0, u1, u2, u3, v4, v5, v6, v7, v8, v9]) pre (MS.put (cs' := #[u0, u1, u2, v3, v4, v5, v6, v7, v8, v9]) pre (MS.put (cs' := #[u0, u1, v2, v3, v4, v5, v6, v7, v8, v9]) pre (MS.put (cs' := #[u0, v1, v2, v3, v4, v5, v6, v7, v8, v9]) pre h 0 u0 rfl) 1 u1 rfl) 2 u2 rfl) 3 u3 rfl) 4 u4 rfl) 5 u5 rfl) 6 u6 rfl) 7 u7 rfl) 8 u8 rfl) 9 u9 rfl)
theorem of_as' {X : OV} {v m : List Int} {e : Bool} {x sx y sy c : Int} {t : Bool} {w W : World} (hX : Oc w W X) (h0 : Below w.heap.size w W) (ho : X.o = (v, m, e)) (l : v.length ≤ 1000) (h : ofB v x sx y sy c = t) : Says 55 #[X.val, .agg #[.int .i64 x, .int .i64 sx, .int .i64 y, .int .i64 sy, .int .i64 c]] W (.bool t) := by
 have e1 : X.v = v := congrArg Prod.fst ho
 subst e1
 rw [← h]; exact of_o X x sx y sy c hX h0 l
theorem place_asE {X : OV} {v m : List Int} {t : Bool} {p : Int} {w W : World} (hx : Oc w W X) (hb : Below w.heap.size w W) (ho : X.o = (v, m, t)) (l : v.length ≤ 1000) (a : Int) (hp : placeF v a = p) (he : X.e = t) : Says 52 #[.agg #[.slice X.P X.v.length X.p, .slice X.Q X.m.length X.q, .bool t], .int .i64 a] W (.int .i64 p) := by
 subst he
 exact place_as hx hb ho l a hp
theorem idx0 (lx sx y sy : Int) : ∀ w, (Instr.index 77 (.agg #[.int .i64 lx, .int .i64 sx, .int .i64 0, .int .i64 0, .int .i64 0, .int .i64 y, .int .i64 sy, .int .i64 0, .int .i64 0, .int .i64 0]) (.int .i64 0)).run Try.prog w = .ok (.agg #[.int .i64 lx, .int .i64 sx, .int .i64 0, .int .i64 0, .int .i64 0]) w := fun _ => by kernel_rfl
theorem idx1 (lx sx y sy : Int) : ∀ w, (Instr.index 77 (.agg #[.int .i64 lx, .int .i64 sx, .int .i64 0, .int .i64 0, .int .i64 0, .int .i64 y, .int .i64 sy, .int .i64 0, .int .i64 0, .int .i64 0]) (.int .i64 1)).run Try.prog w = .ok (.agg #[.int .i64 y, .int .i64 sy, .int .i64 0, .int .i64 0, .int .i64 0]) w := fun _ => by kernel_rfl
theorem asg_bot (X : OV) (x lx sx y sy c : Int) {cm : List Int} {w : World} (HX : Aside0 (Oc w w X)) (FX_ : Aside0 (OFit X.v X.m X.e)) (LK : Aside0 (X.v.length ≤ 1000)) (HC : Aside0 (closeF X.v X.m X.e = (X.v, cm, true)))
 :
 Calls Try.prog 21 #[X.val, .int .i64 x, lV lx sx y sy c] w fun e W' => ∃ z : OV, e = .returned z.val ∧ z.o = (X.v, cm, true) ∧ Own w W' z ∧ Below w.heap.size w W' := by
 have hu25 := Try.underlying25
 have hu34 := Try.underlying34
 go_enter Try.func21, Try.ntmps21
 go_upto_region 1 with fail
 have HM := MS.n3 w X.cells (lC lx sx y sy c) zeroO
 generalize World.alloc _ _ = wk at HM ⊢
 generalize w.heap.size + 2 = gr at HM ⊢
 generalize w.heap.size + 1 = gl at HM ⊢
 generalize w.heap.size = go at HM ⊢
 have kgo := MS.c3 HM m2_
 go_upto_region 2 with (first | (go_at_call 51; (with_reducible refine (close_as (Oc.now HX (MS.bel HM)) (Below.refl _ _) rfl FX_.out HC.out).mono ?_); rintro e wk ⟨cv, rfl, hcv, ho, hb⟩; replace HM := MS.cl HM hb ho; clear ho hb; replace kgo := MS.c3 HM m2_) | ((with_reducible refine gate_dst (N := 7) rfl ?_); refine bx_ 7 #[.slice none 0 0, .slice none 0 0, .bool false] 25 ?_; intro gc hg wk hbox hb; replace HM := MS.md HM hg hbox hb; clear hg hbox hb; have kgc := MS.c3 HM m0_; replace kgo := MS.c3 HM m3_))
 replace HM := MS.sb HM (.refl _) (.cons_cons _ (.cons_cons _ (.cons_cons _ (.cons _ .slnil)))); clear kgo
 replace HM := MS.po0 cv HM
 generalize World.setCell _ _ _ = wk at HM ⊢
 have HCV := Aside0.mk hcv; clear hcv
 have hem : cv.e = true := congrArg (·.2.2) HCV.out
 replace kgc := MS.c3 HM m0_
 go_upto_region 3 with fail
 clear hem
 have kgr := MS.c3 HM m1_; have kgl := MS.c5 HM m2_
 go_wp2
 replace HM := MS.po1 cv HM
 generalize World.setCell _ _ _ = wk at HM ⊢
 refine MS.rt HM m1_ ?_
 exact ⟨cv, rfl, HCV.out, HM.out.S.own _ m0_, HM.out.S.below⟩
theorem asg_no (X : OV) (x lx sx y sy c : Int) {cm : List Int} {w : World} (HX : Aside0 (Oc w w X)) (FX_ : Aside0 (OFit X.v X.m X.e)) (LK : Aside0 (X.v.length ≤ 1000)) (HC : Aside0 (closeF X.v X.m X.e = (X.v, cm, false))) {pv : Int} (HP : Aside0 (placeF X.v x = pv)) (PN : Aside0 (pv < 0))
 :
 Calls Try.prog 21 #[X.val, .int .i64 x, lV lx sx y sy c] w fun e W' => ∃ z : OV, e = .returned z.val ∧ z.o = (X.v, cm, false) ∧ Own w W' z ∧ Below w.heap.size w W' := by
 have hu25 := Try.underlying25
 have hu34 := Try.underlying34
 go_enter Try.func21, Try.ntmps21
 go_upto_region 1 with fail
 have HM := MS.n3 w X.cells (lC lx sx y sy c) zeroO
 generalize World.alloc _ _ = wk at HM ⊢
 generalize w.heap.size + 2 = gr at HM ⊢
 generalize w.heap.size + 1 = gl at HM ⊢
 generalize w.heap.size = go at HM ⊢
 have kgo := MS.c3 HM m2_
 go_upto_region 2 with (first | (go_at_call 51; (with_reducible refine (close_as (Oc.now HX (MS.bel HM)) (Below.refl _ _) rfl FX_.out HC.out).mono ?_); rintro e wk ⟨cv, rfl, hcv, ho, hb⟩; replace HM := MS.cl HM hb ho; clear ho hb; replace kgo := MS.c3 HM m2_) | ((with_reducible refine gate_dst (N := 7) rfl ?_); refine bx_ 7 #[.slice none 0 0, .slice none 0 0, .bool false] 25 ?_; intro gc hg wk hbox hb; replace HM := MS.md HM hg hbox hb; clear hg hbox hb; have kgc := MS.c3 HM m0_; replace kgo := MS.c3 HM m3_))
 replace HM := MS.sb HM (.refl _) (.cons_cons _ (.cons_cons _ (.cons_cons _ (.cons _ .slnil)))); clear kgo
 replace HM := MS.po0 cv HM
 generalize World.setCell _ _ _ = wk at HM ⊢
 have HCV := Aside0.mk hcv; clear hcv
 have hem : cv.e = false := congrArg (·.2.2) HCV.out
 have q0 := PN.out
 replace kgc := MS.c3 HM m0_
 go_upto_region 3 with (first | (go_at_call 52; (with_reducible refine (place_asE (MS.oc HM m0_) (MS.bel HM) HCV.out LK.out x HP.out (congrArg (·.2.2) HCV.out)).mono ?_); rintro e wk ⟨rfl, hb⟩; replace HM := MS.nx HM hb; clear hb; replace kgc := MS.c3 HM m0_))
 clear hem q0
 have kgr := MS.c3 HM m1_; have kgl := MS.c5 HM m2_
 go_wp2
 replace HM := MS.po1 cv HM
 generalize World.setCell _ _ _ = wk at HM ⊢
 refine MS.rt HM m1_ ?_
 exact ⟨cv, rfl, HCV.out, HM.out.S.own _ m0_, HM.out.S.below⟩
theorem asg_not (X : OV) (x lx sx y sy c : Int) {cm : List Int} {w : World} (HX : Aside0 (Oc w w X)) (FX_ : Aside0 (OFit X.v X.m X.e)) (LK : Aside0 (X.v.length ≤ 1000)) (HC : Aside0 (closeF X.v X.m X.e = (X.v, cm, false))) {p : Nat} {fm : List Int} {fe : Bool} (HP : Aside0 (placeF X.v x = (p : Int))) (CF : Aside0 (OFit X.v cm false)) (HFG : Aside0 (forgetF X.v cm false x = (X.v, fm, fe))) (HOF : Aside0 (ofB X.v lx sx y sy c = false))
 :
 Calls Try.prog 21 #[X.val, .int .i64 x, lV lx sx y sy c] w fun e W' => ∃ z : OV, e = .returned z.val ∧ z.o = (X.v, fm, fe) ∧ Own w W' z ∧ Below w.heap.size w W' := by
 have hu25 := Try.underlying25
 have hu34 := Try.underlying34
 go_enter Try.func21, Try.ntmps21
 go_upto_region 1 with fail
 have HM := MS.n3 w X.cells (lC lx sx y sy c) zeroO
 generalize World.alloc _ _ = wk at HM ⊢
 generalize w.heap.size + 2 = gr at HM ⊢
 generalize w.heap.size + 1 = gl at HM ⊢
 generalize w.heap.size = go at HM ⊢
 have kgo := MS.c3 HM m2_
 go_upto_region 2 with (first | (go_at_call 51; (with_reducible refine (close_as (Oc.now HX (MS.bel HM)) (Below.refl _ _) rfl FX_.out HC.out).mono ?_); rintro e wk ⟨cv, rfl, hcv, ho, hb⟩; replace HM := MS.cl HM hb ho; clear ho hb; replace kgo := MS.c3 HM m2_) | ((with_reducible refine gate_dst (N := 7) rfl ?_); refine bx_ 7 #[.slice none 0 0, .slice none 0 0, .bool false] 25 ?_; intro gc hg wk hbox hb; replace HM := MS.md HM hg hbox hb; clear hg hbox hb; have kgc := MS.c3 HM m0_; replace kgo := MS.c3 HM m3_))
 replace HM := MS.sb HM (.refl _) (.cons_cons _ (.cons_cons _ (.cons_cons _ (.cons _ .slnil)))); clear kgo
 replace HM := MS.po0 cv HM
 generalize World.setCell _ _ _ = wk at HM ⊢
 have HCV := Aside0.mk hcv; clear hcv
 have hem : cv.e = false := congrArg (·.2.2) HCV.out
 have q0 : (0 : Int) ≤ (p : Int) := Int.natCast_nonneg _
 replace kgc := MS.c3 HM m0_; have kgr := MS.c3 HM m1_
 go_upto_region 4 with (first | (go_at_call 52; (with_reducible refine (place_asE (MS.oc HM m0_) (MS.bel HM) HCV.out LK.out x HP.out (congrArg (·.2.2) HCV.out)).mono ?_); rintro e wk ⟨rfl, hb⟩; replace HM := MS.nx HM hb; clear hb; replace kgc := MS.c3 HM m0_; replace kgr := MS.c3 HM m1_))
 clear hem q0
 have kgl := MS.c5 HM m2_
 go_upto_region 5 with (first | (go_at_call 55; (with_reducible refine (of_as' (MS.oc HM m0_) (MS.bel HM) HCV.out LK.out HOF.out).mono ?_); rintro e wk ⟨rfl, hb⟩; replace HM := MS.nx HM hb; clear hb; replace kgc := MS.c3 HM m0_; replace kgl := MS.c5 HM m2_))
 replace kgr := MS.c3 HM m1_
 go_wp2_with (first | (go_at_call 15; (with_reducible refine (forget_as (MS.oc HM m0_) (MS.bel HM) HCV.out CF.out x HFG.out).mono ?_); rintro e wk ⟨zv, rfl, hzv, ho, hb⟩; replace HM := MS.cl HM hb ho; clear ho hb; replace kgc := MS.c3 HM m0_; replace kgr := MS.c3 HM m1_; replace kgl := MS.c5 HM m2_))
 replace HM := MS.po1 zv HM
 generalize World.setCell _ _ _ = wk at HM ⊢
 refine MS.rt HM m1_ ?_
 exact ⟨zv, rfl, hzv, HM.out.S.own _ m0_, HM.out.S.below⟩
theorem asg_gen (X : OV) (x lx sx y sy c : Int) {cm : List Int} {w : World} (HX : Aside0 (Oc w w X)) (FX_ : Aside0 (OFit X.v X.m X.e)) (LK : Aside0 (X.v.length ≤ 1000)) (HC : Aside0 (closeF X.v X.m X.e = (X.v, cm, false))) {p : Nat} {fm : List Int} {fe : Bool} (HP : Aside0 (placeF X.v x = (p : Int))) (CF : Aside0 (OFit X.v cm false)) (HFG : Aside0 (forgetF X.v cm false x = (X.v, fm, fe))) {gm0 gm1 : List Int} {ge0 ge1 : Bool} {r : Tri} {a b a0 b0 a1 b1 a2 b2 r01 r02 r03 r04 r11 r12 r13 r14 : Int} {C : Mx} (HOF : Aside0 (ofB X.v lx sx y sy c = true)) (FF : Aside0 (OFit X.v fm fe))
 (CB : Aside0 (-1099511627776 ≤ c ∧ c ≤ 1099511627776)) (SXB : Aside0 (-1 ≤ sx ∧ sx ≤ 1)) (SYB : Aside0 (-1 ≤ sy ∧ sy ≤ 1)) (ZB : Aside0 ((-1 : Int) ≤ 0 ∧ (0 : Int) ≤ 1)) (NE : Aside0 (sy ≠ 0 → lx ≠ y)) (BX : Aside0 (sx ≠ 0 → 0 ≤ placeF X.v lx)) (BY : Aside0 (sy ≠ 0 → 0 ≤ placeF X.v y)) (L8 : Aside0 (X.v.length ≤ 8)) (P8 : Aside0 (p ≤ 8)) (FM : Aside0 (OFit X.v (lst (2 * X.v.length) (movM C sx p c)) false)) (HCM : Aside0 ((X.v, cm, false) = (X.v, lst (2 * X.v.length) C, false))) (SC : Aside0 (Snd (2 * X.v.length) C))
 (HIT : Aside0 (itvOf c c = (a, b))) (HB0 : Aside0 (BndF.bndF X.v cm false lx sx y sy c = (a0, b0))) (HB1 : Aside0 (BndF.bndF X.v cm false y sy 0 0 c = (a1, b1))) (HB2 : Aside0 (BndF.bndF X.v cm false lx sx 0 0 c = (a2, b2)))
 (HL0 : Aside0 ((if x < lx then (x, 1, lx, -sx) else (lx, -sx, x, 1)) = (r01, r02, r03, r04))) (HL1 : Aside0 ((if x < y then (x, 1, y, -sy) else (y, -sy, x, 1)) = (r11, r12, r13, r14)))
 (HG0 : Aside0 (guardF X.v fm fe x 1 0 0 0 a0 b0 = (X.v, gm0, ge0))) (GF0 : Aside0 (OFit X.v gm0 ge0)) (HG1 : Aside0 (guardF X.v gm0 ge0 r01 r02 r03 r04 0 a1 b1 = (X.v, gm1, ge1))) (GF1 : Aside0 (OFit X.v gm1 ge1))
 (R0 : Aside0 (sx = 0 → guardF X.v fm fe x 1 0 0 0 a b = r)) (R1 : Aside0 (sx ≠ 0 → sy = 0 → lx = x → closeF X.v (lst (2 * X.v.length) (movM C sx p c)) false = r)) (R2 : Aside0 (sx ≠ 0 → sy = 0 → lx ≠ x → guardF X.v fm fe r01 r02 r03 r04 0 a b = r))
 (R3 : Aside0 (sx ≠ 0 → sy ≠ 0 → lx ≠ x → y ≠ x → guardF X.v gm1 ge1 r11 r12 r13 r14 0 a2 b2 = r)) (R4 : Aside0 (sx ≠ 0 → sy ≠ 0 → lx ≠ x → y = x → (X.v, gm1, ge1) = r)) (R5 : Aside0 (sx ≠ 0 → sy ≠ 0 → lx = x → guardF X.v gm0 ge0 r11 r12 r13 r14 0 a2 b2 = r))
 :
 Calls Try.prog 21 #[X.val, .int .i64 x, lV lx sx y sy c] w fun e W' => ∃ z : OV, e = .returned z.val ∧ z.o = r ∧ Own w W' z ∧ Below w.heap.size w W' := by
 have hu25 := Try.underlying25
 have hu34 := Try.underlying34
 have hu36 := Try.underlying36
 go_enter Try.func21, Try.ntmps21
 go_upto_region 1 with fail
 have HM := MS.n3 w X.cells (lC lx sx y sy c) zeroO
 generalize World.alloc _ _ = wk at HM ⊢
 generalize w.heap.size + 2 = gr at HM ⊢
 generalize w.heap.size + 1 = gl at HM ⊢
 generalize w.heap.size = go at HM ⊢
 have kgo := MS.c3 HM m2_
 go_upto_region 2 with (first | (go_at_call 51; (with_reducible refine (close_as (Oc.now HX (MS.bel HM)) (Below.refl _ _) rfl FX_.out HC.out).mono ?_); rintro e wk ⟨cv, rfl, hcv, ho, hb⟩; replace HM := MS.cl HM hb ho; clear ho hb; replace kgo := MS.c3 HM m2_) | ((with_reducible refine gate_dst (N := 7) rfl ?_); refine bx_ 7 #[.slice none 0 0, .slice none 0 0, .bool false] 25 ?_; intro gc hg wk hbox hb; replace HM := MS.md HM hg hbox hb; clear hg hbox hb; have kgc := MS.c3 HM m0_; replace kgo := MS.c3 HM m3_))
 replace HM := MS.sb HM (.refl _) (.cons_cons _ (.cons_cons _ (.cons_cons _ (.cons _ .slnil)))); clear kgo
 replace HM := MS.po0 cv HM
 generalize World.setCell _ _ _ = wk at HM ⊢
 have HCV := Aside0.mk hcv; clear hcv
 have hem : cv.e = false := congrArg (·.2.2) HCV.out
 have q0 : (0 : Int) ≤ (p : Int) := Int.natCast_nonneg _
 replace kgc := MS.c3 HM m0_; have kgr := MS.c3 HM m1_
 go_upto_region 4 with (first | (go_at_call 52; (with_reducible refine (place_asE (MS.oc HM m0_) (MS.bel HM) HCV.out LK.out x HP.out (congrArg (·.2.2) HCV.out)).mono ?_); rintro e wk ⟨rfl, hb⟩; replace HM := MS.nx HM hb; clear hb; replace kgc := MS.c3 HM m0_; replace kgr := MS.c3 HM m1_))
 clear hem q0
 have kgl := MS.c5 HM m2_
 go_upto_region 6 with (first | (go_at_call 55; (with_reducible refine (of_as' (MS.oc HM m0_) (MS.bel HM) HCV.out LK.out HOF.out).mono ?_); rintro e wk ⟨rfl, hb⟩; replace HM := MS.nx HM hb; clear hb; replace kgc := MS.c3 HM m0_; replace kgr := MS.c3 HM m1_; replace kgl := MS.c5 HM m2_))
 by_cases S1_ : sx = 0
 ·
  have S1 := Aside0.mk S1_; clear S1_
  have t1 : (sx == 0) = true := beq_iff_eq.2 S1.out
  go_upto_region 7 with fail
  clear t1
  replace HM := MS.dr HM
  clear kgc kgl kgr
  refine st_ 12 (fun w' => oR gc cv w' ∧ w'.cell? ⟨gl, 4, none⟩ = some (.int .i64 c)) [11] ⟨kO HM m0_, MS.k HM m2_ 4 rfl⟩ (fun hHeld => ?_)
  refine with_tabW assign_tab7 assign_bits7 (fun HT_ HW_ => ?_)
  generalize World.drew _ = wk at HM hHeld ⊢
  refine tV_ 0 37 (mB 12 1) HT_ HW_ hHeld ?_
  refine pV_ 1 38 (mB 12 3) HT_ ?_
  refine pV_ 3 40 (mB 12 11) HT_ ?_
  refine pV_ 4 41 (mB 12 27) HT_ ?_
  refine pV_ 5 42 (mB 12 59) HT_ ?_
  refine tV_ 6 43 (mB 12 123) HT_ HW_ hHeld ?_
  refine pV_ 7 44 (mB 12 251) HT_ ?_
  refine tV_ 8 45 (mB 12 507) HT_ HW_ hHeld ?_
  refine on_ 2 (some 39) (mB 12 511) HT_ (fun K hK => ?_)
  refine gs_ Try.func15 #[cv.val, .int .i64 x] ?_
  with_reducible refine ok_ (forget_as (MS.oc HM m0_) (MS.bel HM) HCV.out CF.out x HFG.out) fun fv wk hfv ho hb => ?_
  replace HM := MS.cl HM hb ho; clear hb ho
  refine hK.out _ _ ⟨kO HM m0_, MS.k HM m2_ 4 rfl⟩ (fun hHeld => ?_)
  clear hK K
  refine nO_ 39 ?_
  refine on_ 9 (some 46) (mB 12 1023) HT_ (fun K hK => ?_)
  refine gs_ Try.func56 #[.int .i64 c, .int .i64 c] ?_
  with_reducible refine sk_ (itvOf_as HIT.out) fun wk hb => ?_
  replace HM := MS.nx HM hb; clear hb
  refine hK.out _ _ ⟨kO HM m0_, MS.k HM m2_ 4 rfl⟩ (fun hHeld => ?_)
  clear hK K
  refine nO_ 46 ?_
  refine on_ 10 (some 47) (mB 12 2047) HT_ (fun K hK => ?_)
  refine gs_ Try.func19 #[fv.val, lV x 1 0 0 0, iV a b] ?_
  with_reducible refine ok_ (guard_as (MS.oc HM m0_) (MS.bel HM) hfv FF.out x 1 0 0 0 a b (R0.out S1.out)) fun zv wk hzv ho hb => ?_
  replace HM := MS.cl HM hb ho; clear hb ho
  refine hK.out _ _ ⟨kO HM m0_, MS.k HM m2_ 4 rfl⟩ (fun hHeld => ?_)
  clear hK K
  refine nO_ 47 ?_
  have kgr := MS.c3 HM m1_
  refine la_ 11 (mB 12 4095) HT_ (fun K hK => ?_)
  refine skip_ (w1 := ?_) (by rfl) rfl ?_ ?_
  rotate_left
  ·
   go_simp
   rfl
  refine hK.out _ _ ?_
  clear hK K
  refine dn_ HT_ ?_
  clear HT_ HW_ hHeld
  replace HM := MS.po1 zv HM
  generalize World.setCell _ _ _ = wk at HM ⊢
  have kgc := MS.c3 HM m0_; replace kgr := MS.c3 HM m1_; have kgl := MS.c5 HM m2_
  go_wp2
  refine MS.rt HM m1_ ?_
  exact ⟨zv, rfl, hzv, HM.out.S.own _ m0_, HM.out.S.below⟩
 ·
  have S1 := Aside0.mk S1_; clear S1_
  have t1 : (sx == 0) = false := beq_eq_false_iff_ne.2 S1.out
  go_upto_region 8 with fail
  clear t1
  by_cases S2_ : sy = 0
  ·
   have S2 := Aside0.mk S2_; clear S2_
   have t1 : (sy == 0) = true := beq_iff_eq.2 S2.out
   by_cases S3_ : lx = x
   ·
    have S3 := Aside0.mk S3_; clear S3_
    have t2 : (lx == x) = true := beq_iff_eq.2 S3.out
    go_upto_region 9 with fail
    clear t1 t2
    replace HM := MS.dr HM
    clear kgc kgl kgr
    refine st_ 11 (fun w' => oR gc cv w' ∧ w'.cell? ⟨gl, 1, none⟩ = some (.int .i64 sx) ∧ w'.cell? ⟨gl, 4, none⟩ = some (.int .i64 c)) [10] ⟨kO HM m0_, MS.k HM m2_ 1 rfl, MS.k HM m2_ 4 rfl⟩ (fun hHeld => ?_)
    refine with_tabW assign_tab9 assign_bits9 (fun HT_ HW_ => ?_)
    generalize World.drew _ = wk at HM hHeld ⊢
    refine tV_ 0 58 (mB 11 1) HT_ HW_ hHeld ?_
    refine tV_ 1 59 (mB 11 3) HT_ HW_ hHeld ?_
    refine pV_ 2 60 (mB 11 7) HT_ ?_
    refine pV_ 4 62 (mB 11 23) HT_ ?_
    refine tV_ 5 63 (mB 11 55) HT_ HW_ hHeld ?_
    refine pV_ 6 64 (mB 11 119) HT_ ?_
    refine tV_ 7 65 (mB 11 247) HT_ HW_ hHeld ?_
    refine on_ 3 (some 61) (mB 11 255) HT_ (fun K hK => ?_)
    refine gs_ Try.func52 #[cv.val, .int .i64 x] ?_
    with_reducible refine sk_ (place_as (MS.oc HM m0_) (MS.bel HM) HCV.out LK.out x HP.out) fun wk hb => ?_
    replace HM := MS.nx HM hb; clear hb
    refine hK.out _ _ ⟨kO HM m0_, MS.k HM m2_ 1 rfl, MS.k HM m2_ 4 rfl⟩ (fun hHeld => ?_)
    clear hK K
    refine nO_ 61 ?_
    refine on_ 8 (some 66) (mB 11 511) HT_ (fun K hK => ?_)
    refine gs_ Try.func69 #[cv.val, .int .i64 (p : Int), .int .i64 sx, .int .i64 c] ?_
    with_reducible refine ok_ (moved_as (MS.oc HM m0_) (MS.bel HM) (HCV.out.trans HCM.out) L8.out P8.out CB.out SC.out rfl) fun mv wk hmv ho hb => ?_
    replace HM := MS.cl HM hb ho; clear hb ho
    refine hK.out _ _ ⟨kO HM m0_, MS.k HM m2_ 1 rfl, MS.k HM m2_ 4 rfl⟩ (fun hHeld => ?_)
    clear hK K
    refine nO_ 66 ?_
    refine on_ 9 (some 67) (mB 11 1023) HT_ (fun K hK => ?_)
    refine gs_ Try.func51 #[mv.val] ?_
    with_reducible refine ok_ (close_as (MS.oc HM m0_) (MS.bel HM) hmv FM.out (R1.out S1.out S2.out S3.out)) fun zv wk hzv ho hb => ?_
    replace HM := MS.cl HM hb ho; clear hb ho
    refine hK.out _ _ ⟨kO HM m0_, MS.k HM m2_ 1 rfl, MS.k HM m2_ 4 rfl⟩ (fun hHeld => ?_)
    clear hK K
    refine nO_ 67 ?_
    have kgr := MS.c3 HM m1_
    refine la_ 10 (mB 11 2047) HT_ (fun K hK => ?_)
    refine skip_ (w1 := ?_) (by rfl) rfl ?_ ?_
    rotate_left
    ·
     go_simp
     rfl
    refine hK.out _ _ ?_
    clear hK K
    refine dn_ HT_ ?_
    clear HT_ HW_ hHeld
    replace HM := MS.po1 zv HM
    generalize World.setCell _ _ _ = wk at HM ⊢
    have kgc := MS.c3 HM m0_; replace kgr := MS.c3 HM m1_; have kgl := MS.c5 HM m2_
    go_wp2
    refine MS.rt HM m1_ ?_
    exact ⟨zv, rfl, hzv, HM.out.S.own _ m0_, HM.out.S.below⟩
   ·
    have S3 := Aside0.mk S3_; clear S3_
    have t2 : (lx == x) = false := beq_eq_false_iff_ne.2 S3.out
    go_upto_region 10 with fail
    clear t2
    go_upto_region 11 with fail
    clear t1
    replace HM := MS.dr HM
    clear kgc kgl kgr
    refine st_ 16 (fun w' => oR gc cv w' ∧ w'.cell? ⟨gl, 1, none⟩ = some (.int .i64 sx) ∧ w'.cell? ⟨gl, 0, none⟩ = some (.int .i64 lx) ∧ w'.cell? ⟨gl, 4, none⟩ = some (.int .i64 c)) [15] ⟨kO HM m0_, MS.k HM m2_ 1 rfl, MS.k HM m2_ 0 rfl, MS.k HM m2_ 4 rfl⟩ (fun hHeld => ?_)
    refine with_tabW assign_tab11 assign_bits11 (fun HT_ HW_ => ?_)
    generalize World.drew _ = wk at HM hHeld ⊢
    refine tV_ 0 72 (mB 16 1) HT_ HW_ hHeld ?_
    refine pV_ 1 73 (mB 16 3) HT_ ?_
    refine pV_ 3 75 (mB 16 11) HT_ ?_
    refine pV_ 4 76 (mB 16 27) HT_ ?_
    refine tV_ 5 77 (mB 16 59) HT_ HW_ hHeld ?_
    refine pV_ 6 78 (mB 16 123) HT_ ?_
    refine tV_ 7 79 (mB 16 251) HT_ HW_ hHeld ?_
    refine pV_ 9 81 (mB 16 763) HT_ ?_
    refine tV_ 10 82 (mB 16 1787) HT_ HW_ hHeld ?_
    refine pV_ 11 83 (mB 16 3835) HT_ ?_
    refine tV_ 12 84 (mB 16 7931) HT_ HW_ hHeld ?_
    refine on_ 2 (some 74) (mB 16 7935) HT_ (fun K hK => ?_)
    refine gs_ Try.func15 #[cv.val, .int .i64 x] ?_
    with_reducible refine ok_ (forget_as (MS.oc HM m0_) (MS.bel HM) HCV.out CF.out x HFG.out) fun fv wk hfv ho hb => ?_
    replace HM := MS.cl HM hb ho; clear hb ho
    refine hK.out _ _ ⟨kO HM m0_, MS.k HM m2_ 1 rfl, MS.k HM m2_ 0 rfl, MS.k HM m2_ 4 rfl⟩ (fun hHeld => ?_)
    clear hK K
    refine nO_ 74 ?_
    refine on_ 8 (some 80) (mB 16 8191) HT_ (fun K hK => ?_)
    refine gs_ Try.func70 #[.int .i64 x, .int .i64 sx, .int .i64 lx] ?_
    with_reducible refine sk_ (less_as SXB.out HL0.out) fun wk hb => ?_
    replace HM := MS.nx HM hb; clear hb
    refine hK.out _ _ ⟨kO HM m0_, MS.k HM m2_ 1 rfl, MS.k HM m2_ 0 rfl, MS.k HM m2_ 4 rfl⟩ (fun hHeld => ?_)
    clear hK K
    refine nO_ 80 ?_
    refine on_ 13 (some 85) (mB 16 16383) HT_ (fun K hK => ?_)
    refine gs_ Try.func56 #[.int .i64 c, .int .i64 c] ?_
    with_reducible refine sk_ (itvOf_as HIT.out) fun wk hb => ?_
    replace HM := MS.nx HM hb; clear hb
    refine hK.out _ _ ⟨kO HM m0_, MS.k HM m2_ 1 rfl, MS.k HM m2_ 0 rfl, MS.k HM m2_ 4 rfl⟩ (fun hHeld => ?_)
    clear hK K
    refine nO_ 85 ?_
    refine on_ 14 (some 86) (mB 16 32767) HT_ (fun K hK => ?_)
    refine gs_ Try.func19 #[fv.val, lV r01 r02 r03 r04 0, iV a b] ?_
    with_reducible refine ok_ (guard_as (MS.oc HM m0_) (MS.bel HM) hfv FF.out r01 r02 r03 r04 0 a b (R2.out S1.out S2.out S3.out)) fun zv wk hzv ho hb => ?_
    replace HM := MS.cl HM hb ho; clear hb ho
    refine hK.out _ _ ⟨kO HM m0_, MS.k HM m2_ 1 rfl, MS.k HM m2_ 0 rfl, MS.k HM m2_ 4 rfl⟩ (fun hHeld => ?_)
    clear hK K
    refine nO_ 86 ?_
    have kgr := MS.c3 HM m1_
    refine la_ 15 (mB 16 65535) HT_ (fun K hK => ?_)
    refine skip_ (w1 := ?_) (by rfl) rfl ?_ ?_
    rotate_left
    ·
     go_simp
     rfl
    refine hK.out _ _ ?_
    clear hK K
    refine dn_ HT_ ?_
    clear HT_ HW_ hHeld
    replace HM := MS.po1 zv HM
    generalize World.setCell _ _ _ = wk at HM ⊢
    have kgc := MS.c3 HM m0_; replace kgr := MS.c3 HM m1_; have kgl := MS.c5 HM m2_
    go_wp2
    refine MS.rt HM m1_ ?_
    exact ⟨zv, rfl, hzv, HM.out.S.own _ m0_, HM.out.S.below⟩
  ·
   have S2 := Aside0.mk S2_; clear S2_
   have t1 : (sy == 0) = false := beq_eq_false_iff_ne.2 S2.out
   go_upto_region 10 with fail
   go_upto_region 12 with fail
   clear t1
   replace HM := MS.dr HM
   clear kgc kgl kgr
   refine startN_ (n := 11) (S := fun w' => oR gc cv w' ∧ lR gl lx sx y sy c w') (ds := [10]) (mB 11 0) (by kernel_rfl) rfl (by kernel_rfl) ⟨kO HM m0_, kL HM m2_⟩ (fun hHeld => ?_)
   refine with_tabW assign_tab12 assign_bits12 (fun HT_ HW_ => ?_)
   generalize World.drew _ = wk at HM hHeld ⊢
   refine tV_ 0 87 (mB 11 1) HT_ HW_ hHeld ?_
   refine pV_ 1 88 (mB 11 3) HT_ ?_
   refine pV_ 3 90 (mB 11 11) HT_ ?_
   refine pV_ 4 91 (mB 11 27) HT_ ?_
   refine tV_ 5 92 (mB 11 59) HT_ HW_ hHeld ?_
   refine tV_ 6 93 (mB 11 123) HT_ HW_ hHeld ?_
   refine join_ (σ := OV × OV × Nat) 1 (mB 11 1023) (fun s_ => [(89, .agg #[.slice s_.1.P s_.1.v.length s_.1.p, .slice s_.1.Q s_.1.m.length s_.1.q, .bool s_.1.e]), (94, iV a0 b0), (95, .agg #[.slice s_.2.1.P s_.2.1.v.length s_.2.1.p, .slice s_.2.1.Q s_.2.1.m.length s_.2.1.q, .bool s_.2.1.e]), (8, .pointer (some ⟨s_.2.2, 0, none⟩))]) (fun s_ w' => (s_.1.o = (X.v, fm, fe)) ∧ (s_.2.1.o = (X.v, gm0, ge0)) ∧ MS w [s_.2.1, s_.1, cv] [(s_.2.2, zeroO), (gc, cv.cells), (gr, zeroO), (gl, lC lx sx y sy c)] w') ?_ ?_
   rotate_left
   ·
    intro hJ
    refine tw_ 2 9 (some 89) (some 8) (mB 11 127) (mB 11 635) HT_ (fun K hK => ?_) (fun K hK => ?_)
    ·
     refine gs_ Try.func15 #[cv.val, .int .i64 x] ?_
     with_reducible refine ok_ (forget_as (MS.oc HM m0_) (MS.bel HM) HCV.out CF.out x HFG.out) fun fv wk hfv ho hb => ?_
     replace HM := MS.cl HM hb ho; clear hb ho
     refine hK.out _ _ ⟨kO HM m0_, kL HM m2_⟩ (fun hHeld => ?_)
     clear hK K
     refine nO_ 89 ?_
     refine tw_ 7 9 (some 94) (some 8) (mB 11 255) (mB 11 639) HT_ (fun K hK => ?_) (fun K hK => ?_)
     ·
      refine gs_ Try.func71 #[cv.val, lV lx sx y sy c] ?_
      with_reducible refine sk_ (bnd_as (MS.oc HM m1_) (MS.bel HM) HCV.out CF.out lx sx y sy c CB.out SXB.out SYB.out S1.out (BX.out S1.out) BY.out HB0.out) fun wk hb => ?_
      replace HM := MS.nx HM hb; clear hb
      refine hK.out _ _ ⟨kO HM m0_, kL HM m2_⟩ (fun hHeld => ?_)
      clear hK K
      refine nO_ 94 ?_
      refine tw_ 8 9 (some 95) (some 8) (mB 11 511) (mB 11 767) HT_ (fun K hK => ?_) (fun K hK => ?_)
      ·
       refine gs_ Try.func19 #[fv.val, lV x 1 0 0 0, iV a0 b0] ?_
       with_reducible refine ok_ (guard_as (MS.oc HM m0_) (MS.bel HM) hfv FF.out x 1 0 0 0 a0 b0 HG0.out) fun o0 wk ho0 ho hb => ?_
       replace HM := MS.cl HM hb ho; clear hb ho
       refine hK.out _ _ ⟨kO HM m0_, kL HM m2_⟩ (fun hHeld => ?_)
       clear hK K
       refine nO_ 95 ?_
       refine on_ 9 (some 8) (mB 11 1023) HT_ (fun K hK => ?_)
       refine bs_ 8 #[.slice none 0 0, .slice none 0 0, .bool false] 25 ?_
       intro gu hg wk hbox hb
       replace HM := MS.md HM hg hbox hb; clear hg hbox hb
       refine hK.out _ _ ⟨kO HM m1_, kL HM m3_⟩ (fun hHeld => ?_)
       clear hK K
       refine nO_ 8 ?_
       exact nP_ (hJ (fv, o0, gu) _ ⟨hfv, ho0, HM.out⟩)
      ·
       refine bs_ 8 #[.slice none 0 0, .slice none 0 0, .bool false] 25 ?_
       intro gu hg wk hbox hb
       replace HM := MS.md HM hg hbox hb; clear hg hbox hb
       refine hK.out _ _ ⟨kO HM m1_, kL HM m3_⟩ (fun hHeld => ?_)
       clear hK K
       refine nO_ 8 ?_
       refine on_ 8 (some 95) (mB 11 1023) HT_ (fun K hK => ?_)
       refine gs_ Try.func19 #[fv.val, lV x 1 0 0 0, iV a0 b0] ?_
       with_reducible refine ok_ (guard_as (MS.oc HM m0_) (MS.bel HM) hfv FF.out x 1 0 0 0 a0 b0 HG0.out) fun o0 wk ho0 ho hb => ?_
       replace HM := MS.cl HM hb ho; clear hb ho
       refine hK.out _ _ ⟨kO HM m1_, kL HM m3_⟩ (fun hHeld => ?_)
       clear hK K
       refine nO_ 95 ?_
       exact nP_ (hJ (fv, o0, gu) _ ⟨hfv, ho0, HM.out⟩)
     ·
      refine bs_ 8 #[.slice none 0 0, .slice none 0 0, .bool false] 25 ?_
      intro gu hg wk hbox hb
      replace HM := MS.md HM hg hbox hb; clear hg hbox hb
      refine hK.out _ _ ⟨kO HM m1_, kL HM m3_⟩ (fun hHeld => ?_)
      clear hK K
      refine nO_ 8 ?_
      refine on_ 7 (some 94) (mB 11 767) HT_ (fun K hK => ?_)
      refine gs_ Try.func71 #[cv.val, lV lx sx y sy c] ?_
      with_reducible refine sk_ (bnd_as (MS.oc HM m1_) (MS.bel HM) HCV.out CF.out lx sx y sy c CB.out SXB.out SYB.out S1.out (BX.out S1.out) BY.out HB0.out) fun wk hb => ?_
      replace HM := MS.nx HM hb; clear hb
      refine hK.out _ _ ⟨kO HM m1_, kL HM m3_⟩ (fun hHeld => ?_)
      clear hK K
      refine nO_ 94 ?_
      refine on_ 8 (some 95) (mB 11 1023) HT_ (fun K hK => ?_)
      refine gs_ Try.func19 #[fv.val, lV x 1 0 0 0, iV a0 b0] ?_
      with_reducible refine ok_ (guard_as (MS.oc HM m0_) (MS.bel HM) hfv FF.out x 1 0 0 0 a0 b0 HG0.out) fun o0 wk ho0 ho hb => ?_
      replace HM := MS.cl HM hb ho; clear hb ho
      refine hK.out _ _ ⟨kO HM m1_, kL HM m3_⟩ (fun hHeld => ?_)
      clear hK K
      refine nO_ 95 ?_
      exact nP_ (hJ (fv, o0, gu) _ ⟨hfv, ho0, HM.out⟩)
    ·
     refine bs_ 8 #[.slice none 0 0, .slice none 0 0, .bool false] 25 ?_
     intro gu hg wk hbox hb
     replace HM := MS.md HM hg hbox hb; clear hg hbox hb
     refine hK.out _ _ ⟨kO HM m1_, kL HM m3_⟩ (fun hHeld => ?_)
     clear hK K
     refine nO_ 8 ?_
     refine on_ 2 (some 89) (mB 11 639) HT_ (fun K hK => ?_)
     refine gs_ Try.func15 #[cv.val, .int .i64 x] ?_
     with_reducible refine ok_ (forget_as (MS.oc HM m0_) (MS.bel HM) HCV.out CF.out x HFG.out) fun fv wk hfv ho hb => ?_
     replace HM := MS.cl HM hb ho; clear hb ho
     refine hK.out _ _ ⟨kO HM m1_, kL HM m3_⟩ (fun hHeld => ?_)
     clear hK K
     refine nO_ 89 ?_
     refine on_ 7 (some 94) (mB 11 767) HT_ (fun K hK => ?_)
     refine gs_ Try.func71 #[cv.val, lV lx sx y sy c] ?_
     with_reducible refine sk_ (bnd_as (MS.oc HM m1_) (MS.bel HM) HCV.out CF.out lx sx y sy c CB.out SXB.out SYB.out S1.out (BX.out S1.out) BY.out HB0.out) fun wk hb => ?_
     replace HM := MS.nx HM hb; clear hb
     refine hK.out _ _ ⟨kO HM m1_, kL HM m3_⟩ (fun hHeld => ?_)
     clear hK K
     refine nO_ 94 ?_
     refine on_ 8 (some 95) (mB 11 1023) HT_ (fun K hK => ?_)
     refine gs_ Try.func19 #[fv.val, lV x 1 0 0 0, iV a0 b0] ?_
     with_reducible refine ok_ (guard_as (MS.oc HM m0_) (MS.bel HM) hfv FF.out x 1 0 0 0 a0 b0 HG0.out) fun o0 wk ho0 ho hb => ?_
     replace HM := MS.cl HM hb ho; clear hb ho
     refine hK.out _ _ ⟨kO HM m1_, kL HM m3_⟩ (fun hHeld => ?_)
     clear hK K
     refine nO_ 95 ?_
     exact nP_ (hJ (fv, o0, gu) _ ⟨hfv, ho0, HM.out⟩)
   rintro ⟨fv, o0, gu⟩ wk ⟨hfv, ho0, HM4⟩
   clear HM hHeld; have HM := Aside0.mk HM4; clear HM4; dsimp only at HM hfv ho0
   have kgu := MS.c3 HM m0_
   refine nS_ ?_
   refine la_ 10 (mB 11 2047) HT_ (fun K hK => ?_)
   refine skip_ (w1 := ?_) (by rfl) rfl ?_ ?_
   rotate_left
   ·
    go_simp
    rfl
   refine hK.out _ _ ?_
   clear hK K
   refine dn_ HT_ ?_
   clear HT_ HW_
   unfold OnlyN
   replace HM := MS.po0 o0 HM
   generalize World.setCell _ _ _ = wk at HM ⊢
   clear hfv; have HO0 := Aside0.mk ho0; clear ho0
   replace HM := MS.sb HM (.cons_cons _ (.cons _ (.refl _))) (.refl _)
   go_upto_region 13 with fail
   have kgl := MS.c5 HM m3_
   go_upto_region 14 with (first | ((with_reducible refine gate_dst (N := 9) rfl ?_); refine bx_ 9 #[.int .i64 0, .int .i64 0, .int .i64 0, .int .i64 0, .int .i64 0, .int .i64 0, .int .i64 0, .int .i64 0, .int .i64 0, .int .i64 0] 77 ?_; intro gp hg wk hbox hb; replace HM := MS.md HM hg hbox hb; clear hg hbox hb; have kgp := MS.c10 HM m0_; replace kgl := MS.c5 HM m4_))
   have n_ : Aside0 (MS w [o0, cv] [(gp, .cells #[.int .i64 lx, .int .i64 sx, .int .i64 0, .int .i64 0, .int .i64 0, .int .i64 y, .int .i64 sy, .int .i64 0, .int .i64 0, .int .i64 0] 77 (0, 0)), (gu, o0.cells), (gc, cv.cells), (gr, zeroO), (gl, lC lx sx y sy c)] _) := ⟨MS.put10 [] HM.out (u0 := .int .i64 lx) (u1 := .int .i64 sx) (u2 := .int .i64 0) (u3 := .int .i64 0) (u4 := .int .i64 0) (u5 := .int .i64 y) (u6 := .int .i64 sy) (u7 := .int .i64 0) (u8 := .int .i64 0) (u9 := .int .i64 0)⟩; clear HM; have HM := n_; clear n_
   generalize World.setCell _ _ _ = wk at HM ⊢
   replace kgp := MS.c10 HM m0_; replace kgu := MS.c3 HM m1_; have kgc := MS.c3 HM m2_; have kgr := MS.c3 HM m3_; replace kgl := MS.c5 HM m4_
   go_wp2
   refine wp_loop_rounds 3 ?_
   by_cases S3_ : lx = x
   ·
    have S3 := Aside0.mk S3_; clear S3_
    have S4 : Aside0 (y ≠ x) := ⟨fun h => NE.out S2.out (S3.out.trans h.symm)⟩
    rw [rounds_succ]
    have i_ := idx0 lx sx y sy
    go_upto_region 17 with (first | ((with_reducible refine gate_dst (N := 11) rfl ?_); refine bx_ 11 #[.int .i64 0, .int .i64 0, .int .i64 0, .int .i64 0, .int .i64 0] 34 ?_; intro gw0 hg wk hbox hb; replace HM := MS.md HM hg hbox hb; clear hg hbox hb; have kgw0 := MS.c5 HM m0_))
    clear i_
    replace HM := MS.pl0 lx sx 0 0 0 HM
    generalize World.setCell _ _ _ = wk at HM ⊢
    have t1 : (lx == x) = true := beq_iff_eq.2 S3.out
    replace kgw0 := MS.c5 HM m0_; replace kgp := MS.c10 HM m1_; replace kgu := MS.c3 HM m2_; replace kgc := MS.c3 HM m3_; replace kgl := MS.c5 HM m5_
    go_upto_region 21 with fail
    clear t1
    replace HM := MS.sb HM (.refl _) (.cons _ (.cons_cons _ (.cons_cons _ (.cons_cons _ (.cons_cons _ (.cons_cons _ .slnil)))))); clear kgw0
    replace kgr := MS.c3 HM m3_
    go_wp2
    rw [rounds_succ]
    have i_ := idx1 lx sx y sy
    go_upto_region 17 with (first | ((with_reducible refine gate_dst (N := 11) rfl ?_); refine bx_ 11 #[.int .i64 0, .int .i64 0, .int .i64 0, .int .i64 0, .int .i64 0] 34 ?_; intro gw1 hg wk hbox hb; replace HM := MS.md HM hg hbox hb; clear hg hbox hb; have kgw1 := MS.c5 HM m0_))
    clear i_
    replace HM := MS.pl0 y sy 0 0 0 HM
    generalize World.setCell _ _ _ = wk at HM ⊢
    have t1 : (y == x) = false := beq_eq_false_iff_ne.2 S4.out
    replace kgw1 := MS.c5 HM m0_
    go_upto_region 18 with fail
    clear t1
    replace kgp := MS.c10 HM m1_
    go_upto_region 19 with (first | ((with_reducible refine gate_dst (N := 12) rfl ?_); refine bx_ 12 #[.int .i64 0, .int .i64 0, .int .i64 0, .int .i64 0, .int .i64 0] 34 ?_; intro gq1 hg wk hbox hb; replace HM := MS.md HM hg hbox hb; clear hg hbox hb; have kgq1 := MS.c5 HM m0_; replace kgp := MS.c10 HM m2_))
    replace HM := MS.pl0 lx sx 0 0 0 HM
    generalize World.setCell _ _ _ = wk at HM ⊢
    replace kgq1 := MS.c5 HM m0_; replace kgl := MS.c5 HM m6_
    go_upto_region 20 with fail
    replace HM := MS.pj0 (cs' := #[.int .i64 lx, .int .i64 sx, .int .i64 0, .int .i64 0, .int .i64 c]) 4 (.int .i64 c) HM rfl
    generalize World.setCell _ _ _ = wk at HM ⊢
    replace HM := MS.dr HM
    clear kgc kgl kgp kgq1 kgr kgu kgw1
    refine st_ 12 (fun w' => oR gu o0 w' ∧ w'.cell? ⟨gw1, 1, none⟩ = some (.int .i64 sy) ∧ w'.cell? ⟨gw1, 0, none⟩ = some (.int .i64 y) ∧ oR gc cv w' ∧ lR gq1 lx sx 0 0 c w') [11] ⟨kO HM m3_, MS.k HM m1_ 1 rfl, MS.k HM m1_ 0 rfl, kO HM m4_, kL HM m0_⟩ (fun hHeld => ?_)
    refine with_tabW assign_tab20 assign_bits20 (fun HT_ HW_ => ?_)
    generalize World.drew _ = wk at HM hHeld ⊢
    refine tV_ 0 123 (mB 12 1) HT_ HW_ hHeld ?_
    refine pV_ 1 124 (mB 12 3) HT_ ?_
    refine pV_ 2 125 (mB 12 7) HT_ ?_
    refine tV_ 3 126 (mB 12 15) HT_ HW_ hHeld ?_
    refine pV_ 4 127 (mB 12 31) HT_ ?_
    refine tV_ 5 128 (mB 12 63) HT_ HW_ hHeld ?_
    refine tV_ 7 130 (mB 12 191) HT_ HW_ hHeld ?_
    refine tV_ 8 131 (mB 12 447) HT_ HW_ hHeld ?_
    refine on_ 6 (some 129) (mB 12 511) HT_ (fun K hK => ?_)
    refine gs_ Try.func70 #[.int .i64 x, .int .i64 sy, .int .i64 y] ?_
    with_reducible refine sk_ (less_as SYB.out HL1.out) fun wk hb => ?_
    replace HM := MS.nx HM hb; clear hb
    refine hK.out _ _ ⟨kO HM m3_, MS.k HM m1_ 1 rfl, MS.k HM m1_ 0 rfl, kO HM m4_, kL HM m0_⟩ (fun hHeld => ?_)
    clear hK K
    refine nO_ 129 ?_
    refine on_ 9 (some 132) (mB 12 1023) HT_ (fun K hK => ?_)
    refine gs_ Try.func71 #[cv.val, lV lx sx 0 0 c] ?_
    with_reducible refine sk_ (bnd_as (MS.oc HM m1_) (MS.bel HM) HCV.out CF.out lx sx 0 0 c CB.out SXB.out ZB.out S1.out (BX.out S1.out) (fun h => absurd rfl h) HB2.out) fun wk hb => ?_
    replace HM := MS.nx HM hb; clear hb
    refine hK.out _ _ ⟨kO HM m3_, MS.k HM m1_ 1 rfl, MS.k HM m1_ 0 rfl, kO HM m4_, kL HM m0_⟩ (fun hHeld => ?_)
    clear hK K
    refine nO_ 132 ?_
    refine on_ 10 (some 133) (mB 12 2047) HT_ (fun K hK => ?_)
    refine gs_ Try.func19 #[o0.val, lV r11 r12 r13 r14 0, iV a2 b2] ?_
    with_reducible refine ok_ (guard_as (MS.oc HM m0_) (MS.bel HM) HO0.out GF0.out r11 r12 r13 r14 0 a2 b2 (R5.out S1.out S2.out S3.out)) fun o2 wk ho2 ho hb => ?_
    replace HM := MS.cl HM hb ho; clear hb ho
    refine hK.out _ _ ⟨kO HM m3_, MS.k HM m1_ 1 rfl, MS.k HM m1_ 0 rfl, kO HM m4_, kL HM m0_⟩ (fun hHeld => ?_)
    clear hK K
    refine nO_ 133 ?_
    have kgu := MS.c3 HM m3_
    refine la_ 11 (mB 12 4095) HT_ (fun K hK => ?_)
    refine skip_ (w1 := ?_) (by rfl) rfl ?_ ?_
    rotate_left
    ·
     go_simp
     rfl
    refine hK.out _ _ ?_
    clear hK K
    refine dn_ HT_ ?_
    clear HT_ HW_ hHeld
    replace HM := MS.po3 o2 HM
    generalize World.setCell _ _ _ = wk at HM ⊢
    have HO2 := Aside0.mk ho2; clear ho2
    replace HM := MS.sb HM (.cons_cons _ (.cons _ (.refl _))) (.refl _)
    replace HM := MS.sb HM (.refl _) (.cons _ (.cons _ (.cons_cons _ (.cons_cons _ (.cons_cons _ (.cons_cons _ (.cons_cons _ .slnil)))))))
    have kgp := MS.c10 HM m0_; replace kgu := MS.c3 HM m1_; have kgc := MS.c3 HM m2_; have kgr := MS.c3 HM m3_; have kgl := MS.c5 HM m4_
    go_wp2
    rw [rounds_succ]
    replace kgu := MS.c3 HM m1_; replace kgr := MS.c3 HM m3_
    go_wp2
    replace HM := MS.po3 o2 HM
    generalize World.setCell _ _ _ = wk at HM ⊢
    refine MS.rt HM m3_ ?_
    exact ⟨o2, rfl, HO2.out, HM.out.S.own _ m0_, HM.out.S.below⟩
   ·
    have S3 := Aside0.mk S3_; clear S3_
    rw [rounds_succ]
    have i_ := idx0 lx sx y sy
    go_upto_region 17 with (first | ((with_reducible refine gate_dst (N := 11) rfl ?_); refine bx_ 11 #[.int .i64 0, .int .i64 0, .int .i64 0, .int .i64 0, .int .i64 0] 34 ?_; intro gw0 hg wk hbox hb; replace HM := MS.md HM hg hbox hb; clear hg hbox hb; have kgw0 := MS.c5 HM m0_))
    clear i_
    replace HM := MS.pl0 lx sx 0 0 0 HM
    generalize World.setCell _ _ _ = wk at HM ⊢
    have t1 : (lx == x) = false := beq_eq_false_iff_ne.2 S3.out
    replace kgw0 := MS.c5 HM m0_
    go_upto_region 18 with fail
    clear t1
    replace kgp := MS.c10 HM m1_
    go_upto_region 19 with (first | ((with_reducible refine gate_dst (N := 12) rfl ?_); refine bx_ 12 #[.int .i64 0, .int .i64 0, .int .i64 0, .int .i64 0, .int .i64 0] 34 ?_; intro gq0 hg wk hbox hb; replace HM := MS.md HM hg hbox hb; clear hg hbox hb; have kgq0 := MS.c5 HM m0_; replace kgp := MS.c10 HM m2_))
    replace HM := MS.pl0 y sy 0 0 0 HM
    generalize World.setCell _ _ _ = wk at HM ⊢
    replace kgq0 := MS.c5 HM m0_; replace kgl := MS.c5 HM m6_
    go_upto_region 20 with fail
    replace HM := MS.pj0 (cs' := #[.int .i64 y, .int .i64 sy, .int .i64 0, .int .i64 0, .int .i64 c]) 4 (.int .i64 c) HM rfl
    generalize World.setCell _ _ _ = wk at HM ⊢
    replace HM := MS.dr HM
    clear kgc kgl kgp kgq0 kgr kgu kgw0
    refine st_ 12 (fun w' => oR gu o0 w' ∧ w'.cell? ⟨gw0, 1, none⟩ = some (.int .i64 sx) ∧ w'.cell? ⟨gw0, 0, none⟩ = some (.int .i64 lx) ∧ oR gc cv w' ∧ lR gq0 y sy 0 0 c w') [11] ⟨kO HM m3_, MS.k HM m1_ 1 rfl, MS.k HM m1_ 0 rfl, kO HM m4_, kL HM m0_⟩ (fun hHeld => ?_)
    refine with_tabW assign_tab20 assign_bits20 (fun HT_ HW_ => ?_)
    generalize World.drew _ = wk at HM hHeld ⊢
    refine tV_ 0 123 (mB 12 1) HT_ HW_ hHeld ?_
    refine pV_ 1 124 (mB 12 3) HT_ ?_
    refine pV_ 2 125 (mB 12 7) HT_ ?_
    refine tV_ 3 126 (mB 12 15) HT_ HW_ hHeld ?_
    refine pV_ 4 127 (mB 12 31) HT_ ?_
    refine tV_ 5 128 (mB 12 63) HT_ HW_ hHeld ?_
    refine tV_ 7 130 (mB 12 191) HT_ HW_ hHeld ?_
    refine tV_ 8 131 (mB 12 447) HT_ HW_ hHeld ?_
    refine on_ 6 (some 129) (mB 12 511) HT_ (fun K hK => ?_)
    refine gs_ Try.func70 #[.int .i64 x, .int .i64 sx, .int .i64 lx] ?_
    with_reducible refine sk_ (less_as SXB.out HL0.out) fun wk hb => ?_
    replace HM := MS.nx HM hb; clear hb
    refine hK.out _ _ ⟨kO HM m3_, MS.k HM m1_ 1 rfl, MS.k HM m1_ 0 rfl, kO HM m4_, kL HM m0_⟩ (fun hHeld => ?_)
    clear hK K
    refine nO_ 129 ?_
    refine on_ 9 (some 132) (mB 12 1023) HT_ (fun K hK => ?_)
    refine gs_ Try.func71 #[cv.val, lV y sy 0 0 c] ?_
    with_reducible refine sk_ (bnd_as (MS.oc HM m1_) (MS.bel HM) HCV.out CF.out y sy 0 0 c CB.out SYB.out ZB.out S2.out (BY.out S2.out) (fun h => absurd rfl h) HB1.out) fun wk hb => ?_
    replace HM := MS.nx HM hb; clear hb
    refine hK.out _ _ ⟨kO HM m3_, MS.k HM m1_ 1 rfl, MS.k HM m1_ 0 rfl, kO HM m4_, kL HM m0_⟩ (fun hHeld => ?_)
    clear hK K
    refine nO_ 132 ?_
    refine on_ 10 (some 133) (mB 12 2047) HT_ (fun K hK => ?_)
    refine gs_ Try.func19 #[o0.val, lV r01 r02 r03 r04 0, iV a1 b1] ?_
    with_reducible refine ok_ (guard_as (MS.oc HM m0_) (MS.bel HM) HO0.out GF0.out r01 r02 r03 r04 0 a1 b1 (HG1.out)) fun o1 wk ho1 ho hb => ?_
    replace HM := MS.cl HM hb ho; clear hb ho
    refine hK.out _ _ ⟨kO HM m3_, MS.k HM m1_ 1 rfl, MS.k HM m1_ 0 rfl, kO HM m4_, kL HM m0_⟩ (fun hHeld => ?_)
    clear hK K
    refine nO_ 133 ?_
    have kgu := MS.c3 HM m3_
    refine la_ 11 (mB 12 4095) HT_ (fun K hK => ?_)
    refine skip_ (w1 := ?_) (by rfl) rfl ?_ ?_
    rotate_left
    ·
     go_simp
     rfl
    refine hK.out _ _ ?_
    clear hK K
    refine dn_ HT_ ?_
    clear HT_ HW_ hHeld
    replace HM := MS.po3 o1 HM
    generalize World.setCell _ _ _ = wk at HM ⊢
    have HO1 := Aside0.mk ho1; clear ho1
    replace HM := MS.sb HM (.cons_cons _ (.cons _ (.refl _))) (.refl _)
    replace HM := MS.sb HM (.refl _) (.cons _ (.cons _ (.cons_cons _ (.cons_cons _ (.cons_cons _ (.cons_cons _ (.cons_cons _ .slnil)))))))
    have kgp := MS.c10 HM m0_; replace kgu := MS.c3 HM m1_; have kgc := MS.c3 HM m2_; have kgr := MS.c3 HM m3_; have kgl := MS.c5 HM m4_
    go_wp2
    by_cases S4_ : y = x
    ·
     have S4 := Aside0.mk S4_; clear S4_
     rw [rounds_succ]
     have i_ := idx1 lx sx y sy
     go_upto_region 17 with (first | ((with_reducible refine gate_dst (N := 11) rfl ?_); refine bx_ 11 #[.int .i64 0, .int .i64 0, .int .i64 0, .int .i64 0, .int .i64 0] 34 ?_; intro gw1 hg wk hbox hb; replace HM := MS.md HM hg hbox hb; clear hg hbox hb; have kgw1 := MS.c5 HM m0_))
     clear i_
     replace HM := MS.pl0 y sy 0 0 0 HM
     generalize World.setCell _ _ _ = wk at HM ⊢
     have t1 : (y == x) = true := beq_iff_eq.2 S4.out
     replace kgw1 := MS.c5 HM m0_; replace kgp := MS.c10 HM m1_; replace kgu := MS.c3 HM m2_; replace kgc := MS.c3 HM m3_; replace kgl := MS.c5 HM m5_
     go_upto_region 21 with fail
     clear t1
     replace HM := MS.sb HM (.refl _) (.cons _ (.cons_cons _ (.cons_cons _ (.cons_cons _ (.cons_cons _ (.cons_cons _ .slnil)))))); clear kgw1
     replace kgr := MS.c3 HM m3_
     go_wp2
     rw [rounds_succ]
     replace kgu := MS.c3 HM m1_; replace kgr := MS.c3 HM m3_
     go_wp2
     replace HM := MS.po3 o1 HM
     generalize World.setCell _ _ _ = wk at HM ⊢
     refine MS.rt HM m3_ ?_
     exact ⟨o1, rfl, (HO1.out.trans (R4.out S1.out S2.out S3.out S4.out)), HM.out.S.own _ m0_, HM.out.S.below⟩
    ·
     have S4 := Aside0.mk S4_; clear S4_
     rw [rounds_succ]
     have i_ := idx1 lx sx y sy
     go_upto_region 17 with (first | ((with_reducible refine gate_dst (N := 11) rfl ?_); refine bx_ 11 #[.int .i64 0, .int .i64 0, .int .i64 0, .int .i64 0, .int .i64 0] 34 ?_; intro gw1 hg wk hbox hb; replace HM := MS.md HM hg hbox hb; clear hg hbox hb; have kgw1 := MS.c5 HM m0_))
     clear i_
     replace HM := MS.pl0 y sy 0 0 0 HM
     generalize World.setCell _ _ _ = wk at HM ⊢
     have t1 : (y == x) = false := beq_eq_false_iff_ne.2 S4.out
     replace kgw1 := MS.c5 HM m0_
     go_upto_region 18 with fail
     clear t1
     replace kgp := MS.c10 HM m1_
     go_upto_region 19 with (first | ((with_reducible refine gate_dst (N := 12) rfl ?_); refine bx_ 12 #[.int .i64 0, .int .i64 0, .int .i64 0, .int .i64 0, .int .i64 0] 34 ?_; intro gq1 hg wk hbox hb; replace HM := MS.md HM hg hbox hb; clear hg hbox hb; have kgq1 := MS.c5 HM m0_; replace kgp := MS.c10 HM m2_))
     replace HM := MS.pl0 lx sx 0 0 0 HM
     generalize World.setCell _ _ _ = wk at HM ⊢
     replace kgq1 := MS.c5 HM m0_; replace kgl := MS.c5 HM m6_
     go_upto_region 20 with fail
     replace HM := MS.pj0 (cs' := #[.int .i64 lx, .int .i64 sx, .int .i64 0, .int .i64 0, .int .i64 c]) 4 (.int .i64 c) HM rfl
     generalize World.setCell _ _ _ = wk at HM ⊢
     replace HM := MS.dr HM
     clear kgc kgl kgp kgq1 kgr kgu kgw1
     refine st_ 12 (fun w' => oR gu o1 w' ∧ w'.cell? ⟨gw1, 1, none⟩ = some (.int .i64 sy) ∧ w'.cell? ⟨gw1, 0, none⟩ = some (.int .i64 y) ∧ oR gc cv w' ∧ lR gq1 lx sx 0 0 c w') [11] ⟨kO HM m3_, MS.k HM m1_ 1 rfl, MS.k HM m1_ 0 rfl, kO HM m4_, kL HM m0_⟩ (fun hHeld => ?_)
     refine with_tabW assign_tab20 assign_bits20 (fun HT_ HW_ => ?_)
     generalize World.drew _ = wk at HM hHeld ⊢
     refine tV_ 0 123 (mB 12 1) HT_ HW_ hHeld ?_
     refine pV_ 1 124 (mB 12 3) HT_ ?_
     refine pV_ 2 125 (mB 12 7) HT_ ?_
     refine tV_ 3 126 (mB 12 15) HT_ HW_ hHeld ?_
     refine pV_ 4 127 (mB 12 31) HT_ ?_
     refine tV_ 5 128 (mB 12 63) HT_ HW_ hHeld ?_
     refine tV_ 7 130 (mB 12 191) HT_ HW_ hHeld ?_
     refine tV_ 8 131 (mB 12 447) HT_ HW_ hHeld ?_
     refine on_ 6 (some 129) (mB 12 511) HT_ (fun K hK => ?_)
     refine gs_ Try.func70 #[.int .i64 x, .int .i64 sy, .int .i64 y] ?_
     with_reducible refine sk_ (less_as SYB.out HL1.out) fun wk hb => ?_
     replace HM := MS.nx HM hb; clear hb
     refine hK.out _ _ ⟨kO HM m3_, MS.k HM m1_ 1 rfl, MS.k HM m1_ 0 rfl, kO HM m4_, kL HM m0_⟩ (fun hHeld => ?_)
     clear hK K
     refine nO_ 129 ?_
     refine on_ 9 (some 132) (mB 12 1023) HT_ (fun K hK => ?_)
     refine gs_ Try.func71 #[cv.val, lV lx sx 0 0 c] ?_
     with_reducible refine sk_ (bnd_as (MS.oc HM m1_) (MS.bel HM) HCV.out CF.out lx sx 0 0 c CB.out SXB.out ZB.out S1.out (BX.out S1.out) (fun h => absurd rfl h) HB2.out) fun wk hb => ?_
     replace HM := MS.nx HM hb; clear hb
     refine hK.out _ _ ⟨kO HM m3_, MS.k HM m1_ 1 rfl, MS.k HM m1_ 0 rfl, kO HM m4_, kL HM m0_⟩ (fun hHeld => ?_)
     clear hK K
     refine nO_ 132 ?_
     refine on_ 10 (some 133) (mB 12 2047) HT_ (fun K hK => ?_)
     refine gs_ Try.func19 #[o1.val, lV r11 r12 r13 r14 0, iV a2 b2] ?_
     with_reducible refine ok_ (guard_as (MS.oc HM m0_) (MS.bel HM) HO1.out GF1.out r11 r12 r13 r14 0 a2 b2 (R3.out S1.out S2.out S3.out S4.out)) fun o2 wk ho2 ho hb => ?_
     replace HM := MS.cl HM hb ho; clear hb ho
     refine hK.out _ _ ⟨kO HM m3_, MS.k HM m1_ 1 rfl, MS.k HM m1_ 0 rfl, kO HM m4_, kL HM m0_⟩ (fun hHeld => ?_)
     clear hK K
     refine nO_ 133 ?_
     have kgu := MS.c3 HM m3_
     refine la_ 11 (mB 12 4095) HT_ (fun K hK => ?_)
     refine skip_ (w1 := ?_) (by rfl) rfl ?_ ?_
     rotate_left
     ·
      go_simp
      rfl
     refine hK.out _ _ ?_
     clear hK K
     refine dn_ HT_ ?_
     clear HT_ HW_ hHeld
     replace HM := MS.po3 o2 HM
     generalize World.setCell _ _ _ = wk at HM ⊢
     have HO2 := Aside0.mk ho2; clear ho2
     replace HM := MS.sb HM (.cons_cons _ (.cons _ (.refl _))) (.refl _)
     replace HM := MS.sb HM (.refl _) (.cons _ (.cons _ (.cons_cons _ (.cons_cons _ (.cons_cons _ (.cons_cons _ (.cons_cons _ .slnil)))))))
     have kgp := MS.c10 HM m0_; replace kgu := MS.c3 HM m1_; have kgc := MS.c3 HM m2_; have kgr := MS.c3 HM m3_; have kgl := MS.c5 HM m4_
     go_wp2
     rw [rounds_succ]
     replace kgu := MS.c3 HM m1_; replace kgr := MS.c3 HM m3_
     go_wp2
     replace HM := MS.po3 o2 HM
     generalize World.setCell _ _ _ = wk at HM ⊢
     refine MS.rt HM m3_ ?_
     exact ⟨o2, rfl, HO2.out, HM.out.S.own _ m0_, HM.out.S.below⟩
theorem assign_own (X : OV) (s lx sx y sy c : Int) {w0 w : World} (hX : Oc w0 w X) (h0 : Below w0.heap.size w0 w) (fx : OFit X.v X.m X.e) :
 Calls Try.prog 21 #[X.val, .int .i64 s, lV lx sx y sy c] w fun e W' => ∃ z : OV, e = .returned z.val ∧ z.o = assignF X.v X.m X.e s lx sx y sy c ∧ Own w W' z ∧ Below w.heap.size w W' := by
 have HX : Aside0 (Oc w w X) := ⟨⟨⟨hX.r0.le, .inl (hX.r0.reads h0)⟩, ⟨hX.r1.le, .inl (hX.r1.reads h0)⟩⟩⟩
 have FX_ := Aside0.mk fx
 have l8 := fx.1.1
 have LK : Aside0 (X.v.length ≤ 1000) := ⟨by omega⟩
 obtain ⟨cm, ce, hcl, cf⟩ := cl_ex fx
 cases ce with
 | true => rw [asgn_bot hcl]; exact asg_bot X s lx sx y sy c HX FX_ LK ⟨hcl⟩
 | false =>
  rcases placeF_cases X.v s with ⟨p, hp1, hp2, _, _⟩ | ⟨hp2, _⟩
  case inr => rw [asgn_no hcl (by omega)]; exact asg_no X s lx sx y sy c HX FX_ LK ⟨hcl⟩ ⟨rfl⟩ ⟨by omega⟩
  case inl =>
   obtain ⟨fm, fe, hfg, ff⟩ := fgt_ex cf s
   by_cases hof : ofB X.v lx sx y sy c = false
   ·
    rw [asgn_not hcl (by omega) hof, hfg]
    exact asg_not X s lx sx y sy c HX FX_ LK ⟨hcl⟩ ⟨hp2⟩ ⟨cf⟩ ⟨hfg⟩ ⟨hof⟩
   ·
    have hof' : ofB X.v lx sx y sy c = true := by simpa using hof
    rw [asgn_of hcl (by omega) hof']
    obtain ⟨C, gm0, gm1, ge0, ge1, a, b, a0, b0, a1, b1, a2, b2, r01, r02, r03, r04, r11, r12, r13, r14, g⟩ := asgF_ways (s := s) (lx := lx) (sx := sx) (y := y) (sy := sy) (c := c) fx hcl cf hp2 hfg ff hof'
    exact asg_gen X s lx sx y sy c HX FX_ LK ⟨hcl⟩ ⟨hp2⟩ ⟨cf⟩ ⟨hfg⟩ ⟨hof'⟩ ⟨ff⟩ ⟨g.cb⟩ ⟨g.sxb⟩ ⟨g.syb⟩ ⟨by decide⟩ ⟨g.ne⟩ ⟨g.px⟩ ⟨g.py⟩ ⟨l8⟩ ⟨by omega⟩ ⟨fit_of_snd fx.1 (movM_snd g.sc)⟩ ⟨by rw [g.hcm]⟩ ⟨g.sc⟩ ⟨g.it⟩ ⟨g.e0⟩ ⟨g.e1⟩ ⟨g.e2⟩ ⟨g.l0⟩ ⟨g.l1⟩ ⟨g.g0⟩ ⟨g.f0⟩ ⟨g.g1⟩ ⟨g.f1⟩ ⟨g.r0⟩ ⟨g.r1⟩ ⟨g.r2⟩ ⟨g.r3⟩ ⟨g.r4⟩ ⟨g.r5⟩
theorem assign_as {w W : World} {x : OV} {v m : List Int} {e : Bool} {a : Tri} (hx : Oc w W x) (hb : Below w.heap.size w W) (ho : x.o = (v, m, e)) (fx : OFit v m e) (s lx sx y sy c : Int) (ha : assignF v m e s lx sx y sy c = a) :
 Calls Try.prog 21 #[x.val, .int .i64 s, lV lx sx y sy c] W fun e W' => ∃ z : OV, e = .returned z.val ∧ z.o = a ∧ Own W W' z ∧ Below W.heap.size W W' := by
 obtain ⟨P, p, Q, q, v', m', e'⟩ := x
 cases ho
 rw [← ha]; exact assign_own _ s lx sx y sy c hx hb fx
def rbnd2_T11 : Bool × List (List Nat × List Nat) := (true, [([], []), ([0], [0]), ([1], [1]), ([], []), ([3], [3]), ([4], [4]), ([0, 1, 2], []), ([6, 2, 0, 1, 2], [2, 6]), ([0, 1, 2, 3, 4, 5, 6, 7], []), ([8, 5, 7, 0, 1, 2, 3, 4, 5, 6, 7], [5, 8])])
def rbnd2_B11 : List Nat := [0, 1, 3, 0, 8, 24, 7, 71, 255, 511]
theorem rbnd2_tab11 : rtab .any (opsOf Try.f50 11) = rbnd2_T11 := by kernel_rfl
theorem rbnd2_bits11 : waitsOk rbnd2_T11.2 rbnd2_B11 = true := by kernel_rfl
theorem rbnd2_in (X : OV) (lx sx y sy c : Int) {cm : List Int} {w : World} (HX : Aside0 (Oc w w X)) (FX_ : Aside0 (OFit X.v X.m X.e)) (LK : Aside0 (X.v.length ≤ 1000)) {px py sx' sy' g1 g2 lo hi : Int} {K : Nat} (HC : Aside0 (closeF X.v X.m X.e = (X.v, cm, false))) (HPX : Aside0 (placeF X.v lx = px)) (HPY : Aside0 (placeF X.v y = py)) (TSX : Aside0 ((sx != 0) = true)) (TPX : Aside0 (decide (px < 0) = false)) (TPY : Aside0 (sy ≠ 0 → decide (py < 0) = false)) (WN : Aside0 (IntKind.i64.wrap (-sx) = sx' ∧ wrap64 (-sx) = sx' ∧ IntKind.i64.wrap (-sy) = sy' ∧ wrap64 (-sy) = sy'))
 (HG1 : Aside0 (gimbalref11_greatest.f K X.v cm false lx sx y sy c = some g1)) (HG2 : Aside0 (gimbalref11_greatest.f K X.v cm false lx sx' y sy' c = some g2)) (EH : Aside0 (g1 = 4611686018427387904 → 4611686018427387904 = hi)) (WH : Aside0 (g1 ≠ 4611686018427387904 → IntKind.i64.wrap (g1 + c) = hi ∧ wrap64 (g1 + c) = hi)) (EL : Aside0 (g2 = 4611686018427387904 → (-4611686018427387904) = lo)) (WL : Aside0 (g2 ≠ 4611686018427387904 → IntKind.i64.wrap (c - g2) = lo ∧ wrap64 (c - g2) = lo)) :
 Says 50 #[X.val, lV lx sx y sy c] w (iV lo hi) := by
 have hu25 := Try.underlying25
 have hu34 := Try.underlying34
 have hu36 := Try.underlying36
 go_enter Try.func50, Try.ntmps50
 go_upto_region 1 with fail
 have HM := MS.n3 w X.cells (lC lx sx y sy c) (iC 0 0)
 generalize World.alloc _ _ = wk at HM ⊢
 generalize w.heap.size + 2 = gr at HM ⊢
 generalize w.heap.size + 1 = gl at HM ⊢
 generalize w.heap.size = go at HM ⊢
 have kgo := MS.c3 HM m2_
 go_upto_region 2 with (first | (go_at_call 38; (with_reducible refine (rclose_as (Oc.now HX (MS.bel HM)) (Below.refl _ _) rfl FX_.out HC.out).mono ?_); rintro e wk ⟨cv, rfl, hcv, ho, hb⟩; replace HM := MS.cl HM hb ho; clear ho hb; replace kgo := MS.c3 HM m2_) | ((with_reducible refine gate_dst (N := 5) rfl ?_); refine bx_ 5 #[.slice none 0 0, .slice none 0 0, .bool false] 25 ?_; intro gc hg wk hbox hb; replace HM := MS.md HM hg hbox hb; clear hg hbox hb; have kgc := MS.c3 HM m0_; replace kgo := MS.c3 HM m3_))
 replace HM := MS.sb HM (.refl _) (.cons_cons _ (.cons_cons _ (.cons_cons _ (.cons _ .slnil)))); clear kgo
 replace HM := MS.po0 cv HM
 generalize World.setCell _ _ _ = wk at HM ⊢
 have HCV := Aside0.mk hcv; clear hcv
 have hem : cv.e = false := congrArg (·.2.2) HCV.out
 replace kgc := MS.c3 HM m0_; have kgr := MS.c2 HM m1_
 go_upto_region 4 with fail
 clear hem
 (try simp only [Act.put, List.setIfInBounds_toArray, List.set_cons_zero, List.set_cons_succ])
 go_cut [36] from 10 (fun v36 wc => v36 = .bool false ∧ Aside0 (MS w [cv] [(gc, cv.cells), (gr, iC 0 0), (gl, lC lx sx y sy c)] wc))
 case first =>
  have t1 := TSX.out; have t2 := TPX.out
  by_cases S_ : sy = 0
  ·
   have S := Aside0.mk S_; clear S_
   have t3 : (sy != 0) = false := bne_eq_false_iff_eq.2 S.out
   have kgl := MS.c5 HM m2_
   go_wp2_with (first | (go_at_call 28; (with_reducible refine (rplace_as (MS.oc HM m0_) (MS.bel HM) HCV.out LK.out lx HPX.out).mono ?_); rintro e wk ⟨rfl, hb⟩; replace HM := MS.nx HM hb; clear hb; replace kgc := MS.c3 HM m0_; replace kgr := MS.c2 HM m1_; replace kgl := MS.c5 HM m2_))
   go_meet
   case rel => exact ⟨rfl, HM⟩
  ·
   have S := Aside0.mk S_; clear S_
   have t3 : (sy != 0) = true := bne_iff_ne.2 S.out; have t4 := TPY.out S.out
   have kgl := MS.c5 HM m2_
   go_wp2_with (first | (go_at_call 28; (with_reducible refine (rplace_as (MS.oc HM m0_) (MS.bel HM) HCV.out LK.out lx HPX.out).mono ?_); rintro e wk ⟨rfl, hb⟩; replace HM := MS.nx HM hb; clear hb; replace kgc := MS.c3 HM m0_; replace kgr := MS.c2 HM m1_; replace kgl := MS.c5 HM m2_) | (go_at_call 28; (with_reducible refine (rplace_as (MS.oc HM m0_) (MS.bel HM) HCV.out LK.out y HPY.out).mono ?_); rintro e wk ⟨rfl, hb⟩; replace HM := MS.nx HM hb; clear hb; replace kgc := MS.c3 HM m0_; replace kgr := MS.c2 HM m1_; replace kgl := MS.c5 HM m2_))
   go_meet
   case rel => exact ⟨rfl, HM⟩
 case rest =>
  clear HM; clear kgc kgr
  obtain ⟨rfl, HM⟩ := hcut
  have kgc := MS.c3 HM m0_; have kgr := MS.c2 HM m1_; have kgl := MS.c5 HM m2_
  go_upto_region 7 with (first | ((with_reducible refine gate_dst (N := 6) rfl ?_); refine bx_ 6 #[.int .i64 0, .int .i64 0] 36 ?_; intro gi hg wk hbox hb; replace HM := MS.md HM hg hbox hb; clear hg hbox hb; have kgi := MS.c2 HM m0_; replace kgc := MS.c3 HM m1_; replace kgr := MS.c2 HM m2_; replace kgl := MS.c5 HM m3_))
  replace HM := MS.pi0 (-4611686018427387904) 4611686018427387904 HM
  generalize World.setCell _ _ _ = wk at HM ⊢
  replace kgi := MS.c2 HM m0_; replace kgc := MS.c3 HM m1_; replace kgr := MS.c2 HM m2_; replace kgl := MS.c5 HM m3_
  go_upto_if 43 with (first | (go_at_call 91; (with_reducible refine (rgreatest_as (MS.oc HM m0_) (MS.bel HM) HCV.out HG1.out).mono ?_); rintro e wk ⟨rfl, hb⟩; replace HM := MS.nx HM hb; clear hb; replace kgi := MS.c2 HM m0_; replace kgc := MS.c3 HM m1_; replace kgr := MS.c2 HM m2_; replace kgl := MS.c5 HM m3_))
  (try simp only [Act.put, List.setIfInBounds_toArray, List.set_cons_zero, List.set_cons_succ])
  go_cut [] from 10 (fun wc => Aside0 (MS w [cv] [(gi, iC (-4611686018427387904) hi), (gc, cv.cells), (gr, iC 0 0), (gl, lC lx sx y sy c)] wc))
  case first =>
   by_cases S_ : g1 = 4611686018427387904
   ·
    have S := Aside0.mk S_; clear S_
    have t1 : (g1 != 4611686018427387904) = false := bne_eq_false_iff_eq.2 S.out
    replace kgi := MS.c2 HM m0_; replace kgc := MS.c3 HM m1_; replace kgr := MS.c2 HM m2_; replace kgl := MS.c5 HM m3_
    go_wp2
    go_meet
    case rel => exact EH.out S.out ▸ HM
   ·
    have S := Aside0.mk S_; clear S_
    have t1 : (g1 != 4611686018427387904) = true := bne_iff_ne.2 S.out; obtain ⟨s1, s1'⟩ := WH.out S.out
    replace kgi := MS.c2 HM m0_; replace kgc := MS.c3 HM m1_; replace kgr := MS.c2 HM m2_; replace kgl := MS.c5 HM m3_
    go_wp2
    clear t1 s1 s1'
    replace HM := MS.pj0 (cs' := #[.int .i64 (-4611686018427387904), .int .i64 hi]) 1 (.int .i64 hi) HM rfl
    generalize World.setCell _ _ _ = wk at HM ⊢
    go_meet
    case rel => exact HM
  case rest =>
   clear HM; clear kgc kgi kgl kgr
   have HM := hcut; clear hcut
   have kgi := MS.c2 HM m0_; have kgc := MS.c3 HM m1_; have kgl := MS.c5 HM m3_
   go_upto_region 11 with (first | ((with_reducible refine gate_dst (N := 8) rfl ?_); refine bx_ 8 #[.int .i64 0, .int .i64 0, .int .i64 0, .int .i64 0, .int .i64 0] 34 ?_; intro gm hg wk hbox hb; replace HM := MS.md HM hg hbox hb; clear hg hbox hb; have kgm := MS.c5 HM m0_; replace kgi := MS.c2 HM m1_; replace kgc := MS.c3 HM m2_; replace kgl := MS.c5 HM m4_))
   replace HM := MS.pl0 lx sx y sy c HM
   generalize World.setCell _ _ _ = wk at HM ⊢
   obtain ⟨wx, wx', wy, wy'⟩ := WN.out
   replace HM := MS.dr HM
   clear kgc kgi kgl kgm
   refine st_ 10 (fun w' => w'.cell? ⟨gl, 1, none⟩ = some (.int .i64 sx) ∧ w'.cell? ⟨gl, 3, none⟩ = some (.int .i64 sy)) [] ⟨MS.k HM m4_ 1 rfl, MS.k HM m4_ 3 rfl⟩ (fun hHeld => ?_)
   refine with_tabW rbnd2_tab11 rbnd2_bits11 (fun HT_ HW_ => ?_)
   generalize World.drew _ = wk at HM hHeld ⊢
   refine pV_ 0 50 (mB 10 1) HT_ ?_
   refine tV_ 1 51 (mB 10 3) HT_ HW_ hHeld ?_
   refine pV_ 2 52 (mB 10 7) HT_ ?_
   refine pV_ 3 53 (mB 10 15) HT_ ?_
   refine tV_ 4 54 (mB 10 31) HT_ HW_ hHeld ?_
   refine pV_ 5 55 (mB 10 63) HT_ ?_
   refine pV_ 6 56 (mB 10 127) HT_ ?_
   refine on_ 7 none (mB 10 255) HT_ (fun K hK => ?_)
   have kgm := MS.c5 HM m0_
   refine skip_ (w1 := ?_) (by rfl) rfl ?_ ?_
   rotate_left
   ·
    go_simp
    rfl
   replace HM := MS.pj0 (cs' := #[.int .i64 lx, .int .i64 sx', .int .i64 y, .int .i64 sy, .int .i64 c]) 1 (.int .i64 sx') HM rfl
   clear kgm
   refine hK.out _ _ ⟨MS.k HM m4_ 1 rfl, MS.k HM m4_ 3 rfl⟩ (fun hHeld => ?_)
   clear hK K
   generalize World.setCell _ _ _ = wk at HM hHeld ⊢
   refine pV_ 8 57 (mB 10 511) HT_ ?_
   refine on_ 9 none (mB 10 1023) HT_ (fun K hK => ?_)
   have kgm := MS.c5 HM m0_
   refine skip_ (w1 := ?_) (by rfl) rfl ?_ ?_
   rotate_left
   ·
    go_simp
    rfl
   replace HM := MS.pj0 (cs' := #[.int .i64 lx, .int .i64 sx', .int .i64 y, .int .i64 sy', .int .i64 c]) 3 (.int .i64 sy') HM rfl
   clear kgm
   refine hK.out _ _ ⟨MS.k HM m4_ 1 rfl, MS.k HM m4_ 3 rfl⟩ (fun hHeld => ?_)
   clear hK K
   generalize World.setCell _ _ _ = wk at HM hHeld ⊢
   refine dn_ HT_ ?_
   clear HT_ HW_ hHeld
   clear wx wx' wy wy'
   have kgm := MS.c5 HM m0_; have kgi := MS.c2 HM m1_; have kgc := MS.c3 HM m2_; have kgr := MS.c2 HM m3_; have kgl := MS.c5 HM m4_
   go_upto_if 62 with (first | (go_at_call 91; (with_reducible refine (rgreatest_as (MS.oc HM m0_) (MS.bel HM) HCV.out HG2.out).mono ?_); rintro e wk ⟨rfl, hb⟩; replace HM := MS.nx HM hb; clear hb; replace kgm := MS.c5 HM m0_; replace kgi := MS.c2 HM m1_; replace kgc := MS.c3 HM m2_; replace kgr := MS.c2 HM m3_; replace kgl := MS.c5 HM m4_))
   (try simp only [Act.put, List.setIfInBounds_toArray, List.set_cons_zero, List.set_cons_succ])
   go_cut [] from 10 (fun wc => Aside0 (MS w [cv] [(gm, lC lx sx' y sy' c), (gi, iC lo hi), (gc, cv.cells), (gr, iC 0 0), (gl, lC lx sx y sy c)] wc))
   case first =>
    by_cases S_ : g2 = 4611686018427387904
    ·
     have S := Aside0.mk S_; clear S_
     have t1 : (g2 != 4611686018427387904) = false := bne_eq_false_iff_eq.2 S.out
     replace kgm := MS.c5 HM m0_; replace kgi := MS.c2 HM m1_; replace kgc := MS.c3 HM m2_; replace kgr := MS.c2 HM m3_; replace kgl := MS.c5 HM m4_
     go_wp2
     go_meet
     case rel => exact EL.out S.out ▸ HM
    ·
     have S := Aside0.mk S_; clear S_
     have t1 : (g2 != 4611686018427387904) = true := bne_iff_ne.2 S.out; obtain ⟨s1, s1'⟩ := WL.out S.out
     replace kgm := MS.c5 HM m0_; replace kgi := MS.c2 HM m1_; replace kgc := MS.c3 HM m2_; replace kgr := MS.c2 HM m3_; replace kgl := MS.c5 HM m4_
     go_wp2
     clear t1 s1 s1'
     replace HM := MS.pj1 (cs' := #[.int .i64 lo, .int .i64 hi]) 0 (.int .i64 lo) HM rfl
     generalize World.setCell _ _ _ = wk at HM ⊢
     go_meet
     case rel => exact HM
   case rest =>
    clear HM; clear kgc kgi kgl kgm kgr
    have HM := hcut; clear hcut
    have kgm := MS.c5 HM m0_; have kgi := MS.c2 HM m1_; have kgc := MS.c3 HM m2_; have kgr := MS.c2 HM m3_; have kgl := MS.c5 HM m4_
    go_wp2
    replace HM := MS.pi3 lo hi HM
    generalize World.setCell _ _ _ = wk at HM ⊢
    refine MS.rt HM m3_ ?_
    exact ⟨rfl, HM.out.S.below⟩
end Go.Proofs.Ytphfchbggechhaa.QO
end
end
section
noncomputable section
namespace Go.Proofs.Ytphfchbggechhaa.QO
open Go.RowKit Go.Shelf YtphfchbggechhaaW.PrintWords YtphfchbggechhaaW.PrintLast YtphfchbggechhaaW.PrintMore
open Ytphfchbggechhaa.Pure
set_option linter.unusedVariables false
theorem close_is {v m : List Int} {e : Bool} {t : Tri} (h : OFit v m e) (K : Nat) (hk : gimbalref11_Close.f K v m e = some t) : closeF v m e = t := by
 obtain ⟨L, hL⟩ := close_ev h
 have g := Octs.grow (g := fun k => gimbalref11_Close.f k v m e) (gimbalref11_Close.mono _ _ _) hk (K + L) (by omega)
 exact Option.some.inj ((hL (K + L) (by omega)).symm.trans g)
def mat (n : Nat) (l : List Int) : Mx := fun i j => rd l ((i * n + j : Nat) : Int)
theorem mat_of {v m : List Int} {e : Bool} {l : List Int} (h : OFit v m e) (hc : closeF v m e = (v, l, false)) (i j : Nat) (hi : i < 2 * v.length) (hj : j < 2 * v.length) : closeM (2 * v.length) (lowM v.length m) i j = mat (2 * v.length) l i j := by
 rcases close_cases h with ⟨h1, _⟩ | ⟨_, _, h1⟩
 ·
  rw [h1] at hc; cases hc
 ·
  rw [h1] at hc
  have e2 : lst (2 * v.length) (closeM (2 * v.length) (lowM v.length m)) = l := congrArg (·.2.1) hc
  unfold mat
  rw [← e2]; exact (rd_lst hi hj).symm
theorem upM_ext {n : Nat} {A B : Mx} {a b : Nat} {h : Int} (e : ∀ i j, i < n → j < n → A i j = B i j) : ∀ i j, i < n → j < n → upM A a b h i j = upM B a b h i j := fun i j hi hj => by
 unfold upM; rw [e i j hi hj]
theorem upC_extA {n p q : Nat} {A B : Mx} {sx sy h : Int} (e : ∀ i j, i < n → j < n → A i j = B i j) : ∀ i j, i < n → j < n → upC A p sx q sy h i j = upC B p sx q sy h i j := by
 unfold upC
 split
 ·
  exact e
 ·
  split <;> exact upM_ext e
theorem guard_is {v m : List Int} {e : Bool} {l l2 : List Int} {x sx y sy c lo hi a b : Int} {t : Tri} (h : OFit v m e) (hc : closeF v m e = (v, l, false)) (hof : ofB v x sx y sy c = true) (hi_ : itvOf lo hi = (a, b)) (hab : a ≤ b) (hs : sx ≠ 0)
 (hl : lst (2 * v.length) (upC (upC (mat (2 * v.length) l) (placeF v x).toNat sx (placeF v y).toNat sy (bupF b (-c))) (placeF v x).toNat (-sx) (placeF v y).toNat (-sy) (bupF (bnegF a) c)) = l2) (ht : closeF v l2 false = t) : guardF v m e x sx y sy c lo hi = t := by
 unfold guardF
 rw [if_neg (by rw [hc, hof]; simp), hi_]
 dsimp only
 rw [if_neg (fun q => q.elim (fun q => by omega) (fun q => hs q.1)), if_neg hs, lst_ext (upC_extA (upC_extA (mat_of h hc))), hl]
 exact ht
def w0 : List Int := [0, 4611686018427387904, 4611686018427387904, 4611686018427387904, 4611686018427387904, 0, 4611686018427387904, 4611686018427387904, 4611686018427387904, 4611686018427387904, 0, 4611686018427387904, 4611686018427387904, 4611686018427387904, 4611686018427387904, 0]
def w1 : List Int := [0, 0, 4611686018427387904, 4611686018427387904, 10, 0, 4611686018427387904, 4611686018427387904, 4611686018427387904, 4611686018427387904, 0, 4611686018427387904, 4611686018427387904, 4611686018427387904, 4611686018427387904, 0]
def w2' : List Int := [0, 0, 2, 4611686018427387904, 10, 0, 4611686018427387904, 0, 0, 4611686018427387904, 0, 4611686018427387904, 4611686018427387904, 2, 4611686018427387904, 0]
def w2 : List Int := [0, 0, 2, 0, 10, 0, 12, 0, 0, 0, 0, 0, 12, 2, 14, 0]
def w3' : List Int := [0, 0, 2, -9, 10, 0, 12, 0, 0, -9, 0, 0, 12, 2, 14, 0]
def w3 : List Int := [0, -8, 2, -9, 10, 0, 12, 0, 0, -9, 0, -10, 12, 2, 14, 0]
def w4 : List Int := [0, -14, -1, -12, 16, 0, 15, 3, 3, -12, 0, -10, 15, -1, 14, 0]
theorem v01 : VarsOk [0, 1] := ⟨by decide, fun i h0 h1 => by
 have : i = 0 ∨ i = 1 := by simp at h1; omega
 rcases this with rfl | rfl
 ·
  exact ⟨by decide, fun h => absurd h (by decide)⟩
 ·
  exact ⟨by decide, fun h => by decide⟩⟩
theorem f0 : OFit [0, 1] w0 false := by
 have s : Snd (2 * ([0, 1] : List Int).length) (fun i j => if i = j then 0 else 4611686018427387904) := by
  refine ⟨⟨2, rfl, by decide⟩, fun i j hi hj => ?_, fun i j hi hj => ?_, fun i hi => by simp⟩
  ·
   by_cases e : i = j
   ·
    simp only [e, if_true]; exact .inr (by decide)
   ·
    simp only [e, if_false]; exact .inl rfl
  ·
   by_cases e : i = j
   ·
    simp [e]
   ·
    have : nb j ≠ nb i := fun q => e (nb_eq.1 q).symm
    simp [e, this]
 have h := fit_of_snd v01 s
 have e : lst (2 * ([0, 1] : List Int).length) (fun i j => if i = j then 0 else 4611686018427387904) = w0 := by decide +kernel
 rw [e] at h; exact h
theorem fit_next {v m l : List Int} {x sx y sy c lo hi : Int} (h : OFit v m false) (hg : guardF v m false x sx y sy c lo hi = (v, l, false)) : OFit v l false := by
 obtain ⟨a, b, e, f⟩ := grd_ex h x sx y sy c lo hi
 rw [hg] at e
 cases e; exact f
theorem c0 : closeF [0, 1] w0 false = ([0, 1], w0, false) := close_is f0 900 (by decide +kernel)
theorem g1 : guardF [0, 1] w0 false 0 1 0 0 0 0 5 = ([0, 1], w1, false) := by
 have hf : OFit [0, 1] w1 false := by
  have := (upC_snd (p := 0) (sx := -1) (q := 0) (sy := -0) (hi := bupF (bnegF 0) 0) (upC_snd (p := 0) (sx := 1) (q := 0) (sy := 0) (hi := bupF 5 (-0)) (snd_of_fit f0)))
  have h := fit_of_snd v01 this
  have e : lst (2 * ([0, 1] : List Int).length) (upC (upC (lowM ([0, 1] : List Int).length w0) 0 1 0 0 (bupF 5 (-0))) 0 (-1) 0 (-0) (bupF (bnegF 0) 0)) = w1 := by decide +kernel
  rw [e] at h; exact h
 exact guard_is f0 c0 (by decide +kernel) (show itvOf 0 5 = (0, 5) by decide +kernel) (by decide) (by decide) (show _ = w1 by decide +kernel) (close_is hf 900 (by decide +kernel))
theorem f1 : OFit [0, 1] w1 false := fit_next f0 g1
theorem c1 : closeF [0, 1] w1 false = ([0, 1], w1, false) := close_is f1 900 (by decide +kernel)
theorem g2 : guardF [0, 1] w1 false 0 (-1) 1 1 0 0 2 = ([0, 1], w2, false) := by
 have hf : OFit [0, 1] w2' false := by
  have := (upC_snd (p := 0) (sx := 1) (q := 1) (sy := -1) (hi := bupF (bnegF 0) 0) (upC_snd (p := 0) (sx := -1) (q := 1) (sy := 1) (hi := bupF 2 (-0)) (snd_of_fit f1)))
  have h := fit_of_snd v01 this
  have e : lst (2 * ([0, 1] : List Int).length) (upC (upC (lowM ([0, 1] : List Int).length w1) 0 (-1) 1 1 (bupF 2 (-0))) 0 1 1 (-1) (bupF (bnegF 0) 0)) = w2' := by decide +kernel
  rw [e] at h; exact h
 exact guard_is f1 c1 (by decide +kernel) (show itvOf 0 2 = (0, 2) by decide +kernel) (by decide) (by decide) (show _ = w2' by decide +kernel) (close_is hf 900 (by decide +kernel))
theorem f2 : OFit [0, 1] w2 false := fit_next f1 g2
theorem c2 : closeF [0, 1] w2 false = ([0, 1], w2, false) := close_is f2 900 (by decide +kernel)
theorem g3 : guardF [0, 1] w2 false 0 1 1 1 0 9 4611686018427387904 = ([0, 1], w3, false) := by
 have hf : OFit [0, 1] w3' false := by
  have := (upC_snd (p := 0) (sx := -1) (q := 1) (sy := -1) (hi := bupF (bnegF 9) 0) (upC_snd (p := 0) (sx := 1) (q := 1) (sy := 1) (hi := bupF 4611686018427387904 (-0)) (snd_of_fit f2)))
  have h := fit_of_snd v01 this
  have e : lst (2 * ([0, 1] : List Int).length) (upC (upC (lowM ([0, 1] : List Int).length w2) 0 1 1 1 (bupF 4611686018427387904 (-0))) 0 (-1) 1 (-1) (bupF (bnegF 9) 0)) = w3' := by decide +kernel
  rw [e] at h; exact h
 exact guard_is f2 c2 (by decide +kernel) (show itvOf 9 4611686018427387904 = (9, 4611686018427387904) by decide +kernel) (by decide) (by decide) (show _ = w3' by decide +kernel) (close_is hf 900 (by decide +kernel))
theorem f3 : OFit [0, 1] w3 false := fit_next f2 g3
theorem c3 : closeF [0, 1] w3 false = ([0, 1], w3, false) := close_is f3 900 (by decide +kernel)
theorem f4 : OFit [0, 1] w4 false := by
 have h := fit_of_snd (vars := [0, 1]) v01 (movM_snd (k := 0) (s := 1) (d := 3) (snd_of_fit f3))
 have e : lst (2 * ([0, 1] : List Int).length) (movM (lowM ([0, 1] : List Int).length w3) 1 0 3) = w4 := by decide +kernel
 rw [e] at h; exact h
theorem m3 : lst (2 * ([0, 1] : List Int).length) (mat 4 w3) = w3 := by decide +kernel
theorem m4 : lst (2 * ([0, 1] : List Int).length) (movM (mat 4 w3) 1 0 3) = w4 := by decide +kernel
theorem c4 : closeF [0, 1] w4 false = ([0, 1], w4, false) := close_is f4 900 (by decide +kernel)
theorem top01 : gimbalref11_Top.f 100 [0, 1] = some ([0, 1], w0, false) := by
 have h : gimbalref11_VarsFit.f [0, 1] = some true := by unfold gimbalref11_VarsFit.f; rw [varsB_true.2 v01]
 unfold gimbalref11_Top.f
 rw [h, bsome, if_pos rfl]
 decide +kernel
theorem C_two {W : World} {g : Nat} {a b : Int} (h : W.heap[g]? = some (.cells #[.int .i64 a, .int .i64 b] 3 (0, 0))) : Kd.C (Kd.int .i64) W (some ⟨g, 0, none⟩) 2 [a, b] := by
 refine ⟨rfl, by decide, fun _ => ⟨_, rfl, fun j p hp => ?_⟩⟩
 match j, hp with
 | 0, hp =>
  obtain rfl : a = p := Option.some.inj hp
  refine ⟨[.int .i64 a], rfl, rfl, fun i u hu => ?_⟩
  match i, hu with
  | 0, hu =>
   obtain rfl : Value.int .i64 a = u := Option.some.inj hu
   exact blk_cell h 0
 | 1, hp =>
  obtain rfl : b = p := Option.some.inj hp
  refine ⟨[.int .i64 b], rfl, rfl, fun i u hu => ?_⟩
  match i, hu with
  | 0, hu =>
   obtain rfl : Value.int .i64 b = u := Option.some.inj hu
   exact blk_cell h 1
section
variable {w W : World} {x : OV}
theorem top_own {g : Nat} (h : W.heap[g]? = some (.cells #[.int .i64 0, .int .i64 1] 3 (0, 0))) :
 Calls Try.prog 48 #[.slice (some ⟨g, 0, none⟩) 2 2] W fun e W' => ∃ z : OV, e = .returned z.val ∧ z.o = ([0, 1], w0, false) ∧ Own W W' z ∧ Below W.heap.size W W' :=
 of_calls2 (a := ([0, 1], w0, false)) (gimbalref11_Top.calls 100 (some ⟨g, 0, none⟩) 2 [0, 1] _ _ _ W (C_two h) (by decide) top01)
theorem one_as (a : Int) : Says 49 #[.int .i64 a] W (.agg #[.int .i64 a, .int .i64 1, .int .i64 0, .int .i64 0, .int .i64 0]) := gimballaw12_one.calls a a 1 0 0 0 W rfl
theorem rb_of {l : List Int} {a g1 g2 : Int} {p : Nat} (hx : Oc w W x) (hb : Below w.heap.size w W) (ho : x.o = ([0, 1], l, false)) (f : OFit [0, 1] l false) (c : closeF [0, 1] l false = ([0, 1], l, false)) (hp : placeF [0, 1] a = (p : Int)) (h1 : gimbalref11_greatest.f 50 [0, 1] l false a 1 0 0 0 = some g1) (h2 : gimbalref11_greatest.f 50 [0, 1] l false a (-1) 0 0 0 = some g2) (b1 : -100 ≤ g1 ∧ g1 ≤ 100) (b2 : -100 ≤ g2 ∧ g2 ≤ 100) :
 Says 50 #[x.val, lV a 1 0 0 0] W (iV (-g2) g1) := by
 have HX : Aside0 (Oc W W x) := ⟨⟨⟨hx.r0.le, .inl (hx.r0.reads hb)⟩, ⟨hx.r1.le, .inl (hx.r1.reads hb)⟩⟩⟩
 obtain ⟨P, p', Q, q, v', m', e'⟩ := x
 cases ho
 exact rbnd2_in ⟨P, p', Q, q, [0, 1], m', false⟩ a 1 0 0 0 HX ⟨f⟩ ⟨show ([0, 1] : List Int).length ≤ 1000 by decide⟩ (py := placeF [0, 1] 0) (sx' := -1) (sy' := 0) (K := 50) ⟨c⟩ ⟨hp⟩ ⟨rfl⟩ ⟨by decide⟩ ⟨decide_eq_false (by omega)⟩ ⟨fun h => absurd rfl h⟩ ⟨by rw [IntKind.wrap_i64, IntKind.wrap_i64]; unfold wrap64; decide⟩ ⟨h1⟩ ⟨h2⟩ ⟨fun h => by omega⟩ ⟨fun _ => ⟨by rw [IntKind.wrap_i64]; omega, by unfold wrap64; omega⟩⟩ ⟨fun h => by omega⟩ ⟨fun _ => ⟨by rw [IntKind.wrap_i64]; omega, by unfold wrap64; omega⟩⟩
theorem rb1 (hx : Oc w W x) (hb : Below w.heap.size w W) (ho : x.o = ([0, 1], w3, false)) : Says 50 #[x.val, .agg #[.int .i64 0, .int .i64 1, .int .i64 0, .int .i64 0, .int .i64 0]] W (.agg #[.int .i64 4, .int .i64 5]) :=
 rb_of (p := 0) (g1 := 5) (g2 := (-4)) hx hb ho f3 c3 (by decide +kernel) (by decide +kernel) (by decide +kernel) (by decide) (by decide)
theorem rb2 (hx : Oc w W x) (hb : Below w.heap.size w W) (ho : x.o = ([0, 1], w3, false)) : Says 50 #[x.val, .agg #[.int .i64 1, .int .i64 1, .int .i64 0, .int .i64 0, .int .i64 0]] W (.agg #[.int .i64 5, .int .i64 7]) :=
 rb_of (p := 1) (g1 := 7) (g2 := (-5)) hx hb ho f3 c3 (by decide +kernel) (by decide +kernel) (by decide +kernel) (by decide) (by decide)
theorem rb3 (hx : Oc w W x) (hb : Below w.heap.size w W) (ho : x.o = ([0, 1], w4, false)) : Says 50 #[x.val, .agg #[.int .i64 0, .int .i64 1, .int .i64 0, .int .i64 0, .int .i64 0]] W (.agg #[.int .i64 7, .int .i64 8]) :=
 rb_of (p := 0) (g1 := 8) (g2 := (-7)) hx hb ho f4 c4 (by decide +kernel) (by decide +kernel) (by decide +kernel) (by decide) (by decide)
end
theorem asg3_f : assignF [0, 1] w3 false 0 0 1 0 0 3 = ([0, 1], w4, false) := by
 have hp : placeF [0, 1] 0 = ((0 : Nat) : Int) := by decide +kernel
 have ho : ofB [0, 1] 0 1 0 0 3 = true := by decide +kernel
 obtain ⟨fm, fe, hfg, ff⟩ := fgt_ex f3 0
 obtain ⟨C, _, _, _, _, _, _, _, _, _, _, _, _, _, _, _, _, _, _, _, _, g⟩ := asgF_ways (lx := 0) (sx := 1) (y := 0) (sy := 0) (c := 3) f3 c3 f3 hp hfg ff ho
 rw [asgn_of c3 (by rw [hp]; decide) ho, ← g.r1 (by decide) rfl rfl]
 have e : lst (2 * ([0, 1] : List Int).length) (movM C 1 0 3) = lst (2 * ([0, 1] : List Int).length) (movM (mat 4 w3) 1 0 3) := by
  have r : ∀ i j, i < 4 → j < 4 → C i j = mat 4 w3 i j := fun i j hi hj => by
   have h1 := rd_lst (C := C) hi hj
   have h2 := rd_lst (C := mat 4 w3) hi hj
   rw [← h1, ← h2]
   exact congrArg (rd · _) (g.hcm.symm.trans m3.symm)
  refine lst_ext fun i j hi hj => ?_
  unfold movM movedG
  rw [r i j hi hj, r _ _ (fromF_lt (n := 2) hi) (fromF_lt (n := 2) hj)]
 rw [e, m4, c4]
theorem asg3 {w W : World} {x : OV} (hx : Oc w W x) (hb : Below w.heap.size w W) (ho : x.o = ([0, 1], w3, false)) :
 Calls Try.prog 21 #[x.val, .int .i64 0, .agg #[.int .i64 0, .int .i64 1, .int .i64 0, .int .i64 0, .int .i64 3]] W fun e W' => ∃ z : OV, e = .returned z.val ∧ z.o = ([0, 1], w4, false) ∧ Own W W' z ∧ Below W.heap.size W W' :=
 assign_as hx hb ho f3 0 0 1 0 0 3 asg3_f
end Go.Proofs.Ytphfchbggechhaa.QO
end
end
section
noncomputable section
namespace Go.Proofs.Ytphfchbggechhaa.QO
open Go.RowKit Go.Shelf YtphfchbggechhaaW.PrintWords YtphfchbggechhaaW.PrintLast YtphfchbggechhaaW.PrintMore
open Ytphfchbggechhaa.Pure
attribute [local go_sem] Oper.semAt_some
attribute [local go_sem ↓] Go.wp_at_zero Go.wp_at_succ
set_option linter.unusedVariables false
set_option linter.unusedSimpArgs false
def awk_T2 : Bool × List (List Nat × List Nat) := (true, [([], []), ([], []), ([], []), ([0, 1, 2, 1], [0, 1, 2]), ([3, 3, 0, 1, 2, 3], [3])])
def awk_B2 : List Nat := [0, 0, 0, 7, 15]
theorem awk_tab2 : rtab .any (opsOf Try.f13 2) = awk_T2 := by kernel_rfl
theorem awk_bits2 : waitsOk awk_T2.2 awk_B2 = true := by kernel_rfl
def awk_T5 : Bool × List (List Nat × List Nat) := (true, [([], []), ([], []), ([0, 1, 1], [0, 1]), ([], []), ([2, 3], [2, 3]), ([4, 2], [4]), ([5], [5]), ([5, 5], [5]), ([6, 7, 7, 5], [5, 6, 7]), ([5], [5]), ([8, 9, 5], [5, 8, 9]), ([5, 10], [5, 10]), ([11, 8], [11]), ([12], [12]), ([12], [12]), ([13, 14, 12, 12], [12, 13, 14]), ([15, 12], [12]), ([15, 16, 16, 12], [12, 15, 16]), ([12], [12]), ([17, 18, 12], [12, 17, 18]), ([12, 19], [12, 19]), ([20, 17, 0, 1, 2, 3, 4, 5, 6, 7, 8, 9, 10, 11, 12, 13, 14, 15, 16, 17, 18, 19, 20], [20])])
def awk_B5 : List Nat := [0, 0, 3, 0, 15, 31, 63, 63, 255, 63, 1023, 2047, 4095, 8191, 8191, 32767, 65535, 131071, 8191, 524287, 1048575, 2097151]
theorem awk_tab5 : rtab .any (opsOf Try.f13 5) = awk_T5 := by kernel_rfl
theorem awk_bits5 : waitsOk awk_T5.2 awk_B5 = true := by kernel_rfl
section
variable {P : Program} {ops : Array Oper} {Q : Exit → Act → World → Prop} {o : Oper} {rest : List Oper} {a : Act}
theorem lit_event {W : World} (hgd : o.guard = none) {N : Tmp} (_hd : o.dst = some N) {n : Nat} {cs : Array Value} {t : TypeId}
 (hrun : (execOp a.eval o).run P W = .ok (.value (.slice (some ⟨W.heap.size, 0, none⟩) n n)) (W.alloc (.cells cs t (0, 0))))
 (h : ∀ g, g = W.heap.size → ∀ w1, w1.heap[g]? = some (.cells cs t (0, 0)) → Below W.heap.size W w1 → wpList P ops Q rest (a.put o.dst (.slice (some ⟨g, 0, none⟩) n n)) w1) : wpList P ops Q (o :: rest) a W :=
 Kd.event_run hgd hrun (h _ rfl _ (blk_new W _) (below_alloc (Below.refl _ _) _))
end
theorem eq_itv {W : World} {a b c d : Int} {r : Bool} (h : (a == c && b == d) = r) : (Op.equalIn 10000 36 (iV a b) (iV c d)).run Try.prog W = .ok r W := by
 have hu36 := Try.underlying36
 have hu2 := Try.underlying2
 rw [← h]
 refine eqA_of hu36 (by kernel_rfl) ?_
 refine eqf_cons (by rfl) (by go_simp; rfl) (by go_simp; rfl) (by go_simp) ?_
 exact eqf_last (by rfl) (by go_simp; rfl) (by go_simp; rfl) (by go_simp)
theorem awake_o (w : World) : Says 13 #[] w (.bool true) := by
 have hu25 := Try.underlying25
 have hu34 := Try.underlying34
 have hu36 := Try.underlying36
 have q1 := fun W => eq_itv (W := W) (a := 4) (b := 5) (c := 4) (d := 5) (r := true) (by decide)
 have q2 := fun W => eq_itv (W := W) (a := 5) (b := 7) (c := 5) (d := 7) (r := true) (by decide)
 have q3 := fun W => eq_itv (W := W) (a := 7) (b := 8) (c := 7) (d := 8) (r := true) (by decide)
 go_enter Try.func13, Try.ntmps13
 go_upto_region 1 with fail
 have HM : Aside0 (MS w [] [] w) := ⟨MS.nil w⟩
 go_upto_region 2 with (first | ((with_reducible refine gate_dst (N := 2) rfl ?_); refine lit_event (N := 2) (n := 2) (cs := #[.int .i64 0, .int .i64 1]) (t := 3) ?hg ?hd ?hr ?_; (case hd => rfl); (case hg => rfl); (case hr => first | (go_simp; done) | (go_simp; rfl)); intro gl hg wk hbox hb; have n_ := Aside0.mk ((MS.to HM).made hg hbox hb); clear HM hg hbox hb; have HM := n_; clear n_; have kgl := MS.c2 HM m0_) | (go_at_call 48; (with_reducible refine (top_own (HM.out.F.all _ m0_).1).mono ?_); rintro e wk ⟨t0, rfl, ht0, ho, hb⟩; replace HM := MS.cl HM hb ho; clear ho hb; replace kgl := MS.c2 HM m0_) | ((with_reducible refine gate_dst (N := 1) rfl ?_); refine bx_ 1 #[.slice none 0 0, .slice none 0 0, .bool false] 25 ?_; intro go hg wk hbox hb; replace HM := MS.md HM hg hbox hb; clear hg hbox hb; have kgo := MS.c3 HM m0_; replace kgl := MS.c2 HM m1_))
 replace HM := MS.po0 t0 HM
 generalize World.setCell _ _ _ = wk at HM ⊢
 replace kgo := MS.c3 HM m0_; replace kgl := MS.c2 HM m1_
 have H0 := Aside0.mk ht0; clear ht0
 replace HM := MS.dr HM
 clear kgl kgo
 refine st_ 5 (fun w' => oR go t0 w') [4] (kO HM m0_) (fun hHeld => ?_)
 refine with_tabW awk_tab2 awk_bits2 (fun HT_ HW_ => ?_)
 generalize World.drew _ = wk at HM hHeld ⊢
 refine tV_ 0 4 (mB 5 1) HT_ HW_ hHeld ?_
 refine pV_ 2 6 (mB 5 5) HT_ ?_
 refine on_ 1 (some 5) (mB 5 7) HT_ (fun K hK => ?_)
 refine gs_ Try.func49 #[.int .i64 0] ?_
 with_reducible refine sk_ (one_as 0) fun wk hb => ?_
 replace HM := MS.nx HM hb; clear hb
 refine hK.out _ _ (kO HM m0_) (fun hHeld => ?_)
 clear hK K
 refine nO_ 5 ?_
 refine on_ 3 (some 7) (mB 5 15) HT_ (fun K hK => ?_)
 refine gs_ Try.func19 #[t0.val, lV 0 1 0 0 0, iV 0 5] ?_
 with_reducible refine ok_ (guard_as (MS.oc HM m0_) (MS.bel HM) H0.out f0 0 1 0 0 0 0 5 g1) fun t1 wk ht1 ho hb => ?_
 replace HM := MS.cl HM hb ho; clear hb ho
 refine hK.out _ _ (kO HM m0_) (fun hHeld => ?_)
 clear hK K
 refine nO_ 7 ?_
 have kgo := MS.c3 HM m0_; have kgl := MS.c2 HM m1_
 refine la_ 4 (mB 5 31) HT_ (fun K hK => ?_)
 refine skip_ (w1 := ?_) (by rfl) rfl ?_ ?_
 rotate_left
 ·
  go_simp
  rfl
 refine hK.out _ _ ?_
 clear hK K
 refine dn_ HT_ ?_
 clear HT_ HW_ hHeld
 replace HM := MS.po0 t1 HM
 generalize World.setCell _ _ _ = wk at HM ⊢
 replace kgo := MS.c3 HM m0_; replace kgl := MS.c2 HM m1_
 have H1 := Aside0.mk ht1; clear ht1
 go_upto_region 4 with (first | (go_at_call 19; (with_reducible refine (guard_as (MS.oc HM m0_) (MS.bel HM) H1.out f1 0 (-1) 1 1 0 0 2 g2).mono ?_); rintro e wk ⟨t2, rfl, ht2, ho, hb⟩; replace HM := MS.cl HM hb ho; clear ho hb; replace kgo := MS.c3 HM m0_; replace kgl := MS.c2 HM m1_))
 replace HM := MS.po0 t2 HM
 generalize World.setCell _ _ _ = wk at HM ⊢
 replace kgo := MS.c3 HM m0_; replace kgl := MS.c2 HM m1_
 have H2 := Aside0.mk ht2; clear ht2
 go_upto_region 5 with (first | (go_at_call 19; (with_reducible refine (guard_as (MS.oc HM m0_) (MS.bel HM) H2.out f2 0 1 1 1 0 9 4611686018427387904 g3).mono ?_); rintro e wk ⟨t3, rfl, ht3, ho, hb⟩; replace HM := MS.cl HM hb ho; clear ho hb; replace kgo := MS.c3 HM m0_; replace kgl := MS.c2 HM m1_))
 replace HM := MS.po0 t3 HM
 generalize World.setCell _ _ _ = wk at HM ⊢
 replace kgo := MS.c3 HM m0_; replace kgl := MS.c2 HM m1_
 have H3 := Aside0.mk ht3; clear ht3
 replace HM := MS.dr HM
 clear kgl kgo
 refine st_ 22 (fun w' => oR go t3 w') [] (kO HM m0_) (fun hHeld => ?_)
 refine with_tabW awk_tab5 awk_bits5 (fun HT_ HW_ => ?_)
 generalize World.drew _ = wk at HM hHeld ⊢
 refine tV_ 0 16 (mB 22 1) HT_ HW_ hHeld ?_
 refine pV_ 3 19 (mB 22 9) HT_ ?_
 refine on_ 1 (some 17) (mB 22 11) HT_ (fun K hK => ?_)
 refine gs_ Try.func49 #[.int .i64 0] ?_
 with_reducible refine sk_ (one_as 0) fun wk hb => ?_
 replace HM := MS.nx HM hb; clear hb
 refine hK.out _ _ (kO HM m0_) (fun hHeld => ?_)
 clear hK K
 refine nO_ 17 ?_
 refine on_ 2 (some 18) (mB 22 15) HT_ (fun K hK => ?_)
 refine gs_ Try.func50 #[t3.val, lV 0 1 0 0 0] ?_
 with_reducible refine sk_ (rb1 (MS.oc HM m0_) (MS.bel HM) H3.out) fun wk hb => ?_
 replace HM := MS.nx HM hb; clear hb
 refine hK.out _ _ (kO HM m0_) (fun hHeld => ?_)
 clear hK K
 refine nO_ 18 ?_
 refine pV_ 4 20 (mB 22 31) HT_ ?_
 refine pV_ 5 21 (mB 22 63) HT_ ?_
 refine tV_ 6 22 (mB 22 127) HT_ HW_ hHeld ?_
 refine pV_ 9 25 (mB 22 639) HT_ ?_
 refine on_ 7 (some 23) (mB 22 767) HT_ (fun K hK => ?_)
 refine gs_ Try.func49 #[.int .i64 1] ?_
 with_reducible refine sk_ (one_as 1) fun wk hb => ?_
 replace HM := MS.nx HM hb; clear hb
 refine hK.out _ _ (kO HM m0_) (fun hHeld => ?_)
 clear hK K
 refine nO_ 23 ?_
 refine on_ 8 (some 24) (mB 22 1023) HT_ (fun K hK => ?_)
 refine gs_ Try.func50 #[t3.val, lV 1 1 0 0 0] ?_
 with_reducible refine sk_ (rb2 (MS.oc HM m0_) (MS.bel HM) H3.out) fun wk hb => ?_
 replace HM := MS.nx HM hb; clear hb
 refine hK.out _ _ (kO HM m0_) (fun hHeld => ?_)
 clear hK K
 refine nO_ 24 ?_
 refine pV_ 10 26 (mB 22 2047) HT_ ?_
 refine pV_ 11 27 (mB 22 4095) HT_ ?_
 refine pV_ 12 28 (mB 22 8191) HT_ ?_
 refine tV_ 13 29 (mB 22 16383) HT_ HW_ hHeld ?_
 refine pV_ 14 30 (mB 22 32767) HT_ ?_
 refine pV_ 18 34 (mB 22 294911) HT_ ?_
 refine on_ 15 (some 31) (mB 22 327679) HT_ (fun K hK => ?_)
 refine gs_ Try.func21 #[t3.val, .int .i64 0, lV 0 1 0 0 3] ?_
 with_reducible refine ok_ (asg3 (MS.oc HM m0_) (MS.bel HM) H3.out) fun t4 wk ht4 ho hb => ?_
 replace HM := MS.cl HM hb ho; clear hb ho
 refine hK.out _ _ (kO HM m0_) (fun hHeld => ?_)
 clear hK K
 refine nO_ 31 ?_
 refine on_ 16 (some 32) (mB 22 393215) HT_ (fun K hK => ?_)
 refine gs_ Try.func49 #[.int .i64 0] ?_
 with_reducible refine sk_ (one_as 0) fun wk hb => ?_
 replace HM := MS.nx HM hb; clear hb
 refine hK.out _ _ (kO HM m0_) (fun hHeld => ?_)
 clear hK K
 refine nO_ 32 ?_
 refine on_ 17 (some 33) (mB 22 524287) HT_ (fun K hK => ?_)
 refine gs_ Try.func50 #[t4.val, lV 0 1 0 0 0] ?_
 with_reducible refine sk_ (rb3 (MS.oc HM m0_) (MS.bel HM) ht4) fun wk hb => ?_
 replace HM := MS.nx HM hb; clear hb
 refine hK.out _ _ (kO HM m0_) (fun hHeld => ?_)
 clear hK K
 refine nO_ 33 ?_
 refine pV_ 19 35 (mB 22 1048575) HT_ ?_
 refine pV_ 20 36 (mB 22 2097151) HT_ ?_
 refine pV_ 21 0 (mB 22 4194303) HT_ ?_
 refine dn_ HT_ ?_
 clear HT_ HW_ hHeld
 go_wp2
 go_ret
 exact ⟨rfl, MS.bel HM⟩
def grows_T6 : Bool × List (List Nat × List Nat) := (true, [([], []), ([0], [0]), ([], []), ([1, 2], [1, 2]), ([3], [3]), ([], []), ([5], [5]), ([], []), ([6, 7], [6, 7]), ([8], [8]), ([4, 9], [4, 9])])
def grows_B6 : List Nat := [0, 1, 0, 7, 15, 0, 32, 0, 224, 480, 1023]
theorem grows_tab6 : rtab .any (opsOf Try.f6 6) = grows_T6 := by kernel_rfl
theorem grows_bits6 : waitsOk grows_T6.2 grows_B6 = true := by kernel_rfl
def grows_T10 : Bool × List (List Nat × List Nat) := (true, [([], []), ([], []), ([0, 1], [0, 1]), ([], []), ([], []), ([3, 4, 2], [3, 4]), ([2, 5, 5], [2, 5]), ([6, 6], [6]), ([7], [7]), ([7], [7]), ([7], [7]), ([8, 9, 10, 7, 7], [7, 8, 9, 10]), ([7], [7]), ([7], [7]), ([7], [7]), ([12, 13, 14, 11, 7], [7, 12, 13, 14]), ([11, 15, 15, 7], [7, 11, 15]), ([7, 16], [7, 16]), ([17, 16], [17]), ([18], [18]), ([18], [18]), ([18], [18]), ([19, 20, 21, 18, 18], [18, 19, 20, 21]), ([18], [18]), ([18], [18]), ([18], [18]), ([23, 24, 25, 22, 18], [18, 23, 24, 25]), ([22, 26, 26, 18], [18, 22, 26]), ([18, 27], [18, 27]), ([28, 27], [28]), ([29], [29]), ([29], [29]), ([29], [29]), ([30, 31, 32, 29, 29], [29, 30, 31, 32]), ([29], [29]), ([33, 34, 33, 29], [29, 33, 34]), ([29, 35], [29, 35]), ([36, 35], [36]), ([37], [37]), ([37], [37]), ([37], [37]), ([39, 40, 37, 37], [37, 39, 40]), ([38, 41, 41, 37], [37, 38, 41]), ([37, 42], [37, 42]), ([43, 42], [43]), ([44, 44], [44]), ([44, 45], [44, 45]), ([46, 45, 0, 1, 2, 3, 4, 5, 6, 7, 8, 9, 10, 11, 12, 13, 14, 15, 16, 17, 18, 19, 20, 21, 22, 23, 24, 25, 26, 27, 28, 29, 30, 31, 32, 33, 34, 35, 36, 37, 38, 39, 40, 41, 42, 43, 44, 45, 46], [46])])
def grows_B10 : List Nat := [0, 0, 3, 0, 0, 31, 63, 127, 255, 255, 255, 2047, 255, 255, 255, 32767, 65535, 131071, 262143, 524287, 524287, 524287, 4194303, 524287, 524287, 524287, 67108863, 134217727, 268435455, 536870911, 1073741823, 1073741823, 1073741823, 8589934591, 1073741823, 34359738367, 68719476735, 137438953471, 274877906943, 274877906943, 274877906943, 1924145348607, 4398046511103, 8796093022207, 17592186044415, 35184372088831, 70368744177663, 140737488355327]
theorem grows_tab10 : rtab .any (opsOf Try.f6 10) = grows_T10 := by kernel_rfl
theorem grows_bits10 : waitsOk grows_T10.2 grows_B10 = true := by kernel_rfl
theorem list_eq {l k : List Int} (h : l.length = k.length) (e : ∀ i : Nat, i < l.length → rd l (i : Int) = rd k (i : Int)) : l = k := by
 refine List.ext_getElem h fun i h1 h2 => ?_
 have g := e i h1
 unfold rd at g
 simpa [List.getD_eq_getElem?_getD, h1, h2] using g
theorem grows_no1 (AW : ∀ W : World, Says 13 #[] W (.bool true)) (X Y : OV) (x lx sx y sy c il ih jl jh : Int) {w : World} (HX : Aside0 (Oc w w X)) (HY : Aside0 (Oc w w Y)) (LX : Aside0 (X.v.length ≤ 17592186044416)) (LY : Aside0 (Y.v.length ≤ 17592186044416)) (HFX : Aside0 (ofitB X.v X.m X.e = false)) : Says 6 #[X.val, Y.val, .int .i64 x, lV lx sx y sy c, iV il ih, iV jl jh] w (.bool true) := by
 have hu25 := Try.underlying25
 have hu34 := Try.underlying34
 have hu36 := Try.underlying36
 go_enter Try.func6, Try.ntmps6
 go_upto_region 1 with fail
 have HM : Aside0 (MS w [] [(w.heap.size + 4, iC jl jh), (w.heap.size + 3, iC il ih), (w.heap.size + 2, lC lx sx y sy c), (w.heap.size + 1, Y.cells), (w.heap.size, X.cells)] _) := ⟨MS.new (MS.n4 w X.cells Y.cells (lC lx sx y sy c) (iC il ih)).out (iC jl jh) (by simp)⟩
 generalize World.alloc _ _ = wk at HM ⊢
 generalize w.heap.size + 4 = gj at HM ⊢
 generalize w.heap.size + 3 = gi at HM ⊢
 generalize w.heap.size + 2 = gl at HM ⊢
 generalize w.heap.size + 1 = gq at HM ⊢
 generalize w.heap.size = go at HM ⊢
 have kgj := MS.c2 HM m0_; have kgi := MS.c2 HM m1_; have kgl := MS.c5 HM m2_; have kgq := MS.c3 HM m3_; have kgo := MS.c3 HM m4_
 go_wp2_with (first | (go_at_call 12; (with_reducible refine (rfit_o (Oc.now HX (MS.bel HM)) (Below.refl _ _) LX.out HFX.out).mono ?_); rintro e wk ⟨rfl, hb⟩; replace HM := MS.nx HM hb; clear hb; replace kgj := MS.c2 HM m0_; replace kgi := MS.c2 HM m1_; replace kgl := MS.c5 HM m2_; replace kgq := MS.c3 HM m3_; replace kgo := MS.c3 HM m4_) | (go_at_call 12; (with_reducible refine (rfit_o (Oc.now HY (MS.bel HM)) (Below.refl _ _) LY.out (rfl : ofitB Y.v Y.m Y.e = _)).mono ?_); rintro e wk ⟨rfl, hb⟩; replace HM := MS.nx HM hb; clear hb; replace kgj := MS.c2 HM m0_; replace kgi := MS.c2 HM m1_; replace kgl := MS.c5 HM m2_; replace kgq := MS.c3 HM m3_; replace kgo := MS.c3 HM m4_) | (go_at_call 13; (with_reducible refine (AW _).mono ?_); rintro e wk ⟨rfl, hb⟩; replace HM := MS.nx HM hb; clear hb; replace kgj := MS.c2 HM m0_; replace kgi := MS.c2 HM m1_; replace kgl := MS.c5 HM m2_; replace kgq := MS.c3 HM m3_; replace kgo := MS.c3 HM m4_))
 go_ret
 exact ⟨rfl, MS.bel HM⟩
theorem grows_no2 (AW : ∀ W : World, Says 13 #[] W (.bool true)) (X Y : OV) (x lx sx y sy c il ih jl jh : Int) {w : World} (HX : Aside0 (Oc w w X)) (HY : Aside0 (Oc w w Y)) (LX : Aside0 (X.v.length ≤ 17592186044416)) (LY : Aside0 (Y.v.length ≤ 17592186044416)) (HFX : Aside0 (ofitB X.v X.m X.e = true)) (HFY : Aside0 (ofitB Y.v Y.m Y.e = false)) : Says 6 #[X.val, Y.val, .int .i64 x, lV lx sx y sy c, iV il ih, iV jl jh] w (.bool true) := by
 have hu25 := Try.underlying25
 have hu34 := Try.underlying34
 have hu36 := Try.underlying36
 go_enter Try.func6, Try.ntmps6
 go_upto_region 1 with fail
 have HM : Aside0 (MS w [] [(w.heap.size + 4, iC jl jh), (w.heap.size + 3, iC il ih), (w.heap.size + 2, lC lx sx y sy c), (w.heap.size + 1, Y.cells), (w.heap.size, X.cells)] _) := ⟨MS.new (MS.n4 w X.cells Y.cells (lC lx sx y sy c) (iC il ih)).out (iC jl jh) (by simp)⟩
 generalize World.alloc _ _ = wk at HM ⊢
 generalize w.heap.size + 4 = gj at HM ⊢
 generalize w.heap.size + 3 = gi at HM ⊢
 generalize w.heap.size + 2 = gl at HM ⊢
 generalize w.heap.size + 1 = gq at HM ⊢
 generalize w.heap.size = go at HM ⊢
 have kgj := MS.c2 HM m0_; have kgi := MS.c2 HM m1_; have kgl := MS.c5 HM m2_; have kgq := MS.c3 HM m3_; have kgo := MS.c3 HM m4_
 go_wp2_with (first | (go_at_call 12; (with_reducible refine (rfit_o (Oc.now HX (MS.bel HM)) (Below.refl _ _) LX.out HFX.out).mono ?_); rintro e wk ⟨rfl, hb⟩; replace HM := MS.nx HM hb; clear hb; replace kgj := MS.c2 HM m0_; replace kgi := MS.c2 HM m1_; replace kgl := MS.c5 HM m2_; replace kgq := MS.c3 HM m3_; replace kgo := MS.c3 HM m4_) | (go_at_call 12; (with_reducible refine (rfit_o (Oc.now HY (MS.bel HM)) (Below.refl _ _) LY.out HFY.out).mono ?_); rintro e wk ⟨rfl, hb⟩; replace HM := MS.nx HM hb; clear hb; replace kgj := MS.c2 HM m0_; replace kgi := MS.c2 HM m1_; replace kgl := MS.c5 HM m2_; replace kgq := MS.c3 HM m3_; replace kgo := MS.c3 HM m4_) | (go_at_call 13; (with_reducible refine (AW _).mono ?_); rintro e wk ⟨rfl, hb⟩; replace HM := MS.nx HM hb; clear hb; replace kgj := MS.c2 HM m0_; replace kgi := MS.c2 HM m1_; replace kgl := MS.c5 HM m2_; replace kgq := MS.c3 HM m3_; replace kgo := MS.c3 HM m4_))
 go_ret
 exact ⟨rfl, MS.bel HM⟩
theorem grows_no3 (AW : ∀ W : World, Says 13 #[] W (.bool true)) (X Y : OV) (x lx sx y sy c il ih jl jh : Int) {w : World} (HX : Aside0 (Oc w w X)) (HY : Aside0 (Oc w w Y)) (LX : Aside0 (X.v.length ≤ 17592186044416)) (LY : Aside0 (Y.v.length ≤ 17592186044416)) (HFX : Aside0 (ofitB X.v X.m X.e = true)) (HFY : Aside0 (ofitB Y.v Y.m Y.e = true)) (ln : ((X.v.length : Int) != (Y.v.length : Int)) = true) : Says 6 #[X.val, Y.val, .int .i64 x, lV lx sx y sy c, iV il ih, iV jl jh] w (.bool true) := by
 have hu25 := Try.underlying25
 have hu34 := Try.underlying34
 have hu36 := Try.underlying36
 go_enter Try.func6, Try.ntmps6
 go_upto_region 1 with fail
 have HM : Aside0 (MS w [] [(w.heap.size + 4, iC jl jh), (w.heap.size + 3, iC il ih), (w.heap.size + 2, lC lx sx y sy c), (w.heap.size + 1, Y.cells), (w.heap.size, X.cells)] _) := ⟨MS.new (MS.n4 w X.cells Y.cells (lC lx sx y sy c) (iC il ih)).out (iC jl jh) (by simp)⟩
 generalize World.alloc _ _ = wk at HM ⊢
 generalize w.heap.size + 4 = gj at HM ⊢
 generalize w.heap.size + 3 = gi at HM ⊢
 generalize w.heap.size + 2 = gl at HM ⊢
 generalize w.heap.size + 1 = gq at HM ⊢
 generalize w.heap.size = go at HM ⊢
 have kgj := MS.c2 HM m0_; have kgi := MS.c2 HM m1_; have kgl := MS.c5 HM m2_; have kgq := MS.c3 HM m3_; have kgo := MS.c3 HM m4_
 go_wp2_with (first | (go_at_call 12; (with_reducible refine (rfit_o (Oc.now HX (MS.bel HM)) (Below.refl _ _) LX.out HFX.out).mono ?_); rintro e wk ⟨rfl, hb⟩; replace HM := MS.nx HM hb; clear hb; replace kgj := MS.c2 HM m0_; replace kgi := MS.c2 HM m1_; replace kgl := MS.c5 HM m2_; replace kgq := MS.c3 HM m3_; replace kgo := MS.c3 HM m4_) | (go_at_call 12; (with_reducible refine (rfit_o (Oc.now HY (MS.bel HM)) (Below.refl _ _) LY.out HFY.out).mono ?_); rintro e wk ⟨rfl, hb⟩; replace HM := MS.nx HM hb; clear hb; replace kgj := MS.c2 HM m0_; replace kgi := MS.c2 HM m1_; replace kgl := MS.c5 HM m2_; replace kgq := MS.c3 HM m3_; replace kgo := MS.c3 HM m4_) | (go_at_call 13; (with_reducible refine (AW _).mono ?_); rintro e wk ⟨rfl, hb⟩; replace HM := MS.nx HM hb; clear hb; replace kgj := MS.c2 HM m0_; replace kgi := MS.c2 HM m1_; replace kgl := MS.c5 HM m2_; replace kgq := MS.c3 HM m3_; replace kgo := MS.c3 HM m4_))
 go_ret
 exact ⟨rfl, MS.bel HM⟩
theorem grows_no4 (AW : ∀ W : World, Says 13 #[] W (.bool true)) (X Y : OV) (x lx sx y sy c il ih jl jh : Int) {w : World} (HX : Aside0 (Oc w w X)) (HY : Aside0 (Oc w w Y)) (LX : Aside0 (X.v.length ≤ 17592186044416)) (LY : Aside0 (Y.v.length ≤ 17592186044416)) (HFX : Aside0 (ofitB X.v X.m X.e = true)) (HFY : Aside0 (ofitB Y.v Y.m Y.e = true)) (LN : Aside0 (((X.v.length : Int) != (Y.v.length : Int)) = false)) (LE : Aside0 (X.v.length = Y.v.length)) (LX8 : Aside0 (X.v.length ≤ 8)) (NE : Aside0 (X.v ≠ Y.v)) : Says 6 #[X.val, Y.val, .int .i64 x, lV lx sx y sy c, iV il ih, iV jl jh] w (.bool true) := by
 have hu25 := Try.underlying25
 have hu34 := Try.underlying34
 have hu36 := Try.underlying36
 go_enter Try.func6, Try.ntmps6
 go_upto_region 1 with fail
 have HM : Aside0 (MS w [] [(w.heap.size + 4, iC jl jh), (w.heap.size + 3, iC il ih), (w.heap.size + 2, lC lx sx y sy c), (w.heap.size + 1, Y.cells), (w.heap.size, X.cells)] _) := ⟨MS.new (MS.n4 w X.cells Y.cells (lC lx sx y sy c) (iC il ih)).out (iC jl jh) (by simp)⟩
 generalize World.alloc _ _ = wk at HM ⊢
 generalize w.heap.size + 4 = gj at HM ⊢
 generalize w.heap.size + 3 = gi at HM ⊢
 generalize w.heap.size + 2 = gl at HM ⊢
 generalize w.heap.size + 1 = gq at HM ⊢
 generalize w.heap.size = go at HM ⊢
 have ln := LN.out
 have kgq := MS.c3 HM m3_; have kgo := MS.c3 HM m4_
 go_upto_region 3 with (first | (go_at_call 12; (with_reducible refine (rfit_o (Oc.now HX (MS.bel HM)) (Below.refl _ _) LX.out HFX.out).mono ?_); rintro e wk ⟨rfl, hb⟩; replace HM := MS.nx HM hb; clear hb; replace kgq := MS.c3 HM m3_; replace kgo := MS.c3 HM m4_) | (go_at_call 12; (with_reducible refine (rfit_o (Oc.now HY (MS.bel HM)) (Below.refl _ _) LY.out HFY.out).mono ?_); rintro e wk ⟨rfl, hb⟩; replace HM := MS.nx HM hb; clear hb; replace kgq := MS.c3 HM m3_; replace kgo := MS.c3 HM m4_))
 have kgj := MS.c2 HM m0_; have kgi := MS.c2 HM m1_; have kgl := MS.c5 HM m2_
 go_wp2
 go_loopg [13] X.v.length (fun kq v13 w' => ∃ (i : Int), v13 = .int .i64 i ∧ Aside0 (0 ≤ i ∧ i + (kq : Int) = (X.v.length : Int)) ∧ Aside0 (∀ k : Nat, (k : Int) < i → rd X.v (k : Int) = rd Y.v (k : Int)) ∧ Aside0 (MS w [] [(gj, iC jl jh), (gi, iC il ih), (gl, lC lx sx y sy c), (gq, Y.cells), (go, X.cells)] w'))
 case atStart => exact ⟨0, by rfl, ⟨by omega⟩, ⟨fun k h => absurd h (by omega)⟩, ⟨MS.to HM⟩⟩
 case round =>
  clear HM; clear kgi kgj kgl kgo kgq
  obtain ⟨i, rfl, HI, HK, HM⟩ := hrel
  cases gk with
  | zero =>
   exact absurd (list_eq LE.out (fun k hk => HK.out k (by have := HI.out; omega))) NE.out
  | succ k =>
   have q1 : (decide (i < (X.v.length : Int))) = true := decide_eq_true (by have := HI.out; omega)
   have p2 : 0 ≤ i := HI.out.1
   have q2 : i < (X.v.length : Int) := by have := HI.out; omega
   have q3 : i < (Y.v.length : Int) := by have := LE.out; omega
   obtain ⟨ad, ea, hx0⟩ := Kd.at_int ((Oc.now HX (MS.bel HM)).r0.reads (Below.refl _ _)) i p2 q2
   obtain ⟨bd, eb, hy0⟩ := Kd.at_int ((Oc.now HY (MS.bel HM)).r0.reads (Below.refl _ _)) i p2 q3
   have EA := Aside0.mk ea; have EB := Aside0.mk eb; clear ea eb hx0 hy0
   have P2 := Aside0.mk p2; have Q2 := Aside0.mk q2; have Q3 := Aside0.mk q3
   replace p2 := eq_true p2; replace q2 := eq_true q2; replace q3 := eq_true q3
   have kgo := MS.c3 HM m4_
   go_upto_region 6 with fail
   by_cases ER_ : rd X.v i = rd Y.v i
   ·
    have ER := Aside0.mk ER_; clear ER_
    have d1 : (rd X.v i != rd Y.v i) = false := by rw [bne_eq_false_iff_eq]; exact ER.out
    replace HM := MS.dr HM
    clear kgo
    refine st_ 11 (fun w' => True ∧ w'.cell? ⟨go, 0, none⟩ = some (.slice (some ad) X.v.length X.p) ∧ w'.cell? ⟨gq, 0, none⟩ = some (.slice (some bd) Y.v.length Y.p) ∧ w'.cell? (ad.add i.toNat) = some (.int .i64 (rd X.v i)) ∧ w'.cell? (bd.add i.toNat) = some (.int .i64 (rd Y.v i))) [] ⟨trivial, (EA.out ▸ MS.k HM m4_ 0 rfl), (EB.out ▸ MS.k HM m3_ 0 rfl), (by obtain ⟨_, e_, h_⟩ := Kd.at_int ((Oc.now HX HM.out.S.below).r0.reads (Below.refl _ _)) i P2.out Q2.out; cases EA.out.symm.trans e_; exact h_), (by obtain ⟨_, e_, h_⟩ := Kd.at_int ((Oc.now HY HM.out.S.below).r0.reads (Below.refl _ _)) i P2.out Q3.out; cases EB.out.symm.trans e_; exact h_)⟩ (fun hHeld => ?_)
    refine with_tabW grows_tab6 grows_bits6 (fun HT_ HW_ => ?_)
    generalize World.drew _ = wk at HM hHeld ⊢
    refine pV_ 0 40 (mB 11 1) HT_ ?_
    refine tV_ 1 41 (mB 11 3) HT_ HW_ hHeld ?_
    refine pV_ 2 42 (mB 11 7) HT_ ?_
    refine pV_ 3 43 (mB 11 15) HT_ ?_
    refine tV_ 4 44 (mB 11 31) HT_ HW_ hHeld ?_
    refine pV_ 5 45 (mB 11 63) HT_ ?_
    refine tV_ 6 46 (mB 11 127) HT_ HW_ hHeld ?_
    refine pV_ 7 47 (mB 11 255) HT_ ?_
    refine pV_ 8 48 (mB 11 511) HT_ ?_
    refine tV_ 9 49 (mB 11 1023) HT_ HW_ hHeld ?_
    refine pV_ 10 50 (mB 11 2047) HT_ ?_
    refine dn_ HT_ ?_
    clear HT_ HW_ hHeld
    try go_wp2
    go_roundg k
    case measure => exact Nat.lt_succ_self k
    case rel =>
     have hw : wrap64 (i + 1) = i + 1 := by have := HI.out; have := LX8.out; unfold wrap64; omega
     exact ⟨wrap64 (i + 1), rfl, ⟨by rw [hw]; have := HI.out; omega⟩, ⟨fun k hk => by rw [hw] at hk; by_cases e : (k : Int) = i; rw [e]; exact ER.out; exact HK.out k (by omega)⟩, ⟨MS.to HM⟩⟩
   ·
    have ER := Aside0.mk ER_; clear ER_
    have d1 : (rd X.v i != rd Y.v i) = true := bne_iff_ne.2 ER.out
    replace HM := MS.dr HM
    clear kgo
    refine st_ 11 (fun w' => True ∧ w'.cell? ⟨go, 0, none⟩ = some (.slice (some ad) X.v.length X.p) ∧ w'.cell? ⟨gq, 0, none⟩ = some (.slice (some bd) Y.v.length Y.p) ∧ w'.cell? (ad.add i.toNat) = some (.int .i64 (rd X.v i)) ∧ w'.cell? (bd.add i.toNat) = some (.int .i64 (rd Y.v i))) [] ⟨trivial, (EA.out ▸ MS.k HM m4_ 0 rfl), (EB.out ▸ MS.k HM m3_ 0 rfl), (by obtain ⟨_, e_, h_⟩ := Kd.at_int ((Oc.now HX HM.out.S.below).r0.reads (Below.refl _ _)) i P2.out Q2.out; cases EA.out.symm.trans e_; exact h_), (by obtain ⟨_, e_, h_⟩ := Kd.at_int ((Oc.now HY HM.out.S.below).r0.reads (Below.refl _ _)) i P2.out Q3.out; cases EB.out.symm.trans e_; exact h_)⟩ (fun hHeld => ?_)
    refine with_tabW grows_tab6 grows_bits6 (fun HT_ HW_ => ?_)
    generalize World.drew _ = wk at HM hHeld ⊢
    refine pV_ 0 40 (mB 11 1) HT_ ?_
    refine tV_ 1 41 (mB 11 3) HT_ HW_ hHeld ?_
    refine pV_ 2 42 (mB 11 7) HT_ ?_
    refine pV_ 3 43 (mB 11 15) HT_ ?_
    refine tV_ 4 44 (mB 11 31) HT_ HW_ hHeld ?_
    refine pV_ 5 45 (mB 11 63) HT_ ?_
    refine tV_ 6 46 (mB 11 127) HT_ HW_ hHeld ?_
    refine pV_ 7 47 (mB 11 255) HT_ ?_
    refine pV_ 8 48 (mB 11 511) HT_ ?_
    refine tV_ 9 49 (mB 11 1023) HT_ HW_ hHeld ?_
    refine pV_ 10 50 (mB 11 2047) HT_ ?_
    refine dn_ HT_ ?_
    clear HT_ HW_ hHeld
    have kgj := MS.c2 HM m0_; have kgi := MS.c2 HM m1_; have kgl := MS.c5 HM m2_; have kgq := MS.c3 HM m3_; have kgo := MS.c3 HM m4_
    go_wp2_with (first | (go_at_call 13; (with_reducible refine (AW _).mono ?_); rintro e wk ⟨rfl, hb⟩; replace HM := MS.nx HM hb; clear hb; replace kgj := MS.c2 HM m0_; replace kgi := MS.c2 HM m1_; replace kgl := MS.c5 HM m2_; replace kgq := MS.c3 HM m3_; replace kgo := MS.c3 HM m4_))
    go_ret
    exact ⟨rfl, MS.bel HM⟩
theorem grows_in (AW : ∀ W : World, Says 13 #[] W (.bool true)) (X Y : OV) (x lx sx y sy c il ih jl jh : Int) {w : World} (HX : Aside0 (Oc w w X)) (HY : Aside0 (Oc w w Y)) (LX : Aside0 (X.v.length ≤ 17592186044416)) (LY : Aside0 (Y.v.length ≤ 17592186044416)) (HFX : Aside0 (ofitB X.v X.m X.e = true)) (HFY : Aside0 (ofitB Y.v Y.m Y.e = true)) (LN : Aside0 (((X.v.length : Int) != (Y.v.length : Int)) = false)) (LE : Aside0 (X.v.length = Y.v.length)) (LX8 : Aside0 (X.v.length ≤ 8)) {v jm : List Int} {je : Bool} {a b : Int} (VE : Aside0 (X.v = Y.v)) (OA : Aside0 (On v X.o)) (OB : Aside0 (On v Y.o)) (FX_ : Aside0 (OFit X.v X.m X.e)) (HIJ : Aside0 (itvJ (il, ih) (jl, jh) = (a, b))) (JE : Aside0 (jT v X.o Y.o = (X.v, jm, je))) (JF : Aside0 (OFit X.v jm je))
 (OF1 : Aside0 (On v (forgetF X.v X.m X.e x))) (OF2 : Aside0 (On v (forgetF X.v jm je x))) (QF : Aside0 (QLe v (forgetF X.v X.m X.e x) (forgetF X.v jm je x)))
 (OG1 : Aside0 (On v (guardF X.v X.m X.e lx sx y sy c il ih))) (OG2 : Aside0 (On v (guardF X.v jm je lx sx y sy c a b))) (QG : Aside0 (QLe v (guardF X.v X.m X.e lx sx y sy c il ih) (guardF X.v jm je lx sx y sy c a b)))
 (OS1 : Aside0 (On v (assignF X.v X.m X.e x lx sx y sy c))) (OS2 : Aside0 (On v (assignF X.v jm je x lx sx y sy c))) (QS : Aside0 (QLe v (assignF X.v X.m X.e x lx sx y sy c) (assignF X.v jm je x lx sx y sy c)))
 (QR : Aside0 (QLe v (guardF X.v X.m X.e lx sx y sy c il ih) X.o)) (QT : Aside0 (QLe v X.o (forgetF X.v X.m X.e x))) : Says 6 #[X.val, Y.val, .int .i64 x, lV lx sx y sy c, iV il ih, iV jl jh] w (.bool true) := by
 have hu25 := Try.underlying25
 have hu34 := Try.underlying34
 have hu36 := Try.underlying36
 go_enter Try.func6, Try.ntmps6
 go_upto_region 1 with fail
 have HM : Aside0 (MS w [] [(w.heap.size + 4, iC jl jh), (w.heap.size + 3, iC il ih), (w.heap.size + 2, lC lx sx y sy c), (w.heap.size + 1, Y.cells), (w.heap.size, X.cells)] _) := ⟨MS.new (MS.n4 w X.cells Y.cells (lC lx sx y sy c) (iC il ih)).out (iC jl jh) (by simp)⟩
 generalize World.alloc _ _ = wk at HM ⊢
 generalize w.heap.size + 4 = gj at HM ⊢
 generalize w.heap.size + 3 = gi at HM ⊢
 generalize w.heap.size + 2 = gl at HM ⊢
 generalize w.heap.size + 1 = gq at HM ⊢
 generalize w.heap.size = go at HM ⊢
 have ln := LN.out
 have kgq := MS.c3 HM m3_; have kgo := MS.c3 HM m4_
 go_upto_region 3 with (first | (go_at_call 12; (with_reducible refine (rfit_o (Oc.now HX (MS.bel HM)) (Below.refl _ _) LX.out HFX.out).mono ?_); rintro e wk ⟨rfl, hb⟩; replace HM := MS.nx HM hb; clear hb; replace kgq := MS.c3 HM m3_; replace kgo := MS.c3 HM m4_) | (go_at_call 12; (with_reducible refine (rfit_o (Oc.now HY (MS.bel HM)) (Below.refl _ _) LY.out HFY.out).mono ?_); rintro e wk ⟨rfl, hb⟩; replace HM := MS.nx HM hb; clear hb; replace kgq := MS.c3 HM m3_; replace kgo := MS.c3 HM m4_))
 have kgj := MS.c2 HM m0_; have kgi := MS.c2 HM m1_; have kgl := MS.c5 HM m2_
 go_wp2
 go_loopg [13] X.v.length (fun kq v13 w' => ∃ (i : Int), v13 = .int .i64 i ∧ Aside0 (0 ≤ i ∧ i + (kq : Int) = (X.v.length : Int)) ∧ Aside0 (MS w [] [(gj, iC jl jh), (gi, iC il ih), (gl, lC lx sx y sy c), (gq, Y.cells), (go, X.cells)] w'))
 case atStart => exact ⟨0, by rfl, ⟨by omega⟩, ⟨MS.to HM⟩⟩
 case round =>
  clear HM; clear kgi kgj kgl kgo kgq
  obtain ⟨i, rfl, HI, HM⟩ := hrel
  cases gk with
  | zero =>
   have q1 : (decide (i < (X.v.length : Int))) = false := decide_eq_false (by have := HI.out; omega)
   have kgq := MS.c3 HM m3_; have kgo := MS.c3 HM m4_
   go_upto_region 9 with (first | (go_at_call 23; (with_reducible refine (rjoin_as (Oc.now HX (MS.bel HM)) (Oc.now HY (MS.bel HM)) (Below.refl _ _) OA.out OB.out).mono ?_); rintro e wk ⟨jv, rfl, hjv, ho, hb⟩; replace HM := MS.cl HM hb ho; clear ho hb; replace kgq := MS.c3 HM m3_; replace kgo := MS.c3 HM m4_) | ((with_reducible refine gate_dst (N := 14) rfl ?_); refine bx_ 14 #[.slice none 0 0, .slice none 0 0, .bool false] 25 ?_; intro gb hg wk hbox hb; replace HM := MS.md HM hg hbox hb; clear hg hbox hb; have kgb := MS.c3 HM m0_; replace kgq := MS.c3 HM m4_; replace kgo := MS.c3 HM m5_))
   replace HM := MS.po0 jv HM
   generalize World.setCell _ _ _ = wk at HM ⊢
   have HJV := Aside0.mk hjv; clear hjv
   have kgj := MS.c2 HM m1_; have kgi := MS.c2 HM m2_
   go_upto_region 10 with (first | (go_at_call 24; (with_reducible refine (ijoin_as HIJ.out).mono ?_); rintro e wk ⟨rfl, hb⟩; replace HM := MS.nx HM hb; clear hb; replace kgj := MS.c2 HM m1_; replace kgi := MS.c2 HM m2_))
   replace HM := MS.pi1 a b HM
   generalize World.setCell _ _ _ = wk at HM ⊢
   replace HM := MS.dr HM
   clear kgb kgi kgj kgo kgq
   refine st_ 48 (fun w' => oR go X w' ∧ oR gb jv w' ∧ lR gl lx sx y sy c w' ∧ iR gi il ih w' ∧ iR gj a b w') [] ⟨kO HM m5_, kO HM m0_, kL HM m3_, kI HM m2_, kI HM m1_⟩ (fun hHeld => ?_)
   refine with_tabW grows_tab10 grows_bits10 (fun HT_ HW_ => ?_)
   generalize World.drew _ = wk at HM hHeld ⊢
   refine tV_ 0 58 (mB 48 1) HT_ HW_ hHeld ?_
   refine pV_ 1 59 (mB 48 3) HT_ ?_
   refine tV_ 3 61 (mB 48 11) HT_ HW_ hHeld ?_
   refine pV_ 4 62 (mB 48 27) HT_ ?_
   refine on_ 2 (some 60) (mB 48 31) HT_ (fun K hK => ?_)
   refine gs_ Try.func15 #[X.val, .int .i64 x] ?_
   with_reducible refine ok_ (forget_as (Oc.at_ HX HM.out.S.below) HM.out.S.below rfl FX_.out x rfl) fun f1 wk hf1 ho hb => ?_
   replace HM := MS.cl HM hb ho; clear hb ho
   refine hK.out _ _ ⟨kO HM m5_, kO HM m0_, kL HM m3_, kI HM m2_, kI HM m1_⟩ (fun hHeld => ?_)
   clear hK K
   refine nO_ 60 ?_
   refine on_ 5 (some 63) (mB 48 63) HT_ (fun K hK => ?_)
   refine gs_ Try.func15 #[jv.val, .int .i64 x] ?_
   with_reducible refine ok_ (forget_as (MS.oc HM m1_) (MS.bel HM) (HJV.out.trans JE.out) JF.out x rfl) fun f2 wk hf2 ho hb => ?_
   replace HM := MS.cl HM hb ho; clear hb ho
   refine hK.out _ _ ⟨kO HM m5_, kO HM m0_, kL HM m3_, kI HM m2_, kI HM m1_⟩ (fun hHeld => ?_)
   clear hK K
   refine nO_ 63 ?_
   refine on_ 6 (some 64) (mB 48 127) HT_ (fun K hK => ?_)
   refine gs_ Try.func25 #[f1.val, f2.val] ?_
   with_reducible refine sk_ (leq12_as (MS.oc HM m1_) (MS.oc HM m0_) HM.out.S.below hf1 hf2 OF1.out OF2.out QF.out) fun wk hb => ?_
   replace HM := MS.nx HM hb; clear hb
   refine hK.out _ _ ⟨kO HM m5_, kO HM m0_, kL HM m3_, kI HM m2_, kI HM m1_⟩ (fun hHeld => ?_)
   clear hK K
   refine nO_ 64 ?_
   refine pV_ 7 65 (mB 48 255) HT_ ?_
   refine tV_ 8 66 (mB 48 511) HT_ HW_ hHeld ?_
   refine tV_ 9 67 (mB 48 1023) HT_ HW_ hHeld ?_
   refine tV_ 10 68 (mB 48 2047) HT_ HW_ hHeld ?_
   refine tV_ 12 70 (mB 48 6143) HT_ HW_ hHeld ?_
   refine tV_ 13 71 (mB 48 14335) HT_ HW_ hHeld ?_
   refine tV_ 14 72 (mB 48 30719) HT_ HW_ hHeld ?_
   refine on_ 11 (some 69) (mB 48 32767) HT_ (fun K hK => ?_)
   refine gs_ Try.func19 #[X.val, lV lx sx y sy c, iV il ih] ?_
   with_reducible refine ok_ (guard_as (Oc.at_ HX HM.out.S.below) HM.out.S.below rfl FX_.out lx sx y sy c il ih rfl) fun g1 wk hg1 ho hb => ?_
   replace HM := MS.cl HM hb ho; clear hb ho
   refine hK.out _ _ ⟨kO HM m5_, kO HM m0_, kL HM m3_, kI HM m2_, kI HM m1_⟩ (fun hHeld => ?_)
   clear hK K
   refine nO_ 69 ?_
   refine on_ 15 (some 73) (mB 48 65535) HT_ (fun K hK => ?_)
   refine gs_ Try.func19 #[jv.val, lV lx sx y sy c, iV a b] ?_
   with_reducible refine ok_ (guard_as (MS.oc HM m3_) (MS.bel HM) (HJV.out.trans JE.out) JF.out lx sx y sy c a b rfl) fun g2 wk hg2 ho hb => ?_
   replace HM := MS.cl HM hb ho; clear hb ho
   refine hK.out _ _ ⟨kO HM m5_, kO HM m0_, kL HM m3_, kI HM m2_, kI HM m1_⟩ (fun hHeld => ?_)
   clear hK K
   refine nO_ 73 ?_
   refine on_ 16 (some 74) (mB 48 131071) HT_ (fun K hK => ?_)
   refine gs_ Try.func25 #[g1.val, g2.val] ?_
   with_reducible refine sk_ (leq12_as (MS.oc HM m1_) (MS.oc HM m0_) HM.out.S.below hg1 hg2 OG1.out OG2.out QG.out) fun wk hb => ?_
   replace HM := MS.nx HM hb; clear hb
   refine hK.out _ _ ⟨kO HM m5_, kO HM m0_, kL HM m3_, kI HM m2_, kI HM m1_⟩ (fun hHeld => ?_)
   clear hK K
   refine nO_ 74 ?_
   refine pV_ 17 75 (mB 48 262143) HT_ ?_
   refine pV_ 18 76 (mB 48 524287) HT_ ?_
   refine tV_ 19 77 (mB 48 1048575) HT_ HW_ hHeld ?_
   refine pV_ 20 78 (mB 48 2097151) HT_ ?_
   refine tV_ 21 79 (mB 48 4194303) HT_ HW_ hHeld ?_
   refine tV_ 23 81 (mB 48 12582911) HT_ HW_ hHeld ?_
   refine pV_ 24 82 (mB 48 29360127) HT_ ?_
   refine tV_ 25 83 (mB 48 62914559) HT_ HW_ hHeld ?_
   refine on_ 22 (some 80) (mB 48 67108863) HT_ (fun K hK => ?_)
   refine gs_ Try.func21 #[X.val, .int .i64 x, lV lx sx y sy c] ?_
   with_reducible refine ok_ (assign_as (Oc.at_ HX HM.out.S.below) HM.out.S.below rfl FX_.out x lx sx y sy c rfl) fun a1 wk ha1 ho hb => ?_
   replace HM := MS.cl HM hb ho; clear hb ho
   refine hK.out _ _ ⟨kO HM m5_, kO HM m0_, kL HM m3_, kI HM m2_, kI HM m1_⟩ (fun hHeld => ?_)
   clear hK K
   refine nO_ 80 ?_
   refine on_ 26 (some 84) (mB 48 134217727) HT_ (fun K hK => ?_)
   refine gs_ Try.func21 #[jv.val, .int .i64 x, lV lx sx y sy c] ?_
   with_reducible refine ok_ (assign_as (MS.oc HM m5_) (MS.bel HM) (HJV.out.trans JE.out) JF.out x lx sx y sy c rfl) fun a2 wk ha2 ho hb => ?_
   replace HM := MS.cl HM hb ho; clear hb ho
   refine hK.out _ _ ⟨kO HM m5_, kO HM m0_, kL HM m3_, kI HM m2_, kI HM m1_⟩ (fun hHeld => ?_)
   clear hK K
   refine nO_ 84 ?_
   refine on_ 27 (some 85) (mB 48 268435455) HT_ (fun K hK => ?_)
   refine gs_ Try.func25 #[a1.val, a2.val] ?_
   with_reducible refine sk_ (leq12_as (MS.oc HM m1_) (MS.oc HM m0_) HM.out.S.below ha1 ha2 OS1.out OS2.out QS.out) fun wk hb => ?_
   replace HM := MS.nx HM hb; clear hb
   refine hK.out _ _ ⟨kO HM m5_, kO HM m0_, kL HM m3_, kI HM m2_, kI HM m1_⟩ (fun hHeld => ?_)
   clear hK K
   refine nO_ 85 ?_
   refine pV_ 28 86 (mB 48 536870911) HT_ ?_
   refine pV_ 29 87 (mB 48 1073741823) HT_ ?_
   refine tV_ 30 88 (mB 48 2147483647) HT_ HW_ hHeld ?_
   refine tV_ 31 89 (mB 48 4294967295) HT_ HW_ hHeld ?_
   refine tV_ 32 90 (mB 48 8589934591) HT_ HW_ hHeld ?_
   refine tV_ 34 92 (mB 48 25769803775) HT_ HW_ hHeld ?_
   refine on_ 33 (some 91) (mB 48 34359738367) HT_ (fun K hK => ?_)
   refine gs_ Try.func19 #[X.val, lV lx sx y sy c, iV il ih] ?_
   with_reducible refine ok_ (guard_as (Oc.at_ HX HM.out.S.below) HM.out.S.below rfl FX_.out lx sx y sy c il ih rfl) fun g3 wk hg3 ho hb => ?_
   replace HM := MS.cl HM hb ho; clear hb ho
   refine hK.out _ _ ⟨kO HM m5_, kO HM m0_, kL HM m3_, kI HM m2_, kI HM m1_⟩ (fun hHeld => ?_)
   clear hK K
   refine nO_ 91 ?_
   refine on_ 35 (some 93) (mB 48 68719476735) HT_ (fun K hK => ?_)
   refine gs_ Try.func25 #[g3.val, X.val] ?_
   with_reducible refine sk_ (leq12_as (MS.oc HM m0_) (Oc.at_ HX HM.out.S.below) HM.out.S.below hg3 rfl OG1.out OA.out QR.out) fun wk hb => ?_
   replace HM := MS.nx HM hb; clear hb
   refine hK.out _ _ ⟨kO HM m5_, kO HM m0_, kL HM m3_, kI HM m2_, kI HM m1_⟩ (fun hHeld => ?_)
   clear hK K
   refine nO_ 93 ?_
   refine pV_ 36 94 (mB 48 137438953471) HT_ ?_
   refine pV_ 37 95 (mB 48 274877906943) HT_ ?_
   refine tV_ 38 96 (mB 48 549755813887) HT_ HW_ hHeld ?_
   refine tV_ 39 97 (mB 48 1099511627775) HT_ HW_ hHeld ?_
   refine pV_ 40 98 (mB 48 2199023255551) HT_ ?_
   refine on_ 41 (some 99) (mB 48 4398046511103) HT_ (fun K hK => ?_)
   refine gs_ Try.func15 #[X.val, .int .i64 x] ?_
   with_reducible refine ok_ (forget_as (Oc.at_ HX HM.out.S.below) HM.out.S.below rfl FX_.out x rfl) fun f3 wk hf3 ho hb => ?_
   replace HM := MS.cl HM hb ho; clear hb ho
   refine hK.out _ _ ⟨kO HM m5_, kO HM m0_, kL HM m3_, kI HM m2_, kI HM m1_⟩ (fun hHeld => ?_)
   clear hK K
   refine nO_ 99 ?_
   refine on_ 42 (some 100) (mB 48 8796093022207) HT_ (fun K hK => ?_)
   refine gs_ Try.func25 #[X.val, f3.val] ?_
   with_reducible refine sk_ (leq12_as (Oc.at_ HX HM.out.S.below) (MS.oc HM m0_) HM.out.S.below rfl hf3 OA.out OF1.out QT.out) fun wk hb => ?_
   replace HM := MS.nx HM hb; clear hb
   refine hK.out _ _ ⟨kO HM m5_, kO HM m0_, kL HM m3_, kI HM m2_, kI HM m1_⟩ (fun hHeld => ?_)
   clear hK K
   refine nO_ 100 ?_
   refine pV_ 43 101 (mB 48 17592186044415) HT_ ?_
   refine pV_ 44 102 (mB 48 35184372088831) HT_ ?_
   refine on_ 45 (some 103) (mB 48 70368744177663) HT_ (fun K hK => ?_)
   refine gs_ Try.func13 #[] ?_
   with_reducible refine sk_ (AW _) fun wk hb => ?_
   replace HM := MS.nx HM hb; clear hb
   refine hK.out _ _ ⟨kO HM m5_, kO HM m0_, kL HM m3_, kI HM m2_, kI HM m1_⟩ (fun hHeld => ?_)
   clear hK K
   refine nO_ 103 ?_
   refine pV_ 46 104 (mB 48 140737488355327) HT_ ?_
   refine pV_ 47 12 (mB 48 281474976710655) HT_ ?_
   refine dn_ HT_ ?_
   clear HT_ HW_ hHeld
   go_wp2
   go_ret
   exact ⟨rfl, MS.bel HM⟩
  | succ k =>
   have q1 : (decide (i < (X.v.length : Int))) = true := decide_eq_true (by have := HI.out; omega)
   have p2 : 0 ≤ i := HI.out.1
   have q2 : i < (X.v.length : Int) := by have := HI.out; omega
   have q3 : i < (Y.v.length : Int) := by have := LE.out; omega
   obtain ⟨ad, ea, hx0⟩ := Kd.at_int ((Oc.now HX (MS.bel HM)).r0.reads (Below.refl _ _)) i p2 q2
   obtain ⟨bd, eb, hy0⟩ := Kd.at_int ((Oc.now HY (MS.bel HM)).r0.reads (Below.refl _ _)) i p2 q3
   have EA := Aside0.mk ea; have EB := Aside0.mk eb; clear ea eb hx0 hy0
   have P2 := Aside0.mk p2; have Q2 := Aside0.mk q2; have Q3 := Aside0.mk q3
   replace p2 := eq_true p2; replace q2 := eq_true q2; replace q3 := eq_true q3
   have kgo := MS.c3 HM m4_
   go_upto_region 6 with fail
   have d1 : (rd X.v i != rd Y.v i) = false := by rw [bne_eq_false_iff_eq]; exact (by rw [VE.out])
   replace HM := MS.dr HM
   clear kgo
   refine st_ 11 (fun w' => True ∧ w'.cell? ⟨go, 0, none⟩ = some (.slice (some ad) X.v.length X.p) ∧ w'.cell? ⟨gq, 0, none⟩ = some (.slice (some bd) Y.v.length Y.p) ∧ w'.cell? (ad.add i.toNat) = some (.int .i64 (rd X.v i)) ∧ w'.cell? (bd.add i.toNat) = some (.int .i64 (rd Y.v i))) [] ⟨trivial, (EA.out ▸ MS.k HM m4_ 0 rfl), (EB.out ▸ MS.k HM m3_ 0 rfl), (by obtain ⟨_, e_, h_⟩ := Kd.at_int ((Oc.now HX HM.out.S.below).r0.reads (Below.refl _ _)) i P2.out Q2.out; cases EA.out.symm.trans e_; exact h_), (by obtain ⟨_, e_, h_⟩ := Kd.at_int ((Oc.now HY HM.out.S.below).r0.reads (Below.refl _ _)) i P2.out Q3.out; cases EB.out.symm.trans e_; exact h_)⟩ (fun hHeld => ?_)
   refine with_tabW grows_tab6 grows_bits6 (fun HT_ HW_ => ?_)
   generalize World.drew _ = wk at HM hHeld ⊢
   refine pV_ 0 40 (mB 11 1) HT_ ?_
   refine tV_ 1 41 (mB 11 3) HT_ HW_ hHeld ?_
   refine pV_ 2 42 (mB 11 7) HT_ ?_
   refine pV_ 3 43 (mB 11 15) HT_ ?_
   refine tV_ 4 44 (mB 11 31) HT_ HW_ hHeld ?_
   refine pV_ 5 45 (mB 11 63) HT_ ?_
   refine tV_ 6 46 (mB 11 127) HT_ HW_ hHeld ?_
   refine pV_ 7 47 (mB 11 255) HT_ ?_
   refine pV_ 8 48 (mB 11 511) HT_ ?_
   refine tV_ 9 49 (mB 11 1023) HT_ HW_ hHeld ?_
   refine pV_ 10 50 (mB 11 2047) HT_ ?_
   refine dn_ HT_ ?_
   clear HT_ HW_ hHeld
   try go_wp2
   go_roundg k
   case measure => exact Nat.lt_succ_self k
   case rel =>
    have hw : wrap64 (i + 1) = i + 1 := by have := HI.out; have := LX8.out; unfold wrap64; omega
    exact ⟨wrap64 (i + 1), rfl, ⟨by rw [hw]; have := HI.out; omega⟩, ⟨MS.to HM⟩⟩
theorem octopGrows_walk (X Y : OV) (x lx sx y sy c il ih jl jh : Int) (w : World) (hX : Oc w w X) (hY : Oc w w Y) (lenx : X.v.length ≤ 17592186044416) (leny : Y.v.length ≤ 17592186044416) : Says 6 #[X.val, Y.val, .int .i64 x, lV lx sx y sy c, iV il ih, iV jl jh] w (.bool true) := by
 cases hfx : ofitB X.v X.m X.e with
 | false => exact grows_no1 awake_o X Y x lx sx y sy c il ih jl jh ⟨hX⟩ ⟨hY⟩ ⟨lenx⟩ ⟨leny⟩ ⟨hfx⟩
 | true =>
  cases hfy : ofitB Y.v Y.m Y.e with
  | false => exact grows_no2 awake_o X Y x lx sx y sy c il ih jl jh ⟨hX⟩ ⟨hY⟩ ⟨lenx⟩ ⟨leny⟩ ⟨hfx⟩ ⟨hfy⟩
  | true =>
   by_cases le : X.v.length = Y.v.length
   ·
    have fx := ofitB_true.1 hfx
    have fy := ofitB_true.1 hfy
    have ln : ((X.v.length : Int) != (Y.v.length : Int)) = false := by rw [le]; simp
    by_cases ne : X.v = Y.v
    ·
     obtain ⟨a, b, hij⟩ : ∃ a b, itvJ (il, ih) (jl, jh) = (a, b) := ⟨_, _, rfl⟩
     have oa : On X.v X.o := ⟨rfl, fx⟩
     have ob : On X.v Y.o := ⟨ne.symm, by rw [ne]; exact fy⟩
     have oj := jT_on oa ob
     have jg := jT_ge oa ob
     obtain ⟨jm, je, hj, jf⟩ : ∃ jm je, jT X.v X.o Y.o = (X.v, jm, je) ∧ OFit X.v jm je := ⟨_, _, Prod.ext oj.1 rfl, oj.2⟩
     rw [hj] at jg oj
     have sub := isub_join (il, ih) (jl, jh)
     rw [hij] at sub
     exact grows_in awake_o X Y x lx sx y sy c il ih jl jh ⟨hX⟩ ⟨hY⟩ ⟨lenx⟩ ⟨leny⟩ ⟨hfx⟩ ⟨hfy⟩ ⟨ln⟩ ⟨le⟩ ⟨fx.1.1⟩ (v := X.v) ⟨ne⟩ ⟨oa⟩ ⟨ob⟩ ⟨fx⟩ ⟨hij⟩ ⟨hj⟩ ⟨jf⟩ ⟨fgt_on oa x⟩ ⟨fgt_on oj x⟩ ⟨fgt_mono oa oj jg x⟩ ⟨grd_on oa _ _ _ _ _ (il, ih)⟩ ⟨grd_on oj _ _ _ _ _ (a, b)⟩ ⟨grd_mono oa oj jg lx sx y sy c sub⟩ ⟨asg_on oa x _ _ _ _ _⟩ ⟨asg_on oj x _ _ _ _ _⟩ ⟨asg_mono oa oj jg x lx sx y sy c⟩ ⟨grd_le oa _ _ _ _ _ (il, ih)⟩ ⟨fgt_ge oa x⟩
    ·
     exact grows_no4 awake_o X Y x lx sx y sy c il ih jl jh ⟨hX⟩ ⟨hY⟩ ⟨lenx⟩ ⟨leny⟩ ⟨hfx⟩ ⟨hfy⟩ ⟨ln⟩ ⟨le⟩ ⟨fx.1.1⟩ ⟨ne⟩
   ·
    exact grows_no3 awake_o X Y x lx sx y sy c il ih jl jh ⟨hX⟩ ⟨hY⟩ ⟨lenx⟩ ⟨leny⟩ ⟨hfx⟩ ⟨hfy⟩ (bne_iff_ne.2 (by omega))
end Go.Proofs.Ytphfchbggechhaa.QO
end
end
section
namespace Go.Proofs.Ytphfchbggechhaa.Open
open Go.RowKit Go.ChangeShapes Go.WideShapes YtphfchbggechhaaW.PrintWords YtphfchbggechhaaW.PrintMore
def Opens {α : Type} (P : Program) (t : TypeId) (R : World → α → List Value → Prop) (Q : α → Prop) : Prop :=
 ∀ (H : Type) (enc : TypeId × Value → H) (w : World) (base : Nat) (spare : Nat → Bool) (held : Bool) (fuel : Nat) (cs : List Value) (x : DataW H × List MemPlace),
  DataW.trod enc P w base spare held fuel t cs = some x → (∀ n ∈ DataW.weights P t x.1, n ≤ 140737488351232) → ∃ a : α, R w a cs ∧ Q a
variable {P : Program} {t e : TypeId}
theorem opens_int {k : IntKind} (ht : P.underlying t = some (.int k)) : Opens P t (Kd.int k).K (fun n => (Lit.int k n).wf = true) := by
 intro H enc w base spare held fuel cs x h _
 obtain ⟨n, rfl, _, hw⟩ := DataW.trod_int ht h
 exact ⟨n, rfl, hw⟩
theorem opens_bool (ht : P.underlying t = some .bool) : Opens P t Kd.bool.K (fun _ => True) := by
 intro H enc w base spare held fuel cs x h _
 obtain ⟨n, rfl, _⟩ := DataW.trod_bool ht h
 exact ⟨n, rfl, trivial⟩
theorem weightsAll_mem {H : Type} {l : List (DataW H)} {d : DataW H} (hd : d ∈ l) {n : Nat} (hn : n ∈ DataW.weights P e d) : n ∈ DataW.weightsAll P e l := by
 induction l with
 | nil => cases hd
 | cons y r ih =>
  unfold DataW.weightsAll
  rcases List.mem_cons.1 hd with rfl | h
  ·
   exact List.mem_append_left _ hn
  ·
   exact List.mem_append_right _ (ih h)
theorem weightsEach_mem {H : Type} : ∀ {ts : List TypeId} {l : List (DataW H)} {i : Nat} {t : TypeId} {d : DataW H}, ts[i]? = some t → l[i]? = some d → ∀ {n : Nat}, n ∈ DataW.weights P t d → n ∈ DataW.weightsEach P ts l
 | [], _, i, _, _, h, _, _, _ => by simp at h
 | _ :: _, [], i, _, _, _, h, _, _ => by simp at h
 | t' :: ts, d' :: l, 0, t, d, h1, h2, n, hn => by
  simp at h1 h2; subst h1; subst h2
  unfold DataW.weightsEach; exact List.mem_append_left _ hn
 | t' :: ts, d' :: l, i + 1, t, d, h1, h2, n, hn => by
  simp at h1 h2
  unfold DataW.weightsEach; exact List.mem_append_right _ (weightsEach_mem h1 h2 hn)
theorem all_some {α β : Type} {Q : Nat → α → β → Prop} : ∀ (xs : List β) (_ : ∀ i y, xs[i]? = some y → ∃ a, Q i a y), ∃ l : List α, l.length = xs.length ∧ ∀ i a, l[i]? = some a → ∃ y, xs[i]? = some y ∧ Q i a y
 | [], _ => ⟨[], rfl, fun i a h => by simp at h⟩
 | y :: r, h => by
  obtain ⟨a0, h0⟩ := h 0 y rfl
  obtain ⟨l, hl, hr⟩ := all_some (Q := fun i a y => Q (i + 1) a y) r (fun i y hy => h (i + 1) y (by simpa using hy))
  refine ⟨a0 :: l, by simp [hl], fun i a hi => ?_⟩
  cases i with
  | zero => simp at hi; subst hi; exact ⟨y, rfl, h0⟩
  | succ i => obtain ⟨z, hz, hq⟩ := hr i a (by simpa using hi); exact ⟨z, by simpa using hz, hq⟩
theorem opens_slice {α : Type} {d : Kd α} {Q : α → Prop} {B : Nat} (ht : P.underlying t = some (.slice e)) (hs : P.cellsOf e = d.sz) (hB : P.bytesOf e = B) (ho : Opens P e d.K Q) :
 Opens P t (Kd.slice e d).K (fun l => l.length * B ≤ 140737488351232 ∧ l.length ≤ maxLen ∧ ∀ x ∈ l, Q x) := by
 intro H enc w base spare held fuel cs x h hw
 rcases DataW.trod_slice ht h with ⟨rfl, _⟩ | ⟨a, len, cap, elems, rest, n, _, rfl, rfl, hb, hl, hc, hlen, hel, _, _⟩
 ·
  exact ⟨[], ⟨none, 0, rfl, Nat.le_refl _, ⟨rfl, by simp, fun h => absurd h (by simp)⟩⟩, by simp, by simp, fun x hx => by cases hx⟩
 ·
  have hwt : ∀ m ∈ DataW.weights P t (.slice (elems.map (·.1)) (rest.map (·.1))), m ≤ 140737488351232 := hw
  have each : ∀ i y, elems[i]? = some y → ∃ a' : α, (∃ c : List Value, c.length = d.sz ∧ d.K w a' c ∧ ∀ j u, c[j]? = some u → w.cell? (a.add (i * d.sz + j)) = some u) ∧ Q a' := by
   intro i y hy
   have hi : i < len := by rw [← hlen]; exact (List.getElem?_eq_some_iff.1 hy).1
   have h1 := hel i hi
   rw [hy] at h1
   obtain ⟨c, hc1, hc2⟩ := Option.bind_eq_some_iff.1 h1
   obtain ⟨a', hk, hq⟩ := ho H enc w base spare held n c y hc2 (fun m hm => hwt m (by
    simp only [DataW.weights, ht]
    exact List.mem_cons_of_mem _ (List.mem_append_left _ (weightsAll_mem (List.mem_map_of_mem (List.mem_of_getElem? hy)) hm))))
   refine ⟨a', ⟨c, d.K_len hk, hk, fun j u hj => ?_⟩, hq⟩
   unfold World.cells? at hc1
   split at hc1
   ·
    have hlc := mapM_some_length hc1
    have hj' : j < P.cellsOf e := by have := (List.getElem?_eq_some_iff.1 hj).1; rw [List.length_range] at hlc; omega
    have := mapM_some_get hc1 j j (by simp [hj'])
    rw [hj] at this
    rw [← hs, ← Addr.add_add]
    exact this
   ·
    cases hc1
  obtain ⟨l, hll, hlr⟩ := all_some elems each
  refine ⟨l, ⟨some a, cap, ?_, by omega, ⟨rfl, ?_, fun _ => ⟨a, rfl, fun j p hj => ?_⟩⟩⟩, ?_, by omega, fun x hx => ?_⟩
  ·
   rw [hll, hlen]
  ·
   unfold maxLen at hc; omega
  ·
   obtain ⟨_, _, ⟨c, h1, h2, h3⟩, _⟩ := hlr j p hj
   exact ⟨c, h1, h2, h3⟩
  ·
   have := hwt (((elems.map (·.1)).length + (rest.map (·.1)).length) * P.bytesOf e) (by simp only [DataW.weights, ht]; exact List.mem_cons_self ..)
   rw [hB] at this
   simp only [List.length_map] at this
   rw [hll]
   exact Nat.le_trans (Nat.mul_le_mul_right _ (by omega)) this
  ·
   obtain ⟨i, hi⟩ := List.getElem?_of_mem hx
   obtain ⟨_, _, _, hq⟩ := hlr i x hi
   exact hq
theorem open_field {H : Type} {enc : TypeId × Value → H} {w : World} {base : Nat} {spare : Nat → Bool} {held : Bool} {fs : Array Field} {xs : List (DataW H × List MemPlace)} {n : Nat} {cs : List Value}
 (ht : P.underlying t = some (.struct fs)) (hw : ∀ m ∈ DataW.weights P t (.agg (xs.map (·.1))), m ≤ 140737488351232) (hx : xs.length = fs.size)
 (hf : ∀ (i : Nat) (f : Field), fs[i]? = some f → DataW.trod enc P w base spare held n f.type ((cs.drop f.offset).take (P.cellsOf f.type)) = xs[i]?)
 (i : Nat) (f : Field) (hi : fs[i]? = some f) (o s : Nat) (eo : f.offset = o) (es : P.cellsOf f.type = s) {α : Type} {R : World → α → List Value → Prop} {Q : α → Prop} (ho : Opens P f.type R Q) : ∃ a : α, R w a ((cs.drop o).take s) ∧ Q a := by
 have h1 := hf i f hi
 rw [eo, es] at h1
 have hlt : i < xs.length := by rw [hx]; exact (Array.getElem?_eq_some_iff.1 hi).1
 rw [List.getElem?_eq_getElem hlt] at h1
 refine ho H enc w base spare held n _ _ h1 (fun m hm => hw m ?_)
 simp only [DataW.weights, ht]
 refine weightsEach_mem (i := i) (t := f.type) (d := xs[i].1) ?_ ?_ hm
 ·
  simp only [List.getElem?_map, Array.getElem?_toList, hi, Option.map_some]
 ·
  simp only [List.getElem?_map, List.getElem?_eq_getElem hlt, Option.map_some]
theorem weights_at {H : Type} {ts : List TypeId} {ds : List (DataW H)} (hsz : (DataW.weightsEach P ts ds).all (· ≤ reachBytes) = true) {j : Nat} {d : DataW H} (h1 : ts[j]? = some t) (h2 : ds[j]? = some d) : ∀ m ∈ DataW.weights P t d, m ≤ 140737488351232 := by
 intro m hm
 exact of_decide_eq_true (List.all_eq_true.1 hsz m (weightsEach_mem h1 h2 hm))
end Go.Proofs.Ytphfchbggechhaa.Open
end
