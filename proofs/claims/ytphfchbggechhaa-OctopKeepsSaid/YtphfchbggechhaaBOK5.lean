/- Own texts of this claim, joined. -/
import Derived.Test.YtphfchbggechhaaBOK0
import Derived.Test.YtphfchbggechhaaBOK1
import Derived.Test.YtphfchbggechhaaBOK2
import Derived.Test.YtphfchbggechhaaBOK3
import Derived.Test.YtphfchbggechhaaBOK4
import Derived.LoopN
import Derived.ChangeArms
import Derived.SizedLaws
set_option maxRecDepth 100000
set_option maxHeartbeats 16000000
section
noncomputable section
namespace Go.Proofs.Ytphfchbggechhaa.QO
open Go.RowKit Go.Shelf YtphfchbggechhaaW.PrintWords YtphfchbggechhaaW.PrintLast YtphfchbggechhaaW.PrintMore
open Ytphfchbggechhaa.Pure
set_option linter.unusedVariables false
section
variable {w W : World} {x : OV} {v m : List Int} {e : Bool}
theorem rclose_as {a : List Int × List Int × Bool} (hx : Oc w W x) (hb : Below w.heap.size w W) (ho : x.o = (v, m, e)) (fx : OFit v m e) (ha : closeF v m e = a) :
 Calls Try.prog 38 #[x.val] W fun e W' => ∃ z : OV, e = .returned z.val ∧ z.o = a ∧ Own W W' z ∧ Below W.heap.size W W' := rclose_h hx hb ho fx ha
theorem rplace_as {p : Int} (hx : Oc w W x) (hb : Below w.heap.size w W) (ho : x.o = (v, m, e)) (l : v.length ≤ 1000) (a : Int) (hp : placeF v a = p) : Says 28 #[x.val, .int .i64 a] W (.int .i64 p) := by
 obtain ⟨P, p, Q, q, v', m', e'⟩ := x
 cases ho
 rw [← hp]
 obtain ⟨K, hK⟩ := rplace_f v' m' e' a l
 exact gimbalref11_Place.calls K P p _ Q q _ _ a _ W (hx.r0.reads hb) hx.r0.le (hx.r1.reads hb) hx.r1.le (hK K (Nat.le_refl _))
theorem rgreatest_as {lx sx y sy c g : Int} {K : Nat} (hx : Oc w W x) (hb : Below w.heap.size w W) (ho : x.o = (v, m, e)) (hg : gimbalref11_greatest.f K v m e lx sx y sy c = some g) :
 Says 91 #[x.val, lV lx sx y sy c] W (.int .i64 g) := by
 obtain ⟨P, p, Q, q, v', m', e'⟩ := x
 cases ho
 exact gimbalref11_greatest.calls K P p _ Q q _ _ lx sx y sy c _ W (hx.r0.reads hb) hx.r0.le (hx.r1.reads hb) hx.r1.le hg
end
end Go.Proofs.Ytphfchbggechhaa.QO
end
end
section
noncomputable section
namespace Go.Proofs.Ytphfchbggechhaa.QO
open Go.RowKit Go.Shelf YtphfchbggechhaaW.PrintWords YtphfchbggechhaaW.PrintLast YtphfchbggechhaaW.PrintMore
open Ytphfchbggechhaa.Pure
attribute [local go_sem] Oper.semAt_some
attribute [local go_sem ↓] Go.wp_at_zero Go.wp_at_succ
set_option linter.unusedVariables false
set_option linter.unusedSimpArgs false
def rbnd2_T11 : Bool × List (List Nat × List Nat) := (true, [([], []), ([0], [0]), ([1], [1]), ([], []), ([3], [3]), ([4], [4]), ([0, 1, 2], []), ([6, 2, 0, 1, 2], [2, 6]), ([0, 1, 2, 3, 4, 5, 6, 7], []), ([8, 5, 7, 0, 1, 2, 3, 4, 5, 6, 7], [5, 8])])
def rbnd2_B11 : List Nat := [0, 1, 3, 0, 8, 24, 7, 71, 255, 511]
theorem rbnd2_tab11 : rtab .any (opsOf Try.f50 11) = rbnd2_T11 := by kernel_rfl
theorem rbnd2_bits11 : waitsOk rbnd2_T11.2 rbnd2_B11 = true := by kernel_rfl
theorem rbnd2_bot (X : OV) (lx sx y sy c : Int) {cm : List Int} {w : World} (HX : Aside0 (Oc w w X)) (FX_ : Aside0 (OFit X.v X.m X.e)) (LK : Aside0 (X.v.length ≤ 1000)) (HC : Aside0 (closeF X.v X.m X.e = (X.v, cm, true))) :
 Says 50 #[X.val, lV lx sx y sy c] w (iV 1 0) := by
 have hu25 := Try.underlying25
 have hu34 := Try.underlying34
 have hu36 := Try.underlying36
 go_enter Try.func50, Try.ntmps50
 go_upto_region 1 with fail
 have HM := MS.n3 w X.cells (lC lx sx y sy c) (iC 0 0)
 generalize World.alloc _ _ = wk at HM ⊢
 generalize w.heap.size + 2 = gr at HM ⊢
 generalize w.heap.size + 1 = gl at HM ⊢
 generalize w.heap.size = go at HM ⊢
 have kgo := MS.c3 HM m2_
 go_upto_region 2 with (first | (go_at_call 38; (with_reducible refine (rclose_as (Oc.now HX (MS.bel HM)) (Below.refl _ _) rfl FX_.out HC.out).mono ?_); rintro e wk ⟨cv, rfl, hcv, ho, hb⟩; replace HM := MS.cl HM hb ho; clear ho hb; replace kgo := MS.c3 HM m2_) | ((with_reducible refine gate_dst (N := 5) rfl ?_); refine bx_ 5 #[.slice none 0 0, .slice none 0 0, .bool false] 25 ?_; intro gc hg wk hbox hb; replace HM := MS.md HM hg hbox hb; clear hg hbox hb; have kgc := MS.c3 HM m0_; replace kgo := MS.c3 HM m3_))
 replace HM := MS.sb HM (.refl _) (.cons_cons _ (.cons_cons _ (.cons_cons _ (.cons _ .slnil)))); clear kgo
 replace HM := MS.po0 cv HM
 generalize World.setCell _ _ _ = wk at HM ⊢
 have HCV := Aside0.mk hcv; clear hcv
 have hem : cv.e = true := congrArg (·.2.2) HCV.out
 replace kgc := MS.c3 HM m0_; have kgr := MS.c2 HM m1_; have kgl := MS.c5 HM m2_
 go_wp2
 clear hem
 replace HM := MS.pi1 1 0 HM
 generalize World.setCell _ _ _ = wk at HM ⊢
 refine MS.rt HM m1_ ?_
 exact ⟨rfl, HM.out.S.below⟩
theorem rbnd2_in (X : OV) (lx sx y sy c : Int) {cm : List Int} {w : World} (HX : Aside0 (Oc w w X)) (FX_ : Aside0 (OFit X.v X.m X.e)) (LK : Aside0 (X.v.length ≤ 1000)) {px py sx' sy' g1 g2 lo hi : Int} {K : Nat} (HC : Aside0 (closeF X.v X.m X.e = (X.v, cm, false))) (HPX : Aside0 (placeF X.v lx = px)) (HPY : Aside0 (placeF X.v y = py)) (TSX : Aside0 ((sx != 0) = true)) (TPX : Aside0 (decide (px < 0) = false)) (TPY : Aside0 (sy ≠ 0 → decide (py < 0) = false)) (WN : Aside0 (IntKind.i64.wrap (-sx) = sx' ∧ wrap64 (-sx) = sx' ∧ IntKind.i64.wrap (-sy) = sy' ∧ wrap64 (-sy) = sy'))
 (HG1 : Aside0 (gimbalref11_greatest.f K X.v cm false lx sx y sy c = some g1)) (HG2 : Aside0 (gimbalref11_greatest.f K X.v cm false lx sx' y sy' c = some g2)) (EH : Aside0 (g1 = 4611686018427387904 → 4611686018427387904 = hi)) (WH : Aside0 (g1 ≠ 4611686018427387904 → IntKind.i64.wrap (g1 + c) = hi ∧ wrap64 (g1 + c) = hi)) (EL : Aside0 (g2 = 4611686018427387904 → (-4611686018427387904) = lo)) (WL : Aside0 (g2 ≠ 4611686018427387904 → IntKind.i64.wrap (c - g2) = lo ∧ wrap64 (c - g2) = lo)) :
 Says 50 #[X.val, lV lx sx y sy c] w (iV lo hi) := by
 have hu25 := Try.underlying25
 have hu34 := Try.underlying34
 have hu36 := Try.underlying36
 go_enter Try.func50, Try.ntmps50
 go_upto_region 1 with fail
 have HM := MS.n3 w X.cells (lC lx sx y sy c) (iC 0 0)
 generalize World.alloc _ _ = wk at HM ⊢
 generalize w.heap.size + 2 = gr at HM ⊢
 generalize w.heap.size + 1 = gl at HM ⊢
 generalize w.heap.size = go at HM ⊢
 have kgo := MS.c3 HM m2_
 go_upto_region 2 with (first | (go_at_call 38; (with_reducible refine (rclose_as (Oc.now HX (MS.bel HM)) (Below.refl _ _) rfl FX_.out HC.out).mono ?_); rintro e wk ⟨cv, rfl, hcv, ho, hb⟩; replace HM := MS.cl HM hb ho; clear ho hb; replace kgo := MS.c3 HM m2_) | ((with_reducible refine gate_dst (N := 5) rfl ?_); refine bx_ 5 #[.slice none 0 0, .slice none 0 0, .bool false] 25 ?_; intro gc hg wk hbox hb; replace HM := MS.md HM hg hbox hb; clear hg hbox hb; have kgc := MS.c3 HM m0_; replace kgo := MS.c3 HM m3_))
 replace HM := MS.sb HM (.refl _) (.cons_cons _ (.cons_cons _ (.cons_cons _ (.cons _ .slnil)))); clear kgo
 replace HM := MS.po0 cv HM
 generalize World.setCell _ _ _ = wk at HM ⊢
 have HCV := Aside0.mk hcv; clear hcv
 have hem : cv.e = false := congrArg (·.2.2) HCV.out
 replace kgc := MS.c3 HM m0_; have kgr := MS.c2 HM m1_
 go_upto_region 4 with fail
 clear hem
 (try simp only [Act.put, List.setIfInBounds_toArray, List.set_cons_zero, List.set_cons_succ])
 go_cut [36] from 10 (fun v36 wc => v36 = .bool false ∧ Aside0 (MS w [cv] [(gc, cv.cells), (gr, iC 0 0), (gl, lC lx sx y sy c)] wc))
 case first =>
  have t1 := TSX.out; have t2 := TPX.out
  by_cases S_ : sy = 0
  ·
   have S := Aside0.mk S_; clear S_
   have t3 : (sy != 0) = false := bne_eq_false_iff_eq.2 S.out
   have kgl := MS.c5 HM m2_
   go_wp2_with (first | (go_at_call 28; (with_reducible refine (rplace_as (MS.oc HM m0_) (MS.bel HM) HCV.out LK.out lx HPX.out).mono ?_); rintro e wk ⟨rfl, hb⟩; replace HM := MS.nx HM hb; clear hb; replace kgc := MS.c3 HM m0_; replace kgr := MS.c2 HM m1_; replace kgl := MS.c5 HM m2_))
   go_meet
   case rel => exact ⟨rfl, HM⟩
  ·
   have S := Aside0.mk S_; clear S_
   have t3 : (sy != 0) = true := bne_iff_ne.2 S.out; have t4 := TPY.out S.out
   have kgl := MS.c5 HM m2_
   go_wp2_with (first | (go_at_call 28; (with_reducible refine (rplace_as (MS.oc HM m0_) (MS.bel HM) HCV.out LK.out lx HPX.out).mono ?_); rintro e wk ⟨rfl, hb⟩; replace HM := MS.nx HM hb; clear hb; replace kgc := MS.c3 HM m0_; replace kgr := MS.c2 HM m1_; replace kgl := MS.c5 HM m2_) | (go_at_call 28; (with_reducible refine (rplace_as (MS.oc HM m0_) (MS.bel HM) HCV.out LK.out y HPY.out).mono ?_); rintro e wk ⟨rfl, hb⟩; replace HM := MS.nx HM hb; clear hb; replace kgc := MS.c3 HM m0_; replace kgr := MS.c2 HM m1_; replace kgl := MS.c5 HM m2_))
   go_meet
   case rel => exact ⟨rfl, HM⟩
 case rest =>
  clear HM; clear kgc kgr
  obtain ⟨rfl, HM⟩ := hcut
  have kgc := MS.c3 HM m0_; have kgr := MS.c2 HM m1_; have kgl := MS.c5 HM m2_
  go_upto_region 7 with (first | ((with_reducible refine gate_dst (N := 6) rfl ?_); refine bx_ 6 #[.int .i64 0, .int .i64 0] 36 ?_; intro gi hg wk hbox hb; replace HM := MS.md HM hg hbox hb; clear hg hbox hb; have kgi := MS.c2 HM m0_; replace kgc := MS.c3 HM m1_; replace kgr := MS.c2 HM m2_; replace kgl := MS.c5 HM m3_))
  replace HM := MS.pi0 (-4611686018427387904) 4611686018427387904 HM
  generalize World.setCell _ _ _ = wk at HM ⊢
  replace kgi := MS.c2 HM m0_; replace kgc := MS.c3 HM m1_; replace kgr := MS.c2 HM m2_; replace kgl := MS.c5 HM m3_
  go_upto_if 43 with (first | (go_at_call 91; (with_reducible refine (rgreatest_as (MS.oc HM m0_) (MS.bel HM) HCV.out HG1.out).mono ?_); rintro e wk ⟨rfl, hb⟩; replace HM := MS.nx HM hb; clear hb; replace kgi := MS.c2 HM m0_; replace kgc := MS.c3 HM m1_; replace kgr := MS.c2 HM m2_; replace kgl := MS.c5 HM m3_))
  (try simp only [Act.put, List.setIfInBounds_toArray, List.set_cons_zero, List.set_cons_succ])
  go_cut [] from 10 (fun wc => Aside0 (MS w [cv] [(gi, iC (-4611686018427387904) hi), (gc, cv.cells), (gr, iC 0 0), (gl, lC lx sx y sy c)] wc))
  case first =>
   by_cases S_ : g1 = 4611686018427387904
   ·
    have S := Aside0.mk S_; clear S_
    have t1 : (g1 != 4611686018427387904) = false := bne_eq_false_iff_eq.2 S.out
    replace kgi := MS.c2 HM m0_; replace kgc := MS.c3 HM m1_; replace kgr := MS.c2 HM m2_; replace kgl := MS.c5 HM m3_
    go_wp2
    go_meet
    case rel => exact EH.out S.out ▸ HM
   ·
    have S := Aside0.mk S_; clear S_
    have t1 : (g1 != 4611686018427387904) = true := bne_iff_ne.2 S.out; obtain ⟨s1, s1'⟩ := WH.out S.out
    replace kgi := MS.c2 HM m0_; replace kgc := MS.c3 HM m1_; replace kgr := MS.c2 HM m2_; replace kgl := MS.c5 HM m3_
    go_wp2
    clear t1 s1 s1'
    replace HM := MS.pj0 (cs' := #[.int .i64 (-4611686018427387904), .int .i64 hi]) 1 (.int .i64 hi) HM rfl
    generalize World.setCell _ _ _ = wk at HM ⊢
    go_meet
    case rel => exact HM
  case rest =>
   clear HM; clear kgc kgi kgl kgr
   have HM := hcut; clear hcut
   have kgi := MS.c2 HM m0_; have kgc := MS.c3 HM m1_; have kgl := MS.c5 HM m3_
   go_upto_region 11 with (first | ((with_reducible refine gate_dst (N := 8) rfl ?_); refine bx_ 8 #[.int .i64 0, .int .i64 0, .int .i64 0, .int .i64 0, .int .i64 0] 34 ?_; intro gm hg wk hbox hb; replace HM := MS.md HM hg hbox hb; clear hg hbox hb; have kgm := MS.c5 HM m0_; replace kgi := MS.c2 HM m1_; replace kgc := MS.c3 HM m2_; replace kgl := MS.c5 HM m4_))
   replace HM := MS.pl0 lx sx y sy c HM
   generalize World.setCell _ _ _ = wk at HM ⊢
   obtain ⟨wx, wx', wy, wy'⟩ := WN.out
   replace HM := MS.dr HM
   clear kgc kgi kgl kgm
   refine st_ 10 (fun w' => w'.cell? ⟨gl, 1, none⟩ = some (.int .i64 sx) ∧ w'.cell? ⟨gl, 3, none⟩ = some (.int .i64 sy)) [] ⟨MS.k HM m4_ 1 rfl, MS.k HM m4_ 3 rfl⟩ (fun hHeld => ?_)
   refine with_tabW rbnd2_tab11 rbnd2_bits11 (fun HT_ HW_ => ?_)
   generalize World.drew _ = wk at HM hHeld ⊢
   refine pV_ 0 50 (mB 10 1) HT_ ?_
   refine tV_ 1 51 (mB 10 3) HT_ HW_ hHeld ?_
   refine pV_ 2 52 (mB 10 7) HT_ ?_
   refine pV_ 3 53 (mB 10 15) HT_ ?_
   refine tV_ 4 54 (mB 10 31) HT_ HW_ hHeld ?_
   refine pV_ 5 55 (mB 10 63) HT_ ?_
   refine pV_ 6 56 (mB 10 127) HT_ ?_
   refine on_ 7 none (mB 10 255) HT_ (fun K hK => ?_)
   have kgm := MS.c5 HM m0_
   refine skip_ (w1 := ?_) (by rfl) rfl ?_ ?_
   rotate_left
   ·
    go_simp
    rfl
   replace HM := MS.pj0 (cs' := #[.int .i64 lx, .int .i64 sx', .int .i64 y, .int .i64 sy, .int .i64 c]) 1 (.int .i64 sx') HM rfl
   clear kgm
   refine hK.out _ _ ⟨MS.k HM m4_ 1 rfl, MS.k HM m4_ 3 rfl⟩ (fun hHeld => ?_)
   clear hK K
   generalize World.setCell _ _ _ = wk at HM hHeld ⊢
   refine pV_ 8 57 (mB 10 511) HT_ ?_
   refine on_ 9 none (mB 10 1023) HT_ (fun K hK => ?_)
   have kgm := MS.c5 HM m0_
   refine skip_ (w1 := ?_) (by rfl) rfl ?_ ?_
   rotate_left
   ·
    go_simp
    rfl
   replace HM := MS.pj0 (cs' := #[.int .i64 lx, .int .i64 sx', .int .i64 y, .int .i64 sy', .int .i64 c]) 3 (.int .i64 sy') HM rfl
   clear kgm
   refine hK.out _ _ ⟨MS.k HM m4_ 1 rfl, MS.k HM m4_ 3 rfl⟩ (fun hHeld => ?_)
   clear hK K
   generalize World.setCell _ _ _ = wk at HM hHeld ⊢
   refine dn_ HT_ ?_
   clear HT_ HW_ hHeld
   clear wx wx' wy wy'
   have kgm := MS.c5 HM m0_; have kgi := MS.c2 HM m1_; have kgc := MS.c3 HM m2_; have kgr := MS.c2 HM m3_; have kgl := MS.c5 HM m4_
   go_upto_if 62 with (first | (go_at_call 91; (with_reducible refine (rgreatest_as (MS.oc HM m0_) (MS.bel HM) HCV.out HG2.out).mono ?_); rintro e wk ⟨rfl, hb⟩; replace HM := MS.nx HM hb; clear hb; replace kgm := MS.c5 HM m0_; replace kgi := MS.c2 HM m1_; replace kgc := MS.c3 HM m2_; replace kgr := MS.c2 HM m3_; replace kgl := MS.c5 HM m4_))
   (try simp only [Act.put, List.setIfInBounds_toArray, List.set_cons_zero, List.set_cons_succ])
   go_cut [] from 10 (fun wc => Aside0 (MS w [cv] [(gm, lC lx sx' y sy' c), (gi, iC lo hi), (gc, cv.cells), (gr, iC 0 0), (gl, lC lx sx y sy c)] wc))
   case first =>
    by_cases S_ : g2 = 4611686018427387904
    ·
     have S := Aside0.mk S_; clear S_
     have t1 : (g2 != 4611686018427387904) = false := bne_eq_false_iff_eq.2 S.out
     replace kgm := MS.c5 HM m0_; replace kgi := MS.c2 HM m1_; replace kgc := MS.c3 HM m2_; replace kgr := MS.c2 HM m3_; replace kgl := MS.c5 HM m4_
     go_wp2
     go_meet
     case rel => exact EL.out S.out ▸ HM
    ·
     have S := Aside0.mk S_; clear S_
     have t1 : (g2 != 4611686018427387904) = true := bne_iff_ne.2 S.out; obtain ⟨s1, s1'⟩ := WL.out S.out
     replace kgm := MS.c5 HM m0_; replace kgi := MS.c2 HM m1_; replace kgc := MS.c3 HM m2_; replace kgr := MS.c2 HM m3_; replace kgl := MS.c5 HM m4_
     go_wp2
     clear t1 s1 s1'
     replace HM := MS.pj1 (cs' := #[.int .i64 lo, .int .i64 hi]) 0 (.int .i64 lo) HM rfl
     generalize World.setCell _ _ _ = wk at HM ⊢
     go_meet
     case rel => exact HM
   case rest =>
    clear HM; clear kgc kgi kgl kgm kgr
    have HM := hcut; clear hcut
    have kgm := MS.c5 HM m0_; have kgi := MS.c2 HM m1_; have kgc := MS.c3 HM m2_; have kgr := MS.c2 HM m3_; have kgl := MS.c5 HM m4_
    go_wp2
    replace HM := MS.pi3 lo hi HM
    generalize World.setCell _ _ _ = wk at HM ⊢
    refine MS.rt HM m3_ ?_
    exact ⟨rfl, HM.out.S.below⟩
end Go.Proofs.Ytphfchbggechhaa.QO
end
end
section
noncomputable section
namespace Go.Proofs.Ytphfchbggechhaa.QO
open Go.RowKit Go.Shelf YtphfchbggechhaaW.PrintWords YtphfchbggechhaaW.PrintLast YtphfchbggechhaaW.PrintMore
open Ytphfchbggechhaa.Pure
open BndF (bndF mostF loF hiF most_sm omost_ev)
set_option linter.unusedVariables false
theorem rbnd_as {w W : World} {x : OV} {v m : List Int} {e : Bool} (hx : Oc w W x) (hb : Below w.heap.size w W) (ho : x.o = (v, m, e)) (fx : OFit v m e) (lx sx y sy c : Int) {l h : Int} (hc : -1099511627776 ≤ c ∧ c ≤ 1099511627776) (h1 : -1 ≤ sx ∧ sx ≤ 1) (h2 : -1 ≤ sy ∧ sy ≤ 1) (hs : sx ≠ 0) (hp : 0 ≤ placeF v lx) (hq : sy ≠ 0 → 0 ≤ placeF v y) (ha : bndF v m e lx sx y sy c = (l, h)) :
 Says 50 #[x.val, .agg #[.int .i64 lx, .int .i64 sx, .int .i64 y, .int .i64 sy, .int .i64 c]] W (.agg #[.int .i64 l, .int .i64 h]) := by
 have HX : Aside0 (Oc W W x) := ⟨⟨⟨hx.r0.le, .inl (hx.r0.reads hb)⟩, ⟨hx.r1.le, .inl (hx.r1.reads hb)⟩⟩⟩
 have e1 : x.v = v := congrArg Prod.fst ho
 have e2 : x.m = m := congrArg (·.2.1) ho
 have e3 : x.e = e := congrArg (·.2.2) ho
 subst e1 e2 e3
 clear ho
 have l8 := fx.1.1
 rcases close_cases fx with ⟨h3, _⟩ | ⟨he, hk, h3⟩
 ·
  unfold bndF at ha
  rw [if_pos (by rw [h3])] at ha
  cases ha
  exact rbnd2_bot x lx sx y sy c HX ⟨fx⟩ ⟨show x.v.length ≤ 1000 by omega⟩ ⟨h3⟩
 ·
  have hN := snd_close (snd_of_fit (by rw [he] at fx; exact fx)) hk
  unfold bndF at ha
  rw [if_neg (by rw [h3]; simp), if_neg (fun h => by rcases h with h | h; exact absurd hp (by omega); have := hq h.1; omega)] at ha
  generalize closeM (2 * x.v.length) (lowM x.v.length x.m) = C at h3 hN ha
  have sm1 := most_sm (v := placeF x.v lx) (u := placeF x.v y) (sx := sx) (sy := sy) hN (placeF_lt x.v lx).2 (placeF_lt x.v y).2 (fun _ => hp) hq
  have sm2 := most_sm (v := placeF x.v lx) (u := placeF x.v y) (sx := -sx) (sy := -sy) hN (placeF_lt x.v lx).2 (placeF_lt x.v y).2 (fun _ => hp) (fun h => hq (by omega))
  have g1 := omost_ev fx h3 hN lx sx y sy c (fun _ => hp) hq (x.v.length + 1) (by omega)
  have g2 := omost_ev fx h3 hN lx (-sx) y (-sy) c (fun _ => hp) (fun h => hq (by omega)) (x.v.length + 1) (by omega)
  generalize mostF C (placeF x.v lx) sx (placeF x.v y) sy = a1 at *
  generalize mostF C (placeF x.v lx) (-sx) (placeF x.v y) (-sy) = a2 at *
  obtain ⟨rfl, rfl⟩ := Prod.mk.inj ha
  have wn : IntKind.i64.wrap (-sx) = -sx ∧ wrap64 (-sx) = -sx ∧ IntKind.i64.wrap (-sy) = -sy ∧ wrap64 (-sy) = -sy := by
   have e1 : wrap64 (-sx) = -sx := by unfold wrap64; omega
   have e2 : wrap64 (-sy) = -sy := by unfold wrap64; omega
   rw [IntKind.wrap_i64, IntKind.wrap_i64]
   exact ⟨by omega, e1, by omega, e2⟩
  have tsx : (sx != 0) = true := bne_iff_ne.2 hs
  exact rbnd2_in x lx sx y sy c HX ⟨fx⟩ ⟨show x.v.length ≤ 1000 by omega⟩ (K := x.v.length + 1) ⟨h3⟩ ⟨rfl⟩ ⟨rfl⟩ ⟨tsx⟩ ⟨decide_eq_false (show ¬ placeF x.v lx < 0 by omega)⟩ ⟨fun h => decide_eq_false (show ¬ placeF x.v y < 0 from by have := hq h; omega)⟩ ⟨wn⟩ ⟨g1.2⟩ ⟨g2.2⟩ ⟨fun h => by unfold hiF; rw [if_pos h]⟩ ⟨fun h => by unfold hiF; rw [if_neg h]; unfold Arith.Sm at sm1; exact ⟨by rw [IntKind.wrap_i64]; omega, by unfold wrap64; omega⟩⟩ ⟨fun h => by unfold loF; rw [if_pos h]⟩ ⟨fun h => by unfold loF; rw [if_neg h]; unfold Arith.Sm at sm2; exact ⟨by rw [IntKind.wrap_i64]; omega, by unfold wrap64; omega⟩⟩
end Go.Proofs.Ytphfchbggechhaa.QO
end
end
section
noncomputable section
namespace Go.Proofs.Ytphfchbggechhaa.QO
open Go.RowKit Go.Shelf YtphfchbggechhaaW.PrintWords YtphfchbggechhaaW.PrintLast YtphfchbggechhaaW.PrintMore
open Ytphfchbggechhaa.Pure
open OctMath (Fin')
open BndF (bndF mostF loF hiF)
set_option linter.unusedVariables false
section
variable {w W : World} {x : OV} {v m : List Int} {e : Bool}
theorem fixed_as {A : Mx} {p : Nat} {s : Int} {a : List Int × List Int × Bool} (hx : Oc w W x) (hb : Below w.heap.size w W) (ho : x.o = (v, lst (2 * v.length) A, false)) (hv : VarsOk v) (hA : Snd (2 * v.length) A) (hp : p < v.length) (hs : -549755813888 ≤ s ∧ s ≤ 549755813888) (ha : closeF v (lst (2 * v.length) (fixM A p s)) false = a) :
 Calls Try.prog 85 #[x.val, .int .i64 (p : Int), .int .i64 s] W fun e W' => ∃ z : OV, e = .returned z.val ∧ z.o = a ∧ Own W W' z ∧ Below W.heap.size W W' := by
 obtain ⟨P, p', Q, q, v', m', e'⟩ := x
 have e1 : v' = v := congrArg Prod.fst ho
 have e2 : m' = lst (2 * v.length) A := congrArg (·.2.1) ho
 have e3 : e' = false := congrArg (·.2.2) ho
 clear ho
 subst e1 e2 e3
 have h8 := hv.1
 obtain ⟨n, en⟩ : ∃ n, 2 * v'.length = n := ⟨_, rfl⟩
 have hn : n ≤ 16 := by omega
 have hf := fit_of_snd hv (fixM_snd (p := p) hA hs)
 rw [en] at hx ha hf ⊢
 have HX : Aside0 (Oc W W ⟨P, p', Q, q, v', lst n A, false⟩) := ⟨⟨⟨hx.r0.le, .inl (hx.r0.reads hb)⟩, ⟨hx.r1.le, .inl (hx.r1.reads hb)⟩⟩⟩
 have l1 : 2 * p + 1 < n := by omega
 have q1 : (2 * p + 1) * n ≤ 16 * 16 := Nat.mul_le_mul (by omega) hn
 have q2 : 2 * p * n ≤ 16 * 16 := Nat.mul_le_mul (by omega) hn
 have nn : n * n ≤ 16 * 16 := Nat.mul_le_mul hn hn
 have i1 := ij_lt (n := n) (i := 2 * p + 1) (j := 2 * p) l1 (by omega)
 have i2 := ij_lt (n := n) (i := 2 * p) (j := 2 * p + 1) (by omega) l1
 have m1 : ((2 * p + 1 : Nat) : Int) * (n : Int) = (((2 * p + 1) * n : Nat) : Int) := by push_cast; rfl
 have m2 : ((2 * p : Nat) : Int) * (n : Int) = ((2 * p * n : Nat) : Int) := by push_cast; rfl
 have rr : (2 * p + 1) * n = 2 * p * n + n := by rw [Nat.add_mul, Nat.one_mul]
 refine rfix_w ⟨P, p', Q, q, v', lst n A, false⟩ (A := A) (n := n) (p := p) (NN := n * n) (P2 := ((2 * p : Nat) : Int)) (P3 := ((2 * p + 1 : Nat) : Int)) (K1 := (((2 * p + 1) * n : Nat) : Int)) (K2 := ((2 * p * n : Nat) : Int)) (K3 := ((2 * p * n + 2 * p : Nat) : Int)) (U := (((2 * p + 1) * n + 2 * p : Nat) : Int)) (D := ((2 * p * n + (2 * p + 1) : Nat) : Int)) (S2 := 2 * s) (T2 := -2 * s)
  HX ⟨hv⟩ ⟨rfl⟩ ⟨rfl⟩ ⟨lst_length _ _⟩ ⟨nn⟩ ⟨Nat.mul_pos (by omega) (by omega)⟩ ⟨?_⟩ ⟨?_⟩ ⟨?_⟩ ⟨?_⟩ ⟨by omega⟩ ⟨by omega⟩ ⟨by omega⟩ ⟨lst_rd l1 (by omega) rfl⟩ ⟨lst_rd (by omega) l1 rfl⟩ ⟨l1, rfl, rfl, rfl, rfl⟩ ⟨hf⟩ ⟨ha⟩
 ·
  rw [IntKind.wrap_i64]; dsimp only; omega
 ·
  rw [m1, m2]
  simp only [IntKind.wrap_i64]
  refine ⟨?_, ?_, ?_, ?_, ?_, ?_, ?_⟩ <;> omega
 ·
  rw [IntKind.wrap_i64]; omega
 ·
  rw [IntKind.wrap_i64]; omega
variable {Q : Option Addr} {q : Nat} {l : List Int} {t : Bool}
theorem rhas_as (hx : Oc w W x) (hb : Below w.heap.size w W) (ho : x.o = (v, m, e)) (fx : OFit v m e) (hl : Kd.C (Kd.int .i64) W Q l.length l) (hq : l.length ≤ q) (vl : Vl v.length l) (ht : hasB v m e l = t) : Says 32 #[x.val, .slice Q l.length q] W (.bool t) := by
 obtain ⟨P, p', Q', q', v', m', e'⟩ := x
 cases ho
 obtain ⟨b, K, hK⟩ := HasEq.has_eq fx vl.1 (fun k h0 h1 => by have := vl.2 k h0 (by rw [← vl.1]; exact h1); omega)
 have o1 := (hK K (Nat.le_refl _)).1
 unfold oct_Has.f at o1
 rw [if_pos ⟨by have := fx.1.1; dsimp only at this ⊢; omega, by have := fx.1.1; have := vl.1; dsimp only at *; omega⟩] at o1
 injection o1 with o1
 rw [← ht, o1]
 exact gimbalref11_Has.calls K P p' _ Q' q' _ _ Q q l _ W (hx.r0.reads hb) hx.r0.le (hx.r1.reads hb) hx.r1.le hl hq (hK K (Nat.le_refl _)).2
theorem ohas_as (hx : Oc w W x) (hb : Below w.heap.size w W) (ho : x.o = (v, m, e)) (lv : v.length ≤ 1000) (hl : Kd.C (Kd.int .i64) W Q l.length l) (hq : l.length ≤ q) (ll : l.length ≤ 1000) (ht : hasB v m e l = t) : Says 33 #[x.val, .slice Q l.length q] W (.bool t) := by
 obtain ⟨P, p', Q', q', v', m', e'⟩ := x
 cases ho
 exact oct_Has.calls P p' _ Q' q' _ _ Q q l t W (hx.r0.reads hb) hx.r0.le (hx.r1.reads hb) hx.r1.le hl hq (by unfold oct_Has.f; rw [if_pos ⟨by dsimp only at lv ⊢; omega, by omega⟩, ht])
theorem fval_f {lx sx y sy c : Int} (l64 : l.length = 64) (hx : sx ≠ 0 → 0 ≤ lx ∧ lx < 64) (hy : sy ≠ 0 → 0 ≤ y ∧ y < 64) (hs : sx = 0 ∨ sx = 1 ∨ sx = -1) (ht : sy = 0 ∨ sy = 1 ∨ sy = -1) (hc : -1099511627776 ≤ c ∧ c ≤ 1099511627776) (hl : ∀ k : Int, 0 ≤ k → k < 64 → -17592186044416 < rd l k ∧ rd l k < 17592186044416) : gimbalref12_FormValue.f lx sx y sy c l = some (sx * rd l lx + sy * rd l y + c) := by
 unfold gimbalref12_FormValue.f
 by_cases a : sx = 0
 ·
  rw [if_pos a, a]
  by_cases b : sy = 0
  ·
   rw [if_pos b, b]; congr 1; omega
  ·
   rw [if_neg b]
   have h2 := hy b
   have b2 := hl y h2.1 h2.2
   have p2 : sy * rd l y = rd l y ∨ sy * rd l y = - rd l y := by rcases ht with h | h | h <;> rw [h] <;> omega
   rw [if_pos h2.1, if_pos (by omega)]
   congr 1
   unfold wrap64; omega
 ·
  rw [if_neg a]
  have h1 := hx a
  have b1 := hl lx h1.1 h1.2
  have p1 : sx * rd l lx = rd l lx ∨ sx * rd l lx = - rd l lx := by rcases hs with h | h | h <;> rw [h] <;> omega
  rw [if_pos h1.1, if_pos (by omega)]
  by_cases b : sy = 0
  ·
   rw [if_pos b, b]; congr 1; unfold wrap64; omega
  ·
   rw [if_neg b]
   have h2 := hy b
   have b2 := hl y h2.1 h2.2
   have p2 : sy * rd l y = rd l y ∨ sy * rd l y = - rd l y := by rcases ht with h | h | h <;> rw [h] <;> omega
   rw [if_pos h2.1, if_pos (by omega)]
   congr 1
   unfold wrap64; omega
theorem fval_as {lx sx y sy c r : Int} (hl : Kd.C (Kd.int .i64) W Q l.length l) (hq : l.length ≤ q) (h : gimbalref12_FormValue.f lx sx y sy c l = some r) : Says 30 #[.agg #[.int .i64 lx, .int .i64 sx, .int .i64 y, .int .i64 sy, .int .i64 c], .slice Q l.length q] W (.int .i64 r) :=
 gimbalref12_FormValue.calls lx sx y sy c Q q l r W hl hq h
end
theorem place_at {v : List Int} {i : Int} (h0 : 0 ≤ i) (h1 : i < (v.length : Int)) : 0 ≤ placeF v (rd v i) := by
 rcases placeF_cases v (rd v i) with ⟨p, _, p2, _⟩ | ⟨_, h⟩
 ·
  omega
 ·
  have := h i.toNat (by omega)
  rw [Int.toNat_of_nonneg h0] at this
  exact absurd rfl this
theorem bnd_one {v : List Int} {A : Mx} {x lo hi : Int} (hv : VarsOk v) (hA : Cld (2 * v.length) A) (hp : 0 ≤ placeF v x) (h : bndF v (lst (2 * v.length) A) false x 1 0 0 0 = (lo, hi)) : (lo = -4611686018427387904 ∨ (-549755813888 ≤ lo ∧ lo ≤ 549755813888)) ∧ (hi = 4611686018427387904 ∨ (-549755813888 ≤ hi ∧ hi ≤ 549755813888)) := by
 have lp := (placeF_lt v x).2
 have cl := hA.clF hv
 have cm := closeM_at (t := (v, lst (2 * v.length) A, false)) ⟨rfl, fit_of_snd hv hA.s⟩ cl
 unfold bndF at h
 rw [if_neg (by rw [cl]; simp), if_neg (by omega)] at h
 obtain ⟨rfl, rfl⟩ := Prod.mk.inj h
 have key : ∀ s : Int, s = 1 ∨ s = -1 → ∃ g, mostF (closeM (2 * v.length) (lowM v.length (lst (2 * v.length) A))) (placeF v x) s (placeF v 0) 0 = half g ∧ Fin' 1099511627776 g := fun s hs => by
  have lX := BndF.nX_lt (s := s) hp lp
  refine ⟨A (nb (BndF.nX (placeF v x) s)) (BndF.nX (placeF v x) s), ?_, hA.s.bd _ _ (nb_lt lX) lX⟩
  unfold mostF
  rw [if_neg (by omega), if_pos rfl, cm _ _ (nb_lt lX) lX]
 obtain ⟨g1, e1, b1⟩ := key 1 (.inl rfl)
 obtain ⟨g2, e2, b2⟩ := key (-1) (.inr rfl)
 rw [show (-0 : Int) = 0 from rfl, e1, e2]
 unfold Fin' at b1 b2
 unfold loF hiF half
 constructor
 ·
  split
  ·
   left; rfl
  ·
   right; split at * <;> omega
 ·
  split
  ·
   left; rfl
  ·
   right; split at * <;> omega
def pointV (lo hi : Int) : Int := if lo = -4611686018427387904 then (if hi < 0 then hi else 0) else lo
theorem pointV_bd {lo hi : Int} (h : (lo = -4611686018427387904 ∨ (-549755813888 ≤ lo ∧ lo ≤ 549755813888)) ∧ (hi = 4611686018427387904 ∨ (-549755813888 ≤ hi ∧ hi ≤ 549755813888))) : -549755813888 ≤ pointV lo hi ∧ pointV lo hi ≤ 549755813888 := by
 unfold pointV; (repeat' split) <;> omega
end Go.Proofs.Ytphfchbggechhaa.QO
end
end
section
noncomputable section
namespace Go.Proofs.Ytphfchbggechhaa.QO
open Go.RowKit Go.Shelf YtphfchbggechhaaW.PrintWords YtphfchbggechhaaW.PrintLast YtphfchbggechhaaW.PrintMore
open Ytphfchbggechhaa.Pure
open BndF (bndF)
attribute [local go_sem] Oper.semAt_some
attribute [local go_sem ↓] Go.wp_at_zero Go.wp_at_succ
set_option linter.unusedVariables false
set_option linter.unusedSimpArgs false
def rpt_T8 : Bool × List (List Nat × List Nat) := (true, [([], []), ([], []), ([1], [1]), ([], []), ([2, 3], [2, 3]), ([4], [4]), ([5], [5]), ([0, 6], [0, 6]), ([], []), ([8, 7, 7, 0, 1, 2, 3, 4, 5, 6, 7, 8], [7, 8])])
def rpt_B8 : List Nat := [0, 0, 2, 0, 14, 30, 62, 127, 0, 511]
theorem rpt_tab8 : rtab .any (opsOf Try.f39 8) = rpt_T8 := by kernel_rfl
theorem rpt_bits8 : waitsOk rpt_T8.2 rpt_B8 = true := by kernel_rfl
theorem fixedI_as {w W : World} {x : OV} {v : List Int} {A : Mx} {i s : Int} {a : List Int × List Int × Bool} (hx : Oc w W x) (hb : Below w.heap.size w W) (ho : x.o = (v, lst (2 * v.length) A, false)) (hv : VarsOk v) (hA : Snd (2 * v.length) A) (h0 : 0 ≤ i) (h1 : i < (v.length : Int)) (hs : -549755813888 ≤ s ∧ s ≤ 549755813888) (ha : closeF v (lst (2 * v.length) (fixM A i.toNat s)) false = a) :
 Calls Try.prog 85 #[x.val, .int .i64 i, .int .i64 s] W fun e W' => ∃ z : OV, e = .returned z.val ∧ z.o = a ∧ Own W W' z ∧ Below W.heap.size W W' := by
 have h := fixed_as hx hb ho hv hA (p := i.toNat) (by omega) hs ha
 rwa [Int.toNat_of_nonneg h0] at h
theorem vl_snoc {i s : Int} {l : List Int} (h : Vl i.toNat l) (h0 : 0 ≤ i) (hs : -549755813888 ≤ s ∧ s ≤ 549755813888) : Vl (i + 1).toNat (l ++ [s]) := by
 refine ⟨by rw [List.length_append, h.1]; simp; omega, fun k k0 k1 => ?_⟩
 by_cases e : k < i
 ·
  have := h.2 k k0 (by omega)
  unfold rd at this ⊢
  rw [List.getD_eq_getElem?_getD] at this ⊢
  rwa [List.getElem?_append_left (by rw [h.1]; omega)]
 ·
  have : k = i := by omega
  subst this
  unfold rd
  rw [List.getD_eq_getElem?_getD, List.getElem?_append_right (by rw [h.1]; omega), h.1, Nat.sub_self]
  simp; omega
theorem vl_end {n : Nat} {i : Int} {l : List Int} (h : Vl i.toNat l) (e : i.toNat = n) : Vl n l := e ▸ h
theorem rpoint_bot (X : OV) {v : List Int} {w : World} (HX : Aside0 (Oc w w X)) (FX_ : Aside0 (OFit X.v X.m X.e)) (HV : Aside0 (VarsOk v)) (HCX : Aside0 (closeF X.v X.m X.e = (v, [], true))) : Calls Try.prog 39 #[X.val] w fun e W' => ∃ (Q : Option Addr) (q : Nat) (l : List Int) (n : Nat) (b : Bool), e = .returned (.tuple #[.slice Q n q, .bool b]) ∧ l.length = n ∧ ((b = true ∧ Vl v.length l) ∨ (b = false ∧ l = [])) ∧ Own w W' (rV Q q l) ∧ Below w.heap.size w W' := by
 have hu25 := Try.underlying25
 have hu34 := Try.underlying34
 have hu36 := Try.underlying36
 have hu22 := Try.underlying22
 go_enter Try.func39, Try.ntmps39
 go_upto_region 1 with fail
 have HM := MS.n1 w X.cells
 generalize World.alloc _ _ = wk at HM ⊢
 generalize w.heap.size = go at HM ⊢
 have kgo := MS.c3 HM m0_
 go_upto_region 2 with (first | (go_at_call 38; (with_reducible refine (rclose_as (Oc.now HX (MS.bel HM)) (Below.refl _ _) rfl FX_.out HCX.out).mono ?_); rintro e wk ⟨cv, rfl, hcv, ho, hb⟩; replace HM := MS.cl HM hb ho; clear ho hb; replace kgo := MS.c3 HM m0_) | ((with_reducible refine gate_dst (N := 4) rfl ?_); refine bx_ 4 #[.slice none 0 0, .slice none 0 0, .bool false] 25 ?_; intro gc hg wk hbox hb; replace HM := MS.md HM hg hbox hb; clear hg hbox hb; have kgc := MS.c3 HM m0_; replace kgo := MS.c3 HM m1_))
 replace HM := MS.po0 cv HM
 generalize World.setCell _ _ _ = wk at HM ⊢
 replace HM := MS.sb HM (.refl _) (.cons_cons _ (.cons _ .slnil)); clear kgo
 have HCV := Aside0.mk hcv; clear hcv
 have e1 : cv.e = true := congrArg (·.2.2) HCV.out
 replace kgc := MS.c3 HM m0_
 go_wp2
 ((try simp only [Exit.inBlock, Exit.then]); refine bodyPost_ret (results_tmp2 rfl _ _ _) rfl ?_)
 exact ⟨none, 0, [], 0, false, rfl, rfl, .inr ⟨rfl, rfl⟩, (MS.r0 HM).out.S.own _ m0_, MS.bel HM⟩
theorem rpoint_in (X : OV) {v : List Int} {w : World} (HX : Aside0 (Oc w w X)) (FX_ : Aside0 (OFit X.v X.m X.e)) (HV : Aside0 (VarsOk v)) {C : Mx} (HCL : Aside0 (Cld (2 * v.length) C)) (HCX : Aside0 (closeF X.v X.m X.e = (v, lst (2 * v.length) C, false))) : Calls Try.prog 39 #[X.val] w fun e W' => ∃ (Q : Option Addr) (q : Nat) (l : List Int) (n : Nat) (b : Bool), e = .returned (.tuple #[.slice Q n q, .bool b]) ∧ l.length = n ∧ ((b = true ∧ Vl v.length l) ∨ (b = false ∧ l = [])) ∧ Own w W' (rV Q q l) ∧ Below w.heap.size w W' := by
 have hu25 := Try.underlying25
 have hu34 := Try.underlying34
 have hu36 := Try.underlying36
 have hu22 := Try.underlying22
 go_enter Try.func39, Try.ntmps39
 go_upto_region 1 with fail
 have HM := MS.n1 w X.cells
 generalize World.alloc _ _ = wk at HM ⊢
 generalize w.heap.size = go at HM ⊢
 have kgo := MS.c3 HM m0_
 go_upto_region 2 with (first | (go_at_call 38; (with_reducible refine (rclose_as (Oc.now HX (MS.bel HM)) (Below.refl _ _) rfl FX_.out HCX.out).mono ?_); rintro e wk ⟨cv, rfl, hcv, ho, hb⟩; replace HM := MS.cl HM hb ho; clear ho hb; replace kgo := MS.c3 HM m0_) | ((with_reducible refine gate_dst (N := 4) rfl ?_); refine bx_ 4 #[.slice none 0 0, .slice none 0 0, .bool false] 25 ?_; intro gc hg wk hbox hb; replace HM := MS.md HM hg hbox hb; clear hg hbox hb; have kgc := MS.c3 HM m0_; replace kgo := MS.c3 HM m1_))
 replace HM := MS.po0 cv HM
 generalize World.setCell _ _ _ = wk at HM ⊢
 replace HM := MS.sb HM (.refl _) (.cons_cons _ (.cons _ .slnil)); clear kgo
 have HCV := Aside0.mk hcv; clear hcv
 have e1 : cv.e = false := congrArg (·.2.2) HCV.out
 replace kgc := MS.c3 HM m0_
 go_upto_region 4 with fail
 clear e1
 obtain ⟨cP, cp, cQ, cq, cV, cM, cE⟩ := cv
 have ex : v = cV := (congrArg Prod.fst HCV.out).symm; have ey : cM = lst (2 * v.length) C := congrArg (·.2.1) HCV.out; have ez : cE = false := congrArg (·.2.2) HCV.out; clear HCV; subst ex ez; have HCM := Aside0.mk ey; clear ey
 replace HM : Aside0 (MS w [⟨cP, cp, cQ, cq, v, cM, false⟩] [(gc, .cells #[.slice cP v.length cp, .slice cQ cM.length cq, .bool false] 25 (0, 0))] _) := HM
 replace kgc := MS.c3 HM m0_
 go_wp2
 go_loopg [5, 16] v.length (fun kq v5 v16 w' => ∃ (i : Int) (Q : Option Addr) (q : Nat) (l : List Int) (cP : Option Addr) (cp : Nat) (cQ : Option Addr) (cq : Nat) (cM : List Int) (C : Mx), v5 = .slice Q l.length q ∧ v16 = .int .i64 i ∧ Aside0 (0 ≤ i ∧ i + (kq : Int) = (v.length : Int)) ∧ Aside0 (Vl i.toNat l) ∧ Aside0 (Cld (2 * v.length) C) ∧ Aside0 (cM = lst (2 * v.length) C) ∧ Aside0 (MS w [rV Q q l, ⟨cP, cp, cQ, cq, v, cM, false⟩] [(gc, .cells #[.slice cP v.length cp, .slice cQ cM.length cq, .bool false] 25 (0, 0))] w'))
 case atStart => exact ⟨0, none, 0, [], cP, cp, cQ, cq, cM, C, by rfl, by rfl, ⟨by omega⟩, ⟨⟨rfl, fun k h0 h1 => absurd h1 (by simp; omega)⟩⟩, HCL, HCM, MS.r0 ⟨MS.to HM⟩⟩
 case round =>
  clear HM HCM HCL HCX; clear kgc
  obtain ⟨i, Q, q, l, cP, cp, cQ, cq, cM, C, rfl, rfl, HI, HL, HCL, HCM, HM⟩ := hrel
  cases gk with
  | zero =>
   have q1 : (decide (i < (v.length : Int))) = false := decide_eq_false (by have := HI.out; omega)
   have kgc := MS.c3 HM m0_
   go_wp2
   ((try simp only [Exit.inBlock, Exit.then]); refine bodyPost_ret (results_tmp2 rfl _ _ _) rfl ?_)
   exact ⟨Q, q, l, _, true, rfl, rfl, .inl ⟨rfl, vl_end HL.out (by have := HI.out; omega)⟩, HM.out.S.own _ m0_, MS.bel HM⟩
  | succ k =>
   have q1 : (decide (i < (v.length : Int))) = true := decide_eq_true (by have := HI.out; omega)
   have p2 : 0 ≤ i := HI.out.1
   have q2 : i < (v.length : Int) := by have := HI.out; omega
   obtain ⟨ad, ea, hx0⟩ := Kd.at_int ((HM.out.S.own _ m1_).oc.r0.reads HM.out.S.below) i p2 q2
   cases ea; clear hx0
   have HFC : Aside0 (OFit v cM false) := ⟨by rw [HCM.out]; exact fit_of_snd HV.out HCL.out.s⟩
   have HPL : Aside0 (0 ≤ placeF v (rd v i)) := ⟨place_at p2 q2⟩
   obtain ⟨lo, hi, hbn⟩ : ∃ lo hi, bndF v cM false (rd v i) 1 0 0 0 = (lo, hi) := ⟨_, _, rfl⟩
   have HBN := Aside0.mk hbn; clear hbn
   obtain ⟨sv, hsv⟩ : ∃ s, pointV lo hi = s := ⟨_, rfl⟩
   have HS := Aside0.mk hsv; clear hsv
   have HSB : Aside0 (-549755813888 ≤ sv ∧ sv ≤ 549755813888) := ⟨by rw [← HS.out]; exact pointV_bd (bnd_one HV.out HCL.out HPL.out (by rw [← HCM.out]; exact HBN.out))⟩
   have P2 := Aside0.mk p2; have Q2 := Aside0.mk q2; replace p2 := eq_true p2; replace q2 := eq_true q2
   go_upto_region 8 with fail
   replace HM := MS.dr HM
   refine startN_ (n := 10) (S := fun w' => w'.cell? ⟨gc, 0, none⟩ = some (.slice (some ad) v.length cp) ∧ w'.cell? ⟨gc, 1, none⟩ = some (.slice cQ cM.length cq) ∧ w'.cell? ⟨gc, 2, none⟩ = some (.bool false) ∧ w'.cell? (ad.add i.toNat) = some (.int .i64 (rd v i))) (ds := [9]) (mB 10 0) (by kernel_rfl) rfl (by kernel_rfl) ⟨MS.k HM m0_ 0 rfl, MS.k HM m0_ 1 rfl, MS.k HM m0_ 2 rfl, (by obtain ⟨_, e_, h_⟩ := Kd.at_int ((HM.out.S.own _ m1_).oc.r0.reads HM.out.S.below) i P2.out Q2.out; cases e_; exact h_)⟩ (fun hHeld => ?_)
   refine with_tabW rpt_tab8 rpt_bits8 (fun HT_ HW_ => ?_)
   generalize World.drew _ = wk at HM hHeld ⊢
   refine tV_ 0 19 (mB 10 1) HT_ HW_ hHeld ?_
   refine pV_ 1 20 (mB 10 3) HT_ ?_
   refine tV_ 2 21 (mB 10 7) HT_ HW_ hHeld ?_
   refine pV_ 3 22 (mB 10 15) HT_ ?_
   refine pV_ 4 23 (mB 10 31) HT_ ?_
   refine tV_ 5 24 (mB 10 63) HT_ HW_ hHeld ?_
   refine pV_ 6 25 (mB 10 127) HT_ ?_
   refine join_ (σ := Nat) 1 (mB 10 511) (fun s_ => [(26, iV lo hi), (7, .pointer (some ⟨s_, 0, none⟩))]) (fun s_ w' => MS w [rV Q q l, ⟨some ad, cp, cQ, cq, v, cM, false⟩] [(s_, iC 0 0), (gc, .cells #[.slice (some ad) v.length cp, .slice cQ cM.length cq, .bool false] 25 (0, 0))] w') ?_ ?_
   rotate_left
   ·
    intro hJ
    refine tw_ 7 8 (some 26) (some 7) (mB 10 255) (mB 10 383) HT_ (fun K hK => ?_) (fun K hK => ?_)
    ·
     refine gs_ Try.func50 #[(⟨some ad, cp, cQ, cq, v, cM, false⟩ : OV).val, lV (rd v i) 1 0 0 0] ?_
     with_reducible refine sk_ (rbnd_as (HM.out.S.own _ m1_).oc HM.out.S.below rfl HFC.out (rd v i) 1 0 0 0 (by decide) (by decide) (by decide) (by decide) HPL.out (fun h => absurd rfl h) HBN.out) fun wk hb => ?_
     replace HM := MS.nx HM hb; clear hb
     refine hK.out _ _ ⟨MS.k HM m0_ 0 rfl, MS.k HM m0_ 1 rfl, MS.k HM m0_ 2 rfl, (by obtain ⟨_, e_, h_⟩ := Kd.at_int ((HM.out.S.own _ m1_).oc.r0.reads HM.out.S.below) i P2.out Q2.out; cases e_; exact h_)⟩ (fun hHeld => ?_)
     clear hK K
     refine nO_ 26 ?_
     refine on_ 8 (some 7) (mB 10 511) HT_ (fun K hK => ?_)
     refine bs_ 7 #[.int .i64 0, .int .i64 0] 36 ?_
     intro gb hg wk hbox hb
     replace HM := MS.md HM hg hbox hb; clear hg hbox hb
     refine hK.out _ _ ⟨MS.k HM m1_ 0 rfl, MS.k HM m1_ 1 rfl, MS.k HM m1_ 2 rfl, (by obtain ⟨_, e_, h_⟩ := Kd.at_int ((HM.out.S.own _ m1_).oc.r0.reads HM.out.S.below) i P2.out Q2.out; cases e_; exact h_)⟩ (fun hHeld => ?_)
     clear hK K
     refine nO_ 7 ?_
     exact nP_ (hJ (gb) _ HM.out)
    ·
     refine bs_ 7 #[.int .i64 0, .int .i64 0] 36 ?_
     intro gb hg wk hbox hb
     replace HM := MS.md HM hg hbox hb; clear hg hbox hb
     refine hK.out _ _ ⟨MS.k HM m1_ 0 rfl, MS.k HM m1_ 1 rfl, MS.k HM m1_ 2 rfl, (by obtain ⟨_, e_, h_⟩ := Kd.at_int ((HM.out.S.own _ m1_).oc.r0.reads HM.out.S.below) i P2.out Q2.out; cases e_; exact h_)⟩ (fun hHeld => ?_)
     clear hK K
     refine nO_ 7 ?_
     refine on_ 7 (some 26) (mB 10 511) HT_ (fun K hK => ?_)
     refine gs_ Try.func50 #[(⟨some ad, cp, cQ, cq, v, cM, false⟩ : OV).val, lV (rd v i) 1 0 0 0] ?_
     with_reducible refine sk_ (rbnd_as (HM.out.S.own _ m1_).oc HM.out.S.below rfl HFC.out (rd v i) 1 0 0 0 (by decide) (by decide) (by decide) (by decide) HPL.out (fun h => absurd rfl h) HBN.out) fun wk hb => ?_
     replace HM := MS.nx HM hb; clear hb
     refine hK.out _ _ ⟨MS.k HM m1_ 0 rfl, MS.k HM m1_ 1 rfl, MS.k HM m1_ 2 rfl, (by obtain ⟨_, e_, h_⟩ := Kd.at_int ((HM.out.S.own _ m1_).oc.r0.reads HM.out.S.below) i P2.out Q2.out; cases e_; exact h_)⟩ (fun hHeld => ?_)
     clear hK K
     refine nO_ 26 ?_
     exact nP_ (hJ (gb) _ HM.out)
   rintro gb wk HM4
   clear HM hHeld; have HM := Aside0.mk HM4; clear HM4; try dsimp only at HM 
   have kgb := MS.c2 HM m0_
   refine nS_ ?_
   refine la_ 9 (mB 10 1023) HT_ (fun K hK => ?_)
   refine skip_ (w1 := ?_) (by rfl) rfl ?_ ?_
   rotate_left
   ·
    go_simp
    rfl
   refine hK.out _ _ ?_
   clear hK K
   refine dn_ HT_ ?_
   clear HT_ HW_
   unfold OnlyN
   replace HM := MS.pi0 lo hi HM
   generalize World.setCell _ _ _ = wk at HM ⊢
   replace kgb := MS.c2 HM m0_
   have kgc := MS.c3 HM m1_
   go_upto_if 30 with fail
   (try simp only [Act.put, List.setIfInBounds_toArray, List.set_cons_zero, List.set_cons_succ])
   go_cut [8] from 17 to 46 (fun v8 wc => v8 = .int .i64 sv ∧ Aside0 (MS w [rV Q q l, ⟨some ad, cp, cQ, cq, v, cM, false⟩] [(gb, iC lo hi), (gc, .cells #[.slice (some ad) v.length cp, .slice cQ cM.length cq, .bool false] 25 (0, 0))] wc))
   case first =>
    by_cases A_ : lo = -4611686018427387904
    ·
     have A := Aside0.mk A_; clear A_
     have t1 : (lo == -4611686018427387904) = true := beq_iff_eq.2 A.out
     by_cases B_ : hi < 0
     ·
      have B := Aside0.mk B_; clear B_
      have t2 : decide (hi < 0) = true := decide_eq_true B.out
      have es : Aside0 (hi = sv) := ⟨by rw [← HS.out]; unfold pointV; rw [if_pos A.out, if_pos B.out]⟩
      replace kgb := MS.c2 HM m0_; replace kgc := MS.c3 HM m1_
      go_wp2
      go_meet
      case rel => exact ⟨by rw [es.out], HM⟩
     ·
      have B := Aside0.mk B_; clear B_
      have t2 : decide (hi < 0) = false := decide_eq_false B.out
      have es : Aside0 (0 = sv) := ⟨by rw [← HS.out]; unfold pointV; rw [if_pos A.out, if_neg B.out]⟩
      replace kgb := MS.c2 HM m0_; replace kgc := MS.c3 HM m1_
      go_wp2
      go_meet
      case rel => exact ⟨by rw [es.out], HM⟩
    ·
     have A := Aside0.mk A_; clear A_
     have t1 : (lo == -4611686018427387904) = false := beq_eq_false_iff_ne.2 A.out
     have es : Aside0 (lo = sv) := ⟨by rw [← HS.out]; unfold pointV; rw [if_neg A.out]⟩
     replace kgb := MS.c2 HM m0_; replace kgc := MS.c3 HM m1_
     go_wp2
     go_meet
     case rel => exact ⟨by rw [es.out], HM⟩
   case rest =>
    clear HM; clear kgb kgc
    obtain ⟨rfl, HM⟩ := hcut
    have HN : Aside0 (v.length ≤ 8) := ⟨HV.out.1⟩
    go_upto_region 15 with (first | ((with_reducible refine gate_builtin (b := .append) (xs := #[.tmp 36, .tmp 38]) rfl ?_); at_builtin; refine Kd.R_append (Kd.int .i64) (w0 := w) w.heap.size rfl (.tmp 36) (.tmp 38) 23 2 (.int .i64 0) 8 rfl Try.underlying23 info2 rfl (by decide) (by omega) (.slice Q l.length q) l sv [.int .i64 sv] (fun _ => True) (fun _ => False) rfl (by first | (go_simp; done) | (go_simp; rfl)) ?aP (fun _ hk => hk.elim) (fun _ _ => trivial) ?aO ?aB ?aS ?aL ?_; (case aP => exact rfl); (case aB => exact MS.bel HM); (case aO => exact Kd.R_mono (HM.out.S.own _ m0_).r1 (fun _ _ => trivial)); (case aS => exact (MS.bel HM).size); (case aL => have := HL.out.1; have := HN.out; have := HI.out; omega); intro v1 wk ho hb hg hat; obtain ⟨nQ, nq, rfl⟩ := Kd.R_slice ho; replace HM := MS.apd HM ho hb hg hat; clear ho hb hg hat; try dsimp only at HM))
    have HFS : Aside0 (Snd (2 * v.length) (fixM C i.toNat sv)) := ⟨fixM_snd HCL.out.s HSB.out⟩
    have kgc := MS.c3 HM m1_
    go_upto_region 16 with (first | (go_at_call 85; (with_reducible refine (fixedI_as (HM.out.S.own _ m1_).oc HM.out.S.below (by rw [HCM.out]) HV.out HCL.out.s P2.out Q2.out HSB.out rfl).mono ?_); rintro e wk ⟨fz, rfl, hfz, ho, hb⟩; replace HM := MS.cl HM hb ho; clear ho hb; replace kgc := MS.c3 HM m1_))
    replace HM := MS.po1 fz HM
    generalize World.setCell _ _ _ = wk at HM ⊢
    have HL' : Aside0 (Vl (i + 1).toNat (l ++ [sv])) := ⟨vl_snoc HL.out P2.out HSB.out⟩
    rcases cl_cases (fit_of_snd HV.out HFS.out) with hh | ⟨D, hD, hh⟩
    ·
     have e1 : fz.e = true := congrArg (·.2.2) (hfz.trans hh); clear hfz hh
     replace kgc := MS.c3 HM m1_
     go_wp2
     ((try simp only [Exit.inBlock, Exit.then]); refine bodyPost_ret (results_tmp2 rfl _ _ _) rfl ?_)
     exact ⟨none, 0, [], 0, false, rfl, rfl, .inr ⟨rfl, rfl⟩, (MS.r0 HM).out.S.own _ m0_, MS.bel HM⟩
    ·
     have HD := Aside0.mk hD; have HZ := Aside0.mk (hfz.trans hh); clear hfz hh hD; have e1 : fz.e = false := congrArg (·.2.2) HZ.out
     replace kgc := MS.c3 HM m1_
     go_wp2
     go_roundg k
     case measure => exact Nat.lt_succ_self k
     case rel =>
      clear e1; have hw : wrap64 (i + 1) = i + 1 := by have := HI.out; have := HN.out; unfold wrap64; omega
      obtain ⟨zP, zp, zQ, zq, zV, zM, zE⟩ := fz
      have ex : v = zV := (congrArg Prod.fst HZ.out).symm; have ey : zM = lst (2 * v.length) D := congrArg (·.2.1) HZ.out; have ez : zE = false := congrArg (·.2.2) HZ.out; clear HZ; subst ex ez
      exact ⟨wrap64 (i + 1), nQ, nq, l ++ [sv], zP, zp, zQ, zq, zM, D, (by rw [List.length_append]; rfl), rfl, ⟨by rw [hw]; have := HI.out; omega⟩, ⟨by rw [hw]; exact HL'.out⟩, HD, ⟨ey⟩, ⟨MS.sub (MS.swap (MS.to HM)) (.cons_cons _ (.cons_cons _ (.cons _ .slnil))) (.cons _ (.cons_cons _ .slnil))⟩⟩
end Go.Proofs.Ytphfchbggechhaa.QO
end
end
section
noncomputable section
namespace Go.Proofs.Ytphfchbggechhaa.Pure
open Go.RowKit Go.Shelf Ytphfchbggechhaa.QO YtphfchbggechhaaW.PrintWords YtphfchbggechhaaW.PrintLast YtphfchbggechhaaW.PrintMore
set_option linter.unusedVariables false
def NearE (x : Int) : Prop := x = 4611686018427387904 ∨ (-274877906944 ≤ x ∧ x ≤ 274877906944)
theorem near_l0 (v m : List Int) (e : Bool) (hm : m.length ≤ 1000000) : ∀ d i : Nat, i + d = m.length → ∃ t : Bool, (t = true ↔ ∀ k : Nat, i ≤ k → k < m.length → NearE (rd m (k : Int))) ∧ ∀ k, d < k → gimballaw12_near.l0 k (i : Int) v m e = some t := by
 intro d
 induction d with
 | zero =>
  intro i hi
  refine ⟨true, ⟨fun _ k h1 h2 => by omega, fun _ => rfl⟩, fun k hk => ?_⟩
  obtain ⟨k, rfl⟩ : ∃ q, k = q + 1 := ⟨k - 1, by omega⟩
  rw [gimballaw12_near.l0, if_neg (by omega)]
 | succ d ih =>
  intro i hi
  obtain ⟨t, h1, h2⟩ := ih (i + 1) (by omega)
  have hw : wrap64 ((i : Int) + 1) = ((i + 1 : Nat) : Int) := by unfold wrap64; omega
  have st : ∀ k, d + 1 < k → gimballaw12_near.l0 k (i : Int) v m e = if rd m (i : Int) = 4611686018427387904 then some t else if rd m (i : Int) > 274877906944 then some false else if rd m (i : Int) < -274877906944 then some false else some t := fun k hk => by
   obtain ⟨k, rfl⟩ : ∃ q, k = q + 1 := ⟨k - 1, by omega⟩
   rw [gimballaw12_near.l0, if_pos (by omega), if_pos (by omega), hw, h2 k (by omega)]
  by_cases c : NearE (rd m (i : Int))
  ·
   refine ⟨t, h1.trans ⟨fun q k a b => ?_, fun q k a b => q k (by omega) b⟩, fun k hk => ?_⟩
   ·
    by_cases e : k = i
    ·
     rw [e]; exact c
    ·
     exact q k (by omega) b
   ·
    rw [st k hk]
    unfold NearE at c
    split
    ·
     rfl
    ·
     rw [if_neg (by omega), if_neg (by omega)]
  ·
   refine ⟨false, ⟨fun q => (by cases q), fun q => absurd (q i (Nat.le_refl _) (by omega)) c⟩, fun k hk => ?_⟩
   rw [st k hk]
   unfold NearE at c
   rw [if_neg (by omega)]
   split
   ·
    rfl
   ·
    rw [if_pos (by omega)]
end Go.Proofs.Ytphfchbggechhaa.Pure
namespace Go.Proofs.Ytphfchbggechhaa.QO
open Go.RowKit Go.Shelf YtphfchbggechhaaW.PrintWords YtphfchbggechhaaW.PrintLast YtphfchbggechhaaW.PrintMore
open Ytphfchbggechhaa.Pure
theorem near_as {w W : World} {z : OV} (hx : Oc w W z) (hb : Below w.heap.size w W) (hm : z.m.length ≤ 1000000) : ∃ t : Bool, (t = true ↔ ∀ k : Nat, k < z.m.length → NearE (rd z.m (k : Int))) ∧ Says 37 #[z.val] W (.bool t) := by
 obtain ⟨t, h1, h2⟩ := near_l0 z.v z.m z.e hm z.m.length 0 (by omega)
 exact ⟨t, h1.trans ⟨fun q k h => q k (Nat.zero_le _) h, fun q k _ h => q k h⟩, gimballaw12_near.calls (z.m.length + 1) z.P z.p z.v z.Q z.q z.m z.e t W (hx.r0.reads hb) hx.r0.le (hx.r1.reads hb) hx.r1.le (h2 _ (Nat.lt_succ_self _))⟩
end Go.Proofs.Ytphfchbggechhaa.QO
end
end
section
noncomputable section
namespace Go.Proofs.Ytphfchbggechhaa.QO
open Go.RowKit Go.Shelf YtphfchbggechhaaW.PrintWords YtphfchbggechhaaW.PrintLast YtphfchbggechhaaW.PrintMore
open Ytphfchbggechhaa.Pure
open OctMath (Bd Fin')
set_option linter.unusedVariables false
set_option linter.unusedSimpArgs false
theorem formfit_f (x sx y sy c : Int) (k : Nat) : gimbalref12_FormFit.f (k + 2) x sx y sy c = some (lfitB x sx y sy c) := by
 unfold gimbalref12_FormFit.f
 by_cases h1 : c < -1099511627776
 ·
  have e : lfitB x sx y sy c = false := decide_eq_false (fun h => by have := h.1; omega)
  rw [if_pos h1, gimbalref12_FormFit.j0, if_pos rfl, e]
 ·
  by_cases h2 : c > 1099511627776
  ·
   have e : lfitB x sx y sy c = false := decide_eq_false (fun h => by have := h.2.1; omega)
   rw [if_neg h1, decide_eq_true h2, gimbalref12_FormFit.j0, if_pos rfl, e]
  ·
   rw [if_neg h1, decide_eq_false h2, gimbalref12_FormFit.j0, if_neg (by decide)]
   have key : ∀ t : Bool, (lfitB x sx y sy c = true ↔ t = true) → some t = some (lfitB x sx y sy c) := fun t h => by
    congr 1; rw [Bool.eq_iff_iff]; exact h.symm
   have lp : lfitB x sx y sy c = true ↔ lfitP x sx y sy c := decide_eq_true_iff
   simp only [gimbalref12_FormFit.j1, if_true, reduceIte]
   (repeat' split) <;> (refine key _ (lp.trans ?_); unfold lfitP; simp only [decide_eq_true_eq, beq_iff_eq, Bool.false_eq_true, iff_false] at *; omega)
section
variable {w W W' : World} {x : OV} {os : List OV} {fs : List (Nat × Obj)}
end
section
variable {w W : World} {x : OV} {os : List OV} {fs : List (Nat × Obj)}
end
end Go.Proofs.Ytphfchbggechhaa.QO
end
end
section
noncomputable section
namespace Go.Proofs.Ytphfchbggechhaa.Pure
open Go.RowKit Ytphfchbggechhaa.QO YtphfchbggechhaaW.PrintWords YtphfchbggechhaaW.PrintLast YtphfchbggechhaaW.PrintMore
namespace Octs
theorem fit_lens {vars m : List Int} {e : Bool} (h : OFit vars m e) : vars.length ≤ 8 ∧ m.length ≤ 256 := by
 have h8 := h.1.1
 refine ⟨h8, ?_⟩
 cases e with
 | true => rw [h.2.1 rfl]; simp
 | false =>
  have h1 := (h.2.2 rfl).1
  have e1 : ((m.length : Nat) : Int) = (((2 * vars.length) * (2 * vars.length) : Nat) : Int) := by rw [h1]; push_cast; rfl
  have : (2 * vars.length) * (2 * vars.length) ≤ 16 * 16 := Nat.mul_le_mul (by omega) (by omega)
  omega
end Octs
end Go.Proofs.Ytphfchbggechhaa.Pure
namespace Go.Proofs.Ytphfchbggechhaa.QO
open Go.RowKit Go.Shelf YtphfchbggechhaaW.PrintWords YtphfchbggechhaaW.PrintLast YtphfchbggechhaaW.PrintMore
open Ytphfchbggechhaa.Pure Octs
set_option linter.unusedVariables false
section
variable {w W W' W0 : World} {x y z : OV} {os : List OV} {fs : List (Nat × Obj)}
theorem rfit_o {b : Bool} (hx : Oc w W x) (hb : Below w.heap.size w W) (l : x.v.length ≤ 17592186044416) (h : ofitB x.v x.m x.e = b) : Says 12 #[x.val] W (.bool b) :=
 gimbalref11_Fit.calls x.P x.p x.v x.Q x.q x.m x.e b W (hx.r0.reads hb) hx.r0.le (hx.r1.reads hb) hx.r1.le (by unfold gimbalref11_Fit.f; rw [if_pos l, h])
end
end Go.Proofs.Ytphfchbggechhaa.QO
end
end
section
noncomputable section
namespace Go.Proofs.Ytphfchbggechhaa.QO
open Go.RowKit Go.Shelf YtphfchbggechhaaW.PrintWords YtphfchbggechhaaW.PrintLast YtphfchbggechhaaW.PrintMore
open Ytphfchbggechhaa.Pure
set_option linter.unusedVariables false
theorem ffit_as {x sx y sy c : Int} {t : Bool} {W : World} (h : lfitB x sx y sy c = t) : Says 36 #[.agg #[.int .i64 x, .int .i64 sx, .int .i64 y, .int .i64 sy, .int .i64 c]] W (.bool t) :=
 gimbalref12_FormFit.calls 2 x sx y sy c t W (by rw [formfit_f x sx y sy c 0, h])
def nearB (m : List Int) : Bool := @decide (∀ k : Nat, k < m.length → NearE (rd m (k : Int))) (Classical.propDecidable _)
section
variable {w W W0 : World} {os : List OV} {fs : List (Nat × Obj)} {x z : OV} {v m : List Int} {e : Bool} {Q : Option Addr} {q n : Nat} {l : List Int} {t : Bool}
theorem near_b (hx : Oc w W x) (hb : Below w.heap.size w W) (ho : x.o = (v, m, e)) (fx : OFit v m e) (h : nearB m = t) : Says 37 #[x.val] W (.bool t) := by
 have e2 : x.m = m := congrArg (·.2.1) ho
 obtain ⟨t', h1, h2⟩ := near_as hx hb (by rw [e2]; have := (Octs.fit_lens fx).2; omega)
 have : t' = t := by
  rw [← h, Bool.eq_iff_iff, h1, e2]
  unfold nearB
  exact (@decide_eq_true_iff _ (Classical.propDecidable _)).symm
 rw [← this]; exact h2
theorem rpoint_as (hx : Oc w W x) (hb : Below w.heap.size w W) (ho : x.o = (v, m, e)) (fx : OFit v m e) : Calls Try.prog 39 #[x.val] W fun e W' => ∃ (Q : Option Addr) (q : Nat) (l : List Int) (n : Nat) (b : Bool), e = .returned (.tuple #[.slice Q n q, .bool b]) ∧ l.length = n ∧ ((b = true ∧ Vl v.length l) ∨ (b = false ∧ l = [])) ∧ Own W W' (rV Q q l) ∧ Below W.heap.size W W' := by
 have e1 : x.v = v := congrArg Prod.fst ho
 have e2 : x.m = m := congrArg (·.2.1) ho
 have e3 : x.e = e := congrArg (·.2.2) ho
 subst e1 e2 e3
 have HX : Aside0 (Oc W W x) := ⟨⟨⟨hx.r0.le, .inl (hx.r0.reads hb)⟩, ⟨hx.r1.le, .inl (hx.r1.reads hb)⟩⟩⟩
 rcases cl_cases fx with hh | ⟨D, hD, hh⟩
 ·
  exact rpoint_bot x HX ⟨fx⟩ ⟨fx.1⟩ ⟨hh⟩
 ·
  exact rpoint_in x HX ⟨fx⟩ ⟨fx.1⟩ ⟨hD⟩ ⟨hh⟩
theorem rhas_ms (h : Aside0 (MS w os fs W0)) (hX : Aside0 (Oc w w x)) (ho : x.o = (v, m, e)) (fx : OFit v m e) (hr : rV Q q l ∈ os) (hn : l.length = n) (vl : Vl v.length l) (ht : hasB v m e l = t) (f : MS w os fs W0 → MS w os fs W := by intro h_; (with_reducible repeat (first | exact h_ | refine MS.next ?_ (below_alloc (Below.refl _ _) _) | refine MS.next ?_ (below_drew (Below.refl _ _)) | refine MS.next ?_ (pw_below_drewN (Below.refl _ _) _)))) : Says 32 #[x.val, .slice Q n q] W (.bool t) := by
 have F : Aside0 (MS w os fs W) := ⟨f h.out⟩
 rw [← hn]
 exact rhas_as (Oc.now hX F.out.S.below) (Below.refl _ _) ho fx (MS.rc F hr) (MS.rl F hr) vl ht
theorem ohas_ms {a : Tri} (h : Aside0 (MS w os fs W0)) (hz : z ∈ os) (ho : z.o = a) (hon : On v a) (hr : rV Q q l ∈ os) (hn : l.length = n) (n8 : n ≤ 8) (hi : In v a l) (f : MS w os fs W0 → MS w os fs W := by intro h_; (with_reducible repeat (first | exact h_ | refine MS.next ?_ (below_alloc (Below.refl _ _) _) | refine MS.next ?_ (below_drew (Below.refl _ _)) | refine MS.next ?_ (pw_below_drewN (Below.refl _ _) _)))) : Says 33 #[z.val, .slice Q n q] W (.bool true) := by
 have F : Aside0 (MS w os fs W) := ⟨f h.out⟩
 rw [← hn]
 have e1 : a = (v, a.2.1, a.2.2) := Prod.ext hon.1 rfl
 exact ohas_as (MS.oc F hz) F.out.S.below (ho.trans e1) (by have := hon.vok.1; omega) (MS.rc F hr) (MS.rl F hr) (by omega) hi
theorem fval_ms {lx sx y sy c r : Int} (h : Aside0 (MS w os fs W0)) (hr : rV Q q l ∈ os) (hn : l.length = n) (hf : gimbalref12_FormValue.f lx sx y sy c l = some r) (f : MS w os fs W0 → MS w os fs W := by intro h_; (with_reducible repeat (first | exact h_ | refine MS.next ?_ (below_alloc (Below.refl _ _) _) | refine MS.next ?_ (below_drew (Below.refl _ _)) | refine MS.next ?_ (pw_below_drewN (Below.refl _ _) _)))) : Says 30 #[.agg #[.int .i64 lx, .int .i64 sx, .int .i64 y, .int .i64 sy, .int .i64 c], .slice Q n q] W (.int .i64 r) := by
 have F : Aside0 (MS w os fs W) := ⟨f h.out⟩
 rw [← hn]
 exact fval_as (MS.rc F hr) (MS.rl F hr) hf
end
theorem pt_len {v l : List Int} {n : Nat} {b : Bool} (h : l.length = n) (hp : (b = true ∧ Vl v.length l) ∨ (b = false ∧ l = [])) (hv : v.length ≤ 8) : n ≤ 8 := by
 rcases hp with ⟨_, h2⟩ | ⟨_, h2⟩
 ·
  have := h2.1; omega
 ·
  rw [h2] at h; simp at h; omega
theorem pt_ok {v l : List Int} {n : Nat} {b : Bool} {k : Int} (h : l.length = n) (hp : (b = true ∧ Vl v.length l) ∨ (b = false ∧ l = [])) (h0 : 0 ≤ k) (h1 : k < (n : Int)) : b = true ∧ Vl v.length l := by
 rcases hp with h2 | ⟨_, h2⟩
 ·
  exact h2
 ·
  rw [h2] at h; simp at h; omega
theorem vl_set {n : Nat} {l : List Int} {i u : Int} (h : Vl n l) (h0 : 0 ≤ i) (h1 : i < (n : Int)) (hu : -17592186044416 < u ∧ u < 17592186044416) : Vl n (l.set i.toNat u) := by
 refine ⟨by rw [List.length_set]; exact h.1, fun k k0 k1 => ?_⟩
 rw [rd_set h0 (by rw [h.1]; exact h1) k0]
 split
 ·
  exact hu
 ·
  exact h.2 k k0 k1
def AllI (v l la : List Int) (j : Int) : Prop := la.length = 64 ∧ (∀ k : Nat, (k : Int) < j → rd v (k : Int) ≤ 63 ∧ rd la (rd v (k : Int)) = rd l (k : Int) ∧ -17179869184 ≤ rd l (k : Int) ∧ rd l (k : Int) ≤ 17179869184) ∧ ∀ k : Int, 0 ≤ k → k < 64 → -17179869184 ≤ rd la k ∧ rd la k ≤ 17179869184
theorem all_end {v l la : List Int} {j n : Int} (h : AllI v l la j) (e : j = n) : AllI v l la n := e ▸ h
theorem all_zero {v l la : List Int} (h : la.length = 64) (h0 : ∀ k : Nat, rd la (k : Int) = 0) : AllI v l la 0 :=
 ⟨h, fun k hk => absurd hk (by omega), fun k k0 _ => by have := h0 k.toNat; rw [Int.toNat_of_nonneg k0] at this; omega⟩
theorem vars_lt {v : List Int} (hv : VarsOk v) : ∀ d i : Nat, i + d + 1 < v.length → rd v (i : Int) < rd v ((i + d + 1 : Nat) : Int) := by
 intro d
 induction d with
 | zero =>
  intro i h
  have := (hv.2 ((i + 0 + 1 : Nat) : Int) (by omega) (by omega)).2 (by omega)
  rw [show ((i + 0 + 1 : Nat) : Int) - 1 = (i : Int) by omega] at this
  exact this
 | succ d ih =>
  intro i h
  have h1 := ih i (by omega)
  have := (hv.2 ((i + (d + 1) + 1 : Nat) : Int) (by omega) (by omega)).2 (by omega)
  rw [show ((i + (d + 1) + 1 : Nat) : Int) - 1 = ((i + d + 1 : Nat) : Int) by omega] at this
  omega
theorem all_step {v l la : List Int} {j : Int} (hv : VarsOk v) (h : AllI v l la j) (h0 : 0 ≤ j) (h1 : j < (v.length : Int)) (b : rd v j ≤ 63) (c : -17179869184 ≤ rd l j ∧ rd l j ≤ 17179869184) : AllI v l (la.set (rd v j).toNat (rd l j)) (j + 1) := by
 have p0 := (hv.2 j h0 h1).1
 refine ⟨by rw [List.length_set]; exact h.1, fun k hk => ?_, fun k k0 k1 => ?_⟩
 ·
  by_cases e : (k : Int) = j
  ·
   rw [e, rd_set p0 (by rw [h.1]; omega) p0, if_pos rfl]; exact ⟨b, rfl, c⟩
  ·
   have g := h.2.1 k (by omega)
   have p1 := (hv.2 (k : Int) (by omega) (by omega)).1
   have lt := vars_lt hv (j.toNat - k - 1) k (by omega)
   rw [show ((k + (j.toNat - k - 1) + 1 : Nat) : Int) = j by omega] at lt
   rw [rd_set p0 (by rw [h.1]; omega) p1, if_neg (by omega)]
   exact g
 ·
  rw [rd_set p0 (by rw [h.1]; omega) k0]
  split
  ·
   exact c
  ·
   exact h.2.2 k k0 k1
theorem all_val {v l la : List Int} {lx sx y sy c : Int} (h : AllI v l la (v.length : Int)) (hl : lfitP lx sx y sy c) (hx : lx ≤ 63) (hy : y ≤ 63) : ∃ r : Int, gimbalref12_FormValue.f lx sx y sy c la = some r ∧ (-17592186044416 < r ∧ r < 17592186044416) ∧ (ofB v lx sx y sy c = true → r = formV v l lx sx y sy c) := by
 have hP := hl
 unfold lfitP at hP
 have sX : sx = 0 ∨ sx = 1 ∨ sx = -1 := by omega
 have sY : sy = 0 ∨ sy = 1 ∨ sy = -1 := by omega
 have y0 : 0 ≤ y := by omega
 refine ⟨_, fval_f h.1 (fun _ => ⟨hP.2.2.1, by omega⟩) (fun _ => ⟨y0, by omega⟩) sX sY ⟨hP.1, hP.2.1⟩ (fun k k0 k1 => by have := h.2.2 k k0 k1; omega), ?_, fun ho => ?_⟩
 ·
  have b1 := h.2.2 lx hP.2.2.1 (by omega)
  have b2 := h.2.2 y y0 (by omega)
  have c1 : -17179869184 ≤ sx * rd la lx ∧ sx * rd la lx ≤ 17179869184 := by rcases sX with e | e | e <;> rw [e] <;> omega
  have c2 : -17179869184 ≤ sy * rd la y ∧ sy * rd la y ≤ 17179869184 := by rcases sY with e | e | e <;> rw [e] <;> omega
  omega
 ·
  have hO := of_decide_eq_true ho
  have at_ : ∀ a : Int, 0 ≤ placeF v a → rd la a = rd l (placeF v a) := fun a ha => by
   rcases placeF_cases v a with ⟨p, p1, p2, p3, _⟩ | ⟨p2, _⟩
   ·
    have g := (h.2.1 p (by omega)).2.1
    rw [p3] at g; rw [p2]; exact g
   ·
    omega
  have e1 : sx * rd la lx = sx * rd l (placeF v lx) := by
   rcases hO.2.1 with e | e
   ·
    rw [e]; omega
   ·
    rw [at_ lx e]
  have e2 : sy * rd la y = sy * rd l (placeF v y) := by
   rcases hO.2.2 with e | e
   ·
    rw [e]; omega
   ·
    rw [at_ y e]
  unfold formV
  rw [e1, e2]
theorem but_set {l : List Int} {p u : Int} (h0 : 0 ≤ p) (h1 : p < (l.length : Int)) : But p.toNat l (l.set p.toNat u) := fun k hk => by
 rw [rd_set h0 h1 (by omega), if_neg (by omega)]
theorem but_refl (p : Nat) (l : List Int) : But p l l := fun _ _ => rfl
def nodeF (v : List Int) (a s : Int) : Int := if 0 ≤ placeF v a ∧ s < 0 then 2 * placeF v a + 1 else 2 * placeF v a
section
variable {w W : World} {x : OV} {v m : List Int} {e : Bool}
theorem onode_as {a s p : Int} (hx : Oc w W x) (hb : Below w.heap.size w W) (ho : x.o = (v, m, e)) (l : v.length ≤ 1000) (h : nodeF v a s = p) : Says 112 #[x.val, .int .i64 a, .int .i64 s] W (.int .i64 p) := by
 obtain ⟨P, p0, Q, q, v', m', e'⟩ := x
 cases ho
 exact oct_node.calls (v'.length + 1) P p0 _ Q q _ _ a s _ W (hx.r0.reads hb) hx.r0.le (hx.r1.reads hb) hx.r1.le ((BndF.node_at v' l a m' e' s _ (Nat.lt_succ_self _)).trans (by rw [← h]; rfl))
theorem omost_as {lx sx y sy c g : Int} {K : Nat} (hx : Oc w W x) (hb : Below w.heap.size w W) (ho : x.o = (v, m, e)) (hg : oct_most.f K v m e lx sx y sy c = some g) :
 Says 114 #[x.val, .agg #[.int .i64 lx, .int .i64 sx, .int .i64 y, .int .i64 sy, .int .i64 c]] W (.int .i64 g) := by
 obtain ⟨P, p, Q, q, v', m', e'⟩ := x
 cases ho
 exact oct_most.calls K P p _ Q q _ _ lx sx y sy c _ W (hx.r0.reads hb) hx.r0.le (hx.r1.reads hb) hx.r1.le hg
theorem bneg2_as {a r : Int} (h : bound_Neg.f a = some r) : Says 61 #[.int .i64 a] W (.int .i64 r) := (bound_Neg.calls a r W h).mono fun _ _ q => ⟨q.1, q.2.below⟩
theorem bup2_as {a b r : Int} (h : bound_Up.f a b = some r) : Says 60 #[.int .i64 a, .int .i64 b] W (.int .i64 r) := bound_Up.calls a b r W h
theorem bdown2_as {a b r : Int} (h : bound_Down.f a b = some r) : Says 113 #[.int .i64 a, .int .i64 b] W (.int .i64 r) := bound_Down.calls a b r W h
end
end Go.Proofs.Ytphfchbggechhaa.QO
end
end
section
noncomputable section
namespace Go.Proofs.Ytphfchbggechhaa.QO
open Go.RowKit Go.Shelf YtphfchbggechhaaW.PrintWords YtphfchbggechhaaW.PrintLast YtphfchbggechhaaW.PrintMore
open Ytphfchbggechhaa.Pure
attribute [local go_sem] Oper.semAt_some
attribute [local go_sem ↓] Go.wp_at_zero Go.wp_at_succ
set_option linter.unusedVariables false
set_option linter.unusedSimpArgs false
def bnd2_T7 : Bool × List (List Nat × List Nat) := (true, [([], []), ([0], [0]), ([1], [1]), ([], []), ([3], [3]), ([4], [4]), ([0, 1, 2], []), ([6, 2, 0, 1, 2], [2, 6]), ([0, 1, 2, 3, 4, 5, 6, 7], []), ([8, 5, 7, 0, 1, 2, 3, 4, 5, 6, 7], [5, 8])])
def bnd2_B7 : List Nat := [0, 1, 3, 0, 8, 24, 7, 71, 255, 511]
theorem bnd2_tab7 : rtab .any (opsOf Try.f71 7) = bnd2_T7 := by kernel_rfl
theorem bnd2_bits7 : waitsOk bnd2_T7.2 bnd2_B7 = true := by kernel_rfl
def bnd2_T8 : Bool × List (List Nat × List Nat) := (true, [([], []), ([0], [0]), ([], []), ([], []), ([2, 3], [2, 3]), ([4, 4], [4]), ([1, 5, 5], [1, 5]), ([], []), ([7], [7]), ([], []), ([], []), ([9, 10, 6], [9, 10]), ([8, 11, 11], [8, 11]), ([6, 12], [6, 12]), ([13, 12, 0, 1, 2, 3, 4, 5, 6, 7, 8, 9, 10, 11, 12, 13], [13])])
def bnd2_B8 : List Nat := [0, 1, 0, 0, 12, 28, 63, 0, 128, 0, 0, 1663, 4095, 8191, 16383]
theorem bnd2_tab8 : rtab .any (opsOf Try.f71 8) = bnd2_T8 := by kernel_rfl
theorem bnd2_bits8 : waitsOk bnd2_T8.2 bnd2_B8 = true := by kernel_rfl
theorem bnd2_bot (X : OV) (lx sx y sy c : Int) {cm : List Int} {w : World} (HX : Aside0 (Oc w w X)) (FX_ : Aside0 (OFit X.v X.m X.e)) (LK : Aside0 (X.v.length ≤ 1000)) (HC : Aside0 (closeF X.v X.m X.e = (X.v, cm, true))) :
 Says 71 #[X.val, lV lx sx y sy c] w (iV 1 0) := by
 have hu25 := Try.underlying25
 have hu34 := Try.underlying34
 have hu36 := Try.underlying36
 go_enter Try.func71, Try.ntmps71
 go_upto_region 1 with fail
 have HM := MS.n3 w X.cells (lC lx sx y sy c) (iC 0 0)
 generalize World.alloc _ _ = wk at HM ⊢
 generalize w.heap.size + 2 = gr at HM ⊢
 generalize w.heap.size + 1 = gl at HM ⊢
 generalize w.heap.size = go at HM ⊢
 have kgo := MS.c3 HM m2_
 go_upto_region 2 with (first | (go_at_call 51; (with_reducible refine (close_as (Oc.now HX (MS.bel HM)) (Below.refl _ _) rfl FX_.out HC.out).mono ?_); rintro e wk ⟨cv, rfl, hcv, ho, hb⟩; replace HM := MS.cl HM hb ho; clear ho hb; replace kgo := MS.c3 HM m2_) | ((with_reducible refine gate_dst (N := 5) rfl ?_); refine bx_ 5 #[.slice none 0 0, .slice none 0 0, .bool false] 25 ?_; intro gc hg wk hbox hb; replace HM := MS.md HM hg hbox hb; clear hg hbox hb; have kgc := MS.c3 HM m0_; replace kgo := MS.c3 HM m3_))
 replace HM := MS.sb HM (.refl _) (.cons_cons _ (.cons_cons _ (.cons_cons _ (.cons _ .slnil)))); clear kgo
 replace HM := MS.po0 cv HM
 generalize World.setCell _ _ _ = wk at HM ⊢
 have HCV := Aside0.mk hcv; clear hcv
 have hem : cv.e = true := congrArg (·.2.2) HCV.out
 replace kgc := MS.c3 HM m0_; have kgr := MS.c2 HM m1_; have kgl := MS.c5 HM m2_
 go_wp2
 clear hem
 replace HM := MS.pi1 1 0 HM
 generalize World.setCell _ _ _ = wk at HM ⊢
 refine MS.rt HM m1_ ?_
 exact ⟨rfl, HM.out.S.below⟩
theorem bnd2_in (X : OV) (lx sx y sy c : Int) {cm : List Int} {w : World} (HX : Aside0 (Oc w w X)) (FX_ : Aside0 (OFit X.v X.m X.e)) (LK : Aside0 (X.v.length ≤ 1000)) {px py sx' sy' g1 g2 ng lo hi : Int} {K : Nat} (HC : Aside0 (closeF X.v X.m X.e = (X.v, cm, false))) (HPX : Aside0 (nodeF X.v lx 1 = px)) (HPY : Aside0 (nodeF X.v y 1 = py)) (TSX : Aside0 ((sx != 0) = true)) (TPX : Aside0 (decide (px < 0) = false)) (TPY : Aside0 (sy ≠ 0 → decide (py < 0) = false)) (WN : Aside0 (IntKind.i64.wrap (-sx) = sx' ∧ wrap64 (-sx) = sx' ∧ IntKind.i64.wrap (-sy) = sy' ∧ wrap64 (-sy) = sy'))
 (HG1 : Aside0 (oct_most.f K X.v cm false lx sx y sy c = some g1)) (HG2 : Aside0 (oct_most.f K X.v cm false lx sx' y sy' c = some g2)) (HN : Aside0 (bound_Neg.f g2 = some ng)) (HD : Aside0 (bound_Down.f c ng = some lo)) (HU : Aside0 (bound_Up.f c g1 = some hi)) :
 Says 71 #[X.val, lV lx sx y sy c] w (iV lo hi) := by
 have hu25 := Try.underlying25
 have hu34 := Try.underlying34
 have hu36 := Try.underlying36
 go_enter Try.func71, Try.ntmps71
 go_upto_region 1 with fail
 have HM := MS.n3 w X.cells (lC lx sx y sy c) (iC 0 0)
 generalize World.alloc _ _ = wk at HM ⊢
 generalize w.heap.size + 2 = gr at HM ⊢
 generalize w.heap.size + 1 = gl at HM ⊢
 generalize w.heap.size = go at HM ⊢
 have kgo := MS.c3 HM m2_
 go_upto_region 2 with (first | (go_at_call 51; (with_reducible refine (close_as (Oc.now HX (MS.bel HM)) (Below.refl _ _) rfl FX_.out HC.out).mono ?_); rintro e wk ⟨cv, rfl, hcv, ho, hb⟩; replace HM := MS.cl HM hb ho; clear ho hb; replace kgo := MS.c3 HM m2_) | ((with_reducible refine gate_dst (N := 5) rfl ?_); refine bx_ 5 #[.slice none 0 0, .slice none 0 0, .bool false] 25 ?_; intro gc hg wk hbox hb; replace HM := MS.md HM hg hbox hb; clear hg hbox hb; have kgc := MS.c3 HM m0_; replace kgo := MS.c3 HM m3_))
 replace HM := MS.sb HM (.refl _) (.cons_cons _ (.cons_cons _ (.cons_cons _ (.cons _ .slnil)))); clear kgo
 replace HM := MS.po0 cv HM
 generalize World.setCell _ _ _ = wk at HM ⊢
 have HCV := Aside0.mk hcv; clear hcv
 have hem : cv.e = false := congrArg (·.2.2) HCV.out
 replace kgc := MS.c3 HM m0_; have kgr := MS.c2 HM m1_
 go_upto_region 4 with fail
 clear hem
 (try simp only [Act.put, List.setIfInBounds_toArray, List.set_cons_zero, List.set_cons_succ])
 go_cut [33] from 7 (fun v33 wc => v33 = .bool false ∧ Aside0 (MS w [cv] [(gc, cv.cells), (gr, iC 0 0), (gl, lC lx sx y sy c)] wc))
 case first =>
  have t1 := TSX.out; have t2 := TPX.out
  by_cases S_ : sy = 0
  ·
   have S := Aside0.mk S_; clear S_
   have t3 : (sy != 0) = false := bne_eq_false_iff_eq.2 S.out
   have kgl := MS.c5 HM m2_
   go_wp2_with (first | (go_at_call 112; (with_reducible refine (onode_as (MS.oc HM m0_) (MS.bel HM) HCV.out LK.out HPX.out).mono ?_); rintro e wk ⟨rfl, hb⟩; replace HM := MS.nx HM hb; clear hb; replace kgc := MS.c3 HM m0_; replace kgr := MS.c2 HM m1_; replace kgl := MS.c5 HM m2_))
   go_meet
   case rel => exact ⟨rfl, HM⟩
  ·
   have S := Aside0.mk S_; clear S_
   have t3 : (sy != 0) = true := bne_iff_ne.2 S.out; have t4 := TPY.out S.out
   have kgl := MS.c5 HM m2_
   go_wp2_with (first | (go_at_call 112; (with_reducible refine (onode_as (MS.oc HM m0_) (MS.bel HM) HCV.out LK.out HPX.out).mono ?_); rintro e wk ⟨rfl, hb⟩; replace HM := MS.nx HM hb; clear hb; replace kgc := MS.c3 HM m0_; replace kgr := MS.c2 HM m1_; replace kgl := MS.c5 HM m2_) | (go_at_call 112; (with_reducible refine (onode_as (MS.oc HM m0_) (MS.bel HM) HCV.out LK.out HPY.out).mono ?_); rintro e wk ⟨rfl, hb⟩; replace HM := MS.nx HM hb; clear hb; replace kgc := MS.c3 HM m0_; replace kgr := MS.c2 HM m1_; replace kgl := MS.c5 HM m2_))
   go_meet
   case rel => exact ⟨rfl, HM⟩
 case rest =>
  clear HM; clear kgc kgr
  obtain ⟨rfl, HM⟩ := hcut
  have kgc := MS.c3 HM m0_; have kgr := MS.c2 HM m1_; have kgl := MS.c5 HM m2_
  go_upto_region 7 with (first | ((with_reducible refine gate_dst (N := 6) rfl ?_); refine bx_ 6 #[.int .i64 0, .int .i64 0, .int .i64 0, .int .i64 0, .int .i64 0] 34 ?_; intro gm hg wk hbox hb; replace HM := MS.md HM hg hbox hb; clear hg hbox hb; have kgm := MS.c5 HM m0_; replace kgc := MS.c3 HM m1_; replace kgr := MS.c2 HM m2_; replace kgl := MS.c5 HM m3_))
  replace HM := MS.pl0 lx sx y sy c HM
  generalize World.setCell _ _ _ = wk at HM ⊢
  obtain ⟨wx, wx', wy, wy'⟩ := WN.out
  replace HM := MS.dr HM
  clear kgc kgl kgm kgr
  refine st_ 10 (fun w' => w'.cell? ⟨gl, 1, none⟩ = some (.int .i64 sx) ∧ w'.cell? ⟨gl, 3, none⟩ = some (.int .i64 sy)) [] ⟨MS.k HM m3_ 1 rfl, MS.k HM m3_ 3 rfl⟩ (fun hHeld => ?_)
  refine with_tabW bnd2_tab7 bnd2_bits7 (fun HT_ HW_ => ?_)
  generalize World.drew _ = wk at HM hHeld ⊢
  refine pV_ 0 36 (mB 10 1) HT_ ?_
  refine tV_ 1 37 (mB 10 3) HT_ HW_ hHeld ?_
  refine pV_ 2 38 (mB 10 7) HT_ ?_
  refine pV_ 3 39 (mB 10 15) HT_ ?_
  refine tV_ 4 40 (mB 10 31) HT_ HW_ hHeld ?_
  refine pV_ 5 41 (mB 10 63) HT_ ?_
  refine pV_ 6 42 (mB 10 127) HT_ ?_
  refine on_ 7 none (mB 10 255) HT_ (fun K hK => ?_)
  have kgm := MS.c5 HM m0_
  refine skip_ (w1 := ?_) (by rfl) rfl ?_ ?_
  rotate_left
  ·
   go_simp
   rfl
  replace HM := MS.pj0 (cs' := #[.int .i64 lx, .int .i64 sx', .int .i64 y, .int .i64 sy, .int .i64 c]) 1 (.int .i64 sx') HM rfl
  clear kgm
  refine hK.out _ _ ⟨MS.k HM m3_ 1 rfl, MS.k HM m3_ 3 rfl⟩ (fun hHeld => ?_)
  clear hK K
  generalize World.setCell _ _ _ = wk at HM hHeld ⊢
  refine pV_ 8 43 (mB 10 511) HT_ ?_
  refine on_ 9 none (mB 10 1023) HT_ (fun K hK => ?_)
  have kgm := MS.c5 HM m0_
  refine skip_ (w1 := ?_) (by rfl) rfl ?_ ?_
  rotate_left
  ·
   go_simp
   rfl
  replace HM := MS.pj0 (cs' := #[.int .i64 lx, .int .i64 sx', .int .i64 y, .int .i64 sy', .int .i64 c]) 3 (.int .i64 sy') HM rfl
  clear kgm
  refine hK.out _ _ ⟨MS.k HM m3_ 1 rfl, MS.k HM m3_ 3 rfl⟩ (fun hHeld => ?_)
  clear hK K
  generalize World.setCell _ _ _ = wk at HM hHeld ⊢
  refine dn_ HT_ ?_
  clear HT_ HW_ hHeld
  clear wx wx' wy wy'
  go_upto_region 8 with fail
  replace HM := MS.dr HM
  refine st_ 15 (fun w' => w'.cell? ⟨gl, 4, none⟩ = some (.int .i64 c) ∧ oR gc cv w' ∧ lR gm lx sx' y sy' c w' ∧ lR gl lx sx y sy c w') [14] ⟨MS.k HM m3_ 4 rfl, kO HM m1_, kL HM m0_, kL HM m3_⟩ (fun hHeld => ?_)
  refine with_tabW bnd2_tab8 bnd2_bits8 (fun HT_ HW_ => ?_)
  generalize World.drew _ = wk at HM hHeld ⊢
  refine pV_ 0 44 (mB 15 1) HT_ ?_
  refine tV_ 1 45 (mB 15 3) HT_ HW_ hHeld ?_
  refine tV_ 2 46 (mB 15 7) HT_ HW_ hHeld ?_
  refine tV_ 3 47 (mB 15 15) HT_ HW_ hHeld ?_
  refine pV_ 7 51 (mB 15 143) HT_ ?_
  refine tV_ 8 52 (mB 15 399) HT_ HW_ hHeld ?_
  refine tV_ 9 53 (mB 15 911) HT_ HW_ hHeld ?_
  refine tV_ 10 54 (mB 15 1935) HT_ HW_ hHeld ?_
  refine on_ 4 (some 48) (mB 15 1951) HT_ (fun K hK => ?_)
  refine gs_ Try.func114 #[cv.val, lV lx sx' y sy' c] ?_
  with_reducible refine sk_ (omost_as (MS.oc HM m0_) (MS.bel HM) HCV.out HG2.out) fun wk hb => ?_
  replace HM := MS.nx HM hb; clear hb
  refine hK.out _ _ ⟨MS.k HM m3_ 4 rfl, kO HM m1_, kL HM m0_, kL HM m3_⟩ (fun hHeld => ?_)
  clear hK K
  refine nO_ 48 ?_
  refine on_ 5 (some 49) (mB 15 1983) HT_ (fun K hK => ?_)
  refine gs_ Try.func61 #[.int .i64 g2] ?_
  with_reducible refine sk_ (bneg2_as HN.out) fun wk hb => ?_
  replace HM := MS.nx HM hb; clear hb
  refine hK.out _ _ ⟨MS.k HM m3_ 4 rfl, kO HM m1_, kL HM m0_, kL HM m3_⟩ (fun hHeld => ?_)
  clear hK K
  refine nO_ 49 ?_
  refine on_ 6 (some 50) (mB 15 2047) HT_ (fun K hK => ?_)
  refine gs_ Try.func113 #[.int .i64 c, .int .i64 ng] ?_
  with_reducible refine sk_ (bdown2_as HD.out) fun wk hb => ?_
  replace HM := MS.nx HM hb; clear hb
  refine hK.out _ _ ⟨MS.k HM m3_ 4 rfl, kO HM m1_, kL HM m0_, kL HM m3_⟩ (fun hHeld => ?_)
  clear hK K
  refine nO_ 50 ?_
  refine on_ 11 (some 55) (mB 15 4095) HT_ (fun K hK => ?_)
  refine gs_ Try.func114 #[cv.val, lV lx sx y sy c] ?_
  with_reducible refine sk_ (omost_as (MS.oc HM m0_) (MS.bel HM) HCV.out HG1.out) fun wk hb => ?_
  replace HM := MS.nx HM hb; clear hb
  refine hK.out _ _ ⟨MS.k HM m3_ 4 rfl, kO HM m1_, kL HM m0_, kL HM m3_⟩ (fun hHeld => ?_)
  clear hK K
  refine nO_ 55 ?_
  refine on_ 12 (some 56) (mB 15 8191) HT_ (fun K hK => ?_)
  refine gs_ Try.func60 #[.int .i64 c, .int .i64 g1] ?_
  with_reducible refine sk_ (bup2_as HU.out) fun wk hb => ?_
  replace HM := MS.nx HM hb; clear hb
  refine hK.out _ _ ⟨MS.k HM m3_ 4 rfl, kO HM m1_, kL HM m0_, kL HM m3_⟩ (fun hHeld => ?_)
  clear hK K
  refine nO_ 56 ?_
  refine pV_ 13 57 (mB 15 16383) HT_ ?_
  have kgr := MS.c2 HM m2_
  refine la_ 14 (mB 15 32767) HT_ (fun K hK => ?_)
  refine skip_ (w1 := ?_) (by rfl) rfl ?_ ?_
  rotate_left
  ·
   go_simp
   rfl
  refine hK.out _ _ ?_
  clear hK K
  refine dn_ HT_ ?_
  clear HT_ HW_ hHeld
  replace HM := MS.pi2 lo hi HM
  generalize World.setCell _ _ _ = wk at HM ⊢
  go_wp2
  refine MS.rt HM m2_ ?_
  exact ⟨rfl, HM.out.S.below⟩
end Go.Proofs.Ytphfchbggechhaa.QO
end
end
section
noncomputable section
namespace Go.Proofs.Ytphfchbggechhaa.QO
open Go.RowKit Go.Shelf YtphfchbggechhaaW.PrintWords YtphfchbggechhaaW.PrintLast YtphfchbggechhaaW.PrintMore
open Ytphfchbggechhaa.Pure
open BndF (bndF mostF loF hiF most_sm omost_ev)
set_option linter.unusedVariables false
theorem bnd_as {w W : World} {x : OV} {v m : List Int} {e : Bool} (hx : Oc w W x) (hb : Below w.heap.size w W) (ho : x.o = (v, m, e)) (fx : OFit v m e) (lx sx y sy c : Int) {l h : Int} (hc : -1099511627776 ≤ c ∧ c ≤ 1099511627776) (h1 : -1 ≤ sx ∧ sx ≤ 1) (h2 : -1 ≤ sy ∧ sy ≤ 1) (hs : sx ≠ 0) (hp : 0 ≤ placeF v lx) (hq : sy ≠ 0 → 0 ≤ placeF v y) (ha : bndF v m e lx sx y sy c = (l, h)) :
 Says 71 #[x.val, .agg #[.int .i64 lx, .int .i64 sx, .int .i64 y, .int .i64 sy, .int .i64 c]] W (.agg #[.int .i64 l, .int .i64 h]) := by
 have HX : Aside0 (Oc W W x) := ⟨⟨⟨hx.r0.le, .inl (hx.r0.reads hb)⟩, ⟨hx.r1.le, .inl (hx.r1.reads hb)⟩⟩⟩
 have e1 : x.v = v := congrArg Prod.fst ho
 have e2 : x.m = m := congrArg (·.2.1) ho
 have e3 : x.e = e := congrArg (·.2.2) ho
 subst e1 e2 e3
 clear ho
 have l8 := fx.1.1
 rcases close_cases fx with ⟨h3, _⟩ | ⟨he, hk, h3⟩
 ·
  unfold bndF at ha
  rw [if_pos (by rw [h3])] at ha
  cases ha
  exact bnd2_bot x lx sx y sy c HX ⟨fx⟩ ⟨show x.v.length ≤ 1000 by omega⟩ ⟨h3⟩
 ·
  have hN := snd_close (snd_of_fit (by rw [he] at fx; exact fx)) hk
  unfold bndF at ha
  rw [if_neg (by rw [h3]; simp), if_neg (fun h => by rcases h with h | h; exact absurd hp (by omega); have := hq h.1; omega)] at ha
  generalize closeM (2 * x.v.length) (lowM x.v.length x.m) = C at h3 hN ha
  have sm1 := most_sm (v := placeF x.v lx) (u := placeF x.v y) (sx := sx) (sy := sy) hN (placeF_lt x.v lx).2 (placeF_lt x.v y).2 (fun _ => hp) hq
  have sm2 := most_sm (v := placeF x.v lx) (u := placeF x.v y) (sx := -sx) (sy := -sy) hN (placeF_lt x.v lx).2 (placeF_lt x.v y).2 (fun _ => hp) (fun h => hq (by omega))
  have g1 := omost_ev fx h3 hN lx sx y sy c (fun _ => hp) hq (x.v.length + 1) (by omega)
  have g2 := omost_ev fx h3 hN lx (-sx) y (-sy) c (fun _ => hp) (fun h => hq (by omega)) (x.v.length + 1) (by omega)
  generalize mostF C (placeF x.v lx) sx (placeF x.v y) sy = a1 at *
  generalize mostF C (placeF x.v lx) (-sx) (placeF x.v y) (-sy) = a2 at *
  obtain ⟨rfl, rfl⟩ := Prod.mk.inj ha
  have wn : IntKind.i64.wrap (-sx) = -sx ∧ wrap64 (-sx) = -sx ∧ IntKind.i64.wrap (-sy) = -sy ∧ wrap64 (-sy) = -sy := by
   have e1 : wrap64 (-sx) = -sx := by unfold wrap64; omega
   have e2 : wrap64 (-sy) = -sy := by unfold wrap64; omega
   rw [IntKind.wrap_i64, IntKind.wrap_i64]
   exact ⟨by omega, e1, by omega, e2⟩
  have tsx : (sx != 0) = true := bne_iff_ne.2 hs
  exact bnd2_in x lx sx y sy c HX ⟨fx⟩ ⟨show x.v.length ≤ 1000 by omega⟩ (K := x.v.length + 1) ⟨h3⟩ ⟨rfl⟩ ⟨rfl⟩ ⟨tsx⟩ ⟨decide_eq_false (by unfold nodeF; simp; omega)⟩ ⟨fun h => decide_eq_false (by have := hq h; unfold nodeF; simp; omega)⟩ ⟨wn⟩ ⟨g1.1⟩ ⟨g2.1⟩ ⟨Arith.neg_sm sm2⟩ ⟨Arith.down_sm (by omega) sm2⟩ ⟨Arith.up_sm (by omega) sm1⟩
end Go.Proofs.Ytphfchbggechhaa.QO
end
end
section
noncomputable section
namespace Go.Proofs.Ytphfchbggechhaa.QO
open Go.RowKit Go.Shelf YtphfchbggechhaaW.PrintWords YtphfchbggechhaaW.PrintLast YtphfchbggechhaaW.PrintMore
open Ytphfchbggechhaa.Pure
attribute [local go_sem] Oper.semAt_some
attribute [local go_sem ↓] Go.wp_at_zero Go.wp_at_succ
set_option linter.unusedVariables false
set_option linter.unusedSimpArgs false
def assign_T7 : Bool × List (List Nat × List Nat) := (true, [([], []), ([], []), ([0, 1], [0, 1]), ([], []), ([3], [3]), ([], []), ([5], [5]), ([], []), ([7], [7]), ([6, 8, 2], [6, 8]), ([2, 4, 9, 9], [2, 4, 9]), ([10, 10, 0, 1, 2, 3, 4, 5, 6, 7, 8, 9, 10], [10])])
def assign_B7 : List Nat := [0, 0, 3, 0, 8, 0, 32, 0, 128, 487, 1023, 2047]
theorem assign_tab7 : rtab .any (opsOf Try.f21 7) = assign_T7 := by kernel_rfl
theorem assign_bits7 : waitsOk assign_T7.2 assign_B7 = true := by kernel_rfl
def assign_T9 : Bool × List (List Nat × List Nat) := (true, [([], []), ([], []), ([], []), ([1, 2], [1, 2]), ([], []), ([4], [4]), ([], []), ([6], [6]), ([0, 3, 5, 7, 3], [0, 3, 5, 7]), ([8, 8], [8]), ([9, 9, 0, 1, 2, 3, 4, 5, 6, 7, 8, 9], [9])])
def assign_B9 : List Nat := [0, 0, 0, 6, 0, 16, 0, 64, 255, 511, 1023]
theorem assign_tab9 : rtab .any (opsOf Try.f21 9) = assign_T9 := by kernel_rfl
theorem assign_bits9 : waitsOk assign_T9.2 assign_B9 = true := by kernel_rfl
def assign_T11 : Bool × List (List Nat × List Nat) := (true, [([], []), ([], []), ([0, 1], [0, 1]), ([], []), ([], []), ([4], [4]), ([], []), ([6], [6]), ([3, 5, 7, 2], [3, 5, 7]), ([], []), ([9], [9]), ([], []), ([11], [11]), ([10, 12, 8], [10, 12]), ([2, 8, 13, 13], [2, 8, 13]), ([14, 14, 0, 1, 2, 3, 4, 5, 6, 7, 8, 9, 10, 11, 12, 13, 14], [14])])
def assign_B11 : List Nat := [0, 0, 3, 0, 0, 16, 0, 64, 255, 0, 512, 0, 2048, 8191, 16383, 32767]
theorem assign_tab11 : rtab .any (opsOf Try.f21 11) = assign_T11 := by kernel_rfl
theorem assign_bits11 : waitsOk assign_T11.2 assign_B11 = true := by kernel_rfl
def assign_T12 : Bool × List (List Nat × List Nat) := (true, [([], []), ([], []), ([0, 1], [0, 1]), ([], []), ([3], [3]), ([], []), ([], []), ([5, 6, 2], [5, 6]), ([2, 4, 7, 7], [2, 4, 7]), ([], []), ([9, 8, 8, 0, 1, 2, 3, 4, 5, 6, 7, 8, 9], [8, 9])])
def assign_B12 : List Nat := [0, 0, 3, 0, 8, 0, 0, 103, 255, 0, 1023]
theorem assign_tab12 : rtab .any (opsOf Try.f21 12) = assign_T12 := by kernel_rfl
theorem assign_bits12 : waitsOk assign_T12.2 assign_B12 = true := by kernel_rfl
def assign_T20 : Bool × List (List Nat × List Nat) := (true, [([], []), ([], []), ([], []), ([2], [2]), ([], []), ([4], [4]), ([1, 3, 5], [1, 3, 5]), ([], []), ([], []), ([7, 8, 6], [7, 8]), ([0, 6, 9, 9], [0, 6, 9]), ([10, 10, 0, 1, 2, 3, 4, 5, 6, 7, 8, 9, 10], [10])])
def assign_B20 : List Nat := [0, 0, 0, 4, 0, 16, 62, 0, 0, 510, 1023, 2047]
theorem assign_tab20 : rtab .any (opsOf Try.f21 20) = assign_T20 := by kernel_rfl
theorem assign_bits20 : waitsOk assign_T20.2 assign_B20 = true := by kernel_rfl
theorem MS.put10 (pre : List (Nat × Obj)) {post : List (Nat × Obj)} {w W : World} {os : List OV} {g : Nat} {v0 v1 v2 v3 v4 v5 v6 v7 v8 v9 u0 u1 u2 u3 u4 u5 u6 u7 u8 u9 : Value} {t : TypeId} (h : MS w os (pre ++ (g, .cells #[v0, v1, v2, v3, v4, v5, v6, v7, v8, v9] t (0, 0)) :: post) W) : MS w os (pre ++ (g, .cells #[u0, u1, u2, u3, u4, u5, u6, u7, u8, u9] t (0, 0)) :: post) ((((((((((W.setCell ⟨g, 0, none⟩ u0).setCell ⟨g, 1, none⟩ u1).setCell ⟨g, 2, none⟩ u2).setCell ⟨g, 3, none⟩ u3).setCell ⟨g, 4, none⟩ u4).setCell ⟨g, 5, none⟩ u5).setCell ⟨g, 6, none⟩ u6).setCell ⟨g, 7, none⟩ u7).setCell ⟨g, 8, none⟩ u8).setCell ⟨g, 9, none⟩ u9) :=
 (MS.put (cs' := #[u0, u1, u2, u3, u4, u5, u6, u7, u8, u9]) pre (MS.put (cs' := #[u0, u1, u2, u3, u4, u5, u6, u7, u8, v9]) pre (MS.put (cs' := #[u0, u1, u2, u3, u4, u5, u6, u7, v8, v9]) pre (MS.put (cs' := #[u0, u1, u2, u3, u4, u5, u6, v7, v8, v9]) pre (MS.put (cs' := #[u0, u1, u2, u3, u4, u5, v6, v7, v8, v9]) pre (MS.put (cs' := #[u0, u1, u2, u3, u4, v5, v6, v7, v8, v9]) pre (MS.put (cs' := #[u0, u1, u2, u3, v4, v5, v6, v7, v8, v9]) pre (MS.put (cs' := #[u0, u1, u2, v3, v4, v5, v6, v7, v8, v9]) pre (MS.put (cs' := #[u0, u1, v2, v3, v4, v5, v6, v7, v8, v9]) pre (MS.put (cs' := #[u0, v1, v2, v3, v4, v5, v6, v7, v8, v9]) pre h 0 u0 rfl) 1 u1 rfl) 2 u2 rfl) 3 u3 rfl) 4 u4 rfl) 5 u5 rfl) 6 u6 rfl) 7 u7 rfl) 8 u8 rfl) 9 u9 rfl)
theorem of_as' {X : OV} {v m : List Int} {e : Bool} {x sx y sy c : Int} {t : Bool} {w W : World} (hX : Oc w W X) (h0 : Below w.heap.size w W) (ho : X.o = (v, m, e)) (l : v.length ≤ 1000) (h : ofB v x sx y sy c = t) : Says 55 #[X.val, .agg #[.int .i64 x, .int .i64 sx, .int .i64 y, .int .i64 sy, .int .i64 c]] W (.bool t) := by
 have e1 : X.v = v := congrArg Prod.fst ho
 subst e1
 rw [← h]; exact of_o X x sx y sy c hX h0 l
theorem place_asE {X : OV} {v m : List Int} {t : Bool} {p : Int} {w W : World} (hx : Oc w W X) (hb : Below w.heap.size w W) (ho : X.o = (v, m, t)) (l : v.length ≤ 1000) (a : Int) (hp : placeF v a = p) (he : X.e = t) : Says 52 #[.agg #[.slice X.P X.v.length X.p, .slice X.Q X.m.length X.q, .bool t], .int .i64 a] W (.int .i64 p) := by
 subst he
 exact place_as hx hb ho l a hp
theorem idx0 (lx sx y sy : Int) : ∀ w, (Instr.index 77 (.agg #[.int .i64 lx, .int .i64 sx, .int .i64 0, .int .i64 0, .int .i64 0, .int .i64 y, .int .i64 sy, .int .i64 0, .int .i64 0, .int .i64 0]) (.int .i64 0)).run Try.prog w = .ok (.agg #[.int .i64 lx, .int .i64 sx, .int .i64 0, .int .i64 0, .int .i64 0]) w := fun _ => by kernel_rfl
theorem idx1 (lx sx y sy : Int) : ∀ w, (Instr.index 77 (.agg #[.int .i64 lx, .int .i64 sx, .int .i64 0, .int .i64 0, .int .i64 0, .int .i64 y, .int .i64 sy, .int .i64 0, .int .i64 0, .int .i64 0]) (.int .i64 1)).run Try.prog w = .ok (.agg #[.int .i64 y, .int .i64 sy, .int .i64 0, .int .i64 0, .int .i64 0]) w := fun _ => by kernel_rfl
theorem asg_bot (X : OV) (x lx sx y sy c : Int) {cm : List Int} {w : World} (HX : Aside0 (Oc w w X)) (FX_ : Aside0 (OFit X.v X.m X.e)) (LK : Aside0 (X.v.length ≤ 1000)) (HC : Aside0 (closeF X.v X.m X.e = (X.v, cm, true)))
 :
 Calls Try.prog 21 #[X.val, .int .i64 x, lV lx sx y sy c] w fun e W' => ∃ z : OV, e = .returned z.val ∧ z.o = (X.v, cm, true) ∧ Own w W' z ∧ Below w.heap.size w W' := by
 have hu25 := Try.underlying25
 have hu34 := Try.underlying34
 go_enter Try.func21, Try.ntmps21
 go_upto_region 1 with fail
 have HM := MS.n3 w X.cells (lC lx sx y sy c) zeroO
 generalize World.alloc _ _ = wk at HM ⊢
 generalize w.heap.size + 2 = gr at HM ⊢
 generalize w.heap.size + 1 = gl at HM ⊢
 generalize w.heap.size = go at HM ⊢
 have kgo := MS.c3 HM m2_
 go_upto_region 2 with (first | (go_at_call 51; (with_reducible refine (close_as (Oc.now HX (MS.bel HM)) (Below.refl _ _) rfl FX_.out HC.out).mono ?_); rintro e wk ⟨cv, rfl, hcv, ho, hb⟩; replace HM := MS.cl HM hb ho; clear ho hb; replace kgo := MS.c3 HM m2_) | ((with_reducible refine gate_dst (N := 7) rfl ?_); refine bx_ 7 #[.slice none 0 0, .slice none 0 0, .bool false] 25 ?_; intro gc hg wk hbox hb; replace HM := MS.md HM hg hbox hb; clear hg hbox hb; have kgc := MS.c3 HM m0_; replace kgo := MS.c3 HM m3_))
 replace HM := MS.sb HM (.refl _) (.cons_cons _ (.cons_cons _ (.cons_cons _ (.cons _ .slnil)))); clear kgo
 replace HM := MS.po0 cv HM
 generalize World.setCell _ _ _ = wk at HM ⊢
 have HCV := Aside0.mk hcv; clear hcv
 have hem : cv.e = true := congrArg (·.2.2) HCV.out
 replace kgc := MS.c3 HM m0_
 go_upto_region 3 with fail
 clear hem
 have kgr := MS.c3 HM m1_; have kgl := MS.c5 HM m2_
 go_wp2
 replace HM := MS.po1 cv HM
 generalize World.setCell _ _ _ = wk at HM ⊢
 refine MS.rt HM m1_ ?_
 exact ⟨cv, rfl, HCV.out, HM.out.S.own _ m0_, HM.out.S.below⟩
theorem asg_no (X : OV) (x lx sx y sy c : Int) {cm : List Int} {w : World} (HX : Aside0 (Oc w w X)) (FX_ : Aside0 (OFit X.v X.m X.e)) (LK : Aside0 (X.v.length ≤ 1000)) (HC : Aside0 (closeF X.v X.m X.e = (X.v, cm, false))) {pv : Int} (HP : Aside0 (placeF X.v x = pv)) (PN : Aside0 (pv < 0))
 :
 Calls Try.prog 21 #[X.val, .int .i64 x, lV lx sx y sy c] w fun e W' => ∃ z : OV, e = .returned z.val ∧ z.o = (X.v, cm, false) ∧ Own w W' z ∧ Below w.heap.size w W' := by
 have hu25 := Try.underlying25
 have hu34 := Try.underlying34
 go_enter Try.func21, Try.ntmps21
 go_upto_region 1 with fail
 have HM := MS.n3 w X.cells (lC lx sx y sy c) zeroO
 generalize World.alloc _ _ = wk at HM ⊢
 generalize w.heap.size + 2 = gr at HM ⊢
 generalize w.heap.size + 1 = gl at HM ⊢
 generalize w.heap.size = go at HM ⊢
 have kgo := MS.c3 HM m2_
 go_upto_region 2 with (first | (go_at_call 51; (with_reducible refine (close_as (Oc.now HX (MS.bel HM)) (Below.refl _ _) rfl FX_.out HC.out).mono ?_); rintro e wk ⟨cv, rfl, hcv, ho, hb⟩; replace HM := MS.cl HM hb ho; clear ho hb; replace kgo := MS.c3 HM m2_) | ((with_reducible refine gate_dst (N := 7) rfl ?_); refine bx_ 7 #[.slice none 0 0, .slice none 0 0, .bool false] 25 ?_; intro gc hg wk hbox hb; replace HM := MS.md HM hg hbox hb; clear hg hbox hb; have kgc := MS.c3 HM m0_; replace kgo := MS.c3 HM m3_))
 replace HM := MS.sb HM (.refl _) (.cons_cons _ (.cons_cons _ (.cons_cons _ (.cons _ .slnil)))); clear kgo
 replace HM := MS.po0 cv HM
 generalize World.setCell _ _ _ = wk at HM ⊢
 have HCV := Aside0.mk hcv; clear hcv
 have hem : cv.e = false := congrArg (·.2.2) HCV.out
 have q0 := PN.out
 replace kgc := MS.c3 HM m0_
 go_upto_region 3 with (first | (go_at_call 52; (with_reducible refine (place_asE (MS.oc HM m0_) (MS.bel HM) HCV.out LK.out x HP.out (congrArg (·.2.2) HCV.out)).mono ?_); rintro e wk ⟨rfl, hb⟩; replace HM := MS.nx HM hb; clear hb; replace kgc := MS.c3 HM m0_))
 clear hem q0
 have kgr := MS.c3 HM m1_; have kgl := MS.c5 HM m2_
 go_wp2
 replace HM := MS.po1 cv HM
 generalize World.setCell _ _ _ = wk at HM ⊢
 refine MS.rt HM m1_ ?_
 exact ⟨cv, rfl, HCV.out, HM.out.S.own _ m0_, HM.out.S.below⟩
theorem asg_not (X : OV) (x lx sx y sy c : Int) {cm : List Int} {w : World} (HX : Aside0 (Oc w w X)) (FX_ : Aside0 (OFit X.v X.m X.e)) (LK : Aside0 (X.v.length ≤ 1000)) (HC : Aside0 (closeF X.v X.m X.e = (X.v, cm, false))) {p : Nat} {fm : List Int} {fe : Bool} (HP : Aside0 (placeF X.v x = (p : Int))) (CF : Aside0 (OFit X.v cm false)) (HFG : Aside0 (forgetF X.v cm false x = (X.v, fm, fe))) (HOF : Aside0 (ofB X.v lx sx y sy c = false))
 :
 Calls Try.prog 21 #[X.val, .int .i64 x, lV lx sx y sy c] w fun e W' => ∃ z : OV, e = .returned z.val ∧ z.o = (X.v, fm, fe) ∧ Own w W' z ∧ Below w.heap.size w W' := by
 have hu25 := Try.underlying25
 have hu34 := Try.underlying34
 go_enter Try.func21, Try.ntmps21
 go_upto_region 1 with fail
 have HM := MS.n3 w X.cells (lC lx sx y sy c) zeroO
 generalize World.alloc _ _ = wk at HM ⊢
 generalize w.heap.size + 2 = gr at HM ⊢
 generalize w.heap.size + 1 = gl at HM ⊢
 generalize w.heap.size = go at HM ⊢
 have kgo := MS.c3 HM m2_
 go_upto_region 2 with (first | (go_at_call 51; (with_reducible refine (close_as (Oc.now HX (MS.bel HM)) (Below.refl _ _) rfl FX_.out HC.out).mono ?_); rintro e wk ⟨cv, rfl, hcv, ho, hb⟩; replace HM := MS.cl HM hb ho; clear ho hb; replace kgo := MS.c3 HM m2_) | ((with_reducible refine gate_dst (N := 7) rfl ?_); refine bx_ 7 #[.slice none 0 0, .slice none 0 0, .bool false] 25 ?_; intro gc hg wk hbox hb; replace HM := MS.md HM hg hbox hb; clear hg hbox hb; have kgc := MS.c3 HM m0_; replace kgo := MS.c3 HM m3_))
 replace HM := MS.sb HM (.refl _) (.cons_cons _ (.cons_cons _ (.cons_cons _ (.cons _ .slnil)))); clear kgo
 replace HM := MS.po0 cv HM
 generalize World.setCell _ _ _ = wk at HM ⊢
 have HCV := Aside0.mk hcv; clear hcv
 have hem : cv.e = false := congrArg (·.2.2) HCV.out
 have q0 : (0 : Int) ≤ (p : Int) := Int.natCast_nonneg _
 replace kgc := MS.c3 HM m0_; have kgr := MS.c3 HM m1_
 go_upto_region 4 with (first | (go_at_call 52; (with_reducible refine (place_asE (MS.oc HM m0_) (MS.bel HM) HCV.out LK.out x HP.out (congrArg (·.2.2) HCV.out)).mono ?_); rintro e wk ⟨rfl, hb⟩; replace HM := MS.nx HM hb; clear hb; replace kgc := MS.c3 HM m0_; replace kgr := MS.c3 HM m1_))
 clear hem q0
 have kgl := MS.c5 HM m2_
 go_upto_region 5 with (first | (go_at_call 55; (with_reducible refine (of_as' (MS.oc HM m0_) (MS.bel HM) HCV.out LK.out HOF.out).mono ?_); rintro e wk ⟨rfl, hb⟩; replace HM := MS.nx HM hb; clear hb; replace kgc := MS.c3 HM m0_; replace kgl := MS.c5 HM m2_))
 replace kgr := MS.c3 HM m1_
 go_wp2_with (first | (go_at_call 15; (with_reducible refine (forget_as (MS.oc HM m0_) (MS.bel HM) HCV.out CF.out x HFG.out).mono ?_); rintro e wk ⟨zv, rfl, hzv, ho, hb⟩; replace HM := MS.cl HM hb ho; clear ho hb; replace kgc := MS.c3 HM m0_; replace kgr := MS.c3 HM m1_; replace kgl := MS.c5 HM m2_))
 replace HM := MS.po1 zv HM
 generalize World.setCell _ _ _ = wk at HM ⊢
 refine MS.rt HM m1_ ?_
 exact ⟨zv, rfl, hzv, HM.out.S.own _ m0_, HM.out.S.below⟩
theorem asg_gen (X : OV) (x lx sx y sy c : Int) {cm : List Int} {w : World} (HX : Aside0 (Oc w w X)) (FX_ : Aside0 (OFit X.v X.m X.e)) (LK : Aside0 (X.v.length ≤ 1000)) (HC : Aside0 (closeF X.v X.m X.e = (X.v, cm, false))) {p : Nat} {fm : List Int} {fe : Bool} (HP : Aside0 (placeF X.v x = (p : Int))) (CF : Aside0 (OFit X.v cm false)) (HFG : Aside0 (forgetF X.v cm false x = (X.v, fm, fe))) {gm0 gm1 : List Int} {ge0 ge1 : Bool} {r : Tri} {a b a0 b0 a1 b1 a2 b2 r01 r02 r03 r04 r11 r12 r13 r14 : Int} {C : Mx} (HOF : Aside0 (ofB X.v lx sx y sy c = true)) (FF : Aside0 (OFit X.v fm fe))
 (CB : Aside0 (-1099511627776 ≤ c ∧ c ≤ 1099511627776)) (SXB : Aside0 (-1 ≤ sx ∧ sx ≤ 1)) (SYB : Aside0 (-1 ≤ sy ∧ sy ≤ 1)) (ZB : Aside0 ((-1 : Int) ≤ 0 ∧ (0 : Int) ≤ 1)) (NE : Aside0 (sy ≠ 0 → lx ≠ y)) (BX : Aside0 (sx ≠ 0 → 0 ≤ placeF X.v lx)) (BY : Aside0 (sy ≠ 0 → 0 ≤ placeF X.v y)) (L8 : Aside0 (X.v.length ≤ 8)) (P8 : Aside0 (p ≤ 8)) (FM : Aside0 (OFit X.v (lst (2 * X.v.length) (movM C sx p c)) false)) (HCM : Aside0 ((X.v, cm, false) = (X.v, lst (2 * X.v.length) C, false))) (SC : Aside0 (Snd (2 * X.v.length) C))
 (HIT : Aside0 (itvOf c c = (a, b))) (HB0 : Aside0 (BndF.bndF X.v cm false lx sx y sy c = (a0, b0))) (HB1 : Aside0 (BndF.bndF X.v cm false y sy 0 0 c = (a1, b1))) (HB2 : Aside0 (BndF.bndF X.v cm false lx sx 0 0 c = (a2, b2)))
 (HL0 : Aside0 ((if x < lx then (x, 1, lx, -sx) else (lx, -sx, x, 1)) = (r01, r02, r03, r04))) (HL1 : Aside0 ((if x < y then (x, 1, y, -sy) else (y, -sy, x, 1)) = (r11, r12, r13, r14)))
 (HG0 : Aside0 (guardF X.v fm fe x 1 0 0 0 a0 b0 = (X.v, gm0, ge0))) (GF0 : Aside0 (OFit X.v gm0 ge0)) (HG1 : Aside0 (guardF X.v gm0 ge0 r01 r02 r03 r04 0 a1 b1 = (X.v, gm1, ge1))) (GF1 : Aside0 (OFit X.v gm1 ge1))
 (R0 : Aside0 (sx = 0 → guardF X.v fm fe x 1 0 0 0 a b = r)) (R1 : Aside0 (sx ≠ 0 → sy = 0 → lx = x → closeF X.v (lst (2 * X.v.length) (movM C sx p c)) false = r)) (R2 : Aside0 (sx ≠ 0 → sy = 0 → lx ≠ x → guardF X.v fm fe r01 r02 r03 r04 0 a b = r))
 (R3 : Aside0 (sx ≠ 0 → sy ≠ 0 → lx ≠ x → y ≠ x → guardF X.v gm1 ge1 r11 r12 r13 r14 0 a2 b2 = r)) (R4 : Aside0 (sx ≠ 0 → sy ≠ 0 → lx ≠ x → y = x → (X.v, gm1, ge1) = r)) (R5 : Aside0 (sx ≠ 0 → sy ≠ 0 → lx = x → guardF X.v gm0 ge0 r11 r12 r13 r14 0 a2 b2 = r))
 :
 Calls Try.prog 21 #[X.val, .int .i64 x, lV lx sx y sy c] w fun e W' => ∃ z : OV, e = .returned z.val ∧ z.o = r ∧ Own w W' z ∧ Below w.heap.size w W' := by
 have hu25 := Try.underlying25
 have hu34 := Try.underlying34
 have hu36 := Try.underlying36
 go_enter Try.func21, Try.ntmps21
 go_upto_region 1 with fail
 have HM := MS.n3 w X.cells (lC lx sx y sy c) zeroO
 generalize World.alloc _ _ = wk at HM ⊢
 generalize w.heap.size + 2 = gr at HM ⊢
 generalize w.heap.size + 1 = gl at HM ⊢
 generalize w.heap.size = go at HM ⊢
 have kgo := MS.c3 HM m2_
 go_upto_region 2 with (first | (go_at_call 51; (with_reducible refine (close_as (Oc.now HX (MS.bel HM)) (Below.refl _ _) rfl FX_.out HC.out).mono ?_); rintro e wk ⟨cv, rfl, hcv, ho, hb⟩; replace HM := MS.cl HM hb ho; clear ho hb; replace kgo := MS.c3 HM m2_) | ((with_reducible refine gate_dst (N := 7) rfl ?_); refine bx_ 7 #[.slice none 0 0, .slice none 0 0, .bool false] 25 ?_; intro gc hg wk hbox hb; replace HM := MS.md HM hg hbox hb; clear hg hbox hb; have kgc := MS.c3 HM m0_; replace kgo := MS.c3 HM m3_))
 replace HM := MS.sb HM (.refl _) (.cons_cons _ (.cons_cons _ (.cons_cons _ (.cons _ .slnil)))); clear kgo
 replace HM := MS.po0 cv HM
 generalize World.setCell _ _ _ = wk at HM ⊢
 have HCV := Aside0.mk hcv; clear hcv
 have hem : cv.e = false := congrArg (·.2.2) HCV.out
 have q0 : (0 : Int) ≤ (p : Int) := Int.natCast_nonneg _
 replace kgc := MS.c3 HM m0_; have kgr := MS.c3 HM m1_
 go_upto_region 4 with (first | (go_at_call 52; (with_reducible refine (place_asE (MS.oc HM m0_) (MS.bel HM) HCV.out LK.out x HP.out (congrArg (·.2.2) HCV.out)).mono ?_); rintro e wk ⟨rfl, hb⟩; replace HM := MS.nx HM hb; clear hb; replace kgc := MS.c3 HM m0_; replace kgr := MS.c3 HM m1_))
 clear hem q0
 have kgl := MS.c5 HM m2_
 go_upto_region 6 with (first | (go_at_call 55; (with_reducible refine (of_as' (MS.oc HM m0_) (MS.bel HM) HCV.out LK.out HOF.out).mono ?_); rintro e wk ⟨rfl, hb⟩; replace HM := MS.nx HM hb; clear hb; replace kgc := MS.c3 HM m0_; replace kgr := MS.c3 HM m1_; replace kgl := MS.c5 HM m2_))
 by_cases S1_ : sx = 0
 ·
  have S1 := Aside0.mk S1_; clear S1_
  have t1 : (sx == 0) = true := beq_iff_eq.2 S1.out
  go_upto_region 7 with fail
  clear t1
  replace HM := MS.dr HM
  clear kgc kgl kgr
  refine st_ 12 (fun w' => oR gc cv w' ∧ w'.cell? ⟨gl, 4, none⟩ = some (.int .i64 c)) [11] ⟨kO HM m0_, MS.k HM m2_ 4 rfl⟩ (fun hHeld => ?_)
  refine with_tabW assign_tab7 assign_bits7 (fun HT_ HW_ => ?_)
  generalize World.drew _ = wk at HM hHeld ⊢
  refine tV_ 0 37 (mB 12 1) HT_ HW_ hHeld ?_
  refine pV_ 1 38 (mB 12 3) HT_ ?_
  refine pV_ 3 40 (mB 12 11) HT_ ?_
  refine pV_ 4 41 (mB 12 27) HT_ ?_
  refine pV_ 5 42 (mB 12 59) HT_ ?_
  refine tV_ 6 43 (mB 12 123) HT_ HW_ hHeld ?_
  refine pV_ 7 44 (mB 12 251) HT_ ?_
  refine tV_ 8 45 (mB 12 507) HT_ HW_ hHeld ?_
  refine on_ 2 (some 39) (mB 12 511) HT_ (fun K hK => ?_)
  refine gs_ Try.func15 #[cv.val, .int .i64 x] ?_
  with_reducible refine ok_ (forget_as (MS.oc HM m0_) (MS.bel HM) HCV.out CF.out x HFG.out) fun fv wk hfv ho hb => ?_
  replace HM := MS.cl HM hb ho; clear hb ho
  refine hK.out _ _ ⟨kO HM m0_, MS.k HM m2_ 4 rfl⟩ (fun hHeld => ?_)
  clear hK K
  refine nO_ 39 ?_
  refine on_ 9 (some 46) (mB 12 1023) HT_ (fun K hK => ?_)
  refine gs_ Try.func56 #[.int .i64 c, .int .i64 c] ?_
  with_reducible refine sk_ (itvOf_as HIT.out) fun wk hb => ?_
  replace HM := MS.nx HM hb; clear hb
  refine hK.out _ _ ⟨kO HM m0_, MS.k HM m2_ 4 rfl⟩ (fun hHeld => ?_)
  clear hK K
  refine nO_ 46 ?_
  refine on_ 10 (some 47) (mB 12 2047) HT_ (fun K hK => ?_)
  refine gs_ Try.func19 #[fv.val, lV x 1 0 0 0, iV a b] ?_
  with_reducible refine ok_ (guard_as (MS.oc HM m0_) (MS.bel HM) hfv FF.out x 1 0 0 0 a b (R0.out S1.out)) fun zv wk hzv ho hb => ?_
  replace HM := MS.cl HM hb ho; clear hb ho
  refine hK.out _ _ ⟨kO HM m0_, MS.k HM m2_ 4 rfl⟩ (fun hHeld => ?_)
  clear hK K
  refine nO_ 47 ?_
  have kgr := MS.c3 HM m1_
  refine la_ 11 (mB 12 4095) HT_ (fun K hK => ?_)
  refine skip_ (w1 := ?_) (by rfl) rfl ?_ ?_
  rotate_left
  ·
   go_simp
   rfl
  refine hK.out _ _ ?_
  clear hK K
  refine dn_ HT_ ?_
  clear HT_ HW_ hHeld
  replace HM := MS.po1 zv HM
  generalize World.setCell _ _ _ = wk at HM ⊢
  have kgc := MS.c3 HM m0_; replace kgr := MS.c3 HM m1_; have kgl := MS.c5 HM m2_
  go_wp2
  refine MS.rt HM m1_ ?_
  exact ⟨zv, rfl, hzv, HM.out.S.own _ m0_, HM.out.S.below⟩
 ·
  have S1 := Aside0.mk S1_; clear S1_
  have t1 : (sx == 0) = false := beq_eq_false_iff_ne.2 S1.out
  go_upto_region 8 with fail
  clear t1
  by_cases S2_ : sy = 0
  ·
   have S2 := Aside0.mk S2_; clear S2_
   have t1 : (sy == 0) = true := beq_iff_eq.2 S2.out
   by_cases S3_ : lx = x
   ·
    have S3 := Aside0.mk S3_; clear S3_
    have t2 : (lx == x) = true := beq_iff_eq.2 S3.out
    go_upto_region 9 with fail
    clear t1 t2
    replace HM := MS.dr HM
    clear kgc kgl kgr
    refine st_ 11 (fun w' => oR gc cv w' ∧ w'.cell? ⟨gl, 1, none⟩ = some (.int .i64 sx) ∧ w'.cell? ⟨gl, 4, none⟩ = some (.int .i64 c)) [10] ⟨kO HM m0_, MS.k HM m2_ 1 rfl, MS.k HM m2_ 4 rfl⟩ (fun hHeld => ?_)
    refine with_tabW assign_tab9 assign_bits9 (fun HT_ HW_ => ?_)
    generalize World.drew _ = wk at HM hHeld ⊢
    refine tV_ 0 58 (mB 11 1) HT_ HW_ hHeld ?_
    refine tV_ 1 59 (mB 11 3) HT_ HW_ hHeld ?_
    refine pV_ 2 60 (mB 11 7) HT_ ?_
    refine pV_ 4 62 (mB 11 23) HT_ ?_
    refine tV_ 5 63 (mB 11 55) HT_ HW_ hHeld ?_
    refine pV_ 6 64 (mB 11 119) HT_ ?_
    refine tV_ 7 65 (mB 11 247) HT_ HW_ hHeld ?_
    refine on_ 3 (some 61) (mB 11 255) HT_ (fun K hK => ?_)
    refine gs_ Try.func52 #[cv.val, .int .i64 x] ?_
    with_reducible refine sk_ (place_as (MS.oc HM m0_) (MS.bel HM) HCV.out LK.out x HP.out) fun wk hb => ?_
    replace HM := MS.nx HM hb; clear hb
    refine hK.out _ _ ⟨kO HM m0_, MS.k HM m2_ 1 rfl, MS.k HM m2_ 4 rfl⟩ (fun hHeld => ?_)
    clear hK K
    refine nO_ 61 ?_
    refine on_ 8 (some 66) (mB 11 511) HT_ (fun K hK => ?_)
    refine gs_ Try.func69 #[cv.val, .int .i64 (p : Int), .int .i64 sx, .int .i64 c] ?_
    with_reducible refine ok_ (moved_as (MS.oc HM m0_) (MS.bel HM) (HCV.out.trans HCM.out) L8.out P8.out CB.out SC.out rfl) fun mv wk hmv ho hb => ?_
    replace HM := MS.cl HM hb ho; clear hb ho
    refine hK.out _ _ ⟨kO HM m0_, MS.k HM m2_ 1 rfl, MS.k HM m2_ 4 rfl⟩ (fun hHeld => ?_)
    clear hK K
    refine nO_ 66 ?_
    refine on_ 9 (some 67) (mB 11 1023) HT_ (fun K hK => ?_)
    refine gs_ Try.func51 #[mv.val] ?_
    with_reducible refine ok_ (close_as (MS.oc HM m0_) (MS.bel HM) hmv FM.out (R1.out S1.out S2.out S3.out)) fun zv wk hzv ho hb => ?_
    replace HM := MS.cl HM hb ho; clear hb ho
    refine hK.out _ _ ⟨kO HM m0_, MS.k HM m2_ 1 rfl, MS.k HM m2_ 4 rfl⟩ (fun hHeld => ?_)
    clear hK K
    refine nO_ 67 ?_
    have kgr := MS.c3 HM m1_
    refine la_ 10 (mB 11 2047) HT_ (fun K hK => ?_)
    refine skip_ (w1 := ?_) (by rfl) rfl ?_ ?_
    rotate_left
    ·
     go_simp
     rfl
    refine hK.out _ _ ?_
    clear hK K
    refine dn_ HT_ ?_
    clear HT_ HW_ hHeld
    replace HM := MS.po1 zv HM
    generalize World.setCell _ _ _ = wk at HM ⊢
    have kgc := MS.c3 HM m0_; replace kgr := MS.c3 HM m1_; have kgl := MS.c5 HM m2_
    go_wp2
    refine MS.rt HM m1_ ?_
    exact ⟨zv, rfl, hzv, HM.out.S.own _ m0_, HM.out.S.below⟩
   ·
    have S3 := Aside0.mk S3_; clear S3_
    have t2 : (lx == x) = false := beq_eq_false_iff_ne.2 S3.out
    go_upto_region 10 with fail
    clear t2
    go_upto_region 11 with fail
    clear t1
    replace HM := MS.dr HM
    clear kgc kgl kgr
    refine st_ 16 (fun w' => oR gc cv w' ∧ w'.cell? ⟨gl, 1, none⟩ = some (.int .i64 sx) ∧ w'.cell? ⟨gl, 0, none⟩ = some (.int .i64 lx) ∧ w'.cell? ⟨gl, 4, none⟩ = some (.int .i64 c)) [15] ⟨kO HM m0_, MS.k HM m2_ 1 rfl, MS.k HM m2_ 0 rfl, MS.k HM m2_ 4 rfl⟩ (fun hHeld => ?_)
    refine with_tabW assign_tab11 assign_bits11 (fun HT_ HW_ => ?_)
    generalize World.drew _ = wk at HM hHeld ⊢
    refine tV_ 0 72 (mB 16 1) HT_ HW_ hHeld ?_
    refine pV_ 1 73 (mB 16 3) HT_ ?_
    refine pV_ 3 75 (mB 16 11) HT_ ?_
    refine pV_ 4 76 (mB 16 27) HT_ ?_
    refine tV_ 5 77 (mB 16 59) HT_ HW_ hHeld ?_
    refine pV_ 6 78 (mB 16 123) HT_ ?_
    refine tV_ 7 79 (mB 16 251) HT_ HW_ hHeld ?_
    refine pV_ 9 81 (mB 16 763) HT_ ?_
    refine tV_ 10 82 (mB 16 1787) HT_ HW_ hHeld ?_
    refine pV_ 11 83 (mB 16 3835) HT_ ?_
    refine tV_ 12 84 (mB 16 7931) HT_ HW_ hHeld ?_
    refine on_ 2 (some 74) (mB 16 7935) HT_ (fun K hK => ?_)
    refine gs_ Try.func15 #[cv.val, .int .i64 x] ?_
    with_reducible refine ok_ (forget_as (MS.oc HM m0_) (MS.bel HM) HCV.out CF.out x HFG.out) fun fv wk hfv ho hb => ?_
    replace HM := MS.cl HM hb ho; clear hb ho
    refine hK.out _ _ ⟨kO HM m0_, MS.k HM m2_ 1 rfl, MS.k HM m2_ 0 rfl, MS.k HM m2_ 4 rfl⟩ (fun hHeld => ?_)
    clear hK K
    refine nO_ 74 ?_
    refine on_ 8 (some 80) (mB 16 8191) HT_ (fun K hK => ?_)
    refine gs_ Try.func70 #[.int .i64 x, .int .i64 sx, .int .i64 lx] ?_
    with_reducible refine sk_ (less_as SXB.out HL0.out) fun wk hb => ?_
    replace HM := MS.nx HM hb; clear hb
    refine hK.out _ _ ⟨kO HM m0_, MS.k HM m2_ 1 rfl, MS.k HM m2_ 0 rfl, MS.k HM m2_ 4 rfl⟩ (fun hHeld => ?_)
    clear hK K
    refine nO_ 80 ?_
    refine on_ 13 (some 85) (mB 16 16383) HT_ (fun K hK => ?_)
    refine gs_ Try.func56 #[.int .i64 c, .int .i64 c] ?_
    with_reducible refine sk_ (itvOf_as HIT.out) fun wk hb => ?_
    replace HM := MS.nx HM hb; clear hb
    refine hK.out _ _ ⟨kO HM m0_, MS.k HM m2_ 1 rfl, MS.k HM m2_ 0 rfl, MS.k HM m2_ 4 rfl⟩ (fun hHeld => ?_)
    clear hK K
    refine nO_ 85 ?_
    refine on_ 14 (some 86) (mB 16 32767) HT_ (fun K hK => ?_)
    refine gs_ Try.func19 #[fv.val, lV r01 r02 r03 r04 0, iV a b] ?_
    with_reducible refine ok_ (guard_as (MS.oc HM m0_) (MS.bel HM) hfv FF.out r01 r02 r03 r04 0 a b (R2.out S1.out S2.out S3.out)) fun zv wk hzv ho hb => ?_
    replace HM := MS.cl HM hb ho; clear hb ho
    refine hK.out _ _ ⟨kO HM m0_, MS.k HM m2_ 1 rfl, MS.k HM m2_ 0 rfl, MS.k HM m2_ 4 rfl⟩ (fun hHeld => ?_)
    clear hK K
    refine nO_ 86 ?_
    have kgr := MS.c3 HM m1_
    refine la_ 15 (mB 16 65535) HT_ (fun K hK => ?_)
    refine skip_ (w1 := ?_) (by rfl) rfl ?_ ?_
    rotate_left
    ·
     go_simp
     rfl
    refine hK.out _ _ ?_
    clear hK K
    refine dn_ HT_ ?_
    clear HT_ HW_ hHeld
    replace HM := MS.po1 zv HM
    generalize World.setCell _ _ _ = wk at HM ⊢
    have kgc := MS.c3 HM m0_; replace kgr := MS.c3 HM m1_; have kgl := MS.c5 HM m2_
    go_wp2
    refine MS.rt HM m1_ ?_
    exact ⟨zv, rfl, hzv, HM.out.S.own _ m0_, HM.out.S.below⟩
  ·
   have S2 := Aside0.mk S2_; clear S2_
   have t1 : (sy == 0) = false := beq_eq_false_iff_ne.2 S2.out
   go_upto_region 10 with fail
   go_upto_region 12 with fail
   clear t1
   replace HM := MS.dr HM
   clear kgc kgl kgr
   refine startN_ (n := 11) (S := fun w' => oR gc cv w' ∧ lR gl lx sx y sy c w') (ds := [10]) (mB 11 0) (by kernel_rfl) rfl (by kernel_rfl) ⟨kO HM m0_, kL HM m2_⟩ (fun hHeld => ?_)
   refine with_tabW assign_tab12 assign_bits12 (fun HT_ HW_ => ?_)
   generalize World.drew _ = wk at HM hHeld ⊢
   refine tV_ 0 87 (mB 11 1) HT_ HW_ hHeld ?_
   refine pV_ 1 88 (mB 11 3) HT_ ?_
   refine pV_ 3 90 (mB 11 11) HT_ ?_
   refine pV_ 4 91 (mB 11 27) HT_ ?_
   refine tV_ 5 92 (mB 11 59) HT_ HW_ hHeld ?_
   refine tV_ 6 93 (mB 11 123) HT_ HW_ hHeld ?_
   refine join_ (σ := OV × OV × Nat) 1 (mB 11 1023) (fun s_ => [(89, .agg #[.slice s_.1.P s_.1.v.length s_.1.p, .slice s_.1.Q s_.1.m.length s_.1.q, .bool s_.1.e]), (94, iV a0 b0), (95, .agg #[.slice s_.2.1.P s_.2.1.v.length s_.2.1.p, .slice s_.2.1.Q s_.2.1.m.length s_.2.1.q, .bool s_.2.1.e]), (8, .pointer (some ⟨s_.2.2, 0, none⟩))]) (fun s_ w' => (s_.1.o = (X.v, fm, fe)) ∧ (s_.2.1.o = (X.v, gm0, ge0)) ∧ MS w [s_.2.1, s_.1, cv] [(s_.2.2, zeroO), (gc, cv.cells), (gr, zeroO), (gl, lC lx sx y sy c)] w') ?_ ?_
   rotate_left
   ·
    intro hJ
    refine tw_ 2 9 (some 89) (some 8) (mB 11 127) (mB 11 635) HT_ (fun K hK => ?_) (fun K hK => ?_)
    ·
     refine gs_ Try.func15 #[cv.val, .int .i64 x] ?_
     with_reducible refine ok_ (forget_as (MS.oc HM m0_) (MS.bel HM) HCV.out CF.out x HFG.out) fun fv wk hfv ho hb => ?_
     replace HM := MS.cl HM hb ho; clear hb ho
     refine hK.out _ _ ⟨kO HM m0_, kL HM m2_⟩ (fun hHeld => ?_)
     clear hK K
     refine nO_ 89 ?_
     refine tw_ 7 9 (some 94) (some 8) (mB 11 255) (mB 11 639) HT_ (fun K hK => ?_) (fun K hK => ?_)
     ·
      refine gs_ Try.func71 #[cv.val, lV lx sx y sy c] ?_
      with_reducible refine sk_ (bnd_as (MS.oc HM m1_) (MS.bel HM) HCV.out CF.out lx sx y sy c CB.out SXB.out SYB.out S1.out (BX.out S1.out) BY.out HB0.out) fun wk hb => ?_
      replace HM := MS.nx HM hb; clear hb
      refine hK.out _ _ ⟨kO HM m0_, kL HM m2_⟩ (fun hHeld => ?_)
      clear hK K
      refine nO_ 94 ?_
      refine tw_ 8 9 (some 95) (some 8) (mB 11 511) (mB 11 767) HT_ (fun K hK => ?_) (fun K hK => ?_)
      ·
       refine gs_ Try.func19 #[fv.val, lV x 1 0 0 0, iV a0 b0] ?_
       with_reducible refine ok_ (guard_as (MS.oc HM m0_) (MS.bel HM) hfv FF.out x 1 0 0 0 a0 b0 HG0.out) fun o0 wk ho0 ho hb => ?_
       replace HM := MS.cl HM hb ho; clear hb ho
       refine hK.out _ _ ⟨kO HM m0_, kL HM m2_⟩ (fun hHeld => ?_)
       clear hK K
       refine nO_ 95 ?_
       refine on_ 9 (some 8) (mB 11 1023) HT_ (fun K hK => ?_)
       refine bs_ 8 #[.slice none 0 0, .slice none 0 0, .bool false] 25 ?_
       intro gu hg wk hbox hb
       replace HM := MS.md HM hg hbox hb; clear hg hbox hb
       refine hK.out _ _ ⟨kO HM m1_, kL HM m3_⟩ (fun hHeld => ?_)
       clear hK K
       refine nO_ 8 ?_
       exact nP_ (hJ (fv, o0, gu) _ ⟨hfv, ho0, HM.out⟩)
      ·
       refine bs_ 8 #[.slice none 0 0, .slice none 0 0, .bool false] 25 ?_
       intro gu hg wk hbox hb
       replace HM := MS.md HM hg hbox hb; clear hg hbox hb
       refine hK.out _ _ ⟨kO HM m1_, kL HM m3_⟩ (fun hHeld => ?_)
       clear hK K
       refine nO_ 8 ?_
       refine on_ 8 (some 95) (mB 11 1023) HT_ (fun K hK => ?_)
       refine gs_ Try.func19 #[fv.val, lV x 1 0 0 0, iV a0 b0] ?_
       with_reducible refine ok_ (guard_as (MS.oc HM m0_) (MS.bel HM) hfv FF.out x 1 0 0 0 a0 b0 HG0.out) fun o0 wk ho0 ho hb => ?_
       replace HM := MS.cl HM hb ho; clear hb ho
       refine hK.out _ _ ⟨kO HM m1_, kL HM m3_⟩ (fun hHeld => ?_)
       clear hK K
       refine nO_ 95 ?_
       exact nP_ (hJ (fv, o0, gu) _ ⟨hfv, ho0, HM.out⟩)
     ·
      refine bs_ 8 #[.slice none 0 0, .slice none 0 0, .bool false] 25 ?_
      intro gu hg wk hbox hb
      replace HM := MS.md HM hg hbox hb; clear hg hbox hb
      refine hK.out _ _ ⟨kO HM m1_, kL HM m3_⟩ (fun hHeld => ?_)
      clear hK K
      refine nO_ 8 ?_
      refine on_ 7 (some 94) (mB 11 767) HT_ (fun K hK => ?_)
      refine gs_ Try.func71 #[cv.val, lV lx sx y sy c] ?_
      with_reducible refine sk_ (bnd_as (MS.oc HM m1_) (MS.bel HM) HCV.out CF.out lx sx y sy c CB.out SXB.out SYB.out S1.out (BX.out S1.out) BY.out HB0.out) fun wk hb => ?_
      replace HM := MS.nx HM hb; clear hb
      refine hK.out _ _ ⟨kO HM m1_, kL HM m3_⟩ (fun hHeld => ?_)
      clear hK K
      refine nO_ 94 ?_
      refine on_ 8 (some 95) (mB 11 1023) HT_ (fun K hK => ?_)
      refine gs_ Try.func19 #[fv.val, lV x 1 0 0 0, iV a0 b0] ?_
      with_reducible refine ok_ (guard_as (MS.oc HM m0_) (MS.bel HM) hfv FF.out x 1 0 0 0 a0 b0 HG0.out) fun o0 wk ho0 ho hb => ?_
      replace HM := MS.cl HM hb ho; clear hb ho
      refine hK.out _ _ ⟨kO HM m1_, kL HM m3_⟩ (fun hHeld => ?_)
      clear hK K
      refine nO_ 95 ?_
      exact nP_ (hJ (fv, o0, gu) _ ⟨hfv, ho0, HM.out⟩)
    ·
     refine bs_ 8 #[.slice none 0 0, .slice none 0 0, .bool false] 25 ?_
     intro gu hg wk hbox hb
     replace HM := MS.md HM hg hbox hb; clear hg hbox hb
     refine hK.out _ _ ⟨kO HM m1_, kL HM m3_⟩ (fun hHeld => ?_)
     clear hK K
     refine nO_ 8 ?_
     refine on_ 2 (some 89) (mB 11 639) HT_ (fun K hK => ?_)
     refine gs_ Try.func15 #[cv.val, .int .i64 x] ?_
     with_reducible refine ok_ (forget_as (MS.oc HM m0_) (MS.bel HM) HCV.out CF.out x HFG.out) fun fv wk hfv ho hb => ?_
     replace HM := MS.cl HM hb ho; clear hb ho
     refine hK.out _ _ ⟨kO HM m1_, kL HM m3_⟩ (fun hHeld => ?_)
     clear hK K
     refine nO_ 89 ?_
     refine on_ 7 (some 94) (mB 11 767) HT_ (fun K hK => ?_)
     refine gs_ Try.func71 #[cv.val, lV lx sx y sy c] ?_
     with_reducible refine sk_ (bnd_as (MS.oc HM m1_) (MS.bel HM) HCV.out CF.out lx sx y sy c CB.out SXB.out SYB.out S1.out (BX.out S1.out) BY.out HB0.out) fun wk hb => ?_
     replace HM := MS.nx HM hb; clear hb
     refine hK.out _ _ ⟨kO HM m1_, kL HM m3_⟩ (fun hHeld => ?_)
     clear hK K
     refine nO_ 94 ?_
     refine on_ 8 (some 95) (mB 11 1023) HT_ (fun K hK => ?_)
     refine gs_ Try.func19 #[fv.val, lV x 1 0 0 0, iV a0 b0] ?_
     with_reducible refine ok_ (guard_as (MS.oc HM m0_) (MS.bel HM) hfv FF.out x 1 0 0 0 a0 b0 HG0.out) fun o0 wk ho0 ho hb => ?_
     replace HM := MS.cl HM hb ho; clear hb ho
     refine hK.out _ _ ⟨kO HM m1_, kL HM m3_⟩ (fun hHeld => ?_)
     clear hK K
     refine nO_ 95 ?_
     exact nP_ (hJ (fv, o0, gu) _ ⟨hfv, ho0, HM.out⟩)
   rintro ⟨fv, o0, gu⟩ wk ⟨hfv, ho0, HM4⟩
   clear HM hHeld; have HM := Aside0.mk HM4; clear HM4; dsimp only at HM hfv ho0
   have kgu := MS.c3 HM m0_
   refine nS_ ?_
   refine la_ 10 (mB 11 2047) HT_ (fun K hK => ?_)
   refine skip_ (w1 := ?_) (by rfl) rfl ?_ ?_
   rotate_left
   ·
    go_simp
    rfl
   refine hK.out _ _ ?_
   clear hK K
   refine dn_ HT_ ?_
   clear HT_ HW_
   unfold OnlyN
   replace HM := MS.po0 o0 HM
   generalize World.setCell _ _ _ = wk at HM ⊢
   clear hfv; have HO0 := Aside0.mk ho0; clear ho0
   replace HM := MS.sb HM (.cons_cons _ (.cons _ (.refl _))) (.refl _)
   go_upto_region 13 with fail
   have kgl := MS.c5 HM m3_
   go_upto_region 14 with (first | ((with_reducible refine gate_dst (N := 9) rfl ?_); refine bx_ 9 #[.int .i64 0, .int .i64 0, .int .i64 0, .int .i64 0, .int .i64 0, .int .i64 0, .int .i64 0, .int .i64 0, .int .i64 0, .int .i64 0] 77 ?_; intro gp hg wk hbox hb; replace HM := MS.md HM hg hbox hb; clear hg hbox hb; have kgp := MS.c10 HM m0_; replace kgl := MS.c5 HM m4_))
   have n_ : Aside0 (MS w [o0, cv] [(gp, .cells #[.int .i64 lx, .int .i64 sx, .int .i64 0, .int .i64 0, .int .i64 0, .int .i64 y, .int .i64 sy, .int .i64 0, .int .i64 0, .int .i64 0] 77 (0, 0)), (gu, o0.cells), (gc, cv.cells), (gr, zeroO), (gl, lC lx sx y sy c)] _) := ⟨MS.put10 [] HM.out (u0 := .int .i64 lx) (u1 := .int .i64 sx) (u2 := .int .i64 0) (u3 := .int .i64 0) (u4 := .int .i64 0) (u5 := .int .i64 y) (u6 := .int .i64 sy) (u7 := .int .i64 0) (u8 := .int .i64 0) (u9 := .int .i64 0)⟩; clear HM; have HM := n_; clear n_
   generalize World.setCell _ _ _ = wk at HM ⊢
   replace kgp := MS.c10 HM m0_; replace kgu := MS.c3 HM m1_; have kgc := MS.c3 HM m2_; have kgr := MS.c3 HM m3_; replace kgl := MS.c5 HM m4_
   go_wp2
   refine wp_loop_rounds 3 ?_
   by_cases S3_ : lx = x
   ·
    have S3 := Aside0.mk S3_; clear S3_
    have S4 : Aside0 (y ≠ x) := ⟨fun h => NE.out S2.out (S3.out.trans h.symm)⟩
    rw [rounds_succ]
    have i_ := idx0 lx sx y sy
    go_upto_region 17 with (first | ((with_reducible refine gate_dst (N := 11) rfl ?_); refine bx_ 11 #[.int .i64 0, .int .i64 0, .int .i64 0, .int .i64 0, .int .i64 0] 34 ?_; intro gw0 hg wk hbox hb; replace HM := MS.md HM hg hbox hb; clear hg hbox hb; have kgw0 := MS.c5 HM m0_))
    clear i_
    replace HM := MS.pl0 lx sx 0 0 0 HM
    generalize World.setCell _ _ _ = wk at HM ⊢
    have t1 : (lx == x) = true := beq_iff_eq.2 S3.out
    replace kgw0 := MS.c5 HM m0_; replace kgp := MS.c10 HM m1_; replace kgu := MS.c3 HM m2_; replace kgc := MS.c3 HM m3_; replace kgl := MS.c5 HM m5_
    go_upto_region 21 with fail
    clear t1
    replace HM := MS.sb HM (.refl _) (.cons _ (.cons_cons _ (.cons_cons _ (.cons_cons _ (.cons_cons _ (.cons_cons _ .slnil)))))); clear kgw0
    replace kgr := MS.c3 HM m3_
    go_wp2
    rw [rounds_succ]
    have i_ := idx1 lx sx y sy
    go_upto_region 17 with (first | ((with_reducible refine gate_dst (N := 11) rfl ?_); refine bx_ 11 #[.int .i64 0, .int .i64 0, .int .i64 0, .int .i64 0, .int .i64 0] 34 ?_; intro gw1 hg wk hbox hb; replace HM := MS.md HM hg hbox hb; clear hg hbox hb; have kgw1 := MS.c5 HM m0_))
    clear i_
    replace HM := MS.pl0 y sy 0 0 0 HM
    generalize World.setCell _ _ _ = wk at HM ⊢
    have t1 : (y == x) = false := beq_eq_false_iff_ne.2 S4.out
    replace kgw1 := MS.c5 HM m0_
    go_upto_region 18 with fail
    clear t1
    replace kgp := MS.c10 HM m1_
    go_upto_region 19 with (first | ((with_reducible refine gate_dst (N := 12) rfl ?_); refine bx_ 12 #[.int .i64 0, .int .i64 0, .int .i64 0, .int .i64 0, .int .i64 0] 34 ?_; intro gq1 hg wk hbox hb; replace HM := MS.md HM hg hbox hb; clear hg hbox hb; have kgq1 := MS.c5 HM m0_; replace kgp := MS.c10 HM m2_))
    replace HM := MS.pl0 lx sx 0 0 0 HM
    generalize World.setCell _ _ _ = wk at HM ⊢
    replace kgq1 := MS.c5 HM m0_; replace kgl := MS.c5 HM m6_
    go_upto_region 20 with fail
    replace HM := MS.pj0 (cs' := #[.int .i64 lx, .int .i64 sx, .int .i64 0, .int .i64 0, .int .i64 c]) 4 (.int .i64 c) HM rfl
    generalize World.setCell _ _ _ = wk at HM ⊢
    replace HM := MS.dr HM
    clear kgc kgl kgp kgq1 kgr kgu kgw1
    refine st_ 12 (fun w' => oR gu o0 w' ∧ w'.cell? ⟨gw1, 1, none⟩ = some (.int .i64 sy) ∧ w'.cell? ⟨gw1, 0, none⟩ = some (.int .i64 y) ∧ oR gc cv w' ∧ lR gq1 lx sx 0 0 c w') [11] ⟨kO HM m3_, MS.k HM m1_ 1 rfl, MS.k HM m1_ 0 rfl, kO HM m4_, kL HM m0_⟩ (fun hHeld => ?_)
    refine with_tabW assign_tab20 assign_bits20 (fun HT_ HW_ => ?_)
    generalize World.drew _ = wk at HM hHeld ⊢
    refine tV_ 0 123 (mB 12 1) HT_ HW_ hHeld ?_
    refine pV_ 1 124 (mB 12 3) HT_ ?_
    refine pV_ 2 125 (mB 12 7) HT_ ?_
    refine tV_ 3 126 (mB 12 15) HT_ HW_ hHeld ?_
    refine pV_ 4 127 (mB 12 31) HT_ ?_
    refine tV_ 5 128 (mB 12 63) HT_ HW_ hHeld ?_
    refine tV_ 7 130 (mB 12 191) HT_ HW_ hHeld ?_
    refine tV_ 8 131 (mB 12 447) HT_ HW_ hHeld ?_
    refine on_ 6 (some 129) (mB 12 511) HT_ (fun K hK => ?_)
    refine gs_ Try.func70 #[.int .i64 x, .int .i64 sy, .int .i64 y] ?_
    with_reducible refine sk_ (less_as SYB.out HL1.out) fun wk hb => ?_
    replace HM := MS.nx HM hb; clear hb
    refine hK.out _ _ ⟨kO HM m3_, MS.k HM m1_ 1 rfl, MS.k HM m1_ 0 rfl, kO HM m4_, kL HM m0_⟩ (fun hHeld => ?_)
    clear hK K
    refine nO_ 129 ?_
    refine on_ 9 (some 132) (mB 12 1023) HT_ (fun K hK => ?_)
    refine gs_ Try.func71 #[cv.val, lV lx sx 0 0 c] ?_
    with_reducible refine sk_ (bnd_as (MS.oc HM m1_) (MS.bel HM) HCV.out CF.out lx sx 0 0 c CB.out SXB.out ZB.out S1.out (BX.out S1.out) (fun h => absurd rfl h) HB2.out) fun wk hb => ?_
    replace HM := MS.nx HM hb; clear hb
    refine hK.out _ _ ⟨kO HM m3_, MS.k HM m1_ 1 rfl, MS.k HM m1_ 0 rfl, kO HM m4_, kL HM m0_⟩ (fun hHeld => ?_)
    clear hK K
    refine nO_ 132 ?_
    refine on_ 10 (some 133) (mB 12 2047) HT_ (fun K hK => ?_)
    refine gs_ Try.func19 #[o0.val, lV r11 r12 r13 r14 0, iV a2 b2] ?_
    with_reducible refine ok_ (guard_as (MS.oc HM m0_) (MS.bel HM) HO0.out GF0.out r11 r12 r13 r14 0 a2 b2 (R5.out S1.out S2.out S3.out)) fun o2 wk ho2 ho hb => ?_
    replace HM := MS.cl HM hb ho; clear hb ho
    refine hK.out _ _ ⟨kO HM m3_, MS.k HM m1_ 1 rfl, MS.k HM m1_ 0 rfl, kO HM m4_, kL HM m0_⟩ (fun hHeld => ?_)
    clear hK K
    refine nO_ 133 ?_
    have kgu := MS.c3 HM m3_
    refine la_ 11 (mB 12 4095) HT_ (fun K hK => ?_)
    refine skip_ (w1 := ?_) (by rfl) rfl ?_ ?_
    rotate_left
    ·
     go_simp
     rfl
    refine hK.out _ _ ?_
    clear hK K
    refine dn_ HT_ ?_
    clear HT_ HW_ hHeld
    replace HM := MS.po3 o2 HM
    generalize World.setCell _ _ _ = wk at HM ⊢
    have HO2 := Aside0.mk ho2; clear ho2
    replace HM := MS.sb HM (.cons_cons _ (.cons _ (.refl _))) (.refl _)
    replace HM := MS.sb HM (.refl _) (.cons _ (.cons _ (.cons_cons _ (.cons_cons _ (.cons_cons _ (.cons_cons _ (.cons_cons _ .slnil)))))))
    have kgp := MS.c10 HM m0_; replace kgu := MS.c3 HM m1_; have kgc := MS.c3 HM m2_; have kgr := MS.c3 HM m3_; have kgl := MS.c5 HM m4_
    go_wp2
    rw [rounds_succ]
    replace kgu := MS.c3 HM m1_; replace kgr := MS.c3 HM m3_
    go_wp2
    replace HM := MS.po3 o2 HM
    generalize World.setCell _ _ _ = wk at HM ⊢
    refine MS.rt HM m3_ ?_
    exact ⟨o2, rfl, HO2.out, HM.out.S.own _ m0_, HM.out.S.below⟩
   ·
    have S3 := Aside0.mk S3_; clear S3_
    rw [rounds_succ]
    have i_ := idx0 lx sx y sy
    go_upto_region 17 with (first | ((with_reducible refine gate_dst (N := 11) rfl ?_); refine bx_ 11 #[.int .i64 0, .int .i64 0, .int .i64 0, .int .i64 0, .int .i64 0] 34 ?_; intro gw0 hg wk hbox hb; replace HM := MS.md HM hg hbox hb; clear hg hbox hb; have kgw0 := MS.c5 HM m0_))
    clear i_
    replace HM := MS.pl0 lx sx 0 0 0 HM
    generalize World.setCell _ _ _ = wk at HM ⊢
    have t1 : (lx == x) = false := beq_eq_false_iff_ne.2 S3.out
    replace kgw0 := MS.c5 HM m0_
    go_upto_region 18 with fail
    clear t1
    replace kgp := MS.c10 HM m1_
    go_upto_region 19 with (first | ((with_reducible refine gate_dst (N := 12) rfl ?_); refine bx_ 12 #[.int .i64 0, .int .i64 0, .int .i64 0, .int .i64 0, .int .i64 0] 34 ?_; intro gq0 hg wk hbox hb; replace HM := MS.md HM hg hbox hb; clear hg hbox hb; have kgq0 := MS.c5 HM m0_; replace kgp := MS.c10 HM m2_))
    replace HM := MS.pl0 y sy 0 0 0 HM
    generalize World.setCell _ _ _ = wk at HM ⊢
    replace kgq0 := MS.c5 HM m0_; replace kgl := MS.c5 HM m6_
    go_upto_region 20 with fail
    replace HM := MS.pj0 (cs' := #[.int .i64 y, .int .i64 sy, .int .i64 0, .int .i64 0, .int .i64 c]) 4 (.int .i64 c) HM rfl
    generalize World.setCell _ _ _ = wk at HM ⊢
    replace HM := MS.dr HM
    clear kgc kgl kgp kgq0 kgr kgu kgw0
    refine st_ 12 (fun w' => oR gu o0 w' ∧ w'.cell? ⟨gw0, 1, none⟩ = some (.int .i64 sx) ∧ w'.cell? ⟨gw0, 0, none⟩ = some (.int .i64 lx) ∧ oR gc cv w' ∧ lR gq0 y sy 0 0 c w') [11] ⟨kO HM m3_, MS.k HM m1_ 1 rfl, MS.k HM m1_ 0 rfl, kO HM m4_, kL HM m0_⟩ (fun hHeld => ?_)
    refine with_tabW assign_tab20 assign_bits20 (fun HT_ HW_ => ?_)
    generalize World.drew _ = wk at HM hHeld ⊢
    refine tV_ 0 123 (mB 12 1) HT_ HW_ hHeld ?_
    refine pV_ 1 124 (mB 12 3) HT_ ?_
    refine pV_ 2 125 (mB 12 7) HT_ ?_
    refine tV_ 3 126 (mB 12 15) HT_ HW_ hHeld ?_
    refine pV_ 4 127 (mB 12 31) HT_ ?_
    refine tV_ 5 128 (mB 12 63) HT_ HW_ hHeld ?_
    refine tV_ 7 130 (mB 12 191) HT_ HW_ hHeld ?_
    refine tV_ 8 131 (mB 12 447) HT_ HW_ hHeld ?_
    refine on_ 6 (some 129) (mB 12 511) HT_ (fun K hK => ?_)
    refine gs_ Try.func70 #[.int .i64 x, .int .i64 sx, .int .i64 lx] ?_
    with_reducible refine sk_ (less_as SXB.out HL0.out) fun wk hb => ?_
    replace HM := MS.nx HM hb; clear hb
    refine hK.out _ _ ⟨kO HM m3_, MS.k HM m1_ 1 rfl, MS.k HM m1_ 0 rfl, kO HM m4_, kL HM m0_⟩ (fun hHeld => ?_)
    clear hK K
    refine nO_ 129 ?_
    refine on_ 9 (some 132) (mB 12 1023) HT_ (fun K hK => ?_)
    refine gs_ Try.func71 #[cv.val, lV y sy 0 0 c] ?_
    with_reducible refine sk_ (bnd_as (MS.oc HM m1_) (MS.bel HM) HCV.out CF.out y sy 0 0 c CB.out SYB.out ZB.out S2.out (BY.out S2.out) (fun h => absurd rfl h) HB1.out) fun wk hb => ?_
    replace HM := MS.nx HM hb; clear hb
    refine hK.out _ _ ⟨kO HM m3_, MS.k HM m1_ 1 rfl, MS.k HM m1_ 0 rfl, kO HM m4_, kL HM m0_⟩ (fun hHeld => ?_)
    clear hK K
    refine nO_ 132 ?_
    refine on_ 10 (some 133) (mB 12 2047) HT_ (fun K hK => ?_)
    refine gs_ Try.func19 #[o0.val, lV r01 r02 r03 r04 0, iV a1 b1] ?_
    with_reducible refine ok_ (guard_as (MS.oc HM m0_) (MS.bel HM) HO0.out GF0.out r01 r02 r03 r04 0 a1 b1 (HG1.out)) fun o1 wk ho1 ho hb => ?_
    replace HM := MS.cl HM hb ho; clear hb ho
    refine hK.out _ _ ⟨kO HM m3_, MS.k HM m1_ 1 rfl, MS.k HM m1_ 0 rfl, kO HM m4_, kL HM m0_⟩ (fun hHeld => ?_)
    clear hK K
    refine nO_ 133 ?_
    have kgu := MS.c3 HM m3_
    refine la_ 11 (mB 12 4095) HT_ (fun K hK => ?_)
    refine skip_ (w1 := ?_) (by rfl) rfl ?_ ?_
    rotate_left
    ·
     go_simp
     rfl
    refine hK.out _ _ ?_
    clear hK K
    refine dn_ HT_ ?_
    clear HT_ HW_ hHeld
    replace HM := MS.po3 o1 HM
    generalize World.setCell _ _ _ = wk at HM ⊢
    have HO1 := Aside0.mk ho1; clear ho1
    replace HM := MS.sb HM (.cons_cons _ (.cons _ (.refl _))) (.refl _)
    replace HM := MS.sb HM (.refl _) (.cons _ (.cons _ (.cons_cons _ (.cons_cons _ (.cons_cons _ (.cons_cons _ (.cons_cons _ .slnil)))))))
    have kgp := MS.c10 HM m0_; replace kgu := MS.c3 HM m1_; have kgc := MS.c3 HM m2_; have kgr := MS.c3 HM m3_; have kgl := MS.c5 HM m4_
    go_wp2
    by_cases S4_ : y = x
    ·
     have S4 := Aside0.mk S4_; clear S4_
     rw [rounds_succ]
     have i_ := idx1 lx sx y sy
     go_upto_region 17 with (first | ((with_reducible refine gate_dst (N := 11) rfl ?_); refine bx_ 11 #[.int .i64 0, .int .i64 0, .int .i64 0, .int .i64 0, .int .i64 0] 34 ?_; intro gw1 hg wk hbox hb; replace HM := MS.md HM hg hbox hb; clear hg hbox hb; have kgw1 := MS.c5 HM m0_))
     clear i_
     replace HM := MS.pl0 y sy 0 0 0 HM
     generalize World.setCell _ _ _ = wk at HM ⊢
     have t1 : (y == x) = true := beq_iff_eq.2 S4.out
     replace kgw1 := MS.c5 HM m0_; replace kgp := MS.c10 HM m1_; replace kgu := MS.c3 HM m2_; replace kgc := MS.c3 HM m3_; replace kgl := MS.c5 HM m5_
     go_upto_region 21 with fail
     clear t1
     replace HM := MS.sb HM (.refl _) (.cons _ (.cons_cons _ (.cons_cons _ (.cons_cons _ (.cons_cons _ (.cons_cons _ .slnil)))))); clear kgw1
     replace kgr := MS.c3 HM m3_
     go_wp2
     rw [rounds_succ]
     replace kgu := MS.c3 HM m1_; replace kgr := MS.c3 HM m3_
     go_wp2
     replace HM := MS.po3 o1 HM
     generalize World.setCell _ _ _ = wk at HM ⊢
     refine MS.rt HM m3_ ?_
     exact ⟨o1, rfl, (HO1.out.trans (R4.out S1.out S2.out S3.out S4.out)), HM.out.S.own _ m0_, HM.out.S.below⟩
    ·
     have S4 := Aside0.mk S4_; clear S4_
     rw [rounds_succ]
     have i_ := idx1 lx sx y sy
     go_upto_region 17 with (first | ((with_reducible refine gate_dst (N := 11) rfl ?_); refine bx_ 11 #[.int .i64 0, .int .i64 0, .int .i64 0, .int .i64 0, .int .i64 0] 34 ?_; intro gw1 hg wk hbox hb; replace HM := MS.md HM hg hbox hb; clear hg hbox hb; have kgw1 := MS.c5 HM m0_))
     clear i_
     replace HM := MS.pl0 y sy 0 0 0 HM
     generalize World.setCell _ _ _ = wk at HM ⊢
     have t1 : (y == x) = false := beq_eq_false_iff_ne.2 S4.out
     replace kgw1 := MS.c5 HM m0_
     go_upto_region 18 with fail
     clear t1
     replace kgp := MS.c10 HM m1_
     go_upto_region 19 with (first | ((with_reducible refine gate_dst (N := 12) rfl ?_); refine bx_ 12 #[.int .i64 0, .int .i64 0, .int .i64 0, .int .i64 0, .int .i64 0] 34 ?_; intro gq1 hg wk hbox hb; replace HM := MS.md HM hg hbox hb; clear hg hbox hb; have kgq1 := MS.c5 HM m0_; replace kgp := MS.c10 HM m2_))
     replace HM := MS.pl0 lx sx 0 0 0 HM
     generalize World.setCell _ _ _ = wk at HM ⊢
     replace kgq1 := MS.c5 HM m0_; replace kgl := MS.c5 HM m6_
     go_upto_region 20 with fail
     replace HM := MS.pj0 (cs' := #[.int .i64 lx, .int .i64 sx, .int .i64 0, .int .i64 0, .int .i64 c]) 4 (.int .i64 c) HM rfl
     generalize World.setCell _ _ _ = wk at HM ⊢
     replace HM := MS.dr HM
     clear kgc kgl kgp kgq1 kgr kgu kgw1
     refine st_ 12 (fun w' => oR gu o1 w' ∧ w'.cell? ⟨gw1, 1, none⟩ = some (.int .i64 sy) ∧ w'.cell? ⟨gw1, 0, none⟩ = some (.int .i64 y) ∧ oR gc cv w' ∧ lR gq1 lx sx 0 0 c w') [11] ⟨kO HM m3_, MS.k HM m1_ 1 rfl, MS.k HM m1_ 0 rfl, kO HM m4_, kL HM m0_⟩ (fun hHeld => ?_)
     refine with_tabW assign_tab20 assign_bits20 (fun HT_ HW_ => ?_)
     generalize World.drew _ = wk at HM hHeld ⊢
     refine tV_ 0 123 (mB 12 1) HT_ HW_ hHeld ?_
     refine pV_ 1 124 (mB 12 3) HT_ ?_
     refine pV_ 2 125 (mB 12 7) HT_ ?_
     refine tV_ 3 126 (mB 12 15) HT_ HW_ hHeld ?_
     refine pV_ 4 127 (mB 12 31) HT_ ?_
     refine tV_ 5 128 (mB 12 63) HT_ HW_ hHeld ?_
     refine tV_ 7 130 (mB 12 191) HT_ HW_ hHeld ?_
     refine tV_ 8 131 (mB 12 447) HT_ HW_ hHeld ?_
     refine on_ 6 (some 129) (mB 12 511) HT_ (fun K hK => ?_)
     refine gs_ Try.func70 #[.int .i64 x, .int .i64 sy, .int .i64 y] ?_
     with_reducible refine sk_ (less_as SYB.out HL1.out) fun wk hb => ?_
     replace HM := MS.nx HM hb; clear hb
     refine hK.out _ _ ⟨kO HM m3_, MS.k HM m1_ 1 rfl, MS.k HM m1_ 0 rfl, kO HM m4_, kL HM m0_⟩ (fun hHeld => ?_)
     clear hK K
     refine nO_ 129 ?_
     refine on_ 9 (some 132) (mB 12 1023) HT_ (fun K hK => ?_)
     refine gs_ Try.func71 #[cv.val, lV lx sx 0 0 c] ?_
     with_reducible refine sk_ (bnd_as (MS.oc HM m1_) (MS.bel HM) HCV.out CF.out lx sx 0 0 c CB.out SXB.out ZB.out S1.out (BX.out S1.out) (fun h => absurd rfl h) HB2.out) fun wk hb => ?_
     replace HM := MS.nx HM hb; clear hb
     refine hK.out _ _ ⟨kO HM m3_, MS.k HM m1_ 1 rfl, MS.k HM m1_ 0 rfl, kO HM m4_, kL HM m0_⟩ (fun hHeld => ?_)
     clear hK K
     refine nO_ 132 ?_
     refine on_ 10 (some 133) (mB 12 2047) HT_ (fun K hK => ?_)
     refine gs_ Try.func19 #[o1.val, lV r11 r12 r13 r14 0, iV a2 b2] ?_
     with_reducible refine ok_ (guard_as (MS.oc HM m0_) (MS.bel HM) HO1.out GF1.out r11 r12 r13 r14 0 a2 b2 (R3.out S1.out S2.out S3.out S4.out)) fun o2 wk ho2 ho hb => ?_
     replace HM := MS.cl HM hb ho; clear hb ho
     refine hK.out _ _ ⟨kO HM m3_, MS.k HM m1_ 1 rfl, MS.k HM m1_ 0 rfl, kO HM m4_, kL HM m0_⟩ (fun hHeld => ?_)
     clear hK K
     refine nO_ 133 ?_
     have kgu := MS.c3 HM m3_
     refine la_ 11 (mB 12 4095) HT_ (fun K hK => ?_)
     refine skip_ (w1 := ?_) (by rfl) rfl ?_ ?_
     rotate_left
     ·
      go_simp
      rfl
     refine hK.out _ _ ?_
     clear hK K
     refine dn_ HT_ ?_
     clear HT_ HW_ hHeld
     replace HM := MS.po3 o2 HM
     generalize World.setCell _ _ _ = wk at HM ⊢
     have HO2 := Aside0.mk ho2; clear ho2
     replace HM := MS.sb HM (.cons_cons _ (.cons _ (.refl _))) (.refl _)
     replace HM := MS.sb HM (.refl _) (.cons _ (.cons _ (.cons_cons _ (.cons_cons _ (.cons_cons _ (.cons_cons _ (.cons_cons _ .slnil)))))))
     have kgp := MS.c10 HM m0_; replace kgu := MS.c3 HM m1_; have kgc := MS.c3 HM m2_; have kgr := MS.c3 HM m3_; have kgl := MS.c5 HM m4_
     go_wp2
     rw [rounds_succ]
     replace kgu := MS.c3 HM m1_; replace kgr := MS.c3 HM m3_
     go_wp2
     replace HM := MS.po3 o2 HM
     generalize World.setCell _ _ _ = wk at HM ⊢
     refine MS.rt HM m3_ ?_
     exact ⟨o2, rfl, HO2.out, HM.out.S.own _ m0_, HM.out.S.below⟩
theorem assign_own (X : OV) (s lx sx y sy c : Int) {w0 w : World} (hX : Oc w0 w X) (h0 : Below w0.heap.size w0 w) (fx : OFit X.v X.m X.e) :
 Calls Try.prog 21 #[X.val, .int .i64 s, lV lx sx y sy c] w fun e W' => ∃ z : OV, e = .returned z.val ∧ z.o = assignF X.v X.m X.e s lx sx y sy c ∧ Own w W' z ∧ Below w.heap.size w W' := by
 have HX : Aside0 (Oc w w X) := ⟨⟨⟨hX.r0.le, .inl (hX.r0.reads h0)⟩, ⟨hX.r1.le, .inl (hX.r1.reads h0)⟩⟩⟩
 have FX_ := Aside0.mk fx
 have l8 := fx.1.1
 have LK : Aside0 (X.v.length ≤ 1000) := ⟨by omega⟩
 obtain ⟨cm, ce, hcl, cf⟩ := cl_ex fx
 cases ce with
 | true => rw [asgn_bot hcl]; exact asg_bot X s lx sx y sy c HX FX_ LK ⟨hcl⟩
 | false =>
  rcases placeF_cases X.v s with ⟨p, hp1, hp2, _, _⟩ | ⟨hp2, _⟩
  case inr => rw [asgn_no hcl (by omega)]; exact asg_no X s lx sx y sy c HX FX_ LK ⟨hcl⟩ ⟨rfl⟩ ⟨by omega⟩
  case inl =>
   obtain ⟨fm, fe, hfg, ff⟩ := fgt_ex cf s
   by_cases hof : ofB X.v lx sx y sy c = false
   ·
    rw [asgn_not hcl (by omega) hof, hfg]
    exact asg_not X s lx sx y sy c HX FX_ LK ⟨hcl⟩ ⟨hp2⟩ ⟨cf⟩ ⟨hfg⟩ ⟨hof⟩
   ·
    have hof' : ofB X.v lx sx y sy c = true := by simpa using hof
    rw [asgn_of hcl (by omega) hof']
    obtain ⟨C, gm0, gm1, ge0, ge1, a, b, a0, b0, a1, b1, a2, b2, r01, r02, r03, r04, r11, r12, r13, r14, g⟩ := asgF_ways (s := s) (lx := lx) (sx := sx) (y := y) (sy := sy) (c := c) fx hcl cf hp2 hfg ff hof'
    exact asg_gen X s lx sx y sy c HX FX_ LK ⟨hcl⟩ ⟨hp2⟩ ⟨cf⟩ ⟨hfg⟩ ⟨hof'⟩ ⟨ff⟩ ⟨g.cb⟩ ⟨g.sxb⟩ ⟨g.syb⟩ ⟨by decide⟩ ⟨g.ne⟩ ⟨g.px⟩ ⟨g.py⟩ ⟨l8⟩ ⟨by omega⟩ ⟨fit_of_snd fx.1 (movM_snd g.sc)⟩ ⟨by rw [g.hcm]⟩ ⟨g.sc⟩ ⟨g.it⟩ ⟨g.e0⟩ ⟨g.e1⟩ ⟨g.e2⟩ ⟨g.l0⟩ ⟨g.l1⟩ ⟨g.g0⟩ ⟨g.f0⟩ ⟨g.g1⟩ ⟨g.f1⟩ ⟨g.r0⟩ ⟨g.r1⟩ ⟨g.r2⟩ ⟨g.r3⟩ ⟨g.r4⟩ ⟨g.r5⟩
theorem assign_as {w W : World} {x : OV} {v m : List Int} {e : Bool} {a : Tri} (hx : Oc w W x) (hb : Below w.heap.size w W) (ho : x.o = (v, m, e)) (fx : OFit v m e) (s lx sx y sy c : Int) (ha : assignF v m e s lx sx y sy c = a) :
 Calls Try.prog 21 #[x.val, .int .i64 s, lV lx sx y sy c] W fun e W' => ∃ z : OV, e = .returned z.val ∧ z.o = a ∧ Own W W' z ∧ Below W.heap.size W W' := by
 obtain ⟨P, p, Q, q, v', m', e'⟩ := x
 cases ho
 rw [← ha]; exact assign_own _ s lx sx y sy c hx hb fx
end Go.Proofs.Ytphfchbggechhaa.QO
end
end
section
noncomputable section
namespace Go.Proofs.Ytphfchbggechhaa.QO
open Go.RowKit Go.Shelf YtphfchbggechhaaW.PrintWords YtphfchbggechhaaW.PrintLast YtphfchbggechhaaW.PrintMore
open Ytphfchbggechhaa.Pure
set_option linter.unusedVariables false
theorem close_is {v m l : List Int} (h : OFit v m false) (hf : ∀ t, t < 2 * v.length + 1 → ∀ i, i < 2 * v.length → 0 ≤ OctMath.overs (lowM v.length m) t i i) (hs : ∀ i, i < 2 * v.length → 0 ≤ OctMath.plus (tig (OctMath.overs (lowM v.length m) (2 * v.length)) i (nb i)) (tig (OctMath.overs (lowM v.length m) (2 * v.length)) (nb i) i)) (hl : lst (2 * v.length) (closeM (2 * v.length) (lowM v.length m)) = l) : closeF v m false = (v, l, false) := by
 unfold closeF closeL
 rw [if_neg (by simp), closeB_true.2 ⟨fun t i ht hi => hf t (by omega) i hi, hs⟩, if_pos rfl, hl]
 rfl
def mat (n : Nat) (l : List Int) : Mx := fun i j => rd l ((i * n + j : Nat) : Int)
theorem mat_of {v m : List Int} {e : Bool} {l : List Int} (h : OFit v m e) (hc : closeF v m e = (v, l, false)) (i j : Nat) (hi : i < 2 * v.length) (hj : j < 2 * v.length) : closeM (2 * v.length) (lowM v.length m) i j = mat (2 * v.length) l i j := by
 rcases close_cases h with ⟨h1, _⟩ | ⟨_, _, h1⟩
 ·
  rw [h1] at hc; cases hc
 ·
  rw [h1] at hc
  have e2 : lst (2 * v.length) (closeM (2 * v.length) (lowM v.length m)) = l := congrArg (·.2.1) hc
  unfold mat
  rw [← e2]; exact (rd_lst hi hj).symm
theorem upM_ext {n : Nat} {A B : Mx} {a b : Nat} {h : Int} (e : ∀ i j, i < n → j < n → A i j = B i j) : ∀ i j, i < n → j < n → upM A a b h i j = upM B a b h i j := fun i j hi hj => by
 unfold upM; rw [e i j hi hj]
theorem upC_extA {n p q : Nat} {A B : Mx} {sx sy h : Int} (e : ∀ i j, i < n → j < n → A i j = B i j) : ∀ i j, i < n → j < n → upC A p sx q sy h i j = upC B p sx q sy h i j := by
 unfold upC
 split
 ·
  exact e
 ·
  split <;> exact upM_ext e
theorem guard_is {v m : List Int} {e : Bool} {l l2 : List Int} {x sx y sy c lo hi a b : Int} {t : Tri} (h : OFit v m e) (hc : closeF v m e = (v, l, false)) (hof : ofB v x sx y sy c = true) (hi_ : itvOf lo hi = (a, b)) (hab : a ≤ b) (hs : sx ≠ 0)
 (hl : lst (2 * v.length) (upC (upC (mat (2 * v.length) l) (placeF v x).toNat sx (placeF v y).toNat sy (bupF b (-c))) (placeF v x).toNat (-sx) (placeF v y).toNat (-sy) (bupF (bnegF a) c)) = l2) (ht : closeF v l2 false = t) : guardF v m e x sx y sy c lo hi = t := by
 unfold guardF
 rw [if_neg (by rw [hc, hof]; simp), hi_]
 dsimp only
 rw [if_neg (fun q => q.elim (fun q => by omega) (fun q => hs q.1)), if_neg hs, lst_ext (upC_extA (upC_extA (mat_of h hc))), hl]
 exact ht
def w0 : List Int := [0, 4611686018427387904, 4611686018427387904, 4611686018427387904, 4611686018427387904, 0, 4611686018427387904, 4611686018427387904, 4611686018427387904, 4611686018427387904, 0, 4611686018427387904, 4611686018427387904, 4611686018427387904, 4611686018427387904, 0]
def w1 : List Int := [0, 0, 4611686018427387904, 4611686018427387904, 10, 0, 4611686018427387904, 4611686018427387904, 4611686018427387904, 4611686018427387904, 0, 4611686018427387904, 4611686018427387904, 4611686018427387904, 4611686018427387904, 0]
def w2' : List Int := [0, 0, 2, 4611686018427387904, 10, 0, 4611686018427387904, 0, 0, 4611686018427387904, 0, 4611686018427387904, 4611686018427387904, 2, 4611686018427387904, 0]
def w2 : List Int := [0, 0, 2, 0, 10, 0, 12, 0, 0, 0, 0, 0, 12, 2, 14, 0]
def w3' : List Int := [0, 0, 2, -9, 10, 0, 12, 0, 0, -9, 0, 0, 12, 2, 14, 0]
def w3 : List Int := [0, -8, 2, -9, 10, 0, 12, 0, 0, -9, 0, -10, 12, 2, 14, 0]
def w4 : List Int := [0, -14, -1, -12, 16, 0, 15, 3, 3, -12, 0, -10, 15, -1, 14, 0]
theorem v01 : VarsOk [0, 1] := ⟨by decide, fun i h0 h1 => by
 have : i = 0 ∨ i = 1 := by simp at h1; omega
 rcases this with rfl | rfl
 ·
  exact ⟨by decide, fun h => absurd h (by decide)⟩
 ·
  exact ⟨by decide, fun h => by decide⟩⟩
theorem f0 : OFit [0, 1] w0 false := by
 have s : Snd (2 * ([0, 1] : List Int).length) (fun i j => if i = j then 0 else 4611686018427387904) := by
  refine ⟨⟨2, rfl, by decide⟩, fun i j hi hj => ?_, fun i j hi hj => ?_, fun i hi => by simp⟩
  ·
   by_cases e : i = j
   ·
    simp only [e, if_true]; exact .inr (by decide)
   ·
    simp only [e, if_false]; exact .inl rfl
  ·
   by_cases e : i = j
   ·
    simp [e]
   ·
    have : nb j ≠ nb i := fun q => e (nb_eq.1 q).symm
    simp [e, this]
 have h := fit_of_snd v01 s
 have e : lst (2 * ([0, 1] : List Int).length) (fun i j => if i = j then 0 else 4611686018427387904) = w0 := by decide +kernel
 rw [e] at h; exact h
theorem fit_next {v m l : List Int} {x sx y sy c lo hi : Int} (h : OFit v m false) (hg : guardF v m false x sx y sy c lo hi = (v, l, false)) : OFit v l false := by
 obtain ⟨a, b, e, f⟩ := grd_ex h x sx y sy c lo hi
 rw [hg] at e
 cases e; exact f
theorem c0 : closeF [0, 1] w0 false = ([0, 1], w0, false) := close_is f0 (by decide +kernel) (by decide +kernel) (by decide +kernel)
theorem g1 : guardF [0, 1] w0 false 0 1 0 0 0 0 5 = ([0, 1], w1, false) := by
 have hf : OFit [0, 1] w1 false := by
  have := (upC_snd (p := 0) (sx := -1) (q := 0) (sy := -0) (hi := bupF (bnegF 0) 0) (upC_snd (p := 0) (sx := 1) (q := 0) (sy := 0) (hi := bupF 5 (-0)) (snd_of_fit f0)))
  have h := fit_of_snd v01 this
  have e : lst (2 * ([0, 1] : List Int).length) (upC (upC (lowM ([0, 1] : List Int).length w0) 0 1 0 0 (bupF 5 (-0))) 0 (-1) 0 (-0) (bupF (bnegF 0) 0)) = w1 := by decide +kernel
  rw [e] at h; exact h
 exact guard_is f0 c0 (by decide +kernel) (show itvOf 0 5 = (0, 5) by decide +kernel) (by decide) (by decide) (show _ = w1 by decide +kernel) (close_is hf (by decide +kernel) (by decide +kernel) (by decide +kernel))
theorem f1 : OFit [0, 1] w1 false := fit_next f0 g1
theorem c1 : closeF [0, 1] w1 false = ([0, 1], w1, false) := close_is f1 (by decide +kernel) (by decide +kernel) (by decide +kernel)
theorem g2 : guardF [0, 1] w1 false 0 (-1) 1 1 0 0 2 = ([0, 1], w2, false) := by
 have hf : OFit [0, 1] w2' false := by
  have := (upC_snd (p := 0) (sx := 1) (q := 1) (sy := -1) (hi := bupF (bnegF 0) 0) (upC_snd (p := 0) (sx := -1) (q := 1) (sy := 1) (hi := bupF 2 (-0)) (snd_of_fit f1)))
  have h := fit_of_snd v01 this
  have e : lst (2 * ([0, 1] : List Int).length) (upC (upC (lowM ([0, 1] : List Int).length w1) 0 (-1) 1 1 (bupF 2 (-0))) 0 1 1 (-1) (bupF (bnegF 0) 0)) = w2' := by decide +kernel
  rw [e] at h; exact h
 exact guard_is f1 c1 (by decide +kernel) (show itvOf 0 2 = (0, 2) by decide +kernel) (by decide) (by decide) (show _ = w2' by decide +kernel) (close_is hf (by decide +kernel) (by decide +kernel) (by decide +kernel))
theorem f2 : OFit [0, 1] w2 false := fit_next f1 g2
theorem c2 : closeF [0, 1] w2 false = ([0, 1], w2, false) := close_is f2 (by decide +kernel) (by decide +kernel) (by decide +kernel)
theorem g3 : guardF [0, 1] w2 false 0 1 1 1 0 9 4611686018427387904 = ([0, 1], w3, false) := by
 have hf : OFit [0, 1] w3' false := by
  have := (upC_snd (p := 0) (sx := -1) (q := 1) (sy := -1) (hi := bupF (bnegF 9) 0) (upC_snd (p := 0) (sx := 1) (q := 1) (sy := 1) (hi := bupF 4611686018427387904 (-0)) (snd_of_fit f2)))
  have h := fit_of_snd v01 this
  have e : lst (2 * ([0, 1] : List Int).length) (upC (upC (lowM ([0, 1] : List Int).length w2) 0 1 1 1 (bupF 4611686018427387904 (-0))) 0 (-1) 1 (-1) (bupF (bnegF 9) 0)) = w3' := by decide +kernel
  rw [e] at h; exact h
 exact guard_is f2 c2 (by decide +kernel) (show itvOf 9 4611686018427387904 = (9, 4611686018427387904) by decide +kernel) (by decide) (by decide) (show _ = w3' by decide +kernel) (close_is hf (by decide +kernel) (by decide +kernel) (by decide +kernel))
theorem f3 : OFit [0, 1] w3 false := fit_next f2 g3
theorem c3 : closeF [0, 1] w3 false = ([0, 1], w3, false) := close_is f3 (by decide +kernel) (by decide +kernel) (by decide +kernel)
theorem f4 : OFit [0, 1] w4 false := by
 have h := fit_of_snd (vars := [0, 1]) v01 (movM_snd (k := 0) (s := 1) (d := 3) (snd_of_fit f3))
 have e : lst (2 * ([0, 1] : List Int).length) (movM (lowM ([0, 1] : List Int).length w3) 1 0 3) = w4 := by decide +kernel
 rw [e] at h; exact h
theorem m3 : lst (2 * ([0, 1] : List Int).length) (mat 4 w3) = w3 := by decide +kernel
theorem m4 : lst (2 * ([0, 1] : List Int).length) (movM (mat 4 w3) 1 0 3) = w4 := by decide +kernel
theorem c4 : closeF [0, 1] w4 false = ([0, 1], w4, false) := close_is f4 (by decide +kernel) (by decide +kernel) (by decide +kernel)
theorem top01 : gimbalref11_Top.f 100 [0, 1] = some ([0, 1], w0, false) := by
 have h : gimbalref11_VarsFit.f [0, 1] = some true := by unfold gimbalref11_VarsFit.f; rw [varsB_true.2 v01]
 unfold gimbalref11_Top.f
 rw [h, bsome, if_pos rfl]
 decide +kernel
theorem C_two {W : World} {g : Nat} {a b : Int} (h : W.heap[g]? = some (.cells #[.int .i64 a, .int .i64 b] 3 (0, 0))) : Kd.C (Kd.int .i64) W (some ⟨g, 0, none⟩) 2 [a, b] := by
 refine ⟨rfl, by decide, fun _ => ⟨_, rfl, fun j p hp => ?_⟩⟩
 match j, hp with
 | 0, hp =>
  obtain rfl : a = p := Option.some.inj hp
  refine ⟨[.int .i64 a], rfl, rfl, fun i u hu => ?_⟩
  match i, hu with
  | 0, hu =>
   obtain rfl : Value.int .i64 a = u := Option.some.inj hu
   exact blk_cell h 0
 | 1, hp =>
  obtain rfl : b = p := Option.some.inj hp
  refine ⟨[.int .i64 b], rfl, rfl, fun i u hu => ?_⟩
  match i, hu with
  | 0, hu =>
   obtain rfl : Value.int .i64 b = u := Option.some.inj hu
   exact blk_cell h 1
section
variable {w W : World} {x : OV}
theorem top_own {g : Nat} (h : W.heap[g]? = some (.cells #[.int .i64 0, .int .i64 1] 3 (0, 0))) :
 Calls Try.prog 48 #[.slice (some ⟨g, 0, none⟩) 2 2] W fun e W' => ∃ z : OV, e = .returned z.val ∧ z.o = ([0, 1], w0, false) ∧ Own W W' z ∧ Below W.heap.size W W' :=
 of_calls2 (a := ([0, 1], w0, false)) (gimbalref11_Top.calls 100 (some ⟨g, 0, none⟩) 2 [0, 1] _ _ _ W (C_two h) (by decide) top01)
theorem one_as (a : Int) : Says 49 #[.int .i64 a] W (.agg #[.int .i64 a, .int .i64 1, .int .i64 0, .int .i64 0, .int .i64 0]) := gimballaw12_one.calls a a 1 0 0 0 W rfl
theorem rb_of {l : List Int} {a g1 g2 : Int} {p : Nat} (hx : Oc w W x) (hb : Below w.heap.size w W) (ho : x.o = ([0, 1], l, false)) (f : OFit [0, 1] l false) (c : closeF [0, 1] l false = ([0, 1], l, false)) (hp : placeF [0, 1] a = (p : Int)) (h1 : gimbalref11_greatest.f 50 [0, 1] l false a 1 0 0 0 = some g1) (h2 : gimbalref11_greatest.f 50 [0, 1] l false a (-1) 0 0 0 = some g2) (b1 : -100 ≤ g1 ∧ g1 ≤ 100) (b2 : -100 ≤ g2 ∧ g2 ≤ 100) :
 Says 50 #[x.val, lV a 1 0 0 0] W (iV (-g2) g1) := by
 have HX : Aside0 (Oc W W x) := ⟨⟨⟨hx.r0.le, .inl (hx.r0.reads hb)⟩, ⟨hx.r1.le, .inl (hx.r1.reads hb)⟩⟩⟩
 obtain ⟨P, p', Q, q, v', m', e'⟩ := x
 cases ho
 exact rbnd2_in ⟨P, p', Q, q, [0, 1], m', false⟩ a 1 0 0 0 HX ⟨f⟩ ⟨show ([0, 1] : List Int).length ≤ 1000 by decide⟩ (py := placeF [0, 1] 0) (sx' := -1) (sy' := 0) (K := 50) ⟨c⟩ ⟨hp⟩ ⟨rfl⟩ ⟨by decide⟩ ⟨decide_eq_false (by omega)⟩ ⟨fun h => absurd rfl h⟩ ⟨by rw [IntKind.wrap_i64, IntKind.wrap_i64]; unfold wrap64; decide⟩ ⟨h1⟩ ⟨h2⟩ ⟨fun h => by omega⟩ ⟨fun _ => ⟨by rw [IntKind.wrap_i64]; omega, by unfold wrap64; omega⟩⟩ ⟨fun h => by omega⟩ ⟨fun _ => ⟨by rw [IntKind.wrap_i64]; omega, by unfold wrap64; omega⟩⟩
theorem rb1 (hx : Oc w W x) (hb : Below w.heap.size w W) (ho : x.o = ([0, 1], w3, false)) : Says 50 #[x.val, .agg #[.int .i64 0, .int .i64 1, .int .i64 0, .int .i64 0, .int .i64 0]] W (.agg #[.int .i64 4, .int .i64 5]) :=
 rb_of (p := 0) (g1 := 5) (g2 := (-4)) hx hb ho f3 c3 (by decide +kernel) (by decide +kernel) (by decide +kernel) (by decide) (by decide)
theorem rb2 (hx : Oc w W x) (hb : Below w.heap.size w W) (ho : x.o = ([0, 1], w3, false)) : Says 50 #[x.val, .agg #[.int .i64 1, .int .i64 1, .int .i64 0, .int .i64 0, .int .i64 0]] W (.agg #[.int .i64 5, .int .i64 7]) :=
 rb_of (p := 1) (g1 := 7) (g2 := (-5)) hx hb ho f3 c3 (by decide +kernel) (by decide +kernel) (by decide +kernel) (by decide) (by decide)
theorem rb3 (hx : Oc w W x) (hb : Below w.heap.size w W) (ho : x.o = ([0, 1], w4, false)) : Says 50 #[x.val, .agg #[.int .i64 0, .int .i64 1, .int .i64 0, .int .i64 0, .int .i64 0]] W (.agg #[.int .i64 7, .int .i64 8]) :=
 rb_of (p := 0) (g1 := 8) (g2 := (-7)) hx hb ho f4 c4 (by decide +kernel) (by decide +kernel) (by decide +kernel) (by decide) (by decide)
end
theorem asg3_f : assignF [0, 1] w3 false 0 0 1 0 0 3 = ([0, 1], w4, false) := by
 have hp : placeF [0, 1] 0 = ((0 : Nat) : Int) := by decide +kernel
 have ho : ofB [0, 1] 0 1 0 0 3 = true := by decide +kernel
 obtain ⟨fm, fe, hfg, ff⟩ := fgt_ex f3 0
 obtain ⟨C, _, _, _, _, _, _, _, _, _, _, _, _, _, _, _, _, _, _, _, _, g⟩ := asgF_ways (lx := 0) (sx := 1) (y := 0) (sy := 0) (c := 3) f3 c3 f3 hp hfg ff ho
 rw [asgn_of c3 (by rw [hp]; decide) ho, ← g.r1 (by decide) rfl rfl]
 have e : lst (2 * ([0, 1] : List Int).length) (movM C 1 0 3) = lst (2 * ([0, 1] : List Int).length) (movM (mat 4 w3) 1 0 3) := by
  have r : ∀ i j, i < 4 → j < 4 → C i j = mat 4 w3 i j := fun i j hi hj => by
   have h1 := rd_lst (C := C) hi hj
   have h2 := rd_lst (C := mat 4 w3) hi hj
   rw [← h1, ← h2]
   exact congrArg (rd · _) (g.hcm.symm.trans m3.symm)
  refine lst_ext fun i j hi hj => ?_
  unfold movM movedG
  rw [r i j hi hj, r _ _ (fromF_lt (n := 2) hi) (fromF_lt (n := 2) hj)]
 rw [e, m4, c4]
theorem asg3 {w W : World} {x : OV} (hx : Oc w W x) (hb : Below w.heap.size w W) (ho : x.o = ([0, 1], w3, false)) :
 Calls Try.prog 21 #[x.val, .int .i64 0, .agg #[.int .i64 0, .int .i64 1, .int .i64 0, .int .i64 0, .int .i64 3]] W fun e W' => ∃ z : OV, e = .returned z.val ∧ z.o = ([0, 1], w4, false) ∧ Own W W' z ∧ Below W.heap.size W W' :=
 assign_as hx hb ho f3 0 0 1 0 0 3 asg3_f
end Go.Proofs.Ytphfchbggechhaa.QO
end
end
section
noncomputable section
namespace Go.Proofs.Ytphfchbggechhaa.QO
open Go.RowKit Go.Shelf YtphfchbggechhaaW.PrintWords YtphfchbggechhaaW.PrintLast YtphfchbggechhaaW.PrintMore
open Ytphfchbggechhaa.Pure
attribute [local go_sem] Oper.semAt_some
attribute [local go_sem ↓] Go.wp_at_zero Go.wp_at_succ
set_option linter.unusedVariables false
set_option linter.unusedSimpArgs false
def awk_T2 : Bool × List (List Nat × List Nat) := (true, [([], []), ([], []), ([], []), ([0, 1, 2, 1], [0, 1, 2]), ([3, 3, 0, 1, 2, 3], [3])])
def awk_B2 : List Nat := [0, 0, 0, 7, 15]
theorem awk_tab2 : rtab .any (opsOf Try.f13 2) = awk_T2 := by kernel_rfl
theorem awk_bits2 : waitsOk awk_T2.2 awk_B2 = true := by kernel_rfl
def awk_T5 : Bool × List (List Nat × List Nat) := (true, [([], []), ([], []), ([0, 1, 1], [0, 1]), ([], []), ([2, 3], [2, 3]), ([4, 2], [4]), ([5], [5]), ([5, 5], [5]), ([6, 7, 7, 5], [5, 6, 7]), ([5], [5]), ([8, 9, 5], [5, 8, 9]), ([5, 10], [5, 10]), ([11, 8], [11]), ([12], [12]), ([12], [12]), ([13, 14, 12, 12], [12, 13, 14]), ([15, 12], [12]), ([15, 16, 16, 12], [12, 15, 16]), ([12], [12]), ([17, 18, 12], [12, 17, 18]), ([12, 19], [12, 19]), ([20, 17, 0, 1, 2, 3, 4, 5, 6, 7, 8, 9, 10, 11, 12, 13, 14, 15, 16, 17, 18, 19, 20], [20])])
def awk_B5 : List Nat := [0, 0, 3, 0, 15, 31, 63, 63, 255, 63, 1023, 2047, 4095, 8191, 8191, 32767, 65535, 131071, 8191, 524287, 1048575, 2097151]
theorem awk_tab5 : rtab .any (opsOf Try.f13 5) = awk_T5 := by kernel_rfl
theorem awk_bits5 : waitsOk awk_T5.2 awk_B5 = true := by kernel_rfl
section
variable {P : Program} {ops : Array Oper} {Q : Exit → Act → World → Prop} {o : Oper} {rest : List Oper} {a : Act}
theorem lit_event {W : World} (hgd : o.guard = none) {N : Tmp} (_hd : o.dst = some N) {n : Nat} {cs : Array Value} {t : TypeId}
 (hrun : (execOp a.eval o).run P W = .ok (.value (.slice (some ⟨W.heap.size, 0, none⟩) n n)) (W.alloc (.cells cs t (0, 0))))
 (h : ∀ g, g = W.heap.size → ∀ w1, w1.heap[g]? = some (.cells cs t (0, 0)) → Below W.heap.size W w1 → wpList P ops Q rest (a.put o.dst (.slice (some ⟨g, 0, none⟩) n n)) w1) : wpList P ops Q (o :: rest) a W :=
 Kd.event_run hgd hrun (h _ rfl _ (blk_new W _) (below_alloc (Below.refl _ _) _))
end
theorem eq_itv {W : World} {a b c d : Int} {r : Bool} (h : (a == c && b == d) = r) : (Op.equalIn 10000 36 (iV a b) (iV c d)).run Try.prog W = .ok r W := by
 have hu36 := Try.underlying36
 have hu2 := Try.underlying2
 rw [← h]
 refine eqA_of hu36 (by kernel_rfl) ?_
 refine eqf_cons (by rfl) (by go_simp; rfl) (by go_simp; rfl) (by go_simp) ?_
 exact eqf_last (by rfl) (by go_simp; rfl) (by go_simp; rfl) (by go_simp)
theorem awake_o (w : World) : Says 13 #[] w (.bool true) := by
 have hu25 := Try.underlying25
 have hu34 := Try.underlying34
 have hu36 := Try.underlying36
 have q1 := fun W => eq_itv (W := W) (a := 4) (b := 5) (c := 4) (d := 5) (r := true) (by decide)
 have q2 := fun W => eq_itv (W := W) (a := 5) (b := 7) (c := 5) (d := 7) (r := true) (by decide)
 have q3 := fun W => eq_itv (W := W) (a := 7) (b := 8) (c := 7) (d := 8) (r := true) (by decide)
 go_enter Try.func13, Try.ntmps13
 go_upto_region 1 with fail
 have HM : Aside0 (MS w [] [] w) := ⟨MS.nil w⟩
 go_upto_region 2 with (first | ((with_reducible refine gate_dst (N := 2) rfl ?_); refine lit_event (N := 2) (n := 2) (cs := #[.int .i64 0, .int .i64 1]) (t := 3) ?hg ?hd ?hr ?_; (case hd => rfl); (case hg => rfl); (case hr => first | (go_simp; done) | (go_simp; rfl)); intro gl hg wk hbox hb; have n_ := Aside0.mk ((MS.to HM).made hg hbox hb); clear HM hg hbox hb; have HM := n_; clear n_; have kgl := MS.c2 HM m0_) | (go_at_call 48; (with_reducible refine (top_own (HM.out.F.all _ m0_).1).mono ?_); rintro e wk ⟨t0, rfl, ht0, ho, hb⟩; replace HM := MS.cl HM hb ho; clear ho hb; replace kgl := MS.c2 HM m0_) | ((with_reducible refine gate_dst (N := 1) rfl ?_); refine bx_ 1 #[.slice none 0 0, .slice none 0 0, .bool false] 25 ?_; intro go hg wk hbox hb; replace HM := MS.md HM hg hbox hb; clear hg hbox hb; have kgo := MS.c3 HM m0_; replace kgl := MS.c2 HM m1_))
 replace HM := MS.po0 t0 HM
 generalize World.setCell _ _ _ = wk at HM ⊢
 replace kgo := MS.c3 HM m0_; replace kgl := MS.c2 HM m1_
 have H0 := Aside0.mk ht0; clear ht0
 replace HM := MS.dr HM
 clear kgl kgo
 refine st_ 5 (fun w' => oR go t0 w') [4] (kO HM m0_) (fun hHeld => ?_)
 refine with_tabW awk_tab2 awk_bits2 (fun HT_ HW_ => ?_)
 generalize World.drew _ = wk at HM hHeld ⊢
 refine tV_ 0 4 (mB 5 1) HT_ HW_ hHeld ?_
 refine pV_ 2 6 (mB 5 5) HT_ ?_
 refine on_ 1 (some 5) (mB 5 7) HT_ (fun K hK => ?_)
 refine gs_ Try.func49 #[.int .i64 0] ?_
 with_reducible refine sk_ (one_as 0) fun wk hb => ?_
 replace HM := MS.nx HM hb; clear hb
 refine hK.out _ _ (kO HM m0_) (fun hHeld => ?_)
 clear hK K
 refine nO_ 5 ?_
 refine on_ 3 (some 7) (mB 5 15) HT_ (fun K hK => ?_)
 refine gs_ Try.func19 #[t0.val, lV 0 1 0 0 0, iV 0 5] ?_
 with_reducible refine ok_ (guard_as (MS.oc HM m0_) (MS.bel HM) H0.out f0 0 1 0 0 0 0 5 g1) fun t1 wk ht1 ho hb => ?_
 replace HM := MS.cl HM hb ho; clear hb ho
 refine hK.out _ _ (kO HM m0_) (fun hHeld => ?_)
 clear hK K
 refine nO_ 7 ?_
 have kgo := MS.c3 HM m0_; have kgl := MS.c2 HM m1_
 refine la_ 4 (mB 5 31) HT_ (fun K hK => ?_)
 refine skip_ (w1 := ?_) (by rfl) rfl ?_ ?_
 rotate_left
 ·
  go_simp
  rfl
 refine hK.out _ _ ?_
 clear hK K
 refine dn_ HT_ ?_
 clear HT_ HW_ hHeld
 replace HM := MS.po0 t1 HM
 generalize World.setCell _ _ _ = wk at HM ⊢
 replace kgo := MS.c3 HM m0_; replace kgl := MS.c2 HM m1_
 have H1 := Aside0.mk ht1; clear ht1
 go_upto_region 4 with (first | (go_at_call 19; (with_reducible refine (guard_as (MS.oc HM m0_) (MS.bel HM) H1.out f1 0 (-1) 1 1 0 0 2 g2).mono ?_); rintro e wk ⟨t2, rfl, ht2, ho, hb⟩; replace HM := MS.cl HM hb ho; clear ho hb; replace kgo := MS.c3 HM m0_; replace kgl := MS.c2 HM m1_))
 replace HM := MS.po0 t2 HM
 generalize World.setCell _ _ _ = wk at HM ⊢
 replace kgo := MS.c3 HM m0_; replace kgl := MS.c2 HM m1_
 have H2 := Aside0.mk ht2; clear ht2
 go_upto_region 5 with (first | (go_at_call 19; (with_reducible refine (guard_as (MS.oc HM m0_) (MS.bel HM) H2.out f2 0 1 1 1 0 9 4611686018427387904 g3).mono ?_); rintro e wk ⟨t3, rfl, ht3, ho, hb⟩; replace HM := MS.cl HM hb ho; clear ho hb; replace kgo := MS.c3 HM m0_; replace kgl := MS.c2 HM m1_))
 replace HM := MS.po0 t3 HM
 generalize World.setCell _ _ _ = wk at HM ⊢
 replace kgo := MS.c3 HM m0_; replace kgl := MS.c2 HM m1_
 have H3 := Aside0.mk ht3; clear ht3
 replace HM := MS.dr HM
 clear kgl kgo
 refine st_ 22 (fun w' => oR go t3 w') [] (kO HM m0_) (fun hHeld => ?_)
 refine with_tabW awk_tab5 awk_bits5 (fun HT_ HW_ => ?_)
 generalize World.drew _ = wk at HM hHeld ⊢
 refine tV_ 0 16 (mB 22 1) HT_ HW_ hHeld ?_
 refine pV_ 3 19 (mB 22 9) HT_ ?_
 refine on_ 1 (some 17) (mB 22 11) HT_ (fun K hK => ?_)
 refine gs_ Try.func49 #[.int .i64 0] ?_
 with_reducible refine sk_ (one_as 0) fun wk hb => ?_
 replace HM := MS.nx HM hb; clear hb
 refine hK.out _ _ (kO HM m0_) (fun hHeld => ?_)
 clear hK K
 refine nO_ 17 ?_
 refine on_ 2 (some 18) (mB 22 15) HT_ (fun K hK => ?_)
 refine gs_ Try.func50 #[t3.val, lV 0 1 0 0 0] ?_
 with_reducible refine sk_ (rb1 (MS.oc HM m0_) (MS.bel HM) H3.out) fun wk hb => ?_
 replace HM := MS.nx HM hb; clear hb
 refine hK.out _ _ (kO HM m0_) (fun hHeld => ?_)
 clear hK K
 refine nO_ 18 ?_
 refine pV_ 4 20 (mB 22 31) HT_ ?_
 refine pV_ 5 21 (mB 22 63) HT_ ?_
 refine tV_ 6 22 (mB 22 127) HT_ HW_ hHeld ?_
 refine pV_ 9 25 (mB 22 639) HT_ ?_
 refine on_ 7 (some 23) (mB 22 767) HT_ (fun K hK => ?_)
 refine gs_ Try.func49 #[.int .i64 1] ?_
 with_reducible refine sk_ (one_as 1) fun wk hb => ?_
 replace HM := MS.nx HM hb; clear hb
 refine hK.out _ _ (kO HM m0_) (fun hHeld => ?_)
 clear hK K
 refine nO_ 23 ?_
 refine on_ 8 (some 24) (mB 22 1023) HT_ (fun K hK => ?_)
 refine gs_ Try.func50 #[t3.val, lV 1 1 0 0 0] ?_
 with_reducible refine sk_ (rb2 (MS.oc HM m0_) (MS.bel HM) H3.out) fun wk hb => ?_
 replace HM := MS.nx HM hb; clear hb
 refine hK.out _ _ (kO HM m0_) (fun hHeld => ?_)
 clear hK K
 refine nO_ 24 ?_
 refine pV_ 10 26 (mB 22 2047) HT_ ?_
 refine pV_ 11 27 (mB 22 4095) HT_ ?_
 refine pV_ 12 28 (mB 22 8191) HT_ ?_
 refine tV_ 13 29 (mB 22 16383) HT_ HW_ hHeld ?_
 refine pV_ 14 30 (mB 22 32767) HT_ ?_
 refine pV_ 18 34 (mB 22 294911) HT_ ?_
 refine on_ 15 (some 31) (mB 22 327679) HT_ (fun K hK => ?_)
 refine gs_ Try.func21 #[t3.val, .int .i64 0, lV 0 1 0 0 3] ?_
 with_reducible refine ok_ (asg3 (MS.oc HM m0_) (MS.bel HM) H3.out) fun t4 wk ht4 ho hb => ?_
 replace HM := MS.cl HM hb ho; clear hb ho
 refine hK.out _ _ (kO HM m0_) (fun hHeld => ?_)
 clear hK K
 refine nO_ 31 ?_
 refine on_ 16 (some 32) (mB 22 393215) HT_ (fun K hK => ?_)
 refine gs_ Try.func49 #[.int .i64 0] ?_
 with_reducible refine sk_ (one_as 0) fun wk hb => ?_
 replace HM := MS.nx HM hb; clear hb
 refine hK.out _ _ (kO HM m0_) (fun hHeld => ?_)
 clear hK K
 refine nO_ 32 ?_
 refine on_ 17 (some 33) (mB 22 524287) HT_ (fun K hK => ?_)
 refine gs_ Try.func50 #[t4.val, lV 0 1 0 0 0] ?_
 with_reducible refine sk_ (rb3 (MS.oc HM m0_) (MS.bel HM) ht4) fun wk hb => ?_
 replace HM := MS.nx HM hb; clear hb
 refine hK.out _ _ (kO HM m0_) (fun hHeld => ?_)
 clear hK K
 refine nO_ 33 ?_
 refine pV_ 19 35 (mB 22 1048575) HT_ ?_
 refine pV_ 20 36 (mB 22 2097151) HT_ ?_
 refine pV_ 21 0 (mB 22 4194303) HT_ ?_
 refine dn_ HT_ ?_
 clear HT_ HW_ hHeld
 go_wp2
 go_ret
 exact ⟨rfl, MS.bel HM⟩
def keeps_T24 : Bool × List (List Nat × List Nat) := (true, [([], []), ([], []), ([1], [1]), ([], []), ([2, 3], [2, 3]), ([4], [4]), ([], []), ([], []), ([6, 7], [6, 7]), ([8], [8]), ([0, 5, 0, 1, 2, 3, 4, 5, 6, 7, 8, 9], [0, 5]), ([10, 9, 0, 1, 2, 3, 4, 5, 6, 7, 8, 9], [9, 10])])
def keeps_B24 : List Nat := [0, 0, 2, 0, 14, 30, 0, 0, 192, 448, 1023, 2047]
theorem keeps_tab24 : rtab .any (opsOf Try.f8 24) = keeps_T24 := by kernel_rfl
theorem keeps_bits24 : waitsOk keeps_T24.2 keeps_B24 = true := by kernel_rfl
theorem keeps_w (AW : ∀ W : World, Says 13 #[] W (.bool true)) (X : OV) (x lx sx y sy c il ih : Int) (PA : Option Addr) (pc : Nat) (pl : List Int) {w : World} (HX : Aside0 (Oc w w X)) (HPK : Aside0 (Oc w w (rV PA pc pl))) (LX : Aside0 (X.v.length ≤ 17592186044416)) (LP : Aside0 (pl.length ≤ 17592186044416)) : Says 8 #[X.val, .int .i64 x, lV lx sx y sy c, iV il ih, .slice PA pl.length pc] w (.bool true) := by
 have hu25 := Try.underlying25
 have hu34 := Try.underlying34
 have hu36 := Try.underlying36
 have hu22 := Try.underlying22
 have hu23 := Try.underlying23
 go_enter Try.func8, Try.ntmps8
 go_upto_region 1 with fail
 have HM := MS.n3 w X.cells (lC lx sx y sy c) (iC il ih)
 generalize World.alloc _ _ = wk at HM ⊢
 generalize w.heap.size + 2 = gi at HM ⊢
 generalize w.heap.size + 1 = gl at HM ⊢
 generalize w.heap.size = go at HM ⊢
 by_cases HFT_ : ofitB X.v X.m X.e = true
 ·
  have HFT := Aside0.mk HFT_; clear HFT_
  have HFX := HFT; have FX_ := Aside0.mk (ofitB_true.1 HFT.out); obtain ⟨cm, ce, hc, fc⟩ := cl_ex FX_.out; have HC := Aside0.mk hc; have FC := Aside0.mk fc; clear hc fc HFT
  by_cases HL__ : lfitB lx sx y sy c = true
  ·
   have HL_ := Aside0.mk HL__; clear HL__
   have HLF := HL_; clear HL_
   by_cases D1_ : 63 < lx
   ·
    have D1 := Aside0.mk D1_; clear D1_
    have d1 : decide (63 < lx) = true := decide_eq_true D1.out
    have kgi := MS.c2 HM m0_; have kgl := MS.c5 HM m1_; have kgo := MS.c3 HM m2_
    go_wp2_with (first | (go_at_call 12; (with_reducible refine (rfit_o (Oc.now HX (MS.bel HM)) (Below.refl _ _) LX.out HFX.out).mono ?_); rintro e wk ⟨rfl, hb⟩; replace HM := MS.nx HM hb; clear hb; replace kgi := MS.c2 HM m0_; replace kgl := MS.c5 HM m1_; replace kgo := MS.c3 HM m2_) | (go_at_call 36; (with_reducible refine (ffit_as HLF.out).mono ?_); rintro e wk ⟨rfl, hb⟩; replace HM := MS.nx HM hb; clear hb; replace kgi := MS.c2 HM m0_; replace kgl := MS.c5 HM m1_; replace kgo := MS.c3 HM m2_) | (go_at_call 13; (with_reducible refine (AW _).mono ?_); rintro e wk ⟨rfl, hb⟩; replace HM := MS.nx HM hb; clear hb; replace kgi := MS.c2 HM m0_; replace kgl := MS.c5 HM m1_; replace kgo := MS.c3 HM m2_))
    go_ret
    exact ⟨rfl, MS.bel HM⟩
   ·
    have D1 := Aside0.mk D1_; clear D1_
    have d1 : decide (63 < lx) = false := decide_eq_false D1.out
    by_cases D2_ : 63 < y
    ·
     have D2 := Aside0.mk D2_; clear D2_
     have d2 : decide (63 < y) = true := decide_eq_true D2.out
     have kgi := MS.c2 HM m0_; have kgl := MS.c5 HM m1_; have kgo := MS.c3 HM m2_
     go_wp2_with (first | (go_at_call 12; (with_reducible refine (rfit_o (Oc.now HX (MS.bel HM)) (Below.refl _ _) LX.out HFX.out).mono ?_); rintro e wk ⟨rfl, hb⟩; replace HM := MS.nx HM hb; clear hb; replace kgi := MS.c2 HM m0_; replace kgl := MS.c5 HM m1_; replace kgo := MS.c3 HM m2_) | (go_at_call 36; (with_reducible refine (ffit_as HLF.out).mono ?_); rintro e wk ⟨rfl, hb⟩; replace HM := MS.nx HM hb; clear hb; replace kgi := MS.c2 HM m0_; replace kgl := MS.c5 HM m1_; replace kgo := MS.c3 HM m2_) | (go_at_call 13; (with_reducible refine (AW _).mono ?_); rintro e wk ⟨rfl, hb⟩; replace HM := MS.nx HM hb; clear hb; replace kgi := MS.c2 HM m0_; replace kgl := MS.c5 HM m1_; replace kgo := MS.c3 HM m2_))
     go_ret
     exact ⟨rfl, MS.bel HM⟩
    ·
     have D2 := Aside0.mk D2_; clear D2_
     have d2 : decide (63 < y) = false := decide_eq_false D2.out
     by_cases HN__ : nearB cm = true
     ·
      have HN_ := Aside0.mk HN__; clear HN__
      have HNR := HN_; clear HN_
      have kgl := MS.c5 HM m1_; have kgo := MS.c3 HM m2_
      go_upto_region 3 with (first | (go_at_call 12; (with_reducible refine (rfit_o (Oc.now HX (MS.bel HM)) (Below.refl _ _) LX.out HFX.out).mono ?_); rintro e wk ⟨rfl, hb⟩; replace HM := MS.nx HM hb; clear hb; replace kgl := MS.c5 HM m1_; replace kgo := MS.c3 HM m2_) | (go_at_call 36; (with_reducible refine (ffit_as HLF.out).mono ?_); rintro e wk ⟨rfl, hb⟩; replace HM := MS.nx HM hb; clear hb; replace kgl := MS.c5 HM m1_; replace kgo := MS.c3 HM m2_) | (go_at_call 38; (with_reducible refine (rclose_as (Oc.now HX (MS.bel HM)) (Below.refl _ _) rfl FX_.out HC.out).mono ?_); rintro e wk ⟨cz, rfl, hcz, ho, hb⟩; replace HM := MS.cl HM hb ho; clear ho hb; replace kgl := MS.c5 HM m1_; replace kgo := MS.c3 HM m2_) | (go_at_call 37; (with_reducible refine (near_b (MS.oc HM m0_) (MS.bel HM) hcz FC.out HNR.out).mono ?_); rintro e wk ⟨rfl, hb⟩; replace HM := MS.nx HM hb; clear hb; replace kgl := MS.c5 HM m1_; replace kgo := MS.c3 HM m2_))
      clear d1 d2
      replace HM := MS.sb HM (.cons _ .slnil) (.refl _)
      go_upto_region 4 with (first | (go_at_call 39; (with_reducible refine (rpoint_as (Oc.now HX (MS.bel HM)) (Below.refl _ _) rfl FX_.out).mono ?_); rintro e wk ⟨Q, q, l, ln, ok, rfl, hl, hp, ho, hb⟩; replace HM := MS.cl HM hb ho; clear ho hb; replace kgo := MS.c3 HM m2_))
      have HP := Aside0.mk hp; have HLN := Aside0.mk hl; clear hp hl; have HN8 : Aside0 (ln ≤ 8) := ⟨pt_len HLN.out HP.out FX_.out.1.1⟩
      have kgi := MS.c2 HM m0_; replace kgl := MS.c5 HM m1_
      go_upto_block 0 with fail
      (try simp only [Act.put, List.setIfInBounds_toArray, List.set_cons_zero, List.set_cons_succ])
      go_cut [11] from 22 (fun v11 wc => ∃ (Q : Option Addr) (q : Nat) (l : List Int), v11 = .slice Q ln q ∧ Aside0 (l.length = ln) ∧ Aside0 ((ok = true ∧ Vl X.v.length l) ∨ (ok = false ∧ l = [])) ∧ Aside0 (MS w [rV Q q l] [(gi, iC il ih), (gl, lC lx sx y sy c), (go, X.cells)] wc))
      case first =>
       replace kgi := MS.c2 HM m0_; replace kgl := MS.c5 HM m1_; replace kgo := MS.c3 HM m2_
       go_wp2
       go_loopg [11, 13] ln (fun kq v11 v13 w' => ∃ (k : Int) (Q : Option Addr) (q : Nat) (l : List Int), v11 = .slice Q ln q ∧ v13 = .int .i64 k ∧ Aside0 (0 ≤ k ∧ k + (kq : Int) = (ln : Int)) ∧ Aside0 (l.length = ln) ∧ Aside0 ((ok = true ∧ Vl X.v.length l) ∨ (ok = false ∧ l = [])) ∧ Aside0 (MS w [rV Q q l] [(gi, iC il ih), (gl, lC lx sx y sy c), (go, X.cells)] w'))
       case atStart => exact ⟨0, Q, q, l, by rfl, by rfl, ⟨by omega⟩, HLN, HP, ⟨MS.to HM⟩⟩
       case round =>
        clear HM HLN HP; clear kgi kgl kgo
        obtain ⟨k, Q, q, l, rfl, rfl, HK, HLN, HP, HM⟩ := hrel
        by_cases A_ : k < (ln : Int)
        ·
         have A := Aside0.mk A_; clear A_
         by_cases B_ : k < (pl.length : Int)
         ·
          have B := Aside0.mk B_; clear B_
          cases gk with
          | zero => exact absurd A.out (by have := HK.out; omega)
          | succ kk =>
           have q1 : decide (k < (ln : Int)) = true := decide_eq_true A.out; have q2 : decide (k < (pl.length : Int)) = true := decide_eq_true B.out
           have K0 : Aside0 (0 ≤ k) := ⟨HK.out.1⟩; have K1 : Aside0 (k < (ln : Int)) := ⟨A.out⟩; have K2 : Aside0 (k < (pl.length : Int)) := ⟨B.out⟩
           have p0 := eq_true K0.out; have p1 := eq_true K1.out; have p2 := eq_true K2.out
           obtain ⟨pa, ea, hp0⟩ := Kd.at_int ((Oc.now HPK (MS.bel HM)).r1.reads (Below.refl _ _)) k K0.out K2.out
           cases ea
           by_cases C1_ : -8589934592 ≤ rd pl k
           ·
            have C1 := Aside0.mk C1_; clear C1_
            have c1 : decide (-8589934592 ≤ rd pl k) = true := decide_eq_true C1.out
            by_cases C2_ : rd pl k ≤ 8589934592
            ·
             have C2 := Aside0.mk C2_; clear C2_
             have c2 : decide (rd pl k ≤ 8589934592) = true := decide_eq_true C2.out
             go_upto_region 9 with (first | ((with_reducible refine gate_dst (N := 78) rfl ?_); refine Kd.R_make (Kd.int .i64) _ 2 rfl (N := 78) rfl 23 _ _ rfl (ln : Int) rfl rfl Try.underlying23 (.int .i64 0) 8 info2 rfl (by decide) (by omega) 0 (ok := fun _ => True) (okp := fun _ => True) rfl (fun _ hk => hk) trivial (by omega) (by have := HN8.out; omega) (Below.refl _ _) (Nat.le_refl _) ?_; intro v1 wk ho hb hg hn; obtain ⟨Qw, qw, m, rfl, HML, HMZ, HM_⟩ := MS.mkd (n := ln) HM ho hb; clear HM; have HM := HM_; clear HM_; clear ho hb hg hn))
             clear c1 c2 hp0
             have kgi := MS.c2 HM m0_; have kgl := MS.c5 HM m1_; have kgo := MS.c3 HM m2_
             go_wp2
             go_loopg [15] ln (fun kq v15 w' => ∃ (j : Int) (m : List Int), v15 = .int .i64 j ∧ Aside0 (0 ≤ j ∧ j + (kq : Int) = (ln : Int)) ∧ Aside0 (m.length = ln) ∧ Aside0 (∀ k : Nat, (k : Int) < j → rd m (k : Int) = rd l (k : Int)) ∧ Aside0 (MS w [rV Qw qw m, rV Q q l] [(gi, iC il ih), (gl, lC lx sx y sy c), (go, X.cells)] w'))
             case atStart => exact ⟨0, m, by rfl, ⟨by omega⟩, HML, ⟨fun k h => absurd h (by omega)⟩, ⟨MS.to HM⟩⟩
             case round =>
              clear HM HML HMZ; clear kgi kgl kgo
              obtain ⟨j, m, rfl, HJ, HML, HMC, HM⟩ := hrel
              cases gk with
              | zero =>
               have q1 : (decide (j < (ln : Int))) = false := decide_eq_false (by have := HJ.out; omega)
               have HE : l = m := row_eq HLN.out HML.out (fun i hi => (HMC.out i (by have := HJ.out; omega)).symm)
               subst HE; clear HMC HJ
               obtain ⟨hok, hvl⟩ := pt_ok HLN.out HP.out K0.out K1.out; have HOK := Aside0.mk hok; have HVL := Aside0.mk hvl; clear hok hvl
               obtain ⟨bw, rfl⟩ := MS.plr HM m0_ (by have := HLN.out; have := K0.out; have := K1.out; omega)
               obtain ⟨hy0, hfy⟩ := MS.cer HM m0_ k K0.out (by rw [HLN.out]; exact K1.out)
               obtain ⟨_, e_, hp0⟩ := Kd.at_int ((Oc.now HPK (MS.bel HM)).r1.reads (Below.refl _ _)) k K0.out K2.out; cases e_
               go_upto_region 14 with fail
               clear hy0 hfy hp0 q1 q2 p0 p1 p2
               replace HM := MS.pkr (i := k) (u := rd pl k) HM (by rw [HLN.out]; have := K0.out; have := K1.out; omega)
               generalize World.setCell _ _ _ = wk at HM ⊢
               have HUL : Aside0 ((l.set k.toNat (rd pl k)).length = ln) := ⟨by rw [List.length_set]; exact HLN.out⟩; have HUV : Aside0 (Vl X.v.length (l.set k.toNat (rd pl k))) := ⟨vl_set HVL.out K0.out (by have := HVL.out.1; have := HLN.out; have := K1.out; omega) (by have := C1.out; have := C2.out; omega)⟩
               generalize l.set k.toNat (rd pl k) = u at HM HUL HUV
               by_cases TB_ : hasB X.v X.m X.e u = true
               ·
                have TB := Aside0.mk TB_; clear TB_
                have kgi := MS.c2 HM m0_; have kgl := MS.c5 HM m1_; have kgo := MS.c3 HM m2_
                go_wp2_with (first | (go_at_call 32; (with_reducible refine (rhas_ms HM HX rfl FX_.out m0_ HUL.out HUV.out TB.out).mono ?_); rintro e wk ⟨rfl, hb⟩; replace HM := MS.nx HM hb; clear hb; replace kgi := MS.c2 HM m0_; replace kgl := MS.c5 HM m1_; replace kgo := MS.c3 HM m2_))
                go_roundg kk
                case measure => exact Nat.lt_succ_self kk
                case rel =>
                 have hw : wrap64 (k + 1) = k + 1 := by have := K0.out; have := K1.out; have := HN8.out; unfold wrap64; omega
                 exact ⟨wrap64 (k + 1), _, qw, u, rfl, rfl, ⟨by rw [hw]; have := HK.out; omega⟩, HUL, ⟨.inl ⟨HOK.out, HUV.out⟩⟩, ⟨MS.sub (MS.to HM) (.cons_cons _ (.cons _ .slnil)) (.refl _)⟩⟩
               ·
                have TB := Aside0.mk TB_; clear TB_
                have TF : Aside0 (hasB X.v X.m X.e u = false) := ⟨by simpa using TB.out⟩
                have kgi := MS.c2 HM m0_; have kgl := MS.c5 HM m1_; have kgo := MS.c3 HM m2_
                go_wp2_with (first | (go_at_call 32; (with_reducible refine (rhas_ms HM HX rfl FX_.out m0_ HUL.out HUV.out TF.out).mono ?_); rintro e wk ⟨rfl, hb⟩; replace HM := MS.nx HM hb; clear hb; replace kgi := MS.c2 HM m0_; replace kgl := MS.c5 HM m1_; replace kgo := MS.c3 HM m2_))
                go_roundg kk
                case measure => exact Nat.lt_succ_self kk
                case rel =>
                 have hw : wrap64 (k + 1) = k + 1 := by have := K0.out; have := K1.out; have := HN8.out; unfold wrap64; omega
                 exact ⟨wrap64 (k + 1), Q, q, l, rfl, rfl, ⟨by rw [hw]; have := HK.out; omega⟩, HLN, HP, ⟨MS.sub (MS.to HM) (.cons _ (.cons_cons _ .slnil)) (.refl _)⟩⟩
              | succ j_ =>
               have q1 : (decide (j < (ln : Int))) = true := decide_eq_true (by have := HJ.out; omega)
               have P0 : Aside0 (0 ≤ j) := ⟨HJ.out.1⟩
               have P1 : Aside0 (j < (ln : Int)) := ⟨by have := HJ.out; omega⟩
               have p0 := eq_true P0.out; have p1 := eq_true P1.out
               obtain ⟨bw, rfl⟩ := MS.plr HM m0_ (by have := HML.out; have := P0.out; have := P1.out; omega)
               obtain ⟨bv, rfl⟩ := MS.plr HM m1_ (by have := HLN.out; have := P0.out; have := P1.out; omega)
               obtain ⟨hx0, hfx⟩ := MS.cer HM m1_ j P0.out (by rw [HLN.out]; exact P1.out); obtain ⟨hy0, hfy⟩ := MS.cer HM m0_ j P0.out (by rw [HML.out]; exact P1.out)
               have kgi := MS.c2 HM m0_; have kgl := MS.c5 HM m1_; have kgo := MS.c3 HM m2_
               go_wp2
               clear q1 p0 p1 hx0 hfx hy0 hfy
               have HN_ := MS.pkr (i := j) (u := rd l j) HM (by rw [HML.out]; have := P0.out; have := P1.out; omega)
               go_roundg j_
               case measure => exact Nat.lt_succ_self _
               case rel =>
                have hw : wrap64 (j + 1) = j + 1 := by have := P0.out; have := P1.out; have := HN8.out; unfold wrap64; omega
                exact ⟨wrap64 (j + 1), m.set j.toNat (rd l j), rfl, ⟨by rw [hw]; have := HJ.out; omega⟩, ⟨by rw [List.length_set]; exact HML.out⟩, ⟨by rw [hw]; exact copy_at HML.out P0.out P1.out HMC.out⟩, HN_⟩
            ·
             have C2 := Aside0.mk C2_; clear C2_
             have c2 : decide (rd pl k ≤ 8589934592) = false := decide_eq_false C2.out
             have kgi := MS.c2 HM m0_; have kgl := MS.c5 HM m1_; have kgo := MS.c3 HM m2_
             go_wp2
             go_roundg kk
             case measure => exact Nat.lt_succ_self kk
             case rel =>
              have hw : wrap64 (k + 1) = k + 1 := by have := K0.out; have := K1.out; have := HN8.out; unfold wrap64; omega
              exact ⟨wrap64 (k + 1), Q, q, l, rfl, rfl, ⟨by rw [hw]; have := HK.out; omega⟩, HLN, HP, ⟨MS.to HM⟩⟩
           ·
            have C1 := Aside0.mk C1_; clear C1_
            have c1 : decide (-8589934592 ≤ rd pl k) = false := decide_eq_false C1.out
            have kgi := MS.c2 HM m0_; have kgl := MS.c5 HM m1_; have kgo := MS.c3 HM m2_
            go_wp2
            go_roundg kk
            case measure => exact Nat.lt_succ_self kk
            case rel =>
             have hw : wrap64 (k + 1) = k + 1 := by have := K0.out; have := K1.out; have := HN8.out; unfold wrap64; omega
             exact ⟨wrap64 (k + 1), Q, q, l, rfl, rfl, ⟨by rw [hw]; have := HK.out; omega⟩, HLN, HP, ⟨MS.to HM⟩⟩
         ·
          have B := Aside0.mk B_; clear B_
          have q1 : decide (k < (ln : Int)) = true := decide_eq_true A.out; have q2 : decide (k < (pl.length : Int)) = false := decide_eq_false B.out
          have kgi := MS.c2 HM m0_; have kgl := MS.c5 HM m1_; have kgo := MS.c3 HM m2_
          go_wp2
          go_meet
          case rel => exact ⟨Q, q, l, rfl, HLN, HP, HM⟩
        ·
         have A := Aside0.mk A_; clear A_
         have q1 : decide (k < (ln : Int)) = false := decide_eq_false A.out
         have kgi := MS.c2 HM m0_; have kgl := MS.c5 HM m1_; have kgo := MS.c3 HM m2_
         go_wp2
         go_meet
         case rel => exact ⟨Q, q, l, rfl, HLN, HP, HM⟩
      case rest =>
       clear HM; clear kgi kgl kgo
       obtain ⟨Q, q, l, rfl, HLN, HP, HM⟩ := hcut
       as_aux_lemma =>
        cases ok with
        | false =>
         have kgi := MS.c2 HM m0_; have kgl := MS.c5 HM m1_; have kgo := MS.c3 HM m2_
         go_wp2_with (first | (go_at_call 13; (with_reducible refine (AW _).mono ?_); rintro e wk ⟨rfl, hb⟩; replace HM := MS.nx HM hb; clear hb; replace kgi := MS.c2 HM m0_; replace kgl := MS.c5 HM m1_; replace kgo := MS.c3 HM m2_))
         go_ret
         exact ⟨rfl, MS.bel HM⟩
        | true =>
         have HVL : Aside0 (Vl X.v.length l) := ⟨by rcases HP.out with h | h; exact h.2; exact absurd h.1 (by decide)⟩; clear HP
         have HNE : Aside0 (ln = X.v.length) := ⟨HLN.out.symm.trans HVL.out.1⟩
         by_cases TB_ : hasB X.v X.m X.e l = true
         ·
          have TB := Aside0.mk TB_; clear TB_
          have kgo := MS.c3 HM m2_
          go_upto_region 18 with (first | (go_at_call 32; (with_reducible refine (rhas_ms HM HX rfl FX_.out m0_ HLN.out HVL.out TB.out).mono ?_); rintro e wk ⟨rfl, hb⟩; replace HM := MS.nx HM hb; clear hb; replace kgo := MS.c3 HM m2_))
          go_upto_region 19 with (first | ((with_reducible refine gate_dst (N := 112) rfl ?_); refine Kd.R_make (Kd.int .i64) _ 2 rfl (N := 112) rfl 23 _ _ rfl (64 : Int) rfl rfl Try.underlying23 (.int .i64 0) 8 info2 rfl (by decide) (by omega) 0 (ok := fun _ => True) (okp := fun _ => True) rfl (fun _ hk => hk) trivial (by omega) (by omega) (Below.refl _ _) (Nat.le_refl _) ?_; intro v1 wk ho hb hg hn; obtain ⟨Qa, qa, la, rfl, HML, HMZ, HM_⟩ := MS.mkd (n := 64) HM ho hb; clear HM; have HM := HM_; clear HM_; clear ho hb hg hn))
          have HAI : Aside0 (AllI X.v l la 0) := ⟨all_zero HML.out HMZ.out⟩; clear HML HMZ
          have kgi := MS.c2 HM m0_; have kgl := MS.c5 HM m1_; replace kgo := MS.c3 HM m2_
          go_wp2
          go_loopg [17] ln (fun kq v17 w' => ∃ (j : Int) (la : List Int), v17 = .int .i64 j ∧ Aside0 (0 ≤ j ∧ j + (kq : Int) = (ln : Int)) ∧ Aside0 (AllI X.v l la j) ∧ Aside0 (MS w [rV Qa qa la, rV Q q l] [(gi, iC il ih), (gl, lC lx sx y sy c), (go, X.cells)] w'))
          case atStart => exact ⟨0, la, by rfl, ⟨by omega⟩, HAI, ⟨MS.to HM⟩⟩
          case round =>
           clear HM HAI; clear kgi kgl kgo
           obtain ⟨j, la, rfl, HJ, HAI, HM⟩ := hrel
           cases gk with
           | zero =>
            have q1 : (decide (j < (ln : Int))) = false := decide_eq_false (by have := HJ.out; omega)
            have HAV : Aside0 (AllI X.v l la (X.v.length : Int)) := ⟨all_end HAI.out (by have := HJ.out; have := HNE.out; omega)⟩
            obtain ⟨val, hfv, hvb, hvf⟩ := all_val HAV.out (of_decide_eq_true HLF.out) (by have := D1.out; omega) (by have := D2.out; omega); have HFV := Aside0.mk hfv; have HVB := Aside0.mk hvb; have HVF := Aside0.mk hvf; have HAL : Aside0 (la.length = 64) := ⟨HAV.out.1⟩; clear hfv hvb hvf HAI HJ HAV
            have kgl := MS.c5 HM m1_; have kgo := MS.c3 HM m2_
            go_upto_region 26 with (first | (go_at_call 30; (with_reducible refine (fval_ms HM m0_ HAL.out HFV.out).mono ?_); rintro e wk ⟨rfl, hb⟩; replace HM := MS.nx HM hb; clear hb; replace kgl := MS.c5 HM m1_; replace kgo := MS.c3 HM m2_))
            replace HM := MS.sb HM (.cons _ (.refl _)) (.refl _)
            clear q1 HAL HFV; have ON : Aside0 (On X.v X.o) := ⟨⟨rfl, FX_.out⟩⟩; have HIN : Aside0 (In X.v X.o l) := ⟨TB.out⟩; have LK : Aside0 (X.v.length ≤ 1000) := ⟨by have := FX_.out.1.1; omega⟩
            obtain ⟨pI, hpi⟩ : ∃ p, placeF X.v lx = p := ⟨_, rfl⟩; obtain ⟨qI, hqi⟩ : ∃ p, placeF X.v y = p := ⟨_, rfl⟩; have HPI := Aside0.mk hpi; have HQI := Aside0.mk hqi; clear hpi hqi
            (try simp only [Act.put, List.setIfInBounds_toArray, List.set_cons_zero, List.set_cons_succ])
            go_cut [189] from 22 (fun v189 wc => v189 = .bool false ∧ Aside0 (MS w [rV Q q l] [(gi, iC il ih), (gl, lC lx sx y sy c), (go, X.cells)] wc))
            case first =>
             by_cases S_ : sx = 0
             ·
              have S := Aside0.mk S_; clear S_
              have t1 : (sx == 0) = true := beq_iff_eq.2 S.out; have t2 : (sy == 0) = true := beq_iff_eq.2 (by have h := of_decide_eq_true HLF.out; unfold lfitP at h; have := S.out; omega)
              by_cases IH_ : itvHas il ih val = true
              ·
               have IH := Aside0.mk IH_; clear IH_
               have HIG : Aside0 (In X.v (guardF X.v X.m X.e lx sx y sy c il ih) l) := ⟨grd_in ON.out HVL.out HIN.out lx sx y sy c (il, ih) (fun ho => by rw [← HVF.out ho]; exact IH.out)⟩
               have kgi := MS.c2 HM m0_
               go_wp2_with (first | (go_at_call 34; (with_reducible refine (itvHas_as IH.out).mono ?_); rintro e wk ⟨rfl, hb⟩; replace HM := MS.nx HM hb; clear hb; replace kgi := MS.c2 HM m0_; replace kgl := MS.c5 HM m1_; replace kgo := MS.c3 HM m2_) | (go_at_call 19; (with_reducible refine (guard_as (Oc.now HX (MS.bel HM)) (Below.refl _ _) rfl FX_.out lx sx y sy c il ih rfl).mono ?_); rintro e wk ⟨gz, rfl, hgz, ho, hb⟩; replace HM := MS.cl HM hb ho; clear ho hb; replace kgi := MS.c2 HM m0_; replace kgl := MS.c5 HM m1_; replace kgo := MS.c3 HM m2_) | (go_at_call 33; (with_reducible refine (ohas_ms HM m0_ hgz (grd_on ON.out lx sx y sy c (il, ih)) m1_ HLN.out HN8.out HIG.out).mono ?_); rintro e wk ⟨rfl, hb⟩; replace HM := MS.nx HM hb; clear hb; replace kgi := MS.c2 HM m0_; replace kgl := MS.c5 HM m1_; replace kgo := MS.c3 HM m2_))
               go_meet
               case rel => exact ⟨rfl, MS.sb HM (.cons _ (.refl _)) (.refl _)⟩
              ·
               have IH := Aside0.mk IH_; clear IH_
               have IF : Aside0 (itvHas il ih val = false) := ⟨by simpa using IH.out⟩
               have kgi := MS.c2 HM m0_
               go_wp2_with (first | (go_at_call 34; (with_reducible refine (itvHas_as IF.out).mono ?_); rintro e wk ⟨rfl, hb⟩; replace HM := MS.nx HM hb; clear hb; replace kgi := MS.c2 HM m0_; replace kgl := MS.c5 HM m1_; replace kgo := MS.c3 HM m2_))
               go_meet
               case rel => exact ⟨rfl, HM⟩
             ·
              have S := Aside0.mk S_; clear S_
              have t1 : (sx == 0) = false := beq_eq_false_iff_ne.2 S.out
              by_cases P_ : 0 ≤ pI
              ·
               have P := Aside0.mk P_; clear P_
               have t3 : decide (0 ≤ pI) = true := decide_eq_true P.out
               by_cases T_ : sy = 0
               ·
                have T := Aside0.mk T_; clear T_
                have t2 : (sy == 0) = true := beq_iff_eq.2 T.out
                by_cases IH_ : itvHas il ih val = true
                ·
                 have IH := Aside0.mk IH_; clear IH_
                 have HIG : Aside0 (In X.v (guardF X.v X.m X.e lx sx y sy c il ih) l) := ⟨grd_in ON.out HVL.out HIN.out lx sx y sy c (il, ih) (fun ho => by rw [← HVF.out ho]; exact IH.out)⟩
                 have kgi := MS.c2 HM m0_
                 go_wp2_with (first | (go_at_call 28; (with_reducible refine (rplace_as (Oc.now HX (MS.bel HM)) (Below.refl _ _) rfl LK.out lx HPI.out).mono ?_); rintro e wk ⟨rfl, hb⟩; replace HM := MS.nx HM hb; clear hb; replace kgi := MS.c2 HM m0_; replace kgl := MS.c5 HM m1_; replace kgo := MS.c3 HM m2_) | (go_at_call 34; (with_reducible refine (itvHas_as IH.out).mono ?_); rintro e wk ⟨rfl, hb⟩; replace HM := MS.nx HM hb; clear hb; replace kgi := MS.c2 HM m0_; replace kgl := MS.c5 HM m1_; replace kgo := MS.c3 HM m2_) | (go_at_call 19; (with_reducible refine (guard_as (Oc.now HX (MS.bel HM)) (Below.refl _ _) rfl FX_.out lx sx y sy c il ih rfl).mono ?_); rintro e wk ⟨gz, rfl, hgz, ho, hb⟩; replace HM := MS.cl HM hb ho; clear ho hb; replace kgi := MS.c2 HM m0_; replace kgl := MS.c5 HM m1_; replace kgo := MS.c3 HM m2_) | (go_at_call 33; (with_reducible refine (ohas_ms HM m0_ hgz (grd_on ON.out lx sx y sy c (il, ih)) m1_ HLN.out HN8.out HIG.out).mono ?_); rintro e wk ⟨rfl, hb⟩; replace HM := MS.nx HM hb; clear hb; replace kgi := MS.c2 HM m0_; replace kgl := MS.c5 HM m1_; replace kgo := MS.c3 HM m2_))
                 go_meet
                 case rel => exact ⟨rfl, MS.sb HM (.cons _ (.refl _)) (.refl _)⟩
                ·
                 have IH := Aside0.mk IH_; clear IH_
                 have IF : Aside0 (itvHas il ih val = false) := ⟨by simpa using IH.out⟩
                 have kgi := MS.c2 HM m0_
                 go_wp2_with (first | (go_at_call 28; (with_reducible refine (rplace_as (Oc.now HX (MS.bel HM)) (Below.refl _ _) rfl LK.out lx HPI.out).mono ?_); rintro e wk ⟨rfl, hb⟩; replace HM := MS.nx HM hb; clear hb; replace kgi := MS.c2 HM m0_; replace kgl := MS.c5 HM m1_; replace kgo := MS.c3 HM m2_) | (go_at_call 34; (with_reducible refine (itvHas_as IF.out).mono ?_); rintro e wk ⟨rfl, hb⟩; replace HM := MS.nx HM hb; clear hb; replace kgi := MS.c2 HM m0_; replace kgl := MS.c5 HM m1_; replace kgo := MS.c3 HM m2_))
                 go_meet
                 case rel => exact ⟨rfl, HM⟩
               ·
                have T := Aside0.mk T_; clear T_
                have t2 : (sy == 0) = false := beq_eq_false_iff_ne.2 T.out
                by_cases P2_ : 0 ≤ qI
                ·
                 have P2 := Aside0.mk P2_; clear P2_
                 have t4 : decide (0 ≤ qI) = true := decide_eq_true P2.out
                 by_cases IH_ : itvHas il ih val = true
                 ·
                  have IH := Aside0.mk IH_; clear IH_
                  have HIG : Aside0 (In X.v (guardF X.v X.m X.e lx sx y sy c il ih) l) := ⟨grd_in ON.out HVL.out HIN.out lx sx y sy c (il, ih) (fun ho => by rw [← HVF.out ho]; exact IH.out)⟩
                  have kgi := MS.c2 HM m0_
                  go_wp2_with (first | (go_at_call 28; (with_reducible refine (rplace_as (Oc.now HX (MS.bel HM)) (Below.refl _ _) rfl LK.out lx HPI.out).mono ?_); rintro e wk ⟨rfl, hb⟩; replace HM := MS.nx HM hb; clear hb; replace kgi := MS.c2 HM m0_; replace kgl := MS.c5 HM m1_; replace kgo := MS.c3 HM m2_) | (go_at_call 28; (with_reducible refine (rplace_as (Oc.now HX (MS.bel HM)) (Below.refl _ _) rfl LK.out y HQI.out).mono ?_); rintro e wk ⟨rfl, hb⟩; replace HM := MS.nx HM hb; clear hb; replace kgi := MS.c2 HM m0_; replace kgl := MS.c5 HM m1_; replace kgo := MS.c3 HM m2_) | (go_at_call 34; (with_reducible refine (itvHas_as IH.out).mono ?_); rintro e wk ⟨rfl, hb⟩; replace HM := MS.nx HM hb; clear hb; replace kgi := MS.c2 HM m0_; replace kgl := MS.c5 HM m1_; replace kgo := MS.c3 HM m2_) | (go_at_call 19; (with_reducible refine (guard_as (Oc.now HX (MS.bel HM)) (Below.refl _ _) rfl FX_.out lx sx y sy c il ih rfl).mono ?_); rintro e wk ⟨gz, rfl, hgz, ho, hb⟩; replace HM := MS.cl HM hb ho; clear ho hb; replace kgi := MS.c2 HM m0_; replace kgl := MS.c5 HM m1_; replace kgo := MS.c3 HM m2_) | (go_at_call 33; (with_reducible refine (ohas_ms HM m0_ hgz (grd_on ON.out lx sx y sy c (il, ih)) m1_ HLN.out HN8.out HIG.out).mono ?_); rintro e wk ⟨rfl, hb⟩; replace HM := MS.nx HM hb; clear hb; replace kgi := MS.c2 HM m0_; replace kgl := MS.c5 HM m1_; replace kgo := MS.c3 HM m2_))
                  go_meet
                  case rel => exact ⟨rfl, MS.sb HM (.cons _ (.refl _)) (.refl _)⟩
                 ·
                  have IH := Aside0.mk IH_; clear IH_
                  have IF : Aside0 (itvHas il ih val = false) := ⟨by simpa using IH.out⟩
                  have kgi := MS.c2 HM m0_
                  go_wp2_with (first | (go_at_call 28; (with_reducible refine (rplace_as (Oc.now HX (MS.bel HM)) (Below.refl _ _) rfl LK.out lx HPI.out).mono ?_); rintro e wk ⟨rfl, hb⟩; replace HM := MS.nx HM hb; clear hb; replace kgi := MS.c2 HM m0_; replace kgl := MS.c5 HM m1_; replace kgo := MS.c3 HM m2_) | (go_at_call 28; (with_reducible refine (rplace_as (Oc.now HX (MS.bel HM)) (Below.refl _ _) rfl LK.out y HQI.out).mono ?_); rintro e wk ⟨rfl, hb⟩; replace HM := MS.nx HM hb; clear hb; replace kgi := MS.c2 HM m0_; replace kgl := MS.c5 HM m1_; replace kgo := MS.c3 HM m2_) | (go_at_call 34; (with_reducible refine (itvHas_as IF.out).mono ?_); rintro e wk ⟨rfl, hb⟩; replace HM := MS.nx HM hb; clear hb; replace kgi := MS.c2 HM m0_; replace kgl := MS.c5 HM m1_; replace kgo := MS.c3 HM m2_))
                  go_meet
                  case rel => exact ⟨rfl, HM⟩
                ·
                 have P2 := Aside0.mk P2_; clear P2_
                 have t4 : decide (0 ≤ qI) = false := decide_eq_false P2.out
                 have kgi := MS.c2 HM m0_
                 go_wp2_with (first | (go_at_call 28; (with_reducible refine (rplace_as (Oc.now HX (MS.bel HM)) (Below.refl _ _) rfl LK.out lx HPI.out).mono ?_); rintro e wk ⟨rfl, hb⟩; replace HM := MS.nx HM hb; clear hb; replace kgi := MS.c2 HM m0_; replace kgl := MS.c5 HM m1_; replace kgo := MS.c3 HM m2_) | (go_at_call 28; (with_reducible refine (rplace_as (Oc.now HX (MS.bel HM)) (Below.refl _ _) rfl LK.out y HQI.out).mono ?_); rintro e wk ⟨rfl, hb⟩; replace HM := MS.nx HM hb; clear hb; replace kgi := MS.c2 HM m0_; replace kgl := MS.c5 HM m1_; replace kgo := MS.c3 HM m2_))
                 go_meet
                 case rel => exact ⟨rfl, HM⟩
              ·
               have P := Aside0.mk P_; clear P_
               have t3 : decide (0 ≤ pI) = false := decide_eq_false P.out
               have kgi := MS.c2 HM m0_
               go_wp2_with (first | (go_at_call 28; (with_reducible refine (rplace_as (Oc.now HX (MS.bel HM)) (Below.refl _ _) rfl LK.out lx HPI.out).mono ?_); rintro e wk ⟨rfl, hb⟩; replace HM := MS.nx HM hb; clear hb; replace kgi := MS.c2 HM m0_; replace kgl := MS.c5 HM m1_; replace kgo := MS.c3 HM m2_))
               go_meet
               case rel => exact ⟨rfl, HM⟩
            case rest =>
             clear HM; clear kgl kgo
             obtain ⟨rfl, HM⟩ := hcut
             as_aux_lemma =>
              clear HPI HQI
              go_upto_region 29 with (first | ((with_reducible refine gate_dst (N := 192) rfl ?_); refine Kd.R_make (Kd.int .i64) _ 2 rfl (N := 192) rfl 23 _ _ rfl (ln : Int) rfl rfl Try.underlying23 (.int .i64 0) 8 info2 rfl (by decide) (by omega) 0 (ok := fun _ => True) (okp := fun _ => True) rfl (fun _ hk => hk) trivial (by omega) (by have := HN8.out; omega) (Below.refl _ _) (Nat.le_refl _) ?_; intro v1 wk ho hb hg hn; obtain ⟨Qw, qw, m, rfl, HML, HMZ, HM_⟩ := MS.mkd (n := ln) HM ho hb; clear HM; have HM := HM_; clear HM_; clear ho hb hg hn))
              have kgl := MS.c5 HM m1_; have kgo := MS.c3 HM m2_
              go_wp2
              go_loopg [20] ln (fun kq v20 w' => ∃ (j : Int) (m : List Int), v20 = .int .i64 j ∧ Aside0 (0 ≤ j ∧ j + (kq : Int) = (ln : Int)) ∧ Aside0 (m.length = ln) ∧ Aside0 (∀ k : Nat, (k : Int) < j → rd m (k : Int) = rd l (k : Int)) ∧ Aside0 (MS w [rV Qw qw m, rV Q q l] [(gi, iC il ih), (gl, lC lx sx y sy c), (go, X.cells)] w'))
              case atStart => exact ⟨0, m, by rfl, ⟨by omega⟩, HML, ⟨fun k h => absurd h (by omega)⟩, ⟨MS.to HM⟩⟩
              case round =>
               clear HM HML HMZ; clear kgl kgo
               obtain ⟨j, m, rfl, HJ, HML, HMC, HM⟩ := hrel
               cases gk with
               | zero =>
                have q1 : (decide (j < (ln : Int))) = false := decide_eq_false (by have := HJ.out; omega)
                have HE : l = m := row_eq HLN.out HML.out (fun i hi => (HMC.out i (by have := HJ.out; omega)).symm)
                subst HE; clear HMC HJ
                obtain ⟨pI, hpi⟩ : ∃ p, placeF X.v x = p := ⟨_, rfl⟩; have HPI := Aside0.mk hpi; clear hpi; have PLT : Aside0 (pI < (ln : Int)) := ⟨by rw [← HPI.out, HNE.out]; exact (placeF_lt X.v x).2⟩
                have kgo := MS.c3 HM m2_
                go_upto_region 34 with (first | (go_at_call 28; (with_reducible refine (rplace_as (Oc.now HX (MS.bel HM)) (Below.refl _ _) rfl LK.out x HPI.out).mono ?_); rintro e wk ⟨rfl, hb⟩; replace HM := MS.nx HM hb; clear hb; replace kgo := MS.c3 HM m2_))
                clear q1
                have kgi := MS.c2 HM m0_; have kgl := MS.c5 HM m1_
                go_upto_if 210 with fail
                (try simp only [Act.put, List.setIfInBounds_toArray, List.set_cons_zero, List.set_cons_succ])
                go_cut [19] from 22 (fun v19 wc => ∃ (Qw : Option Addr) (u : List Int), v19 = .slice Qw ln qw ∧ Aside0 (u.length = ln) ∧ Aside0 (But pI.toNat l u) ∧ Aside0 (pI < 0 → u = l) ∧ Aside0 (Vl X.v.length u) ∧ Aside0 (0 ≤ pI → rd u pI = val) ∧ Aside0 (MS w [rV Qw qw u, rV Q q l] [(gi, iC il ih), (gl, lC lx sx y sy c), (go, X.cells)] wc))
                case first =>
                 by_cases P_ : 0 ≤ pI
                 ·
                  have P := Aside0.mk P_; clear P_
                  have t1 : decide (0 ≤ pI) = true := decide_eq_true P.out; have n1 : ¬ pI < 0 := by have := P.out; omega 
                  have p0 := eq_true P.out; have p1 := eq_true PLT.out
                  obtain ⟨bw, rfl⟩ := MS.plr HM m0_ (by have := HLN.out; have := P.out; have := PLT.out; omega)
                  obtain ⟨hy0, hfy⟩ := MS.cer HM m0_ pI P.out (by rw [HLN.out]; exact PLT.out)
                  replace kgi := MS.c2 HM m0_; replace kgl := MS.c5 HM m1_; replace kgo := MS.c3 HM m2_
                  go_wp2
                  go_meet
                  case rel => exact ⟨some ⟨bw, 0, none⟩, l.set pI.toNat val, rfl, ⟨by rw [List.length_set]; exact HLN.out⟩, ⟨but_set P.out (by rw [HLN.out]; exact PLT.out)⟩, ⟨fun h => absurd h (by have := P.out; omega)⟩, ⟨vl_set HVL.out P.out (by rw [← HNE.out]; exact PLT.out) HVB.out⟩, ⟨fun _ => by rw [rd_set P.out (by rw [HLN.out]; exact PLT.out) P.out, if_pos rfl]⟩, MS.pkr (i := pI) (u := val) HM (by have := HLN.out; have := P.out; have := PLT.out; omega)⟩
                 ·
                  have P := Aside0.mk P_; clear P_
                  have t1 : decide (0 ≤ pI) = false := decide_eq_false P.out
                  have n1 : ¬ 0 ≤ pI := P.out
                  replace kgi := MS.c2 HM m0_; replace kgl := MS.c5 HM m1_; replace kgo := MS.c3 HM m2_
                  go_wp2
                  go_meet
                  case rel => exact ⟨Qw, l, rfl, HLN, ⟨but_refl _ _⟩, ⟨fun _ => rfl⟩, HVL, ⟨fun h => absurd h (by have := P.out; omega)⟩, HM⟩
                case rest =>
                 clear HM; clear kgi kgl kgo
                 obtain ⟨Qw, u, rfl, HUL, HUB, HU0, HUV, HUX, HM⟩ := hcut
                 as_aux_lemma =>
                  have HIA : Aside0 (In X.v (assignF X.v X.m X.e x lx sx y sy c) u) := ⟨asg_in ON.out HVL.out HUV.out HIN.out x lx sx y sy c (by rw [HPI.out]; exact HUB.out) (by rw [HPI.out]; exact HU0.out) (by rw [HPI.out]; exact fun h ho => (HUX.out h).trans (HVF.out ho))⟩
                  have HIF : Aside0 (In X.v (forgetF X.v X.m X.e x) u) := ⟨fgt_in ON.out HVL.out HUV.out HIN.out x (by rw [HPI.out]; exact HU0.out) (by rw [HPI.out]; exact HUB.out)⟩
                  have HIL : Aside0 (In X.v (forgetF X.v X.m X.e x) l) := ⟨fgt_in ON.out HVL.out HVL.out HIN.out x (fun _ => rfl) (but_refl _ _)⟩
                  have kgl := MS.c5 HM m1_; have kgo := MS.c3 HM m2_
                  go_wp2_with (first | (go_at_call 21; (with_reducible refine (assign_as (Oc.now HX (MS.bel HM)) (Below.refl _ _) rfl FX_.out x lx sx y sy c rfl).mono ?_); rintro e wk ⟨az, rfl, haz, ho, hb⟩; replace HM := MS.cl HM hb ho; clear ho hb; replace kgl := MS.c5 HM m1_; replace kgo := MS.c3 HM m2_) | (go_at_call 15; (with_reducible refine (forget_as (Oc.now HX (MS.bel HM)) (Below.refl _ _) rfl FX_.out x rfl).mono ?_); rintro e wk ⟨fz, rfl, hfz, ho, hb⟩; replace HM := MS.cl HM hb ho; clear ho hb; replace kgl := MS.c5 HM m1_; replace kgo := MS.c3 HM m2_) | (go_at_call 33; (with_reducible refine (ohas_ms HM m0_ haz (asg_on ON.out x lx sx y sy c) m1_ HUL.out HN8.out HIA.out).mono ?_); rintro e wk ⟨rfl, hb⟩; replace HM := MS.nx HM hb; clear hb; replace kgl := MS.c5 HM m1_; replace kgo := MS.c3 HM m2_) | (go_at_call 33; (with_reducible refine (ohas_ms HM m0_ hfz (fgt_on ON.out x) m2_ HUL.out HN8.out HIF.out).mono ?_); rintro e wk ⟨rfl, hb⟩; replace HM := MS.nx HM hb; clear hb; replace kgl := MS.c5 HM m1_; replace kgo := MS.c3 HM m2_) | (go_at_call 33; (with_reducible refine (ohas_ms HM m0_ hfz (fgt_on ON.out x) m4_ HLN.out HN8.out HIL.out).mono ?_); rintro e wk ⟨rfl, hb⟩; replace HM := MS.nx HM hb; clear hb; replace kgl := MS.c5 HM m1_; replace kgo := MS.c3 HM m2_) | (go_at_call 13; (with_reducible refine (AW _).mono ?_); rintro e wk ⟨rfl, hb⟩; replace HM := MS.nx HM hb; clear hb; replace kgl := MS.c5 HM m1_; replace kgo := MS.c3 HM m2_))
                  go_ret
                  exact ⟨rfl, MS.bel HM⟩
               | succ j_ =>
                have q1 : (decide (j < (ln : Int))) = true := decide_eq_true (by have := HJ.out; omega)
                have P0 : Aside0 (0 ≤ j) := ⟨HJ.out.1⟩
                have P1 : Aside0 (j < (ln : Int)) := ⟨by have := HJ.out; omega⟩
                have p0 := eq_true P0.out; have p1 := eq_true P1.out
                obtain ⟨bw, rfl⟩ := MS.plr HM m0_ (by have := HML.out; have := P0.out; have := P1.out; omega)
                obtain ⟨bv, rfl⟩ := MS.plr HM m1_ (by have := HLN.out; have := P0.out; have := P1.out; omega)
                obtain ⟨hx0, hfx⟩ := MS.cer HM m1_ j P0.out (by rw [HLN.out]; exact P1.out); obtain ⟨hy0, hfy⟩ := MS.cer HM m0_ j P0.out (by rw [HML.out]; exact P1.out)
                have kgl := MS.c5 HM m1_; have kgo := MS.c3 HM m2_
                go_wp2
                clear q1 p0 p1 hx0 hfx hy0 hfy
                have HN_ := MS.pkr (i := j) (u := rd l j) HM (by rw [HML.out]; have := P0.out; have := P1.out; omega)
                go_roundg j_
                case measure => exact Nat.lt_succ_self _
                case rel =>
                 have hw : wrap64 (j + 1) = j + 1 := by have := P0.out; have := P1.out; have := HN8.out; unfold wrap64; omega
                 exact ⟨wrap64 (j + 1), m.set j.toNat (rd l j), rfl, ⟨by rw [hw]; have := HJ.out; omega⟩, ⟨by rw [List.length_set]; exact HML.out⟩, ⟨by rw [hw]; exact copy_at HML.out P0.out P1.out HMC.out⟩, HN_⟩
           | succ j_ =>
            have q1 : (decide (j < (ln : Int))) = true := decide_eq_true (by have := HJ.out; omega)
            have P0 : Aside0 (0 ≤ j) := ⟨HJ.out.1⟩; have P1 : Aside0 (j < (ln : Int)) := ⟨by have := HJ.out; omega⟩; have P2 : Aside0 (j < (X.v.length : Int)) := ⟨by have := HNE.out; have := HJ.out; omega⟩
            have p0 := eq_true P0.out; have p1 := eq_true P1.out; have p2 := eq_true P2.out
            obtain ⟨ba, rfl⟩ := MS.plr HM m0_ (by rw [HAI.out.1]; decide)
            obtain ⟨bv, rfl⟩ := MS.plr HM m1_ (by have := HLN.out; have := P0.out; have := P1.out; omega)
            obtain ⟨hy0, hfy⟩ := MS.cer HM m1_ j P0.out (by rw [HLN.out]; exact P1.out)
            obtain ⟨ad, ea, hx0⟩ := Kd.at_int ((Oc.now HX (MS.bel HM)).r0.reads (Below.refl _ _)) j P0.out P2.out; have EA := Aside0.mk ea
            by_cases C1_ : 63 < rd X.v j
            ·
             have C1 := Aside0.mk C1_; clear C1_
             have c1 : decide (63 < rd X.v j) = true := decide_eq_true C1.out
             have kgi := MS.c2 HM m0_; have kgl := MS.c5 HM m1_; have kgo := MS.c3 HM m2_
             go_wp2_with (first | (go_at_call 13; (with_reducible refine (AW _).mono ?_); rintro e wk ⟨rfl, hb⟩; replace HM := MS.nx HM hb; clear hb; replace kgi := MS.c2 HM m0_; replace kgl := MS.c5 HM m1_; replace kgo := MS.c3 HM m2_))
             go_ret
             exact ⟨rfl, MS.bel HM⟩
            ·
             have C1 := Aside0.mk C1_; clear C1_
             have c1 : decide (63 < rd X.v j) = false := decide_eq_false C1.out
             by_cases C2_ : 17179869184 < rd l j
             ·
              have C2 := Aside0.mk C2_; clear C2_
              have c2 : decide (17179869184 < rd l j) = true := decide_eq_true C2.out
              have kgi := MS.c2 HM m0_; have kgl := MS.c5 HM m1_; have kgo := MS.c3 HM m2_
              go_wp2_with (first | (go_at_call 13; (with_reducible refine (AW _).mono ?_); rintro e wk ⟨rfl, hb⟩; replace HM := MS.nx HM hb; clear hb; replace kgi := MS.c2 HM m0_; replace kgl := MS.c5 HM m1_; replace kgo := MS.c3 HM m2_))
              go_ret
              exact ⟨rfl, MS.bel HM⟩
             ·
              have C2 := Aside0.mk C2_; clear C2_
              have c2 : decide (17179869184 < rd l j) = false := decide_eq_false C2.out
              by_cases C3_ : rd l j < -17179869184
              ·
               have C3 := Aside0.mk C3_; clear C3_
               have c3 : decide (rd l j < -17179869184) = true := decide_eq_true C3.out
               have kgi := MS.c2 HM m0_; have kgl := MS.c5 HM m1_; have kgo := MS.c3 HM m2_
               go_wp2_with (first | (go_at_call 13; (with_reducible refine (AW _).mono ?_); rintro e wk ⟨rfl, hb⟩; replace HM := MS.nx HM hb; clear hb; replace kgi := MS.c2 HM m0_; replace kgl := MS.c5 HM m1_; replace kgo := MS.c3 HM m2_))
               go_ret
               exact ⟨rfl, MS.bel HM⟩
              ·
               have C3 := Aside0.mk C3_; clear C3_
               have c3 : decide (rd l j < -17179869184) = false := decide_eq_false C3.out
               have kgo := MS.c3 HM m2_
               go_upto_region 24 with fail
               have V0 : Aside0 (0 ≤ rd X.v j) := ⟨(FX_.out.1.2 j P0.out P2.out).1⟩; have V1 : Aside0 (rd X.v j < 64) := ⟨by have := C1.out; omega⟩; have s0 := eq_true V0.out; have s1 := eq_true V1.out
               clear hy0 hfy hx0 ea c1 c2 c3
               replace HM := MS.dr HM
               clear kgo
               refine st_ 12 (fun w' => True ∧ w'.cell? ⟨go, 0, none⟩ = some (.slice (some ad) X.v.length X.p) ∧ w'.cell? (ad.add j.toNat) = some (.int .i64 (rd X.v j)) ∧ w'.cell? ⟨bv, j.toNat, none⟩ = some (.int .i64 (rd l j))) [11] ⟨trivial, (EA.out ▸ MS.k HM m2_ 0 rfl), (by obtain ⟨_, e_, h_⟩ := Kd.at_int ((Oc.now HX HM.out.S.below).r0.reads (Below.refl _ _)) j P0.out P2.out; cases EA.out.symm.trans e_; exact h_), (MS.cer HM m1_ j P0.out (by rw [HLN.out]; exact P1.out)).1⟩ (fun hHeld => ?_)
               refine with_tabW keeps_tab24 keeps_bits24 (fun HT_ HW_ => ?_)
               generalize World.drew _ = wk at HM hHeld ⊢
               refine pV_ 0 140 (mB 12 1) HT_ ?_
               refine pV_ 1 141 (mB 12 3) HT_ ?_
               refine tV_ 2 142 (mB 12 7) HT_ HW_ hHeld ?_
               refine pV_ 3 143 (mB 12 15) HT_ ?_
               refine pV_ 4 144 (mB 12 31) HT_ ?_
               refine tV_ 5 145 (mB 12 63) HT_ HW_ hHeld ?_
               refine pV_ 6 146 (mB 12 127) HT_ ?_
               refine pV_ 7 147 (mB 12 255) HT_ ?_
               refine pV_ 8 148 (mB 12 511) HT_ ?_
               refine tV_ 9 149 (mB 12 1023) HT_ HW_ hHeld ?_
               obtain ⟨hy0, hfy⟩ := MS.cer HM m0_ (rd X.v j) V0.out (by rw [HAI.out.1]; exact V1.out)
               refine pV_ 10 150 (mB 12 2047) HT_ ?_
               have kgi := MS.c2 HM m0_; have kgl := MS.c5 HM m1_; have kgo := MS.c3 HM m2_
               refine la_ 11 (mB 12 4095) HT_ (fun K hK => ?_)
               refine skip_ (w1 := ?_) (by rfl) rfl ?_ ?_
               rotate_left
               ·
                go_simp
                rfl
               refine hK.out _ _ ?_
               clear hK K
               refine dn_ HT_ ?_
               clear HT_ HW_ hHeld
               clear hy0 hfy q1 p0 p1 p2 s0 s1
               have HN_ := MS.pkr (i := rd X.v j) (u := rd l j) HM (by rw [HAI.out.1]; decide)
               try go_wp2
               go_roundg j_
               case measure => exact Nat.lt_succ_self _
               case rel =>
                have hw : wrap64 (j + 1) = j + 1 := by have := P0.out; have := P1.out; have := HN8.out; unfold wrap64; omega
                exact ⟨wrap64 (j + 1), la.set (rd X.v j).toNat (rd l j), rfl, ⟨by rw [hw]; have := HJ.out; omega⟩, ⟨by rw [hw]; exact all_step FX_.out.1 HAI.out P0.out P2.out (by have := C1.out; omega) (by have := C2.out; have := C3.out; omega)⟩, HN_⟩
         ·
          have TB := Aside0.mk TB_; clear TB_
          have TF : Aside0 (hasB X.v X.m X.e l = false) := ⟨by simpa using TB.out⟩
          have kgi := MS.c2 HM m0_; have kgl := MS.c5 HM m1_; have kgo := MS.c3 HM m2_
          go_wp2_with (first | (go_at_call 32; (with_reducible refine (rhas_ms HM HX rfl FX_.out m0_ HLN.out HVL.out TF.out).mono ?_); rintro e wk ⟨rfl, hb⟩; replace HM := MS.nx HM hb; clear hb; replace kgi := MS.c2 HM m0_; replace kgl := MS.c5 HM m1_; replace kgo := MS.c3 HM m2_) | (go_at_call 13; (with_reducible refine (AW _).mono ?_); rintro e wk ⟨rfl, hb⟩; replace HM := MS.nx HM hb; clear hb; replace kgi := MS.c2 HM m0_; replace kgl := MS.c5 HM m1_; replace kgo := MS.c3 HM m2_))
          go_ret
          exact ⟨rfl, MS.bel HM⟩
     ·
      have HN_ := Aside0.mk HN__; clear HN__
      have HNR : Aside0 (nearB cm = false) := ⟨by simpa using HN_.out⟩
      have kgi := MS.c2 HM m0_; have kgl := MS.c5 HM m1_; have kgo := MS.c3 HM m2_
      go_wp2_with (first | (go_at_call 12; (with_reducible refine (rfit_o (Oc.now HX (MS.bel HM)) (Below.refl _ _) LX.out HFX.out).mono ?_); rintro e wk ⟨rfl, hb⟩; replace HM := MS.nx HM hb; clear hb; replace kgi := MS.c2 HM m0_; replace kgl := MS.c5 HM m1_; replace kgo := MS.c3 HM m2_) | (go_at_call 36; (with_reducible refine (ffit_as HLF.out).mono ?_); rintro e wk ⟨rfl, hb⟩; replace HM := MS.nx HM hb; clear hb; replace kgi := MS.c2 HM m0_; replace kgl := MS.c5 HM m1_; replace kgo := MS.c3 HM m2_) | (go_at_call 38; (with_reducible refine (rclose_as (Oc.now HX (MS.bel HM)) (Below.refl _ _) rfl FX_.out HC.out).mono ?_); rintro e wk ⟨cz, rfl, hcz, ho, hb⟩; replace HM := MS.cl HM hb ho; clear ho hb; replace kgi := MS.c2 HM m0_; replace kgl := MS.c5 HM m1_; replace kgo := MS.c3 HM m2_) | (go_at_call 37; (with_reducible refine (near_b (MS.oc HM m0_) (MS.bel HM) hcz FC.out HNR.out).mono ?_); rintro e wk ⟨rfl, hb⟩; replace HM := MS.nx HM hb; clear hb; replace kgi := MS.c2 HM m0_; replace kgl := MS.c5 HM m1_; replace kgo := MS.c3 HM m2_) | (go_at_call 13; (with_reducible refine (AW _).mono ?_); rintro e wk ⟨rfl, hb⟩; replace HM := MS.nx HM hb; clear hb; replace kgi := MS.c2 HM m0_; replace kgl := MS.c5 HM m1_; replace kgo := MS.c3 HM m2_))
      go_ret
      exact ⟨rfl, MS.bel HM⟩
  ·
   have HL_ := Aside0.mk HL__; clear HL__
   have HLF : Aside0 (lfitB lx sx y sy c = false) := ⟨by simpa using HL_.out⟩
   have kgi := MS.c2 HM m0_; have kgl := MS.c5 HM m1_; have kgo := MS.c3 HM m2_
   go_wp2_with (first | (go_at_call 12; (with_reducible refine (rfit_o (Oc.now HX (MS.bel HM)) (Below.refl _ _) LX.out HFX.out).mono ?_); rintro e wk ⟨rfl, hb⟩; replace HM := MS.nx HM hb; clear hb; replace kgi := MS.c2 HM m0_; replace kgl := MS.c5 HM m1_; replace kgo := MS.c3 HM m2_) | (go_at_call 36; (with_reducible refine (ffit_as HLF.out).mono ?_); rintro e wk ⟨rfl, hb⟩; replace HM := MS.nx HM hb; clear hb; replace kgi := MS.c2 HM m0_; replace kgl := MS.c5 HM m1_; replace kgo := MS.c3 HM m2_) | (go_at_call 13; (with_reducible refine (AW _).mono ?_); rintro e wk ⟨rfl, hb⟩; replace HM := MS.nx HM hb; clear hb; replace kgi := MS.c2 HM m0_; replace kgl := MS.c5 HM m1_; replace kgo := MS.c3 HM m2_))
   go_ret
   exact ⟨rfl, MS.bel HM⟩
 ·
  have HFT := Aside0.mk HFT_; clear HFT_
  have HFX : Aside0 (ofitB X.v X.m X.e = false) := ⟨by simpa using HFT.out⟩
  have kgi := MS.c2 HM m0_; have kgl := MS.c5 HM m1_; have kgo := MS.c3 HM m2_
  go_wp2_with (first | (go_at_call 12; (with_reducible refine (rfit_o (Oc.now HX (MS.bel HM)) (Below.refl _ _) LX.out HFX.out).mono ?_); rintro e wk ⟨rfl, hb⟩; replace HM := MS.nx HM hb; clear hb; replace kgi := MS.c2 HM m0_; replace kgl := MS.c5 HM m1_; replace kgo := MS.c3 HM m2_) | (go_at_call 13; (with_reducible refine (AW _).mono ?_); rintro e wk ⟨rfl, hb⟩; replace HM := MS.nx HM hb; clear hb; replace kgi := MS.c2 HM m0_; replace kgl := MS.c5 HM m1_; replace kgo := MS.c3 HM m2_))
  go_ret
  exact ⟨rfl, MS.bel HM⟩
theorem octopKeeps_walk (X : OV) (x lx sx y sy c il ih : Int) (PA : Option Addr) (pc : Nat) (pl : List Int) (w : World) (hX : Oc w w X) (hp : Kd.C (Kd.int .i64) w PA pl.length pl) (hc : pl.length ≤ pc) (lenx : X.v.length ≤ 17592186044416) (lenp : pl.length ≤ 17592186044416) : Says 8 #[X.val, .int .i64 x, lV lx sx y sy c, iV il ih, .slice PA pl.length pc] w (.bool true) := keeps_w awake_o X x lx sx y sy c il ih PA pc pl ⟨hX⟩ ⟨⟨⟨Nat.zero_le _, .inl (Kd.C_nil _ _)⟩, ⟨hc, .inl hp⟩⟩⟩ ⟨lenx⟩ ⟨lenp⟩
end Go.Proofs.Ytphfchbggechhaa.QO
end
end
section
namespace Go.Proofs.Ytphfchbggechhaa.Open
open Go.RowKit Go.ChangeShapes Go.WideShapes YtphfchbggechhaaW.PrintWords YtphfchbggechhaaW.PrintMore
def Opens {α : Type} (P : Program) (t : TypeId) (R : World → α → List Value → Prop) (Q : α → Prop) : Prop :=
 ∀ (H : Type) (enc : TypeId × Value → H) (w : World) (base : Nat) (spare : Nat → Bool) (held : Bool) (fuel : Nat) (cs : List Value) (x : DataW H × List MemPlace),
  DataW.trod enc P w base spare held fuel t cs = some x → (∀ n ∈ DataW.weights P t x.1, n ≤ 140737488351232) → ∃ a : α, R w a cs ∧ Q a
variable {P : Program} {t e : TypeId}
theorem opens_int {k : IntKind} (ht : P.underlying t = some (.int k)) : Opens P t (Kd.int k).K (fun n => (Lit.int k n).wf = true) := by
 intro H enc w base spare held fuel cs x h _
 obtain ⟨n, rfl, _, hw⟩ := DataW.trod_int ht h
 exact ⟨n, rfl, hw⟩
theorem opens_bool (ht : P.underlying t = some .bool) : Opens P t Kd.bool.K (fun _ => True) := by
 intro H enc w base spare held fuel cs x h _
 obtain ⟨n, rfl, _⟩ := DataW.trod_bool ht h
 exact ⟨n, rfl, trivial⟩
theorem weightsAll_mem {H : Type} {l : List (DataW H)} {d : DataW H} (hd : d ∈ l) {n : Nat} (hn : n ∈ DataW.weights P e d) : n ∈ DataW.weightsAll P e l := by
 induction l with
 | nil => cases hd
 | cons y r ih =>
  unfold DataW.weightsAll
  rcases List.mem_cons.1 hd with rfl | h
  ·
   exact List.mem_append_left _ hn
  ·
   exact List.mem_append_right _ (ih h)
theorem weightsEach_mem {H : Type} : ∀ {ts : List TypeId} {l : List (DataW H)} {i : Nat} {t : TypeId} {d : DataW H}, ts[i]? = some t → l[i]? = some d → ∀ {n : Nat}, n ∈ DataW.weights P t d → n ∈ DataW.weightsEach P ts l
 | [], _, i, _, _, h, _, _, _ => by simp at h
 | _ :: _, [], i, _, _, _, h, _, _ => by simp at h
 | t' :: ts, d' :: l, 0, t, d, h1, h2, n, hn => by
  simp at h1 h2; subst h1; subst h2
  unfold DataW.weightsEach; exact List.mem_append_left _ hn
 | t' :: ts, d' :: l, i + 1, t, d, h1, h2, n, hn => by
  simp at h1 h2
  unfold DataW.weightsEach; exact List.mem_append_right _ (weightsEach_mem h1 h2 hn)
theorem all_some {α β : Type} {Q : Nat → α → β → Prop} : ∀ (xs : List β) (_ : ∀ i y, xs[i]? = some y → ∃ a, Q i a y), ∃ l : List α, l.length = xs.length ∧ ∀ i a, l[i]? = some a → ∃ y, xs[i]? = some y ∧ Q i a y
 | [], _ => ⟨[], rfl, fun i a h => by simp at h⟩
 | y :: r, h => by
  obtain ⟨a0, h0⟩ := h 0 y rfl
  obtain ⟨l, hl, hr⟩ := all_some (Q := fun i a y => Q (i + 1) a y) r (fun i y hy => h (i + 1) y (by simpa using hy))
  refine ⟨a0 :: l, by simp [hl], fun i a hi => ?_⟩
  cases i with
  | zero => simp at hi; subst hi; exact ⟨y, rfl, h0⟩
  | succ i => obtain ⟨z, hz, hq⟩ := hr i a (by simpa using hi); exact ⟨z, by simpa using hz, hq⟩
theorem opens_slice {α : Type} {d : Kd α} {Q : α → Prop} {B : Nat} (ht : P.underlying t = some (.slice e)) (hs : P.cellsOf e = d.sz) (hB : P.bytesOf e = B) (ho : Opens P e d.K Q) :
 Opens P t (Kd.slice e d).K (fun l => l.length * B ≤ 140737488351232 ∧ l.length ≤ maxLen ∧ ∀ x ∈ l, Q x) := by
 intro H enc w base spare held fuel cs x h hw
 rcases DataW.trod_slice ht h with ⟨rfl, _⟩ | ⟨a, len, cap, elems, rest, n, _, rfl, rfl, hb, hl, hc, hlen, hel, _, _⟩
 ·
  exact ⟨[], ⟨none, 0, rfl, Nat.le_refl _, ⟨rfl, by simp, fun h => absurd h (by simp)⟩⟩, by simp, by simp, fun x hx => by cases hx⟩
 ·
  have hwt : ∀ m ∈ DataW.weights P t (.slice (elems.map (·.1)) (rest.map (·.1))), m ≤ 140737488351232 := hw
  have each : ∀ i y, elems[i]? = some y → ∃ a' : α, (∃ c : List Value, c.length = d.sz ∧ d.K w a' c ∧ ∀ j u, c[j]? = some u → w.cell? (a.add (i * d.sz + j)) = some u) ∧ Q a' := by
   intro i y hy
   have hi : i < len := by rw [← hlen]; exact (List.getElem?_eq_some_iff.1 hy).1
   have h1 := hel i hi
   rw [hy] at h1
   obtain ⟨c, hc1, hc2⟩ := Option.bind_eq_some_iff.1 h1
   obtain ⟨a', hk, hq⟩ := ho H enc w base spare held n c y hc2 (fun m hm => hwt m (by
    simp only [DataW.weights, ht]
    exact List.mem_cons_of_mem _ (List.mem_append_left _ (weightsAll_mem (List.mem_map_of_mem (List.mem_of_getElem? hy)) hm))))
   refine ⟨a', ⟨c, d.K_len hk, hk, fun j u hj => ?_⟩, hq⟩
   unfold World.cells? at hc1
   split at hc1
   ·
    have hlc := mapM_some_length hc1
    have hj' : j < P.cellsOf e := by have := (List.getElem?_eq_some_iff.1 hj).1; rw [List.length_range] at hlc; omega
    have := mapM_some_get hc1 j j (by simp [hj'])
    rw [hj] at this
    rw [← hs, ← Addr.add_add]
    exact this
   ·
    cases hc1
  obtain ⟨l, hll, hlr⟩ := all_some elems each
  refine ⟨l, ⟨some a, cap, ?_, by omega, ⟨rfl, ?_, fun _ => ⟨a, rfl, fun j p hj => ?_⟩⟩⟩, ?_, by omega, fun x hx => ?_⟩
  ·
   rw [hll, hlen]
  ·
   unfold maxLen at hc; omega
  ·
   obtain ⟨_, _, ⟨c, h1, h2, h3⟩, _⟩ := hlr j p hj
   exact ⟨c, h1, h2, h3⟩
  ·
   have := hwt (((elems.map (·.1)).length + (rest.map (·.1)).length) * P.bytesOf e) (by simp only [DataW.weights, ht]; exact List.mem_cons_self ..)
   rw [hB] at this
   simp only [List.length_map] at this
   rw [hll]
   exact Nat.le_trans (Nat.mul_le_mul_right _ (by omega)) this
  ·
   obtain ⟨i, hi⟩ := List.getElem?_of_mem hx
   obtain ⟨_, _, _, hq⟩ := hlr i x hi
   exact hq
theorem open_field {H : Type} {enc : TypeId × Value → H} {w : World} {base : Nat} {spare : Nat → Bool} {held : Bool} {fs : Array Field} {xs : List (DataW H × List MemPlace)} {n : Nat} {cs : List Value}
 (ht : P.underlying t = some (.struct fs)) (hw : ∀ m ∈ DataW.weights P t (.agg (xs.map (·.1))), m ≤ 140737488351232) (hx : xs.length = fs.size)
 (hf : ∀ (i : Nat) (f : Field), fs[i]? = some f → DataW.trod enc P w base spare held n f.type ((cs.drop f.offset).take (P.cellsOf f.type)) = xs[i]?)
 (i : Nat) (f : Field) (hi : fs[i]? = some f) (o s : Nat) (eo : f.offset = o) (es : P.cellsOf f.type = s) {α : Type} {R : World → α → List Value → Prop} {Q : α → Prop} (ho : Opens P f.type R Q) : ∃ a : α, R w a ((cs.drop o).take s) ∧ Q a := by
 have h1 := hf i f hi
 rw [eo, es] at h1
 have hlt : i < xs.length := by rw [hx]; exact (Array.getElem?_eq_some_iff.1 hi).1
 rw [List.getElem?_eq_getElem hlt] at h1
 refine ho H enc w base spare held n _ _ h1 (fun m hm => hw m ?_)
 simp only [DataW.weights, ht]
 refine weightsEach_mem (i := i) (t := f.type) (d := xs[i].1) ?_ ?_ hm
 ·
  simp only [List.getElem?_map, Array.getElem?_toList, hi, Option.map_some]
 ·
  simp only [List.getElem?_map, List.getElem?_eq_getElem hlt, Option.map_some]
theorem arg_slice {H : Type} {enc : TypeId × Value → H} {w : World} {base : Nat} {spare : Nat → Bool} {held : Bool} {v : Value} {dd : DataW H} {ps : List MemPlace} {α : Type} {d : Kd α} {Q : List α → Prop}
 (ho : Opens P t (Kd.slice e d).K Q) (h : DataW.Trod enc P w base spare held t v dd ps) (hw : ∀ m ∈ DataW.weights P t dd, m ≤ 140737488351232) (hv : ∃ a n c, v = .slice a n c) :
 ∃ A c l, v = .slice A l.length c ∧ l.length ≤ c ∧ Kd.C d w A l.length l ∧ Q l := by
 obtain ⟨fuel, hf⟩ := h
 obtain ⟨l, ⟨A, c, hc, hl, hr⟩, hq⟩ := ho H enc w base spare held fuel _ _ hf hw
 obtain ⟨a, n, c', rfl⟩ := hv
 simp [Value.cells] at hc
 obtain ⟨rfl, rfl, rfl⟩ := hc
 exact ⟨_, _, l, rfl, hl, hr, hq⟩
theorem weights_at {H : Type} {ts : List TypeId} {ds : List (DataW H)} (hsz : (DataW.weightsEach P ts ds).all (· ≤ reachBytes) = true) {j : Nat} {d : DataW H} (h1 : ts[j]? = some t) (h2 : ds[j]? = some d) : ∀ m ∈ DataW.weights P t d, m ≤ 140737488351232 := by
 intro m hm
 exact of_decide_eq_true (List.all_eq_true.1 hsz m (weightsEach_mem h1 h2 hm))
end Go.Proofs.Ytphfchbggechhaa.Open
end
