/- Own texts of this claim, joined: RBnd1, Awk12, Awake12, WalkOctopForgets, Open -/
import Derived.Test.YtphfchbggechhaaBOF0
import Derived.Test.YtphfchbggechhaaBOF3
import Derived.Test.YtphfchbggechhaaBOF4
import Derived.Test.YtphfchbggechhaaBOF5
import Derived.ChangeArms
import Derived.SizedLaws
section
noncomputable section
namespace Go.Proofs.Ytphfchbggechhaa.QO
open Go.RowKit Go.Shelf Go.Proofs.YtphfchbggechhaaW.PrintWords Go.Proofs.YtphfchbggechhaaW.PrintLast Go.Proofs.YtphfchbggechhaaW.PrintMore
open Go.Proofs.Ytphfchbggechhaa.Pure
attribute [local go_sem] Oper.semAt_some
attribute [local go_sem ↓] Go.wp_at_zero Go.wp_at_succ
set_option linter.unusedVariables false
set_option linter.unusedSimpArgs false
def rbnd_T11 : Bool × List (List Nat × List Nat) := (true, [([], []), ([0], [0]), ([1], [1]), ([], []), ([3], [3]), ([4], [4]), ([0, 1, 2], []), ([6, 2, 0, 1, 2], [2, 6]), ([0, 1, 2, 3, 4, 5, 6, 7], []), ([8, 5, 7, 0, 1, 2, 3, 4, 5, 6, 7], [5, 8])])
def rbnd_B11 : List Nat := [0, 1, 3, 0, 8, 24, 7, 71, 255, 511]
theorem rbnd_tab11 : rtab .any (opsOf Try.f50 11) = rbnd_T11 := by kernel_rfl
theorem rbnd_bits11 : waitsOk rbnd_T11.2 rbnd_B11 = true := by kernel_rfl
section
variable {w W : World} {x : OV} {v m : List Int} {e : Bool}
theorem rclose_as {a : List Int × List Int × Bool} (hx : Oc w W x) (hb : Below w.heap.size w W) (ho : x.o = (v, m, e)) (fx : OFit v m e) (ha : closeF v m e = a) :
    Calls Try.prog 38 #[x.val] W fun e W' => ∃ z : OV, e = .returned z.val ∧ z.o = a ∧ Own W W' z ∧ Below W.heap.size W W' := by
  obtain ⟨P, p, Q, q, v', m', e'⟩ := x
  cases ho
  obtain ⟨K, hK⟩ := close_ev fx
  rw [← ha]
  exact of_calls2 (gimbalref11_Close.calls K P p _ Q q _ _ _ _ _ W (hx.r0.reads hb) hx.r0.le (hx.r1.reads hb) hx.r1.le (hK K (Nat.le_refl _)))
theorem rplace_as {p : Int} (hx : Oc w W x) (hb : Below w.heap.size w W) (ho : x.o = (v, m, e)) (l : v.length ≤ 1000) (a : Int) (hp : placeF v a = p) : Says 28 #[x.val, .int .i64 a] W (.int .i64 p) := by
  obtain ⟨P, p, Q, q, v', m', e'⟩ := x
  cases ho
  rw [← hp]
  obtain ⟨K, hK⟩ := rplace_f v' m' e' a l
  exact gimbalref11_Place.calls K P p _ Q q _ _ a _ W (hx.r0.reads hb) hx.r0.le (hx.r1.reads hb) hx.r1.le (hK K (Nat.le_refl _))
theorem rgreatest_as {lx sx y sy c g : Int} {K : Nat} (hx : Oc w W x) (hb : Below w.heap.size w W) (ho : x.o = (v, m, e)) (hg : gimbalref11_greatest.f K v m e lx sx y sy c = some g) :
    Says 91 #[x.val, .agg #[.int .i64 lx, .int .i64 sx, .int .i64 y, .int .i64 sy, .int .i64 c]] W (.int .i64 g) := by
  obtain ⟨P, p, Q, q, v', m', e'⟩ := x
  cases ho
  exact gimbalref11_greatest.calls K P p _ Q q _ _ lx sx y sy c _ W (hx.r0.reads hb) hx.r0.le (hx.r1.reads hb) hx.r1.le hg
end
set_option maxHeartbeats 16000000 in
set_option maxRecDepth 100000 in
theorem rbound_one (X : OV) (lx sx c g1 g2 lo hi : Int) {l : List Int} {p K1 K2 : Nat} {w0 w : World} (hX : Oc w0 w X) (h0 : Below w0.heap.size w0 w) (fx : OFit X.v X.m X.e) (hc : closeF X.v X.m X.e = (X.v, l, false)) (hp : placeF X.v lx = (p : Int)) (hs : sx = 1 ∨ sx = -1)
    (hg1 : gimbalref11_greatest.f K1 X.v l false lx sx 0 0 c = some g1) (hg2 : gimbalref11_greatest.f K2 X.v l false lx (-sx) 0 0 c = some g2) (b1 : -1099511627776 ≤ g1 ∧ g1 ≤ 1099511627776) (b2 : -1099511627776 ≤ g2 ∧ g2 ≤ 1099511627776) (bc : -1099511627776 ≤ c ∧ c ≤ 1099511627776) (eh : g1 + c = hi) (el : c - g2 = lo) :
    Says 50 #[X.val, .agg #[.int .i64 lx, .int .i64 sx, .int .i64 0, .int .i64 0, .int .i64 c]] w (.agg #[.int .i64 lo, .int .i64 hi]) := by
  have hu25 := Try.underlying25
  have hu34 := Try.underlying34
  have hu36 := Try.underlying36
  have HX : Aside0 (Oc w w X) := ⟨⟨⟨hX.r0.le, .inl (hX.r0.reads h0)⟩, ⟨hX.r1.le, .inl (hX.r1.reads h0)⟩⟩⟩
  have FX_ := Aside0.mk fx
  have LK : Aside0 (X.v.length ≤ 1000) := ⟨by have := fx.1.1; omega⟩
  have HC := Aside0.mk hc
  have HP := Aside0.mk hp
  obtain ⟨sx', es⟩ : ∃ u, -sx = u := ⟨_, rfl⟩
  rw [es] at hg2
  have HG1 := Aside0.mk hg1
  have HG2 := Aside0.mk hg2
  have TSX : Aside0 ((sx != 0) = true) := ⟨by rcases hs with h | h <;> rw [h] <;> rfl⟩
  have TG1 : Aside0 ((g1 != 4611686018427387904) = true) := ⟨by simp; omega⟩
  have TG2 : Aside0 ((g2 != 4611686018427387904) = true) := ⟨by simp; omega⟩
  have WS1 : Aside0 (IntKind.i64.wrap (g1 + c) = hi ∧ wrap64 (g1 + c) = hi) := ⟨by rw [IntKind.wrap_i64]; omega, by unfold wrap64; omega⟩
  have WS2 : Aside0 (IntKind.i64.wrap (c - g2) = lo ∧ wrap64 (c - g2) = lo) := ⟨by rw [IntKind.wrap_i64]; omega, by unfold wrap64; omega⟩
  have WS : Aside0 (IntKind.i64.wrap (-sx) = sx') := ⟨by rw [← es]; unfold IntKind.wrap; simp [IntKind.bits, IntKind.signed]; omega⟩
  have WZ : Aside0 (IntKind.i64.wrap (-0) = 0 ∧ wrap64 0 = 0) := ⟨by decide, by unfold wrap64; decide⟩
  clear hX h0 fx hc hp hs hg1 hg2 b1 b2 bc eh el es
  go_enter Try.func50, Try.ntmps50
  go_upto_region 1 with fail
  have HM : Aside0 (MS w [] [(w.heap.size + 2, .cells #[.int .i64 0, .int .i64 0] 36 (0, 0)), (w.heap.size + 1, .cells #[.int .i64 lx, .int .i64 sx, .int .i64 0, .int .i64 0, .int .i64 c] 34 (0, 0)), (w.heap.size, .cells #[.slice X.P X.v.length X.p, .slice X.Q X.m.length X.q, .bool X.e] 25 (0, 0))] (((w.alloc (.cells #[.slice X.P X.v.length X.p, .slice X.Q X.m.length X.q, .bool X.e] 25 (0, 0))).alloc (.cells #[.int .i64 lx, .int .i64 sx, .int .i64 0, .int .i64 0, .int .i64 c] 34 (0, 0))).alloc (.cells #[.int .i64 0, .int .i64 0] 36 (0, 0)))) := ⟨(MS.new (MS.new (MS.new (MS.nil w) _ rfl) _ (by simp)) _ (by simp))⟩
  generalize hW_ : (((w.alloc (.cells #[.slice X.P X.v.length X.p, .slice X.Q X.m.length X.q, .bool X.e] 25 (0, 0))).alloc (.cells #[.int .i64 lx, .int .i64 sx, .int .i64 0, .int .i64 0, .int .i64 c] 34 (0, 0))).alloc (.cells #[.int .i64 0, .int .i64 0] 36 (0, 0))) = wk at HM ⊢; clear hW_
  generalize hg_ : w.heap.size + 2 = gr at HM ⊢; clear hg_
  generalize hg_ : w.heap.size + 1 = gl at HM ⊢; clear hg_
  generalize hg_ : w.heap.size = go at HM ⊢; clear hg_
  obtain ⟨kgr0, kgr1, fgr0, fgr1⟩ := MS.c2 HM m0_; obtain ⟨kgl0, kgl1, kgl2, kgl3, kgl4, fgl0, fgl1, fgl2, fgl3, fgl4⟩ := MS.c5 HM m1_; obtain ⟨kgo0, kgo1, kgo2, fgo0, fgo1, fgo2⟩ := MS.c3 HM m2_
  go_upto_region 2 with (first | (go_at_call 38; go_loud ((with_reducible refine (rclose_as (Oc.now HX (MS.bel HM)) (Below.refl _ _) rfl FX_.out HC.out).mono ?_); rintro e wk ⟨cv, rfl, hcv, ho, hb⟩; have n_ := Aside0.mk ((MS.to HM).call hb ho); clear HM ho hb; have HM := n_; clear n_; clear fgl0 fgl1 fgl2 fgl3 fgl4 fgo0 fgo1 fgo2 fgr0 fgr1 kgl0 kgl1 kgl2 kgl3 kgl4 kgo0 kgo1 kgo2 kgr0 kgr1; obtain ⟨kgr0, kgr1, fgr0, fgr1⟩ := MS.c2 HM m0_; obtain ⟨kgl0, kgl1, kgl2, kgl3, kgl4, fgl0, fgl1, fgl2, fgl3, fgl4⟩ := MS.c5 HM m1_; obtain ⟨kgo0, kgo1, kgo2, fgo0, fgo1, fgo2⟩ := MS.c3 HM m2_)) | ((with_reducible refine gate_dst (N := 5) rfl ?_); refine box_event ?hg (N := 5) ?hd (cs := #[.slice none 0 0, .slice none 0 0, .bool false]) (t := 25) ?hr ?_; (case hd => rfl); (case hg => rfl); (case hr => first | (go_simp; done) | (go_simp; rfl)); intro gc hg wk hbox hb; have n_ := Aside0.mk ((MS.to HM).made hg hbox hb); clear HM hg hbox hb; have HM := n_; clear n_; clear fgl0 fgl1 fgl2 fgl3 fgl4 fgo0 fgo1 fgo2 fgr0 fgr1 kgl0 kgl1 kgl2 kgl3 kgl4 kgo0 kgo1 kgo2 kgr0 kgr1; obtain ⟨kgc0, kgc1, kgc2, fgc0, fgc1, fgc2⟩ := MS.c3 HM m0_; obtain ⟨kgr0, kgr1, fgr0, fgr1⟩ := MS.c2 HM m1_; obtain ⟨kgl0, kgl1, kgl2, kgl3, kgl4, fgl0, fgl1, fgl2, fgl3, fgl4⟩ := MS.c5 HM m2_; obtain ⟨kgo0, kgo1, kgo2, fgo0, fgo1, fgo2⟩ := MS.c3 HM m3_))
  have n_ : Aside0 (MS w [cv] [(gc, .cells #[.slice none 0 0, .slice none 0 0, .bool false] 25 (0, 0)), (gr, .cells #[.int .i64 0, .int .i64 0] 36 (0, 0)), (gl, .cells #[.int .i64 lx, .int .i64 sx, .int .i64 0, .int .i64 0, .int .i64 c] 34 (0, 0))] _) := ⟨HM.out.sub (List.Sublist.refl _) (.cons_cons _ (.cons_cons _ (.cons_cons _ (.cons _ .slnil))))⟩; clear HM; have HM := n_; clear n_
  clear fgc0 fgc1 fgc2 fgl0 fgl1 fgl2 fgl3 fgl4 fgo0 fgo1 fgo2 fgr0 fgr1 kgc0 kgc1 kgc2 kgl0 kgl1 kgl2 kgl3 kgl4 kgo0 kgo1 kgo2 kgr0 kgr1; obtain ⟨kgc0, kgc1, kgc2, fgc0, fgc1, fgc2⟩ := MS.c3 HM m0_; obtain ⟨kgr0, kgr1, fgr0, fgr1⟩ := MS.c2 HM m1_; obtain ⟨kgl0, kgl1, kgl2, kgl3, kgl4, fgl0, fgl1, fgl2, fgl3, fgl4⟩ := MS.c5 HM m2_
  have n_ : Aside0 (MS w [cv] [(gc, .cells #[.slice cv.P cv.v.length cv.p, .slice cv.Q cv.m.length cv.q, .bool cv.e] 25 (0, 0)), (gr, .cells #[.int .i64 0, .int .i64 0] 36 (0, 0)), (gl, .cells #[.int .i64 lx, .int .i64 sx, .int .i64 0, .int .i64 0, .int .i64 c] 34 (0, 0))] _) := ⟨MS.put3 [] HM.out (a' := .slice cv.P cv.v.length cv.p) (b' := .slice cv.Q cv.m.length cv.q) (c' := .bool cv.e)⟩; clear HM; have HM := n_; clear n_
  generalize hW_ : World.setCell _ _ _ = wk at HM ⊢; clear hW_
  clear fgc0 fgc1 fgc2 fgl0 fgl1 fgl2 fgl3 fgl4 fgr0 fgr1 kgc0 kgc1 kgc2 kgl0 kgl1 kgl2 kgl3 kgl4 kgr0 kgr1; obtain ⟨kgc0, kgc1, kgc2, fgc0, fgc1, fgc2⟩ := MS.c3 HM m0_; obtain ⟨kgr0, kgr1, fgr0, fgr1⟩ := MS.c2 HM m1_; obtain ⟨kgl0, kgl1, kgl2, kgl3, kgl4, fgl0, fgl1, fgl2, fgl3, fgl4⟩ := MS.c5 HM m2_
  have HCV := Aside0.mk hcv; clear hcv
  have hem : cv.e = false := congrArg (·.2.2) HCV.out
  go_upto_region 4 with fail
  clear hem
  have t1 := TSX.out; have q0 : (0 : Int) ≤ (p : Int) := Int.natCast_nonneg _
  go_upto_region 6 with (first | (go_at_call 28; go_loud ((with_reducible refine (rplace_as (MS.oc HM m0_) (MS.bel HM) HCV.out LK.out lx HP.out).mono ?_); rintro e wk ⟨rfl, hb⟩; have n_ := Aside0.mk ((MS.to HM).next hb); clear HM hb; have HM := n_; clear n_; clear fgc0 fgc1 fgc2 fgl0 fgl1 fgl2 fgl3 fgl4 fgr0 fgr1 kgc0 kgc1 kgc2 kgl0 kgl1 kgl2 kgl3 kgl4 kgr0 kgr1; obtain ⟨kgc0, kgc1, kgc2, fgc0, fgc1, fgc2⟩ := MS.c3 HM m0_; obtain ⟨kgr0, kgr1, fgr0, fgr1⟩ := MS.c2 HM m1_; obtain ⟨kgl0, kgl1, kgl2, kgl3, kgl4, fgl0, fgl1, fgl2, fgl3, fgl4⟩ := MS.c5 HM m2_)))
  clear t1 q0
  go_upto_region 7 with (first | ((with_reducible refine gate_dst (N := 6) rfl ?_); refine box_event ?hg (N := 6) ?hd (cs := #[.int .i64 0, .int .i64 0]) (t := 36) ?hr ?_; (case hd => rfl); (case hg => rfl); (case hr => first | (go_simp; done) | (go_simp; rfl)); intro gi hg wk hbox hb; have n_ := Aside0.mk ((MS.to HM).made hg hbox hb); clear HM hg hbox hb; have HM := n_; clear n_; clear fgc0 fgc1 fgc2 fgl0 fgl1 fgl2 fgl3 fgl4 fgr0 fgr1 kgc0 kgc1 kgc2 kgl0 kgl1 kgl2 kgl3 kgl4 kgr0 kgr1; obtain ⟨kgi0, kgi1, fgi0, fgi1⟩ := MS.c2 HM m0_; obtain ⟨kgc0, kgc1, kgc2, fgc0, fgc1, fgc2⟩ := MS.c3 HM m1_; obtain ⟨kgr0, kgr1, fgr0, fgr1⟩ := MS.c2 HM m2_; obtain ⟨kgl0, kgl1, kgl2, kgl3, kgl4, fgl0, fgl1, fgl2, fgl3, fgl4⟩ := MS.c5 HM m3_))
  have n_ : Aside0 (MS w [cv] [(gi, .cells #[.int .i64 (-4611686018427387904), .int .i64 4611686018427387904] 36 (0, 0)), (gc, .cells #[.slice cv.P cv.v.length cv.p, .slice cv.Q cv.m.length cv.q, .bool cv.e] 25 (0, 0)), (gr, .cells #[.int .i64 0, .int .i64 0] 36 (0, 0)), (gl, .cells #[.int .i64 lx, .int .i64 sx, .int .i64 0, .int .i64 0, .int .i64 c] 34 (0, 0))] _) := ⟨MS.put2 [] HM.out (a' := .int .i64 (-4611686018427387904)) (b' := .int .i64 4611686018427387904)⟩; clear HM; have HM := n_; clear n_
  generalize hW_ : World.setCell _ _ _ = wk at HM ⊢; clear hW_
  clear fgc0 fgc1 fgc2 fgi0 fgi1 fgl0 fgl1 fgl2 fgl3 fgl4 fgr0 fgr1 kgc0 kgc1 kgc2 kgi0 kgi1 kgl0 kgl1 kgl2 kgl3 kgl4 kgr0 kgr1; obtain ⟨kgi0, kgi1, fgi0, fgi1⟩ := MS.c2 HM m0_; obtain ⟨kgc0, kgc1, kgc2, fgc0, fgc1, fgc2⟩ := MS.c3 HM m1_; obtain ⟨kgr0, kgr1, fgr0, fgr1⟩ := MS.c2 HM m2_; obtain ⟨kgl0, kgl1, kgl2, kgl3, kgl4, fgl0, fgl1, fgl2, fgl3, fgl4⟩ := MS.c5 HM m3_
  have t1 := TG1.out; obtain ⟨s1, s1'⟩ := WS1.out
  go_upto_region 10 with (first | (go_at_call 91; go_loud ((with_reducible refine (rgreatest_as (MS.oc HM m0_) (MS.bel HM) HCV.out HG1.out).mono ?_); rintro e wk ⟨rfl, hb⟩; have n_ := Aside0.mk ((MS.to HM).next hb); clear HM hb; have HM := n_; clear n_; clear fgc0 fgc1 fgc2 fgi0 fgi1 fgl0 fgl1 fgl2 fgl3 fgl4 fgr0 fgr1 kgc0 kgc1 kgc2 kgi0 kgi1 kgl0 kgl1 kgl2 kgl3 kgl4 kgr0 kgr1; obtain ⟨kgi0, kgi1, fgi0, fgi1⟩ := MS.c2 HM m0_; obtain ⟨kgc0, kgc1, kgc2, fgc0, fgc1, fgc2⟩ := MS.c3 HM m1_; obtain ⟨kgr0, kgr1, fgr0, fgr1⟩ := MS.c2 HM m2_; obtain ⟨kgl0, kgl1, kgl2, kgl3, kgl4, fgl0, fgl1, fgl2, fgl3, fgl4⟩ := MS.c5 HM m3_)))
  clear t1 s1 s1'
  have n_ : Aside0 (MS w [cv] [(gi, .cells #[.int .i64 (-4611686018427387904), .int .i64 hi] 36 (0, 0)), (gc, .cells #[.slice cv.P cv.v.length cv.p, .slice cv.Q cv.m.length cv.q, .bool cv.e] 25 (0, 0)), (gr, .cells #[.int .i64 0, .int .i64 0] 36 (0, 0)), (gl, .cells #[.int .i64 lx, .int .i64 sx, .int .i64 0, .int .i64 0, .int .i64 c] 34 (0, 0))] _) := ⟨MS.put [] HM.out 1 (.int .i64 hi) rfl⟩; clear HM; have HM := n_; clear n_
  generalize hW_ : World.setCell _ _ _ = wk at HM ⊢; clear hW_
  clear fgc0 fgc1 fgc2 fgi0 fgi1 fgl0 fgl1 fgl2 fgl3 fgl4 fgr0 fgr1 kgc0 kgc1 kgc2 kgi0 kgi1 kgl0 kgl1 kgl2 kgl3 kgl4 kgr0 kgr1; obtain ⟨kgi0, kgi1, fgi0, fgi1⟩ := MS.c2 HM m0_; obtain ⟨kgc0, kgc1, kgc2, fgc0, fgc1, fgc2⟩ := MS.c3 HM m1_; obtain ⟨kgr0, kgr1, fgr0, fgr1⟩ := MS.c2 HM m2_; obtain ⟨kgl0, kgl1, kgl2, kgl3, kgl4, fgl0, fgl1, fgl2, fgl3, fgl4⟩ := MS.c5 HM m3_
  go_upto_region 11 with (first | ((with_reducible refine gate_dst (N := 8) rfl ?_); refine box_event ?hg (N := 8) ?hd (cs := #[.int .i64 0, .int .i64 0, .int .i64 0, .int .i64 0, .int .i64 0]) (t := 34) ?hr ?_; (case hd => rfl); (case hg => rfl); (case hr => first | (go_simp; done) | (go_simp; rfl)); intro gm hg wk hbox hb; have n_ := Aside0.mk ((MS.to HM).made hg hbox hb); clear HM hg hbox hb; have HM := n_; clear n_; clear fgc0 fgc1 fgc2 fgi0 fgi1 fgl0 fgl1 fgl2 fgl3 fgl4 fgr0 fgr1 kgc0 kgc1 kgc2 kgi0 kgi1 kgl0 kgl1 kgl2 kgl3 kgl4 kgr0 kgr1; obtain ⟨kgm0, kgm1, kgm2, kgm3, kgm4, fgm0, fgm1, fgm2, fgm3, fgm4⟩ := MS.c5 HM m0_; obtain ⟨kgi0, kgi1, fgi0, fgi1⟩ := MS.c2 HM m1_; obtain ⟨kgc0, kgc1, kgc2, fgc0, fgc1, fgc2⟩ := MS.c3 HM m2_; obtain ⟨kgr0, kgr1, fgr0, fgr1⟩ := MS.c2 HM m3_; obtain ⟨kgl0, kgl1, kgl2, kgl3, kgl4, fgl0, fgl1, fgl2, fgl3, fgl4⟩ := MS.c5 HM m4_))
  have n_ : Aside0 (MS w [cv] [(gm, .cells #[.int .i64 lx, .int .i64 sx, .int .i64 0, .int .i64 0, .int .i64 c] 34 (0, 0)), (gi, .cells #[.int .i64 (-4611686018427387904), .int .i64 hi] 36 (0, 0)), (gc, .cells #[.slice cv.P cv.v.length cv.p, .slice cv.Q cv.m.length cv.q, .bool cv.e] 25 (0, 0)), (gr, .cells #[.int .i64 0, .int .i64 0] 36 (0, 0)), (gl, .cells #[.int .i64 lx, .int .i64 sx, .int .i64 0, .int .i64 0, .int .i64 c] 34 (0, 0))] _) := ⟨MS.put5 [] HM.out (a' := .int .i64 lx) (b' := .int .i64 sx) (c' := .int .i64 0) (d' := .int .i64 0) (f' := .int .i64 c)⟩; clear HM; have HM := n_; clear n_
  generalize hW_ : World.setCell _ _ _ = wk at HM ⊢; clear hW_
  clear fgc0 fgc1 fgc2 fgi0 fgi1 fgl0 fgl1 fgl2 fgl3 fgl4 fgm0 fgm1 fgm2 fgm3 fgm4 fgr0 fgr1 kgc0 kgc1 kgc2 kgi0 kgi1 kgl0 kgl1 kgl2 kgl3 kgl4 kgm0 kgm1 kgm2 kgm3 kgm4 kgr0 kgr1; obtain ⟨kgm0, kgm1, kgm2, kgm3, kgm4, fgm0, fgm1, fgm2, fgm3, fgm4⟩ := MS.c5 HM m0_; obtain ⟨kgi0, kgi1, fgi0, fgi1⟩ := MS.c2 HM m1_; obtain ⟨kgc0, kgc1, kgc2, fgc0, fgc1, fgc2⟩ := MS.c3 HM m2_; obtain ⟨kgr0, kgr1, fgr0, fgr1⟩ := MS.c2 HM m3_; obtain ⟨kgl0, kgl1, kgl2, kgl3, kgl4, fgl0, fgl1, fgl2, fgl3, fgl4⟩ := MS.c5 HM m4_
  have ws := WS.out; obtain ⟨wz, wz'⟩ := WZ.out
  have n_ := Aside0.mk (HM.out.next (below_drew (Below.refl _ _))); clear HM; have HM := n_; clear n_
  clear fgc0 fgc1 fgc2 fgi0 fgi1 fgl0 fgl1 fgl2 fgl3 fgl4 fgm0 fgm1 fgm2 fgm3 fgm4 fgr0 fgr1 kgc0 kgc1 kgc2 kgi0 kgi1 kgl0 kgl1 kgl2 kgl3 kgl4 kgm0 kgm1 kgm2 kgm3 kgm4 kgr0 kgr1
  refine start_ (n := 10) (S := fun w' => w'.cell? ⟨gl, 1, none⟩ = some (.int .i64 sx) ∧ w'.cell? ⟨gl, 3, none⟩ = some (.int .i64 0)) (ds := []) (mB 10 0) (by kernel_rfl) rfl (by kernel_rfl) ⟨MS.k HM m4_ 1 rfl, MS.k HM m4_ 3 rfl⟩ (fun hHeld => ?_)
  refine with_tabW rbnd_tab11 rbnd_bits11 (fun HT_ HW_ => ?_)
  generalize hWd : World.drew _ = wk at HM hHeld ⊢; clear hWd
  refine pV_ 0 50 (mB 10 1) HT_ ?_
  refine tV_ 1 51 (mB 10 3) HT_ HW_ hHeld ?_
  refine pV_ 2 52 (mB 10 7) HT_ ?_
  refine pV_ 3 53 (mB 10 15) HT_ ?_
  refine tV_ 4 54 (mB 10 31) HT_ HW_ hHeld ?_
  refine pV_ 5 55 (mB 10 63) HT_ ?_
  refine pV_ 6 56 (mB 10 127) HT_ ?_
  refine one_ (i := 7) (N := none) (mB 10 255) rfl rfl (one_of HT_.out (by kernel_rfl)) (by decide) (fun K hK => ?_)
  obtain ⟨kgm0, kgm1, kgm2, kgm3, kgm4, fgm0, fgm1, fgm2, fgm3, fgm4⟩ := MS.c5 HM m0_; obtain ⟨kgi0, kgi1, fgi0, fgi1⟩ := MS.c2 HM m1_; obtain ⟨kgc0, kgc1, kgc2, fgc0, fgc1, fgc2⟩ := MS.c3 HM m2_; obtain ⟨kgr0, kgr1, fgr0, fgr1⟩ := MS.c2 HM m3_; obtain ⟨kgl0, kgl1, kgl2, kgl3, kgl4, fgl0, fgl1, fgl2, fgl3, fgl4⟩ := MS.c5 HM m4_
  refine skip_ (w1 := ?_) (by rfl) rfl ?_ ?_
  rotate_left
  · go_simp
    rfl
  have n_ : Aside0 (MS w [cv] [(gm, .cells #[.int .i64 lx, .int .i64 sx', .int .i64 0, .int .i64 0, .int .i64 c] 34 (0, 0)), (gi, .cells #[.int .i64 (-4611686018427387904), .int .i64 hi] 36 (0, 0)), (gc, .cells #[.slice cv.P cv.v.length cv.p, .slice cv.Q cv.m.length cv.q, .bool cv.e] 25 (0, 0)), (gr, .cells #[.int .i64 0, .int .i64 0] 36 (0, 0)), (gl, .cells #[.int .i64 lx, .int .i64 sx, .int .i64 0, .int .i64 0, .int .i64 c] 34 (0, 0))] _) := ⟨MS.put [] HM.out 1 (.int .i64 sx') rfl⟩; clear HM; have HM := n_; clear n_
  clear fgc0 fgc1 fgc2 fgi0 fgi1 fgl0 fgl1 fgl2 fgl3 fgl4 fgm0 fgm1 fgm2 fgm3 fgm4 fgr0 fgr1 kgc0 kgc1 kgc2 kgi0 kgi1 kgl0 kgl1 kgl2 kgl3 kgl4 kgm0 kgm1 kgm2 kgm3 kgm4 kgr0 kgr1
  refine hK.out _ _ ⟨MS.k HM m4_ 1 rfl, MS.k HM m4_ 3 rfl⟩ (fun hHeld => ?_)
  clear hK K
  generalize hW_ : World.setCell _ _ _ = wk at HM hHeld ⊢; clear hW_
  refine pV_ 8 57 (mB 10 511) HT_ ?_
  refine one_ (i := 9) (N := none) (mB 10 1023) rfl rfl (one_of HT_.out (by kernel_rfl)) (by decide) (fun K hK => ?_)
  obtain ⟨kgm0, kgm1, kgm2, kgm3, kgm4, fgm0, fgm1, fgm2, fgm3, fgm4⟩ := MS.c5 HM m0_; obtain ⟨kgi0, kgi1, fgi0, fgi1⟩ := MS.c2 HM m1_; obtain ⟨kgc0, kgc1, kgc2, fgc0, fgc1, fgc2⟩ := MS.c3 HM m2_; obtain ⟨kgr0, kgr1, fgr0, fgr1⟩ := MS.c2 HM m3_; obtain ⟨kgl0, kgl1, kgl2, kgl3, kgl4, fgl0, fgl1, fgl2, fgl3, fgl4⟩ := MS.c5 HM m4_
  refine skip_ (w1 := ?_) (by rfl) rfl ?_ ?_
  rotate_left
  · go_simp
    rfl
  have n_ : Aside0 (MS w [cv] [(gm, .cells #[.int .i64 lx, .int .i64 sx', .int .i64 0, .int .i64 0, .int .i64 c] 34 (0, 0)), (gi, .cells #[.int .i64 (-4611686018427387904), .int .i64 hi] 36 (0, 0)), (gc, .cells #[.slice cv.P cv.v.length cv.p, .slice cv.Q cv.m.length cv.q, .bool cv.e] 25 (0, 0)), (gr, .cells #[.int .i64 0, .int .i64 0] 36 (0, 0)), (gl, .cells #[.int .i64 lx, .int .i64 sx, .int .i64 0, .int .i64 0, .int .i64 c] 34 (0, 0))] _) := ⟨MS.put [] HM.out 3 (.int .i64 0) rfl⟩; clear HM; have HM := n_; clear n_
  clear fgc0 fgc1 fgc2 fgi0 fgi1 fgl0 fgl1 fgl2 fgl3 fgl4 fgm0 fgm1 fgm2 fgm3 fgm4 fgr0 fgr1 kgc0 kgc1 kgc2 kgi0 kgi1 kgl0 kgl1 kgl2 kgl3 kgl4 kgm0 kgm1 kgm2 kgm3 kgm4 kgr0 kgr1
  refine hK.out _ _ ⟨MS.k HM m4_ 1 rfl, MS.k HM m4_ 3 rfl⟩ (fun hHeld => ?_)
  clear hK K
  generalize hW_ : World.setCell _ _ _ = wk at HM hHeld ⊢; clear hW_
  refine done_ (done_of HT_.out (by kernel_rfl)) ?_
  clear HT_ HW_ hHeld
  clear ws wz wz'
  obtain ⟨kgm0, kgm1, kgm2, kgm3, kgm4, fgm0, fgm1, fgm2, fgm3, fgm4⟩ := MS.c5 HM m0_; obtain ⟨kgi0, kgi1, fgi0, fgi1⟩ := MS.c2 HM m1_; obtain ⟨kgc0, kgc1, kgc2, fgc0, fgc1, fgc2⟩ := MS.c3 HM m2_; obtain ⟨kgr0, kgr1, fgr0, fgr1⟩ := MS.c2 HM m3_; obtain ⟨kgl0, kgl1, kgl2, kgl3, kgl4, fgl0, fgl1, fgl2, fgl3, fgl4⟩ := MS.c5 HM m4_
  have t1 := TG2.out; obtain ⟨s1, s1'⟩ := WS2.out
  go_upto_region 15 with (first | (go_at_call 91; go_loud ((with_reducible refine (rgreatest_as (MS.oc HM m0_) (MS.bel HM) HCV.out HG2.out).mono ?_); rintro e wk ⟨rfl, hb⟩; have n_ := Aside0.mk ((MS.to HM).next hb); clear HM hb; have HM := n_; clear n_; clear fgc0 fgc1 fgc2 fgi0 fgi1 fgl0 fgl1 fgl2 fgl3 fgl4 fgm0 fgm1 fgm2 fgm3 fgm4 fgr0 fgr1 kgc0 kgc1 kgc2 kgi0 kgi1 kgl0 kgl1 kgl2 kgl3 kgl4 kgm0 kgm1 kgm2 kgm3 kgm4 kgr0 kgr1; obtain ⟨kgm0, kgm1, kgm2, kgm3, kgm4, fgm0, fgm1, fgm2, fgm3, fgm4⟩ := MS.c5 HM m0_; obtain ⟨kgi0, kgi1, fgi0, fgi1⟩ := MS.c2 HM m1_; obtain ⟨kgc0, kgc1, kgc2, fgc0, fgc1, fgc2⟩ := MS.c3 HM m2_; obtain ⟨kgr0, kgr1, fgr0, fgr1⟩ := MS.c2 HM m3_; obtain ⟨kgl0, kgl1, kgl2, kgl3, kgl4, fgl0, fgl1, fgl2, fgl3, fgl4⟩ := MS.c5 HM m4_)))
  clear t1 s1 s1'
  have n_ : Aside0 (MS w [cv] [(gm, .cells #[.int .i64 lx, .int .i64 sx', .int .i64 0, .int .i64 0, .int .i64 c] 34 (0, 0)), (gi, .cells #[.int .i64 lo, .int .i64 hi] 36 (0, 0)), (gc, .cells #[.slice cv.P cv.v.length cv.p, .slice cv.Q cv.m.length cv.q, .bool cv.e] 25 (0, 0)), (gr, .cells #[.int .i64 0, .int .i64 0] 36 (0, 0)), (gl, .cells #[.int .i64 lx, .int .i64 sx, .int .i64 0, .int .i64 0, .int .i64 c] 34 (0, 0))] _) := ⟨MS.put [(gm, .cells #[.int .i64 lx, .int .i64 sx', .int .i64 0, .int .i64 0, .int .i64 c] 34 (0, 0))] HM.out 0 (.int .i64 lo) rfl⟩; clear HM; have HM := n_; clear n_
  generalize hW_ : World.setCell _ _ _ = wk at HM ⊢; clear hW_
  clear fgc0 fgc1 fgc2 fgi0 fgi1 fgl0 fgl1 fgl2 fgl3 fgl4 fgm0 fgm1 fgm2 fgm3 fgm4 fgr0 fgr1 kgc0 kgc1 kgc2 kgi0 kgi1 kgl0 kgl1 kgl2 kgl3 kgl4 kgm0 kgm1 kgm2 kgm3 kgm4 kgr0 kgr1; obtain ⟨kgm0, kgm1, kgm2, kgm3, kgm4, fgm0, fgm1, fgm2, fgm3, fgm4⟩ := MS.c5 HM m0_; obtain ⟨kgi0, kgi1, fgi0, fgi1⟩ := MS.c2 HM m1_; obtain ⟨kgc0, kgc1, kgc2, fgc0, fgc1, fgc2⟩ := MS.c3 HM m2_; obtain ⟨kgr0, kgr1, fgr0, fgr1⟩ := MS.c2 HM m3_; obtain ⟨kgl0, kgl1, kgl2, kgl3, kgl4, fgl0, fgl1, fgl2, fgl3, fgl4⟩ := MS.c5 HM m4_
  go_wp2
  have n_ : Aside0 (MS w [cv] [(gm, .cells #[.int .i64 lx, .int .i64 sx', .int .i64 0, .int .i64 0, .int .i64 c] 34 (0, 0)), (gi, .cells #[.int .i64 lo, .int .i64 hi] 36 (0, 0)), (gc, .cells #[.slice cv.P cv.v.length cv.p, .slice cv.Q cv.m.length cv.q, .bool cv.e] 25 (0, 0)), (gr, .cells #[.int .i64 lo, .int .i64 hi] 36 (0, 0)), (gl, .cells #[.int .i64 lx, .int .i64 sx, .int .i64 0, .int .i64 0, .int .i64 c] 34 (0, 0))] _) := ⟨MS.put2 [(gm, .cells #[.int .i64 lx, .int .i64 sx', .int .i64 0, .int .i64 0, .int .i64 c] 34 (0, 0)), (gi, .cells #[.int .i64 lo, .int .i64 hi] 36 (0, 0)), (gc, .cells #[.slice cv.P cv.v.length cv.p, .slice cv.Q cv.m.length cv.q, .bool cv.e] 25 (0, 0))] HM.out (a' := .int .i64 lo) (b' := .int .i64 hi)⟩; clear HM; have HM := n_; clear n_
  generalize hW_ : World.setCell _ _ _ = wk at HM ⊢; clear hW_
  clear fgc0 fgc1 fgc2 fgi0 fgi1 fgl0 fgl1 fgl2 fgl3 fgl4 fgm0 fgm1 fgm2 fgm3 fgm4 fgr0 fgr1 kgc0 kgc1 kgc2 kgi0 kgi1 kgl0 kgl1 kgl2 kgl3 kgl4 kgm0 kgm1 kgm2 kgm3 kgm4 kgr0 kgr1; obtain ⟨kgm0, kgm1, kgm2, kgm3, kgm4, fgm0, fgm1, fgm2, fgm3, fgm4⟩ := MS.c5 HM m0_; obtain ⟨kgi0, kgi1, fgi0, fgi1⟩ := MS.c2 HM m1_; obtain ⟨kgc0, kgc1, kgc2, fgc0, fgc1, fgc2⟩ := MS.c3 HM m2_; obtain ⟨kgr0, kgr1, fgr0, fgr1⟩ := MS.c2 HM m3_; obtain ⟨kgl0, kgl1, kgl2, kgl3, kgl4, fgl0, fgl1, fgl2, fgl3, fgl4⟩ := MS.c5 HM m4_
  refine bodyPost_ret (results_cell_row rfl _ _ gr 36 #[.int .i64 lo, .int .i64 hi] (0, 0) _ rfl (HM.out.F.all _ m3_).1 Try.underlying36 rfl (by kernel_rfl)) rfl ?_
  exact ⟨rfl, HM.out.S.below⟩
end Go.Proofs.Ytphfchbggechhaa.QO
end
end
section
noncomputable section
namespace Go.Proofs.Ytphfchbggechhaa.QO
open Go.RowKit Go.Shelf Go.Proofs.YtphfchbggechhaaW.PrintWords Go.Proofs.YtphfchbggechhaaW.PrintLast Go.Proofs.YtphfchbggechhaaW.PrintMore
open Go.Proofs.Ytphfchbggechhaa.Pure
set_option linter.unusedVariables false
theorem close_is {v m : List Int} {e : Bool} {t : Tri} (h : OFit v m e) (K : Nat) (hk : gimbalref11_Close.f K v m e = some t) : closeF v m e = t := by
  obtain ⟨L, hL⟩ := close_ev h
  have g := Octs.grow (g := fun k => gimbalref11_Close.f k v m e) (gimbalref11_Close.mono _ _ _) hk (K + L) (by omega)
  exact Option.some.inj ((hL (K + L) (by omega)).symm.trans g)
def mat (n : Nat) (l : List Int) : Mx := fun i j => rd l ((i * n + j : Nat) : Int)
theorem mat_of {v m : List Int} {e : Bool} {l : List Int} (h : OFit v m e) (hc : closeF v m e = (v, l, false)) (i j : Nat) (hi : i < 2 * v.length) (hj : j < 2 * v.length) : closeM (2 * v.length) (lowM v.length m) i j = mat (2 * v.length) l i j := by
  rcases close_cases h with ⟨h1, _⟩ | ⟨_, _, h1⟩
  · rw [h1] at hc; cases hc
  · rw [h1] at hc
    have e2 : lst (2 * v.length) (closeM (2 * v.length) (lowM v.length m)) = l := congrArg (·.2.1) hc
    unfold mat
    rw [← e2]; exact (rd_lst hi hj).symm
theorem upM_ext {n : Nat} {A B : Mx} {a b : Nat} {h : Int} (e : ∀ i j, i < n → j < n → A i j = B i j) : ∀ i j, i < n → j < n → upM A a b h i j = upM B a b h i j := fun i j hi hj => by
  unfold upM; rw [e i j hi hj]
theorem upC_ext {n p q : Nat} {A B : Mx} {sx sy h : Int} (e : ∀ i j, i < n → j < n → A i j = B i j) : ∀ i j, i < n → j < n → upC A p sx q sy h i j = upC B p sx q sy h i j := by
  unfold upC
  split
  · exact e
  · split <;> exact upM_ext e
theorem guard_is {v m : List Int} {e : Bool} {l l2 : List Int} {x sx y sy c lo hi a b : Int} {t : Tri} (h : OFit v m e) (hc : closeF v m e = (v, l, false)) (hof : ofB v x sx y sy c = true) (hi_ : itvOf lo hi = (a, b)) (hab : a ≤ b) (hs : sx ≠ 0)
    (hl : lst (2 * v.length) (upC (upC (mat (2 * v.length) l) (placeF v x).toNat sx (placeF v y).toNat sy (bupF b (-c))) (placeF v x).toNat (-sx) (placeF v y).toNat (-sy) (bupF (bnegF a) c)) = l2) (ht : closeF v l2 false = t) : guardF v m e x sx y sy c lo hi = t := by
  unfold guardF
  rw [if_neg (by rw [hc, hof]; simp), hi_]
  dsimp only
  rw [if_neg (fun q => q.elim (fun q => by omega) (fun q => hs q.1)), if_neg hs, lst_ext (upC_ext (upC_ext (mat_of h hc))), hl]
  exact ht
def w0 : List Int := [0, 4611686018427387904, 4611686018427387904, 4611686018427387904, 4611686018427387904, 0, 4611686018427387904, 4611686018427387904, 4611686018427387904, 4611686018427387904, 0, 4611686018427387904, 4611686018427387904, 4611686018427387904, 4611686018427387904, 0]
def w1 : List Int := [0, 0, 4611686018427387904, 4611686018427387904, 10, 0, 4611686018427387904, 4611686018427387904, 4611686018427387904, 4611686018427387904, 0, 4611686018427387904, 4611686018427387904, 4611686018427387904, 4611686018427387904, 0]
def w2' : List Int := [0, 0, 2, 4611686018427387904, 10, 0, 4611686018427387904, 0, 0, 4611686018427387904, 0, 4611686018427387904, 4611686018427387904, 2, 4611686018427387904, 0]
def w2 : List Int := [0, 0, 2, 0, 10, 0, 12, 0, 0, 0, 0, 0, 12, 2, 14, 0]
def w3' : List Int := [0, 0, 2, -9, 10, 0, 12, 0, 0, -9, 0, 0, 12, 2, 14, 0]
def w3 : List Int := [0, -8, 2, -9, 10, 0, 12, 0, 0, -9, 0, -10, 12, 2, 14, 0]
def w4 : List Int := [0, -14, -1, -12, 16, 0, 15, 3, 3, -12, 0, -10, 15, -1, 14, 0]
theorem v01 : VarsOk [0, 1] := ⟨by decide, fun i h0 h1 => by
  have : i = 0 ∨ i = 1 := by simp at h1; omega
  rcases this with rfl | rfl
  · exact ⟨by decide, fun h => absurd h (by decide)⟩
  · exact ⟨by decide, fun h => by decide⟩⟩
theorem f0 : OFit [0, 1] w0 false := by
  have s : Snd (2 * ([0, 1] : List Int).length) (fun i j => if i = j then 0 else 4611686018427387904) := by
    refine ⟨⟨2, rfl, by decide⟩, fun i j hi hj => ?_, fun i j hi hj => ?_, fun i hi => by simp⟩
    · by_cases e : i = j
      · simp only [e, if_true]; exact .inr (by decide)
      · simp only [e, if_false]; exact .inl rfl
    · by_cases e : i = j
      · simp [e]
      · have : nb j ≠ nb i := fun q => e (nb_eq.1 q).symm
        simp [e, this]
  have h := fit_of_snd v01 s
  have e : lst (2 * ([0, 1] : List Int).length) (fun i j => if i = j then 0 else 4611686018427387904) = w0 := by decide +kernel
  rw [e] at h; exact h
theorem fit_next {v m l : List Int} {x sx y sy c lo hi : Int} (h : OFit v m false) (hg : guardF v m false x sx y sy c lo hi = (v, l, false)) : OFit v l false := by
  obtain ⟨a, b, e, f⟩ := grd_ex h x sx y sy c lo hi
  rw [hg] at e
  cases e; exact f
theorem c0 : closeF [0, 1] w0 false = ([0, 1], w0, false) := close_is f0 900 (by decide +kernel)
theorem g1 : guardF [0, 1] w0 false 0 1 0 0 0 0 5 = ([0, 1], w1, false) := by
  have hf : OFit [0, 1] w1 false := by
    have := (upC_snd (p := 0) (sx := -1) (q := 0) (sy := -0) (hi := bupF (bnegF 0) 0) (upC_snd (p := 0) (sx := 1) (q := 0) (sy := 0) (hi := bupF 5 (-0)) (snd_of_fit f0)))
    have h := fit_of_snd v01 this
    have e : lst (2 * ([0, 1] : List Int).length) (upC (upC (lowM ([0, 1] : List Int).length w0) 0 1 0 0 (bupF 5 (-0))) 0 (-1) 0 (-0) (bupF (bnegF 0) 0)) = w1 := by decide +kernel
    rw [e] at h; exact h
  exact guard_is f0 c0 (by decide +kernel) (show itvOf 0 5 = (0, 5) by decide +kernel) (by decide) (by decide) (show _ = w1 by decide +kernel) (close_is hf 900 (by decide +kernel))
theorem f1 : OFit [0, 1] w1 false := fit_next f0 g1
theorem c1 : closeF [0, 1] w1 false = ([0, 1], w1, false) := close_is f1 900 (by decide +kernel)
theorem g2 : guardF [0, 1] w1 false 0 (-1) 1 1 0 0 2 = ([0, 1], w2, false) := by
  have hf : OFit [0, 1] w2' false := by
    have := (upC_snd (p := 0) (sx := 1) (q := 1) (sy := -1) (hi := bupF (bnegF 0) 0) (upC_snd (p := 0) (sx := -1) (q := 1) (sy := 1) (hi := bupF 2 (-0)) (snd_of_fit f1)))
    have h := fit_of_snd v01 this
    have e : lst (2 * ([0, 1] : List Int).length) (upC (upC (lowM ([0, 1] : List Int).length w1) 0 (-1) 1 1 (bupF 2 (-0))) 0 1 1 (-1) (bupF (bnegF 0) 0)) = w2' := by decide +kernel
    rw [e] at h; exact h
  exact guard_is f1 c1 (by decide +kernel) (show itvOf 0 2 = (0, 2) by decide +kernel) (by decide) (by decide) (show _ = w2' by decide +kernel) (close_is hf 900 (by decide +kernel))
theorem f2 : OFit [0, 1] w2 false := fit_next f1 g2
theorem c2 : closeF [0, 1] w2 false = ([0, 1], w2, false) := close_is f2 900 (by decide +kernel)
theorem g3 : guardF [0, 1] w2 false 0 1 1 1 0 9 4611686018427387904 = ([0, 1], w3, false) := by
  have hf : OFit [0, 1] w3' false := by
    have := (upC_snd (p := 0) (sx := -1) (q := 1) (sy := -1) (hi := bupF (bnegF 9) 0) (upC_snd (p := 0) (sx := 1) (q := 1) (sy := 1) (hi := bupF 4611686018427387904 (-0)) (snd_of_fit f2)))
    have h := fit_of_snd v01 this
    have e : lst (2 * ([0, 1] : List Int).length) (upC (upC (lowM ([0, 1] : List Int).length w2) 0 1 1 1 (bupF 4611686018427387904 (-0))) 0 (-1) 1 (-1) (bupF (bnegF 9) 0)) = w3' := by decide +kernel
    rw [e] at h; exact h
  exact guard_is f2 c2 (by decide +kernel) (show itvOf 9 4611686018427387904 = (9, 4611686018427387904) by decide +kernel) (by decide) (by decide) (show _ = w3' by decide +kernel) (close_is hf 900 (by decide +kernel))
theorem f3 : OFit [0, 1] w3 false := fit_next f2 g3
theorem c3 : closeF [0, 1] w3 false = ([0, 1], w3, false) := close_is f3 900 (by decide +kernel)
theorem f4 : OFit [0, 1] w4 false := by
  have h := fit_of_snd (vars := [0, 1]) v01 (movM_snd (k := 0) (s := 1) (d := 3) (snd_of_fit f3))
  have e : lst (2 * ([0, 1] : List Int).length) (movM (lowM ([0, 1] : List Int).length w3) 1 0 3) = w4 := by decide +kernel
  rw [e] at h; exact h
theorem m3 : lst (2 * ([0, 1] : List Int).length) (mat 4 w3) = w3 := by decide +kernel
theorem m4 : lst (2 * ([0, 1] : List Int).length) (movM (mat 4 w3) 1 0 3) = w4 := by decide +kernel
theorem c4 : closeF [0, 1] w4 false = ([0, 1], w4, false) := close_is f4 900 (by decide +kernel)
theorem s3 : Snd (2 * ([0, 1] : List Int).length) (mat 4 w3) := by
  have h := snd_of_fit f3
  refine ⟨h.ev, fun i j hi hj => ?_, fun i j hi hj => ?_, fun i hi => ?_⟩
  all_goals have e' : ∀ i, i < 4 → ∀ j, j < 4 → mat 4 w3 i j = lowM ([0, 1] : List Int).length w3 i j := by decide +kernel
  all_goals have e := fun i j hi hj => e' i hi j hj
  · rw [e i j hi hj]; exact h.bd i j hi hj
  · rw [e i j hi hj, e _ _ (h.nb j hj) (h.nb i hi)]; exact h.coh i j hi hj
  · rw [e i i hi hi]; exact h.dg i hi
theorem top01 : gimbalref11_Top.f 100 [0, 1] = some ([0, 1], w0, false) := by
  have h : gimbalref11_VarsFit.f [0, 1] = some true := by unfold gimbalref11_VarsFit.f; rw [varsB_true.2 v01]
  unfold gimbalref11_Top.f
  rw [h, bsome, if_pos rfl]
  decide +kernel
theorem C_two {W : World} {g : Nat} {a b : Int} (h : W.heap[g]? = some (.cells #[.int .i64 a, .int .i64 b] 3 (0, 0))) : Kd.C (Kd.int .i64) W (some ⟨g, 0, none⟩) 2 [a, b] := by
  refine ⟨rfl, by decide, fun _ => ⟨_, rfl, fun j p hp => ?_⟩⟩
  match j, hp with
  | 0, hp =>
    obtain rfl : a = p := Option.some.inj hp
    refine ⟨[.int .i64 a], rfl, rfl, fun i u hu => ?_⟩
    match i, hu with
    | 0, hu =>
      obtain rfl : Value.int .i64 a = u := Option.some.inj hu
      exact blk_cell h 0
  | 1, hp =>
    obtain rfl : b = p := Option.some.inj hp
    refine ⟨[.int .i64 b], rfl, rfl, fun i u hu => ?_⟩
    match i, hu with
    | 0, hu =>
      obtain rfl : Value.int .i64 b = u := Option.some.inj hu
      exact blk_cell h 1
section
variable {w W : World} {x : OV}
theorem top_own {g : Nat} (h : W.heap[g]? = some (.cells #[.int .i64 0, .int .i64 1] 3 (0, 0))) :
    Calls Try.prog 48 #[.slice (some ⟨g, 0, none⟩) 2 2] W fun e W' => ∃ z : OV, e = .returned z.val ∧ z.o = ([0, 1], w0, false) ∧ Own W W' z ∧ Below W.heap.size W W' :=
  of_calls2 (a := ([0, 1], w0, false)) (gimbalref11_Top.calls 100 (some ⟨g, 0, none⟩) 2 [0, 1] _ _ _ W (C_two h) (by decide) top01)
theorem one_as (a : Int) : Says 49 #[.int .i64 a] W (.agg #[.int .i64 a, .int .i64 1, .int .i64 0, .int .i64 0, .int .i64 0]) := gimballaw12_one.calls a a 1 0 0 0 W rfl
theorem rb1 (hx : Oc w W x) (hb : Below w.heap.size w W) (ho : x.o = ([0, 1], w3, false)) : Says 50 #[x.val, .agg #[.int .i64 0, .int .i64 1, .int .i64 0, .int .i64 0, .int .i64 0]] W (.agg #[.int .i64 4, .int .i64 5]) := by
  obtain ⟨P, p, Q, q, v', m', e'⟩ := x
  cases ho
  exact rbound_one _ 0 1 0 5 (-4) 4 5 (p := 0) (K1 := 50) (K2 := 50) hx hb f3 c3 (show placeF [0, 1] 0 = ((0 : Nat) : Int) by decide +kernel) (.inl rfl) (show gimbalref11_greatest.f 50 [0, 1] w3 false 0 1 0 0 0 = some 5 by decide +kernel) (show gimbalref11_greatest.f 50 [0, 1] w3 false 0 (-1) 0 0 0 = some (-4) by decide +kernel) (by decide) (by decide) (by decide) (by decide) (by decide)
theorem rb2 (hx : Oc w W x) (hb : Below w.heap.size w W) (ho : x.o = ([0, 1], w3, false)) : Says 50 #[x.val, .agg #[.int .i64 1, .int .i64 1, .int .i64 0, .int .i64 0, .int .i64 0]] W (.agg #[.int .i64 5, .int .i64 7]) := by
  obtain ⟨P, p, Q, q, v', m', e'⟩ := x
  cases ho
  exact rbound_one _ 1 1 0 7 (-5) 5 7 (p := 1) (K1 := 50) (K2 := 50) hx hb f3 c3 (show placeF [0, 1] 1 = ((1 : Nat) : Int) by decide +kernel) (.inl rfl) (show gimbalref11_greatest.f 50 [0, 1] w3 false 1 1 0 0 0 = some 7 by decide +kernel) (show gimbalref11_greatest.f 50 [0, 1] w3 false 1 (-1) 0 0 0 = some (-5) by decide +kernel) (by decide) (by decide) (by decide) (by decide) (by decide)
theorem rb3 (hx : Oc w W x) (hb : Below w.heap.size w W) (ho : x.o = ([0, 1], w4, false)) : Says 50 #[x.val, .agg #[.int .i64 0, .int .i64 1, .int .i64 0, .int .i64 0, .int .i64 0]] W (.agg #[.int .i64 7, .int .i64 8]) := by
  obtain ⟨P, p, Q, q, v', m', e'⟩ := x
  cases ho
  exact rbound_one _ 0 1 0 8 (-7) 7 8 (p := 0) (K1 := 50) (K2 := 50) hx hb f4 c4 (show placeF [0, 1] 0 = ((0 : Nat) : Int) by decide +kernel) (.inl rfl) (show gimbalref11_greatest.f 50 [0, 1] w4 false 0 1 0 0 0 = some 8 by decide +kernel) (show gimbalref11_greatest.f 50 [0, 1] w4 false 0 (-1) 0 0 0 = some (-7) by decide +kernel) (by decide) (by decide) (by decide) (by decide) (by decide)
theorem asg3 (hx : Oc w W x) (hb : Below w.heap.size w W) (ho : x.o = ([0, 1], w3, false)) :
    Calls Try.prog 21 #[x.val, .int .i64 0, .agg #[.int .i64 0, .int .i64 1, .int .i64 0, .int .i64 0, .int .i64 3]] W fun e W' => ∃ z : OV, e = .returned z.val ∧ z.o = ([0, 1], w4, false) ∧ Own W W' z ∧ Below W.heap.size W W' := by
  obtain ⟨P, p, Q, q, v', m', e'⟩ := x
  cases ho
  have g := assign_self ⟨P, p, Q, q, [0, 1], w3, false⟩ 0 0 1 0 0 3 (p := 0) (C := mat 4 w3) (w := W) ⟨⟨⟨hx.r0.le, .inl (hx.r0.reads hb)⟩, ⟨hx.r1.le, .inl (hx.r1.reads hb)⟩⟩⟩ ⟨f3⟩ ⟨show ([0, 1] : List Int).length ≤ 8 by decide⟩ ⟨show ([0, 1] : List Int).length ≤ 1000 by decide⟩ ⟨by rw [m3]; exact c3⟩ ⟨show placeF [0, 1] 0 = ((0 : Nat) : Int) by decide +kernel⟩ ⟨show ofB [0, 1] 0 1 0 0 3 = true by decide +kernel⟩ ⟨by decide⟩ ⟨by decide⟩ ⟨by decide⟩ ⟨by decide⟩ ⟨s3⟩ ⟨by decide⟩ ⟨by rw [m4]; exact f4⟩
  dsimp only at g
  rw [m4, c4] at g
  exact g
end
end Go.Proofs.Ytphfchbggechhaa.QO
end
end
section
noncomputable section
namespace Go.Proofs.Ytphfchbggechhaa.QO
open Go.RowKit Go.Shelf Go.Proofs.YtphfchbggechhaaW.PrintWords Go.Proofs.YtphfchbggechhaaW.PrintLast Go.Proofs.YtphfchbggechhaaW.PrintMore
open Go.Proofs.Ytphfchbggechhaa.Pure
attribute [local go_sem] Oper.semAt_some
attribute [local go_sem ↓] Go.wp_at_zero Go.wp_at_succ
set_option linter.unusedVariables false
set_option linter.unusedSimpArgs false
def awk_T2 : Bool × List (List Nat × List Nat) := (true, [([], []), ([], []), ([], []), ([0, 1, 2, 1], [0, 1, 2]), ([3, 3, 0, 1, 2, 3], [3])])
def awk_B2 : List Nat := [0, 0, 0, 7, 15]
theorem awk_tab2 : rtab .any (opsOf Try.f13 2) = awk_T2 := by kernel_rfl
theorem awk_bits2 : waitsOk awk_T2.2 awk_B2 = true := by kernel_rfl
def awk_T5 : Bool × List (List Nat × List Nat) := (true, [([], []), ([], []), ([0, 1, 1], [0, 1]), ([], []), ([2, 3], [2, 3]), ([4, 2], [4]), ([5], [5]), ([5, 5], [5]), ([6, 7, 7, 5], [5, 6, 7]), ([5], [5]), ([8, 9, 5], [5, 8, 9]), ([5, 10], [5, 10]), ([11, 8], [11]), ([12], [12]), ([12], [12]), ([13, 14, 12, 12], [12, 13, 14]), ([15, 12], [12]), ([15, 16, 16, 12], [12, 15, 16]), ([12], [12]), ([17, 18, 12], [12, 17, 18]), ([12, 19], [12, 19]), ([20, 17, 0, 1, 2, 3, 4, 5, 6, 7, 8, 9, 10, 11, 12, 13, 14, 15, 16, 17, 18, 19, 20], [20])])
def awk_B5 : List Nat := [0, 0, 3, 0, 15, 31, 63, 63, 255, 63, 1023, 2047, 4095, 8191, 8191, 32767, 65535, 131071, 8191, 524287, 1048575, 2097151]
theorem awk_tab5 : rtab .any (opsOf Try.f13 5) = awk_T5 := by kernel_rfl
theorem awk_bits5 : waitsOk awk_T5.2 awk_B5 = true := by kernel_rfl
section
variable {P : Program} {ops : Array Oper} {Q : Exit → Act → World → Prop} {o : Oper} {rest : List Oper} {a : Act}
theorem lit_event {W : World} (hgd : o.guard = none) {N : Tmp} (_hd : o.dst = some N) {n : Nat} {cs : Array Value} {t : TypeId}
    (hrun : (execOp a.eval o).run P W = .ok (.value (.slice (some ⟨W.heap.size, 0, none⟩) n n)) (W.alloc (.cells cs t (0, 0))))
    (h : ∀ g, g = W.heap.size → ∀ w1, w1.heap[g]? = some (.cells cs t (0, 0)) → Below W.heap.size W w1 → wpList P ops Q rest (a.put o.dst (.slice (some ⟨g, 0, none⟩) n n)) w1) : wpList P ops Q (o :: rest) a W :=
  Kd.event_run hgd hrun (h _ rfl _ (blk_new W _) (below_alloc (Below.refl _ _) _))
end
theorem eq_itv {W : World} {a b c d : Int} {r : Bool} (h : (a == c && b == d) = r) : (Op.equalIn 10000 36 (.agg #[.int .i64 a, .int .i64 b]) (.agg #[.int .i64 c, .int .i64 d])).run Try.prog W = .ok r W := by
  have hu36 := Try.underlying36
  have hu2 := Try.underlying2
  rw [← h]
  refine eqA_of hu36 (by kernel_rfl) ?_
  refine eqf_cons (by rfl) (by go_simp; rfl) (by go_simp; rfl) (by go_simp) ?_
  exact eqf_last (by rfl) (by go_simp; rfl) (by go_simp; rfl) (by go_simp)
set_option maxHeartbeats 16000000 in
set_option maxRecDepth 100000 in
theorem awake_o (w : World) : Says 13 #[] w (.bool true) := by
  have hu25 := Try.underlying25
  have hu34 := Try.underlying34
  have hu36 := Try.underlying36
  have q1 := fun W => eq_itv (W := W) (a := 4) (b := 5) (c := 4) (d := 5) (r := true) (by decide)
  have q2 := fun W => eq_itv (W := W) (a := 5) (b := 7) (c := 5) (d := 7) (r := true) (by decide)
  have q3 := fun W => eq_itv (W := W) (a := 7) (b := 8) (c := 7) (d := 8) (r := true) (by decide)
  go_enter Try.func13, Try.ntmps13
  go_upto_region 1 with fail
  have HM : Aside0 (MS w [] [] w) := ⟨MS.nil w⟩
  go_upto_region 2 with (first | ((with_reducible refine gate_dst (N := 2) rfl ?_); refine lit_event (N := 2) (n := 2) (cs := #[.int .i64 0, .int .i64 1]) (t := 3) ?hg ?hd ?hr ?_; (case hd => rfl); (case hg => rfl); (case hr => first | (go_simp; done) | (go_simp; rfl)); intro gl hg wk hbox hb; have n_ := Aside0.mk ((MS.to HM).made hg hbox hb); clear HM hg hbox hb; have HM := n_; clear n_; obtain ⟨kgl0, kgl1, fgl0, fgl1⟩ := MS.c2 HM m0_) | (go_at_call 48; (with_reducible refine (top_own (HM.out.F.all _ m0_).1).mono ?_); rintro e wk ⟨t0, rfl, ht0, ho, hb⟩; have n_ := Aside0.mk ((MS.to HM).call hb ho); clear HM ho hb; have HM := n_; clear n_; clear fgl0 fgl1 kgl0 kgl1; obtain ⟨kgl0, kgl1, fgl0, fgl1⟩ := MS.c2 HM m0_) | ((with_reducible refine gate_dst (N := 1) rfl ?_); refine box_event ?hg (N := 1) ?hd (cs := #[.slice none 0 0, .slice none 0 0, .bool false]) (t := 25) ?hr ?_; (case hd => rfl); (case hg => rfl); (case hr => first | (go_simp; done) | (go_simp; rfl)); intro go hg wk hbox hb; have n_ := Aside0.mk ((MS.to HM).made hg hbox hb); clear HM hg hbox hb; have HM := n_; clear n_; clear fgl0 fgl1 kgl0 kgl1; obtain ⟨kgo0, kgo1, kgo2, fgo0, fgo1, fgo2⟩ := MS.c3 HM m0_; obtain ⟨kgl0, kgl1, fgl0, fgl1⟩ := MS.c2 HM m1_))
  have n_ : Aside0 (MS w [t0] [(go, .cells #[.slice t0.P t0.v.length t0.p, .slice t0.Q t0.m.length t0.q, .bool t0.e] 25 (0, 0)), (gl, .cells #[.int .i64 0, .int .i64 1] 3 (0, 0))] _) := ⟨MS.put3 [] HM.out (a' := .slice t0.P t0.v.length t0.p) (b' := .slice t0.Q t0.m.length t0.q) (c' := .bool t0.e)⟩; clear HM; have HM := n_; clear n_
  generalize hW_ : World.setCell _ _ _ = wk at HM ⊢; clear hW_
  clear fgl0 fgl1 fgo0 fgo1 fgo2 kgl0 kgl1 kgo0 kgo1 kgo2; obtain ⟨kgo0, kgo1, kgo2, fgo0, fgo1, fgo2⟩ := MS.c3 HM m0_; obtain ⟨kgl0, kgl1, fgl0, fgl1⟩ := MS.c2 HM m1_
  have H0 := Aside0.mk ht0; clear ht0
  have n_ := Aside0.mk (HM.out.next (below_drew (Below.refl _ _))); clear HM; have HM := n_; clear n_
  clear fgl0 fgl1 fgo0 fgo1 fgo2 kgl0 kgl1 kgo0 kgo1 kgo2
  refine start_ (n := 5) (S := fun w' => w'.cell? ⟨go, 0, none⟩ = some (.slice t0.P t0.v.length t0.p) ∧ w'.cell? ⟨go, 1, none⟩ = some (.slice t0.Q t0.m.length t0.q) ∧ w'.cell? ⟨go, 2, none⟩ = some (.bool t0.e)) (ds := [4]) (mB 5 0) (by kernel_rfl) rfl (by kernel_rfl) ⟨MS.k HM m0_ 0 rfl, MS.k HM m0_ 1 rfl, MS.k HM m0_ 2 rfl⟩ (fun hHeld => ?_)
  refine with_tabW awk_tab2 awk_bits2 (fun HT_ HW_ => ?_)
  generalize hWd : World.drew _ = wk at HM hHeld ⊢; clear hWd
  refine tV_ 0 4 (mB 5 1) HT_ HW_ hHeld ?_
  refine pV_ 2 6 (mB 5 5) HT_ ?_
  refine one_ (i := 1) (N := some 5) (mB 5 7) rfl rfl (one_of HT_.out (by kernel_rfl)) (by decide) (fun K hK => ?_)
  refine goes_ Try.func49 (by kernel_rfl) rfl #[.int .i64 0] (by rfl) rfl rfl vL ?_
  with_reducible refine (one_as 0).mono ?_
  rintro e wk ⟨rfl, hb⟩; refine ⟨_, rfl, ?_⟩
  have n_ := Aside0.mk (HM.out.next hb); clear HM hb; have HM := n_; clear n_
  refine hK.out _ _ ⟨MS.k HM m0_ 0 rfl, MS.k HM m0_ 1 rfl, MS.k HM m0_ 2 rfl⟩ (fun hHeld => ?_)
  clear hK K
  refine nO_ 5 ?_
  refine one_ (i := 3) (N := some 7) (mB 5 15) rfl rfl (one_of HT_.out (by kernel_rfl)) (by decide) (fun K hK => ?_)
  refine goes_ Try.func19 (by kernel_rfl) rfl #[t0.val, .agg #[.int .i64 0, .int .i64 1, .int .i64 0, .int .i64 0, .int .i64 0], .agg #[.int .i64 0, .int .i64 5]] (by rfl) rfl rfl vL ?_
  with_reducible refine (guard_as (MS.oc HM m0_) (MS.bel HM) H0.out f0 0 1 0 0 0 0 5 g1).mono ?_
  rintro e wk ⟨t1, rfl, ht1, ho, hb⟩; refine ⟨_, rfl, ?_⟩
  have n_ := Aside0.mk (HM.out.call hb ho); clear HM hb ho; have HM := n_; clear n_
  refine hK.out _ _ ⟨MS.k HM m0_ 0 rfl, MS.k HM m0_ 1 rfl, MS.k HM m0_ 2 rfl⟩ (fun hHeld => ?_)
  clear hK K
  refine nO_ 7 ?_
  obtain ⟨kgo0, kgo1, kgo2, fgo0, fgo1, fgo2⟩ := MS.c3 HM m0_; obtain ⟨kgl0, kgl1, fgl0, fgl1⟩ := MS.c2 HM m1_
  refine last_ (i := 4) (N := none) (mB 5 31) rfl rfl (one_of HT_.out (by kernel_rfl)) (by decide) (fun K hK => ?_)
  refine skip_ (w1 := ?_) (by rfl) rfl ?_ ?_
  rotate_left
  · go_simp
    rfl
  refine hK.out _ _ ?_
  clear hK K
  refine done_ (done_of HT_.out (by kernel_rfl)) ?_
  clear HT_ HW_ hHeld
  have n_ : Aside0 (MS w [t1, t0] [(go, .cells #[.slice t1.P t1.v.length t1.p, .slice t1.Q t1.m.length t1.q, .bool t1.e] 25 (0, 0)), (gl, .cells #[.int .i64 0, .int .i64 1] 3 (0, 0))] _) := ⟨MS.put3 [] HM.out (a' := .slice t1.P t1.v.length t1.p) (b' := .slice t1.Q t1.m.length t1.q) (c' := .bool t1.e)⟩; clear HM; have HM := n_; clear n_
  generalize hW_ : World.setCell _ _ _ = wk at HM ⊢; clear hW_
  clear fgl0 fgl1 fgo0 fgo1 fgo2 kgl0 kgl1 kgo0 kgo1 kgo2; obtain ⟨kgo0, kgo1, kgo2, fgo0, fgo1, fgo2⟩ := MS.c3 HM m0_; obtain ⟨kgl0, kgl1, fgl0, fgl1⟩ := MS.c2 HM m1_
  have H1 := Aside0.mk ht1; clear ht1
  go_upto_region 4 with (first | (go_at_call 19; (with_reducible refine (guard_as (MS.oc HM m0_) (MS.bel HM) H1.out f1 0 (-1) 1 1 0 0 2 g2).mono ?_); rintro e wk ⟨t2, rfl, ht2, ho, hb⟩; have n_ := Aside0.mk ((MS.to HM).call hb ho); clear HM ho hb; have HM := n_; clear n_; clear fgl0 fgl1 fgo0 fgo1 fgo2 kgl0 kgl1 kgo0 kgo1 kgo2; obtain ⟨kgo0, kgo1, kgo2, fgo0, fgo1, fgo2⟩ := MS.c3 HM m0_; obtain ⟨kgl0, kgl1, fgl0, fgl1⟩ := MS.c2 HM m1_))
  have n_ : Aside0 (MS w [t2, t1, t0] [(go, .cells #[.slice t2.P t2.v.length t2.p, .slice t2.Q t2.m.length t2.q, .bool t2.e] 25 (0, 0)), (gl, .cells #[.int .i64 0, .int .i64 1] 3 (0, 0))] _) := ⟨MS.put3 [] HM.out (a' := .slice t2.P t2.v.length t2.p) (b' := .slice t2.Q t2.m.length t2.q) (c' := .bool t2.e)⟩; clear HM; have HM := n_; clear n_
  generalize hW_ : World.setCell _ _ _ = wk at HM ⊢; clear hW_
  clear fgl0 fgl1 fgo0 fgo1 fgo2 kgl0 kgl1 kgo0 kgo1 kgo2; obtain ⟨kgo0, kgo1, kgo2, fgo0, fgo1, fgo2⟩ := MS.c3 HM m0_; obtain ⟨kgl0, kgl1, fgl0, fgl1⟩ := MS.c2 HM m1_
  have H2 := Aside0.mk ht2; clear ht2
  go_upto_region 5 with (first | (go_at_call 19; (with_reducible refine (guard_as (MS.oc HM m0_) (MS.bel HM) H2.out f2 0 1 1 1 0 9 4611686018427387904 g3).mono ?_); rintro e wk ⟨t3, rfl, ht3, ho, hb⟩; have n_ := Aside0.mk ((MS.to HM).call hb ho); clear HM ho hb; have HM := n_; clear n_; clear fgl0 fgl1 fgo0 fgo1 fgo2 kgl0 kgl1 kgo0 kgo1 kgo2; obtain ⟨kgo0, kgo1, kgo2, fgo0, fgo1, fgo2⟩ := MS.c3 HM m0_; obtain ⟨kgl0, kgl1, fgl0, fgl1⟩ := MS.c2 HM m1_))
  have n_ : Aside0 (MS w [t3, t2, t1, t0] [(go, .cells #[.slice t3.P t3.v.length t3.p, .slice t3.Q t3.m.length t3.q, .bool t3.e] 25 (0, 0)), (gl, .cells #[.int .i64 0, .int .i64 1] 3 (0, 0))] _) := ⟨MS.put3 [] HM.out (a' := .slice t3.P t3.v.length t3.p) (b' := .slice t3.Q t3.m.length t3.q) (c' := .bool t3.e)⟩; clear HM; have HM := n_; clear n_
  generalize hW_ : World.setCell _ _ _ = wk at HM ⊢; clear hW_
  clear fgl0 fgl1 fgo0 fgo1 fgo2 kgl0 kgl1 kgo0 kgo1 kgo2; obtain ⟨kgo0, kgo1, kgo2, fgo0, fgo1, fgo2⟩ := MS.c3 HM m0_; obtain ⟨kgl0, kgl1, fgl0, fgl1⟩ := MS.c2 HM m1_
  have H3 := Aside0.mk ht3; clear ht3
  have n_ := Aside0.mk (HM.out.next (below_drew (Below.refl _ _))); clear HM; have HM := n_; clear n_
  clear fgl0 fgl1 fgo0 fgo1 fgo2 kgl0 kgl1 kgo0 kgo1 kgo2
  refine start_ (n := 22) (S := fun w' => w'.cell? ⟨go, 0, none⟩ = some (.slice t3.P t3.v.length t3.p) ∧ w'.cell? ⟨go, 1, none⟩ = some (.slice t3.Q t3.m.length t3.q) ∧ w'.cell? ⟨go, 2, none⟩ = some (.bool t3.e)) (ds := []) (mB 22 0) (by kernel_rfl) rfl (by kernel_rfl) ⟨MS.k HM m0_ 0 rfl, MS.k HM m0_ 1 rfl, MS.k HM m0_ 2 rfl⟩ (fun hHeld => ?_)
  refine with_tabW awk_tab5 awk_bits5 (fun HT_ HW_ => ?_)
  generalize hWd : World.drew _ = wk at HM hHeld ⊢; clear hWd
  refine tV_ 0 16 (mB 22 1) HT_ HW_ hHeld ?_
  refine pV_ 3 19 (mB 22 9) HT_ ?_
  refine one_ (i := 1) (N := some 17) (mB 22 11) rfl rfl (one_of HT_.out (by kernel_rfl)) (by decide) (fun K hK => ?_)
  refine goes_ Try.func49 (by kernel_rfl) rfl #[.int .i64 0] (by rfl) rfl rfl vL ?_
  with_reducible refine (one_as 0).mono ?_
  rintro e wk ⟨rfl, hb⟩; refine ⟨_, rfl, ?_⟩
  have n_ := Aside0.mk (HM.out.next hb); clear HM hb; have HM := n_; clear n_
  refine hK.out _ _ ⟨MS.k HM m0_ 0 rfl, MS.k HM m0_ 1 rfl, MS.k HM m0_ 2 rfl⟩ (fun hHeld => ?_)
  clear hK K
  refine nO_ 17 ?_
  refine one_ (i := 2) (N := some 18) (mB 22 15) rfl rfl (one_of HT_.out (by kernel_rfl)) (by decide) (fun K hK => ?_)
  refine goes_ Try.func50 (by kernel_rfl) rfl #[t3.val, .agg #[.int .i64 0, .int .i64 1, .int .i64 0, .int .i64 0, .int .i64 0]] (by rfl) rfl rfl vL ?_
  with_reducible refine (rb1 (MS.oc HM m0_) (MS.bel HM) H3.out).mono ?_
  rintro e wk ⟨rfl, hb⟩; refine ⟨_, rfl, ?_⟩
  have n_ := Aside0.mk (HM.out.next hb); clear HM hb; have HM := n_; clear n_
  refine hK.out _ _ ⟨MS.k HM m0_ 0 rfl, MS.k HM m0_ 1 rfl, MS.k HM m0_ 2 rfl⟩ (fun hHeld => ?_)
  clear hK K
  refine nO_ 18 ?_
  refine pV_ 4 20 (mB 22 31) HT_ ?_
  refine pV_ 5 21 (mB 22 63) HT_ ?_
  refine tV_ 6 22 (mB 22 127) HT_ HW_ hHeld ?_
  refine pV_ 9 25 (mB 22 639) HT_ ?_
  refine one_ (i := 7) (N := some 23) (mB 22 767) rfl rfl (one_of HT_.out (by kernel_rfl)) (by decide) (fun K hK => ?_)
  refine goes_ Try.func49 (by kernel_rfl) rfl #[.int .i64 1] (by rfl) rfl rfl vL ?_
  with_reducible refine (one_as 1).mono ?_
  rintro e wk ⟨rfl, hb⟩; refine ⟨_, rfl, ?_⟩
  have n_ := Aside0.mk (HM.out.next hb); clear HM hb; have HM := n_; clear n_
  refine hK.out _ _ ⟨MS.k HM m0_ 0 rfl, MS.k HM m0_ 1 rfl, MS.k HM m0_ 2 rfl⟩ (fun hHeld => ?_)
  clear hK K
  refine nO_ 23 ?_
  refine one_ (i := 8) (N := some 24) (mB 22 1023) rfl rfl (one_of HT_.out (by kernel_rfl)) (by decide) (fun K hK => ?_)
  refine goes_ Try.func50 (by kernel_rfl) rfl #[t3.val, .agg #[.int .i64 1, .int .i64 1, .int .i64 0, .int .i64 0, .int .i64 0]] (by rfl) rfl rfl vL ?_
  with_reducible refine (rb2 (MS.oc HM m0_) (MS.bel HM) H3.out).mono ?_
  rintro e wk ⟨rfl, hb⟩; refine ⟨_, rfl, ?_⟩
  have n_ := Aside0.mk (HM.out.next hb); clear HM hb; have HM := n_; clear n_
  refine hK.out _ _ ⟨MS.k HM m0_ 0 rfl, MS.k HM m0_ 1 rfl, MS.k HM m0_ 2 rfl⟩ (fun hHeld => ?_)
  clear hK K
  refine nO_ 24 ?_
  refine pV_ 10 26 (mB 22 2047) HT_ ?_
  refine pV_ 11 27 (mB 22 4095) HT_ ?_
  refine pV_ 12 28 (mB 22 8191) HT_ ?_
  refine tV_ 13 29 (mB 22 16383) HT_ HW_ hHeld ?_
  refine pV_ 14 30 (mB 22 32767) HT_ ?_
  refine pV_ 18 34 (mB 22 294911) HT_ ?_
  refine one_ (i := 15) (N := some 31) (mB 22 327679) rfl rfl (one_of HT_.out (by kernel_rfl)) (by decide) (fun K hK => ?_)
  refine goes_ Try.func21 (by kernel_rfl) rfl #[t3.val, .int .i64 0, .agg #[.int .i64 0, .int .i64 1, .int .i64 0, .int .i64 0, .int .i64 3]] (by rfl) rfl rfl vL ?_
  with_reducible refine (asg3 (MS.oc HM m0_) (MS.bel HM) H3.out).mono ?_
  rintro e wk ⟨t4, rfl, ht4, ho, hb⟩; refine ⟨_, rfl, ?_⟩
  have n_ := Aside0.mk (HM.out.call hb ho); clear HM hb ho; have HM := n_; clear n_
  refine hK.out _ _ ⟨MS.k HM m0_ 0 rfl, MS.k HM m0_ 1 rfl, MS.k HM m0_ 2 rfl⟩ (fun hHeld => ?_)
  clear hK K
  refine nO_ 31 ?_
  refine one_ (i := 16) (N := some 32) (mB 22 393215) rfl rfl (one_of HT_.out (by kernel_rfl)) (by decide) (fun K hK => ?_)
  refine goes_ Try.func49 (by kernel_rfl) rfl #[.int .i64 0] (by rfl) rfl rfl vL ?_
  with_reducible refine (one_as 0).mono ?_
  rintro e wk ⟨rfl, hb⟩; refine ⟨_, rfl, ?_⟩
  have n_ := Aside0.mk (HM.out.next hb); clear HM hb; have HM := n_; clear n_
  refine hK.out _ _ ⟨MS.k HM m0_ 0 rfl, MS.k HM m0_ 1 rfl, MS.k HM m0_ 2 rfl⟩ (fun hHeld => ?_)
  clear hK K
  refine nO_ 32 ?_
  refine one_ (i := 17) (N := some 33) (mB 22 524287) rfl rfl (one_of HT_.out (by kernel_rfl)) (by decide) (fun K hK => ?_)
  refine goes_ Try.func50 (by kernel_rfl) rfl #[t4.val, .agg #[.int .i64 0, .int .i64 1, .int .i64 0, .int .i64 0, .int .i64 0]] (by rfl) rfl rfl vL ?_
  with_reducible refine (rb3 (MS.oc HM m0_) (MS.bel HM) ht4).mono ?_
  rintro e wk ⟨rfl, hb⟩; refine ⟨_, rfl, ?_⟩
  have n_ := Aside0.mk (HM.out.next hb); clear HM hb; have HM := n_; clear n_
  refine hK.out _ _ ⟨MS.k HM m0_ 0 rfl, MS.k HM m0_ 1 rfl, MS.k HM m0_ 2 rfl⟩ (fun hHeld => ?_)
  clear hK K
  refine nO_ 33 ?_
  refine pV_ 19 35 (mB 22 1048575) HT_ ?_
  refine pV_ 20 36 (mB 22 2097151) HT_ ?_
  refine pV_ 21 0 (mB 22 4194303) HT_ ?_
  refine done_ (done_of HT_.out (by kernel_rfl)) ?_
  clear HT_ HW_ hHeld
  go_wp2
  go_ret
  exact ⟨rfl, MS.bel HM⟩
end Go.Proofs.Ytphfchbggechhaa.QO
end
end
section
noncomputable section
namespace Go.Proofs.Ytphfchbggechhaa.QO
open Go.RowKit Go.Shelf Go.Proofs.YtphfchbggechhaaW.PrintWords Go.Proofs.YtphfchbggechhaaW.PrintLast Go.Proofs.YtphfchbggechhaaW.PrintMore
open Go.Proofs.Ytphfchbggechhaa.Pure
attribute [local go_sem] Oper.semAt_some
attribute [local go_sem ↓] Go.wp_at_zero Go.wp_at_succ
set_option linter.unusedVariables false
set_option linter.unusedSimpArgs false
def octopForgets_T8 : Bool × List (List Nat × List Nat) := (true, [([], []), ([], []), ([], []), ([1, 2], [1, 2]), ([0, 3, 3], [0, 3]), ([4, 4], [4]), ([5, 5], [5]), ([5, 6], [5, 6]), ([7, 6, 0, 1, 2, 3, 4, 5, 6, 7], [7])])
def octopForgets_B8 : List Nat := [0, 0, 0, 6, 15, 31, 63, 127, 255]
theorem octopForgets_tab8 : rtab .any (opsOf Try.f3 8) = octopForgets_T8 := by kernel_rfl
theorem octopForgets_bits8 : waitsOk octopForgets_T8.2 octopForgets_B8 = true := by kernel_rfl
set_option maxHeartbeats 16000000 in
set_option maxRecDepth 100000 in
theorem octopForgets_w (AW : ∀ W : World, Says 13 #[] W (.bool true)) (X : OV) (x : Int) (w : World) (hX : Oc w w X) (lx : X.v.length ≤ 17592186044416) : Says 3 #[X.val, .int .i64 x] w (.bool true) := by
  have hu25 := Try.underlying25
  have hu34 := Try.underlying34
  have hu36 := Try.underlying36
  have HX := Aside0.mk hX
  have LX := Aside0.mk lx
  cases hfit : ofitB X.v X.m X.e with
  | false =>
    have HFT := Aside0.mk hfit
    clear hX lx hfit
    go_enter Try.func3, Try.ntmps3
    go_upto_region 1 with fail
    have HM : Aside0 (MS w [] [(w.heap.size, .cells #[.slice X.P X.v.length X.p, .slice X.Q X.m.length X.q, .bool X.e] 25 (0, 0))] (w.alloc (.cells #[.slice X.P X.v.length X.p, .slice X.Q X.m.length X.q, .bool X.e] 25 (0, 0)))) := ⟨(MS.new (MS.nil w) _ rfl)⟩
    generalize hW_ : (w.alloc (.cells #[.slice X.P X.v.length X.p, .slice X.Q X.m.length X.q, .bool X.e] 25 (0, 0))) = wk at HM ⊢; clear hW_
    generalize hg_ : w.heap.size = go at HM ⊢; clear hg_
    obtain ⟨kgo0, kgo1, kgo2, fgo0, fgo1, fgo2⟩ := MS.c3 HM m0_
    go_wp2_with (first | (go_at_call 12; (with_reducible refine (rfit_o (Oc.now HX (MS.bel HM)) (Below.refl _ _) LX.out HFT.out).mono ?_); rintro e wk ⟨rfl, hb⟩; have n_ := Aside0.mk ((MS.to HM).next hb); clear HM hb; have HM := n_; clear n_; clear fgo0 fgo1 fgo2 kgo0 kgo1 kgo2; obtain ⟨kgo0, kgo1, kgo2, fgo0, fgo1, fgo2⟩ := MS.c3 HM m0_) | (go_at_call 13; (with_reducible refine (AW _).mono ?_); rintro e wk ⟨rfl, hb⟩; have n_ := Aside0.mk ((MS.to HM).next hb); clear HM hb; have HM := n_; clear n_; clear fgo0 fgo1 fgo2 kgo0 kgo1 kgo2; obtain ⟨kgo0, kgo1, kgo2, fgo0, fgo1, fgo2⟩ := MS.c3 HM m0_))
    go_ret
    exact ⟨rfl, MS.bel HM⟩
  | true =>
    have HFT := Aside0.mk hfit
    have fx := ofitB_true.1 hfit
    have FX_ := Aside0.mk fx
    obtain ⟨fm, fe, hr, fr⟩ := fgt_ex fx x
    have HR := Aside0.mk hr
    have FR := Aside0.mk fr
    have HOF : Aside0 (∀ z : OV, z.o = X.o → OFit z.v z.m z.e) := ⟨fun z e => by
      obtain ⟨P, p, Q, q, v, m, b⟩ := X
      obtain ⟨P', p', Q', q', v', m', b'⟩ := z
      cases e; exact fx⟩
    clear hX lx hfit fx hr fr
    go_enter Try.func3, Try.ntmps3
    go_upto_region 1 with fail
    have HM : Aside0 (MS w [] [(w.heap.size, .cells #[.slice X.P X.v.length X.p, .slice X.Q X.m.length X.q, .bool X.e] 25 (0, 0))] (w.alloc (.cells #[.slice X.P X.v.length X.p, .slice X.Q X.m.length X.q, .bool X.e] 25 (0, 0)))) := ⟨(MS.new (MS.nil w) _ rfl)⟩
    generalize hW_ : (w.alloc (.cells #[.slice X.P X.v.length X.p, .slice X.Q X.m.length X.q, .bool X.e] 25 (0, 0))) = wk at HM ⊢; clear hW_
    generalize hg_ : w.heap.size = go at HM ⊢; clear hg_
    obtain ⟨kgo0, kgo1, kgo2, fgo0, fgo1, fgo2⟩ := MS.c3 HM m0_
    go_upto_region 3 with (first | (go_at_call 12; (with_reducible refine (rfit_o (Oc.now HX (MS.bel HM)) (Below.refl _ _) LX.out HFT.out).mono ?_); rintro e wk ⟨rfl, hb⟩; have n_ := Aside0.mk ((MS.to HM).next hb); clear HM hb; have HM := n_; clear n_; clear fgo0 fgo1 fgo2 kgo0 kgo1 kgo2; obtain ⟨kgo0, kgo1, kgo2, fgo0, fgo1, fgo2⟩ := MS.c3 HM m0_))
    go_upto_region 4 with (first | (go_at_call 14; (with_reducible refine (deep_own (Oc.now HX (MS.bel HM)) (Below.refl _ _) FX_.out).mono ?_); rintro e wk ⟨ow, rfl, how, ho, hb⟩; have n_ := Aside0.mk ((MS.to HM).call hb ho); clear HM ho hb; have HM := n_; clear n_; clear fgo0 fgo1 fgo2 kgo0 kgo1 kgo2; obtain ⟨kgo0, kgo1, kgo2, fgo0, fgo1, fgo2⟩ := MS.c3 HM m0_) | ((with_reducible refine gate_dst (N := 5) rfl ?_); refine box_event ?hg (N := 5) ?hd (cs := #[.slice none 0 0, .slice none 0 0, .bool false]) (t := 25) ?hr ?_; (case hd => rfl); (case hg => rfl); (case hr => first | (go_simp; done) | (go_simp; rfl)); intro gw hg wk hbox hb; have n_ := Aside0.mk ((MS.to HM).made hg hbox hb); clear HM hg hbox hb; have HM := n_; clear n_; clear fgo0 fgo1 fgo2 kgo0 kgo1 kgo2; obtain ⟨kgw0, kgw1, kgw2, fgw0, fgw1, fgw2⟩ := MS.c3 HM m0_; obtain ⟨kgo0, kgo1, kgo2, fgo0, fgo1, fgo2⟩ := MS.c3 HM m1_))
    have n_ : Aside0 (MS w [ow] [(gw, .cells #[.slice ow.P ow.v.length ow.p, .slice ow.Q ow.m.length ow.q, .bool ow.e] 25 (0, 0)), (go, .cells #[.slice X.P X.v.length X.p, .slice X.Q X.m.length X.q, .bool X.e] 25 (0, 0))] _) := ⟨MS.put3 [] HM.out (a' := .slice ow.P ow.v.length ow.p) (b' := .slice ow.Q ow.m.length ow.q) (c' := .bool ow.e)⟩; clear HM; have HM := n_; clear n_
    generalize hW_ : World.setCell _ _ _ = wk at HM ⊢; clear hW_
    clear fgo0 fgo1 fgo2 fgw0 fgw1 fgw2 kgo0 kgo1 kgo2 kgw0 kgw1 kgw2; obtain ⟨kgw0, kgw1, kgw2, fgw0, fgw1, fgw2⟩ := MS.c3 HM m0_; obtain ⟨kgo0, kgo1, kgo2, fgo0, fgo1, fgo2⟩ := MS.c3 HM m1_
    have HFW := Aside0.mk (HOF.out _ how); have HOW := Aside0.mk how; clear how
    go_upto_region 5 with (first | (go_at_call 15; (with_reducible refine (forget_as (MS.oc HM m0_) (MS.bel HM) HOW.out FX_.out x HR.out).mono ?_); rintro e wk ⟨av, rfl, hav, ho, hb⟩; have n_ := Aside0.mk ((MS.to HM).call hb ho); clear HM ho hb; have HM := n_; clear n_; clear fgo0 fgo1 fgo2 fgw0 fgw1 fgw2 kgo0 kgo1 kgo2 kgw0 kgw1 kgw2; obtain ⟨kgw0, kgw1, kgw2, fgw0, fgw1, fgw2⟩ := MS.c3 HM m0_; obtain ⟨kgo0, kgo1, kgo2, fgo0, fgo1, fgo2⟩ := MS.c3 HM m1_) | ((with_reducible refine gate_dst (N := 6) rfl ?_); refine box_event ?hg (N := 6) ?hd (cs := #[.slice none 0 0, .slice none 0 0, .bool false]) (t := 25) ?hr ?_; (case hd => rfl); (case hg => rfl); (case hr => first | (go_simp; done) | (go_simp; rfl)); intro ga hg wk hbox hb; have n_ := Aside0.mk ((MS.to HM).made hg hbox hb); clear HM hg hbox hb; have HM := n_; clear n_; clear fgo0 fgo1 fgo2 fgw0 fgw1 fgw2 kgo0 kgo1 kgo2 kgw0 kgw1 kgw2; obtain ⟨kga0, kga1, kga2, fga0, fga1, fga2⟩ := MS.c3 HM m0_; obtain ⟨kgw0, kgw1, kgw2, fgw0, fgw1, fgw2⟩ := MS.c3 HM m1_; obtain ⟨kgo0, kgo1, kgo2, fgo0, fgo1, fgo2⟩ := MS.c3 HM m2_))
    have n_ : Aside0 (MS w [av, ow] [(ga, .cells #[.slice av.P av.v.length av.p, .slice av.Q av.m.length av.q, .bool av.e] 25 (0, 0)), (gw, .cells #[.slice ow.P ow.v.length ow.p, .slice ow.Q ow.m.length ow.q, .bool ow.e] 25 (0, 0)), (go, .cells #[.slice X.P X.v.length X.p, .slice X.Q X.m.length X.q, .bool X.e] 25 (0, 0))] _) := ⟨MS.put3 [] HM.out (a' := .slice av.P av.v.length av.p) (b' := .slice av.Q av.m.length av.q) (c' := .bool av.e)⟩; clear HM; have HM := n_; clear n_
    generalize hW_ : World.setCell _ _ _ = wk at HM ⊢; clear hW_
    clear fga0 fga1 fga2 fgo0 fgo1 fgo2 fgw0 fgw1 fgw2 kga0 kga1 kga2 kgo0 kgo1 kgo2 kgw0 kgw1 kgw2; obtain ⟨kga0, kga1, kga2, fga0, fga1, fga2⟩ := MS.c3 HM m0_; obtain ⟨kgw0, kgw1, kgw2, fgw0, fgw1, fgw2⟩ := MS.c3 HM m1_; obtain ⟨kgo0, kgo1, kgo2, fgo0, fgo1, fgo2⟩ := MS.c3 HM m2_
    have HAV := Aside0.mk hav; clear hav
    go_upto_region 7 with (first | (go_at_call 16; (with_reducible refine (equal_as (MS.oc HM m1_) (Oc.at_ HX (MS.bel HM)) (MS.bel HM) HOW.out rfl FX_.out).mono ?_); rintro e wk ⟨rfl, hb⟩; have n_ := Aside0.mk ((MS.to HM).next hb); clear HM hb; have HM := n_; clear n_; clear fga0 fga1 fga2 fgo0 fgo1 fgo2 fgw0 fgw1 fgw2 kga0 kga1 kga2 kgo0 kgo1 kgo2 kgw0 kgw1 kgw2; obtain ⟨kga0, kga1, kga2, fga0, fga1, fga2⟩ := MS.c3 HM m0_; obtain ⟨kgw0, kgw1, kgw2, fgw0, fgw1, fgw2⟩ := MS.c3 HM m1_; obtain ⟨kgo0, kgo1, kgo2, fgo0, fgo1, fgo2⟩ := MS.c3 HM m2_))
    have n_ := Aside0.mk (HM.out.swap); clear HM; have HM := n_; clear n_
    clear fga0 fga1 fga2 fgo0 fgo1 fgo2 fgw0 fgw1 fgw2 kga0 kga1 kga2 kgo0 kgo1 kgo2 kgw0 kgw1 kgw2; obtain ⟨kga0, kga1, kga2, fga0, fga1, fga2⟩ := MS.c3 HM m0_; obtain ⟨kgw0, kgw1, kgw2, fgw0, fgw1, fgw2⟩ := MS.c3 HM m1_; obtain ⟨kgo0, kgo1, kgo2, fgo0, fgo1, fgo2⟩ := MS.c3 HM m2_
    go_upto_region 8 with (first | (go_at_call 17; (with_reducible refine (spoil_ms (MS.to HM) HFW.out).mono ?_); rintro e wk ⟨rfl, ho⟩; clear HM; have HM := Aside0.mk ho; clear ho; clear fga0 fga1 fga2 fgo0 fgo1 fgo2 fgw0 fgw1 fgw2 kga0 kga1 kga2 kgo0 kgo1 kgo2 kgw0 kgw1 kgw2; obtain ⟨kga0, kga1, kga2, fga0, fga1, fga2⟩ := MS.c3 HM m0_; obtain ⟨kgw0, kgw1, kgw2, fgw0, fgw1, fgw2⟩ := MS.c3 HM m1_; obtain ⟨kgo0, kgo1, kgo2, fgo0, fgo1, fgo2⟩ := MS.c3 HM m2_))
    have n_ := Aside0.mk (HM.out.next (below_drew (Below.refl _ _))); clear HM; have HM := n_; clear n_
    clear fga0 fga1 fga2 fgo0 fgo1 fgo2 fgw0 fgw1 fgw2 kga0 kga1 kga2 kgo0 kgo1 kgo2 kgw0 kgw1 kgw2
    refine start_ (n := 9) (S := fun w' => w'.cell? ⟨ga, 0, none⟩ = some (.slice av.P av.v.length av.p) ∧ w'.cell? ⟨ga, 1, none⟩ = some (.slice av.Q av.m.length av.q) ∧ w'.cell? ⟨ga, 2, none⟩ = some (.bool av.e) ∧ w'.cell? ⟨go, 0, none⟩ = some (.slice X.P X.v.length X.p) ∧ w'.cell? ⟨go, 1, none⟩ = some (.slice X.Q X.m.length X.q) ∧ w'.cell? ⟨go, 2, none⟩ = some (.bool X.e)) (ds := []) (mB 9 0) (by kernel_rfl) rfl (by kernel_rfl) ⟨MS.k HM m0_ 0 rfl, MS.k HM m0_ 1 rfl, MS.k HM m0_ 2 rfl, MS.k HM m2_ 0 rfl, MS.k HM m2_ 1 rfl, MS.k HM m2_ 2 rfl⟩ (fun hHeld => ?_)
    refine with_tabW octopForgets_tab8 octopForgets_bits8 (fun HT_ HW_ => ?_)
    generalize hWd : World.drew _ = wk at HM hHeld ⊢; clear hWd
    refine tV_ 0 22 (mB 9 1) HT_ HW_ hHeld ?_
    refine tV_ 1 23 (mB 9 3) HT_ HW_ hHeld ?_
    refine pV_ 2 24 (mB 9 7) HT_ ?_
    refine one_ (i := 3) (N := some 25) (mB 9 15) rfl rfl (one_of HT_.out (by kernel_rfl)) (by decide) (fun K hK => ?_)
    refine goes_ Try.func18 (by kernel_rfl) rfl #[X.val, .int .i64 x] (by rfl) rfl rfl vL ?_
    with_reducible refine (rforget_as (Oc.now HX HM.out.S.below) (Below.refl _ _) rfl FX_.out x HR.out).mono ?_
    rintro e wk ⟨zv, rfl, hzv, ho, hb⟩; refine ⟨_, rfl, ?_⟩
    have n_ := Aside0.mk (HM.out.call hb ho); clear HM hb ho; have HM := n_; clear n_
    refine hK.out _ _ ⟨MS.k HM m0_ 0 rfl, MS.k HM m0_ 1 rfl, MS.k HM m0_ 2 rfl, MS.k HM m2_ 0 rfl, MS.k HM m2_ 1 rfl, MS.k HM m2_ 2 rfl⟩ (fun hHeld => ?_)
    clear hK K
    refine nO_ 25 ?_
    refine one_ (i := 4) (N := some 26) (mB 9 31) rfl rfl (one_of HT_.out (by kernel_rfl)) (by decide) (fun K hK => ?_)
    refine goes_ Try.func16 (by kernel_rfl) rfl #[av.val, zv.val] (by rfl) rfl rfl vL ?_
    with_reducible refine (equal_as (MS.oc HM m1_) (MS.oc HM m0_) (MS.bel HM) HAV.out hzv FR.out).mono ?_
    rintro e wk ⟨rfl, hb⟩; refine ⟨_, rfl, ?_⟩
    have n_ := Aside0.mk (HM.out.next hb); clear HM hb; have HM := n_; clear n_
    refine hK.out _ _ ⟨MS.k HM m0_ 0 rfl, MS.k HM m0_ 1 rfl, MS.k HM m0_ 2 rfl, MS.k HM m2_ 0 rfl, MS.k HM m2_ 1 rfl, MS.k HM m2_ 2 rfl⟩ (fun hHeld => ?_)
    clear hK K
    refine nO_ 26 ?_
    refine pV_ 5 27 (mB 9 63) HT_ ?_
    refine one_ (i := 6) (N := some 28) (mB 9 127) rfl rfl (one_of HT_.out (by kernel_rfl)) (by decide) (fun K hK => ?_)
    refine goes_ Try.func13 (by kernel_rfl) rfl #[] (by rfl) rfl rfl vL ?_
    with_reducible refine (AW _).mono ?_
    rintro e wk ⟨rfl, hb⟩; refine ⟨_, rfl, ?_⟩
    have n_ := Aside0.mk (HM.out.next hb); clear HM hb; have HM := n_; clear n_
    refine hK.out _ _ ⟨MS.k HM m0_ 0 rfl, MS.k HM m0_ 1 rfl, MS.k HM m0_ 2 rfl, MS.k HM m2_ 0 rfl, MS.k HM m2_ 1 rfl, MS.k HM m2_ 2 rfl⟩ (fun hHeld => ?_)
    clear hK K
    refine nO_ 28 ?_
    refine pV_ 7 29 (mB 9 255) HT_ ?_
    refine pV_ 8 4 (mB 9 511) HT_ ?_
    refine done_ (done_of HT_.out (by kernel_rfl)) ?_
    clear HT_ HW_ hHeld
    go_wp2
    go_ret
    exact ⟨rfl, MS.bel HM⟩
theorem octopForgets_walk (X : OV) (x : Int) (w : World) (hX : Oc w w X) (lx : X.v.length ≤ 17592186044416) : Says 3 #[X.val, .int .i64 x] w (.bool true) := octopForgets_w awake_o X x w hX lx
end Go.Proofs.Ytphfchbggechhaa.QO
end
end
section
namespace Go.Proofs.Ytphfchbggechhaa.Open
open Go.RowKit Go.ChangeShapes Go.WideShapes Go.Proofs.YtphfchbggechhaaW.PrintWords Go.Proofs.YtphfchbggechhaaW.PrintMore
def Opens {α : Type} (P : Program) (t : TypeId) (R : World → α → List Value → Prop) (Q : α → Prop) : Prop :=
  ∀ (H : Type) (enc : TypeId × Value → H) (w : World) (base : Nat) (spare : Nat → Bool) (held : Bool) (fuel : Nat) (cs : List Value) (x : DataW H × List MemPlace),
    DataW.trod enc P w base spare held fuel t cs = some x → (∀ n ∈ DataW.weights P t x.1, n ≤ 140737488351232) → ∃ a : α, R w a cs ∧ Q a
variable {P : Program} {t e : TypeId}
theorem opens_int {k : IntKind} (ht : P.underlying t = some (.int k)) : Opens P t (Kd.int k).K (fun n => (Lit.int k n).wf = true) := by
  intro H enc w base spare held fuel cs x h _
  obtain ⟨n, rfl, _, hw⟩ := DataW.trod_int ht h
  exact ⟨n, rfl, hw⟩
theorem opens_bool (ht : P.underlying t = some .bool) : Opens P t Kd.bool.K (fun _ => True) := by
  intro H enc w base spare held fuel cs x h _
  obtain ⟨n, rfl, _⟩ := DataW.trod_bool ht h
  exact ⟨n, rfl, trivial⟩
theorem weightsAll_mem {H : Type} {l : List (DataW H)} {d : DataW H} (hd : d ∈ l) {n : Nat} (hn : n ∈ DataW.weights P e d) : n ∈ DataW.weightsAll P e l := by
  induction l with
  | nil => cases hd
  | cons y r ih =>
    unfold DataW.weightsAll
    rcases List.mem_cons.1 hd with rfl | h
    · exact List.mem_append_left _ hn
    · exact List.mem_append_right _ (ih h)
theorem weightsEach_mem {H : Type} : ∀ {ts : List TypeId} {l : List (DataW H)} {i : Nat} {t : TypeId} {d : DataW H}, ts[i]? = some t → l[i]? = some d → ∀ {n : Nat}, n ∈ DataW.weights P t d → n ∈ DataW.weightsEach P ts l
  | [], _, i, _, _, h, _, _, _ => by simp at h
  | _ :: _, [], i, _, _, _, h, _, _ => by simp at h
  | t' :: ts, d' :: l, 0, t, d, h1, h2, n, hn => by
    simp at h1 h2; subst h1; subst h2
    unfold DataW.weightsEach; exact List.mem_append_left _ hn
  | t' :: ts, d' :: l, i + 1, t, d, h1, h2, n, hn => by
    simp at h1 h2
    unfold DataW.weightsEach; exact List.mem_append_right _ (weightsEach_mem h1 h2 hn)
theorem all_some {α β : Type} {Q : Nat → α → β → Prop} : ∀ (xs : List β) (_ : ∀ i y, xs[i]? = some y → ∃ a, Q i a y), ∃ l : List α, l.length = xs.length ∧ ∀ i a, l[i]? = some a → ∃ y, xs[i]? = some y ∧ Q i a y
  | [], _ => ⟨[], rfl, fun i a h => by simp at h⟩
  | y :: r, h => by
    obtain ⟨a0, h0⟩ := h 0 y rfl
    obtain ⟨l, hl, hr⟩ := all_some (Q := fun i a y => Q (i + 1) a y) r (fun i y hy => h (i + 1) y (by simpa using hy))
    refine ⟨a0 :: l, by simp [hl], fun i a hi => ?_⟩
    cases i with
    | zero => simp at hi; subst hi; exact ⟨y, rfl, h0⟩
    | succ i => obtain ⟨z, hz, hq⟩ := hr i a (by simpa using hi); exact ⟨z, by simpa using hz, hq⟩
theorem opens_slice {α : Type} {d : Kd α} {Q : α → Prop} {B : Nat} (ht : P.underlying t = some (.slice e)) (hs : P.cellsOf e = d.sz) (hB : P.bytesOf e = B) (ho : Opens P e d.K Q) :
    Opens P t (Kd.slice e d).K (fun l => l.length * B ≤ 140737488351232 ∧ l.length ≤ maxLen ∧ ∀ x ∈ l, Q x) := by
  intro H enc w base spare held fuel cs x h hw
  rcases DataW.trod_slice ht h with ⟨rfl, _⟩ | ⟨a, len, cap, elems, rest, n, _, rfl, rfl, hb, hl, hc, hlen, hel, _, _⟩
  · exact ⟨[], ⟨none, 0, rfl, Nat.le_refl _, ⟨rfl, by simp, fun h => absurd h (by simp)⟩⟩, by simp, by simp, fun x hx => by cases hx⟩
  · have hwt : ∀ m ∈ DataW.weights P t (.slice (elems.map (·.1)) (rest.map (·.1))), m ≤ 140737488351232 := hw
    have each : ∀ i y, elems[i]? = some y → ∃ a' : α, (∃ c : List Value, c.length = d.sz ∧ d.K w a' c ∧ ∀ j u, c[j]? = some u → w.cell? (a.add (i * d.sz + j)) = some u) ∧ Q a' := by
      intro i y hy
      have hi : i < len := by rw [← hlen]; exact (List.getElem?_eq_some_iff.1 hy).1
      have h1 := hel i hi
      rw [hy] at h1
      obtain ⟨c, hc1, hc2⟩ := Option.bind_eq_some_iff.1 h1
      obtain ⟨a', hk, hq⟩ := ho H enc w base spare held n c y hc2 (fun m hm => hwt m (by
        simp only [DataW.weights, ht]
        exact List.mem_cons_of_mem _ (List.mem_append_left _ (weightsAll_mem (List.mem_map_of_mem (List.mem_of_getElem? hy)) hm))))
      refine ⟨a', ⟨c, d.K_len hk, hk, fun j u hj => ?_⟩, hq⟩
      unfold World.cells? at hc1
      split at hc1
      · have hlc := mapM_some_length hc1
        have hj' : j < P.cellsOf e := by have := (List.getElem?_eq_some_iff.1 hj).1; rw [List.length_range] at hlc; omega
        have := mapM_some_get hc1 j j (by simp [hj'])
        rw [hj] at this
        rw [← hs, ← Addr.add_add]
        exact this
      · cases hc1
    obtain ⟨l, hll, hlr⟩ := all_some elems each
    refine ⟨l, ⟨some a, cap, ?_, by omega, ⟨rfl, ?_, fun _ => ⟨a, rfl, fun j p hj => ?_⟩⟩⟩, ?_, by omega, fun x hx => ?_⟩
    · rw [hll, hlen]
    · unfold maxLen at hc; omega
    · obtain ⟨_, _, ⟨c, h1, h2, h3⟩, _⟩ := hlr j p hj
      exact ⟨c, h1, h2, h3⟩
    · have := hwt (((elems.map (·.1)).length + (rest.map (·.1)).length) * P.bytesOf e) (by simp only [DataW.weights, ht]; exact List.mem_cons_self ..)
      rw [hB] at this
      simp only [List.length_map] at this
      rw [hll]
      exact Nat.le_trans (Nat.mul_le_mul_right _ (by omega)) this
    · obtain ⟨i, hi⟩ := List.getElem?_of_mem hx
      obtain ⟨_, _, _, hq⟩ := hlr i x hi
      exact hq
theorem open_field {H : Type} {enc : TypeId × Value → H} {w : World} {base : Nat} {spare : Nat → Bool} {held : Bool} {fs : Array Field} {xs : List (DataW H × List MemPlace)} {n : Nat} {cs : List Value}
    (ht : P.underlying t = some (.struct fs)) (hw : ∀ m ∈ DataW.weights P t (.agg (xs.map (·.1))), m ≤ 140737488351232) (hx : xs.length = fs.size)
    (hf : ∀ (i : Nat) (f : Field), fs[i]? = some f → DataW.trod enc P w base spare held n f.type ((cs.drop f.offset).take (P.cellsOf f.type)) = xs[i]?)
    (i : Nat) (f : Field) (hi : fs[i]? = some f) (o s : Nat) (eo : f.offset = o) (es : P.cellsOf f.type = s) {α : Type} {R : World → α → List Value → Prop} {Q : α → Prop} (ho : Opens P f.type R Q) : ∃ a : α, R w a ((cs.drop o).take s) ∧ Q a := by
  have h1 := hf i f hi
  rw [eo, es] at h1
  have hlt : i < xs.length := by rw [hx]; exact (Array.getElem?_eq_some_iff.1 hi).1
  rw [List.getElem?_eq_getElem hlt] at h1
  refine ho H enc w base spare held n _ _ h1 (fun m hm => hw m ?_)
  simp only [DataW.weights, ht]
  refine weightsEach_mem (i := i) (t := f.type) (d := xs[i].1) ?_ ?_ hm
  · simp only [List.getElem?_map, Array.getElem?_toList, hi, Option.map_some]
  · simp only [List.getElem?_map, List.getElem?_eq_getElem hlt, Option.map_some]
theorem weights_at {H : Type} {ts : List TypeId} {ds : List (DataW H)} (hsz : (DataW.weightsEach P ts ds).all (· ≤ reachBytes) = true) {j : Nat} {d : DataW H} (h1 : ts[j]? = some t) (h2 : ds[j]? = some d) : ∀ m ∈ DataW.weights P t d, m ≤ 140737488351232 := by
  intro m hm
  exact of_decide_eq_true (List.all_eq_true.1 hsz m (weightsEach_mem h1 h2 hm))
end Go.Proofs.Ytphfchbggechhaa.Open
end
