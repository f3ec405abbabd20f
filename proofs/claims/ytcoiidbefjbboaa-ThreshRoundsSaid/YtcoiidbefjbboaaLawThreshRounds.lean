/- The row of the law gimballaw13_ThreshRounds, out of its plain statement and the walk. -/
import Derived.Test.YtcoiidbefjbboaaRows
import Derived.Test.YtcoiidbefjbboaaQThx15
import Derived.Test.YtcoiidbefjbboaaPureThreshRounds
import Derived.Test.YtcoiidbefjbboaaOpen
import Derived.WalkKit
import Derived.ProofKit
import Derived.OpenShut
import Derived.ShutString
import Derived.ChangeOld
import Derived.Below
import Derived.SizedLaws
import Derived.Lib.SmallJoins
namespace Go.Proofs.Ytcoiidbefjbboaa.threshRounds
open Go.ChangeShapes Go.WideShapes Go.ChangeAt Go.RowKit Go.Proofs.YtcoiidbefjbboaaW.PrintWords Go.Proofs.YtcoiidbefjbboaaW.PrintMore Go.Proofs.Ytcoiidbefjbboaa.QTh
open Go.ChangeMaps (open_string shut_string)
set_option linter.unusedVariables false
theorem own : ownKnob Try.prog.godebug = none := by kernel_rfl
theorem laidOut : laidOutB Try.prog = true := by kernel_rfl
theorem Sopen27 {H : Type} {enc : TypeId × Value → H} (W : World) {base : Nat} {spare : Nat → Bool} {held : Bool} {fuel : Nat} {cs : List Value} {x : DataW H × List MemPlace}
    (h : DataW.trod enc Try.prog W base spare held fuel 27 cs = some x) (hw : ∀ m ∈ DataW.weights Try.prog 27 x.1, m ≤ 140737488351232) :
    ∃ (x0 : Int) (x1 : Int), cs = (cs.drop 0).take 1 ++ (cs.drop 1).take 1 ∧ (cs.drop 0).take 1 = [.int .i64 x0] ∧ ((Lit.int .i64 x0).wf = true) ∧ (cs.drop 1).take 1 = [.int .i64 x1] ∧ ((Lit.int .i64 x1).wf = true) := by
  obtain ⟨xs, n, _, rfl, hlen, hx, hf⟩ := DataW.trod_struct Try.underlying27 h
  have hlen' : cs.length = 2 := hlen.trans (by kernel_rfl)
  obtain ⟨x0, hx0, hq0⟩ := Open.open_field (R := (Kd.int .i64).K) Try.underlying27 hw hx hf 0 _ rfl 0 1 rfl (by kernel_rfl) (Open.opens_int Try.underlying2)
  obtain ⟨x1, hx1, hq1⟩ := Open.open_field (R := (Kd.int .i64).K) Try.underlying27 hw hx hf 1 _ rfl 1 1 rfl (by kernel_rfl) (Open.opens_int Try.underlying2)
  refine ⟨x0, x1, ?_, hx0, hq0, hx1, hq1⟩
  match cs, hlen' with
  | [y0, y1], _ => rfl
set_option maxRecDepth 100000 in
set_option maxHeartbeats 4000000 in
theorem lifted (os : Os) (started : os.Started) (H : Type) (enc : TypeId × Value → H) :
    ReturnsInHanded {} Try.checked os 4 .any (Rows.threshRoundsSpec.pre6 enc Try.prog Try.f4 Rows.threshRoundsRow.domain false) (Rows.threshRoundsSpec.post enc Try.prog Try.f4 false true false false) := by
  refine returnsInHanded_of_change_sized (C := Try.checked) own started (by kernel_rfl) Try.func4
    (ChangeSpec.witness6 (enc := enc) (C := Try.checked) false ⟨#[], #[.slice none 0 0, .int .i64 0, .agg #[.int .i64 0, .int .i64 0]], []⟩ 8 (by kernel_rfl) (by kernel_rfl) (by kernel_rfl) (by kernel_rfl)) ?_
  intro W base args ds gs before hval0 hW hcnd hsz0 _
  have hsz : (DataW.weightsEach Try.prog (Try.f4.params.toList ++ Rows.threshRoundsSpec.plain.varTypes Try.prog) (ds ++ gs)).all (· ≤ reachBytes) = true := hsz0
  have hval : ∀ (j : Nat) t v, Try.f4.params[j]? = some t → args[j]? = some v → Value.okWide Try.prog W .any base t v := hval0
  have hW' := hW
  obtain ⟨p, q, hA0, hV, rfl, hfz, hnd⟩ := hW
  have hA : DataW.TrodAll enc Try.prog W 0 (fun _ => true) true Try.f4.params.toList args.toList ds p := hA0
  rw [Try.params4] at hA hval hsz
  obtain ⟨v0, vs0, d0, ds0, p0, q0, hargs, rfl, rfl, h0, r0⟩ := trodAll_cons hA
  obtain ⟨v1, vs1, d1, ds1, p1, q1, rfl, rfl, rfl, h1, r1⟩ := trodAll_cons r0
  obtain ⟨v2, vs2, d2, ds2, p2, q2, rfl, rfl, rfl, h2, r2⟩ := trodAll_cons r1
  obtain ⟨rfl, rfl, rfl⟩ := trodAll_nil r2
  obtain rfl : args = #[v0, v1, v2] := by cases args; simp_all
  obtain ⟨rfl, rfl⟩ := trodVars_none hV
  have k0 := h0
  have lt0 : ∀ x ∈ p0, x.block < W.heap.size := by obtain ⟨m, hm⟩ := k0; exact DataW.trod_lt m _ _ _ hm
  have wt0 := Open.weights_at hsz (j := 0) (t := 25) (d := d0) rfl rfl
  obtain ⟨A0, c0, l0, rfl, hc0, hr0, hq0⟩ := Open.arg_slice (Open.opens_slice (d := (Kd.int .i64)) (B := 8) Try.underlying25 (by kernel_rfl) (by kernel_rfl) (Open.opens_int Try.underlying2)) h0 wt0 (okWide_slice Try.underlying25 (hval 0 25 v0 rfl rfl))
  obtain ⟨a1, rfl, rfl, rfl, w1⟩ := open_int Try.underlying2 (hval 1 2 v1 rfl rfl) h1
  have k2 := h2
  have lt2 : ∀ x ∈ p2, x.block < W.heap.size := by obtain ⟨m, hm⟩ := k2; exact DataW.trod_lt m _ _ _ hm
  have wt2 := Open.weights_at hsz (j := 2) (t := 27) (d := d2) rfl rfl
  obtain ⟨cs2, rfl, hz2⟩ : ∃ cs : Array Value, v2 = .agg cs ∧ cs.size = Try.prog.cellsOf 27 := by
    have z := (hval 2 27 v2 rfl rfl)
    unfold Value.okWide at z
    rw [Try.underlying27] at z
    obtain ⟨cs, e, hs, _⟩ := z
    exact ⟨cs, e, hs⟩
  obtain ⟨fu2, hf2⟩ := h2
  obtain ⟨a2_0, a2_1, hcs2, e2_0, hq2_0, e2_1, hq2_1⟩ := Sopen27 W hf2 wt2
  obtain rfl : cs2 = #[.int .i64 a2_0, .int .i64 a2_1] := by
    have z : cs2.toList = [.int .i64 a2_0, .int .i64 a2_1] := by rw [show cs2.toList = _ from hcs2, e2_0, e2_1]; rfl
    exact Array.ext' z
  clear hA0 hval0 hsz0 hsz
  obtain ⟨kk, hP⟩ := Pure.ThreshRounds l0 a1 a2_0 a2_1 hq0 w1 hq2_0 hq2_1
  refine (gimballaw13_ThreshRounds.calls kk A0 c0 l0 a1 a2_0 a2_1 true W hr0 hc0 hP).mono fun e W' ⟨he, bel⟩ => ?_
  subst he
  exact ⟨_, rfl, _, _, _, [], _, [], hW', trodAll_mk1 (shut_bool Try.underlying4 _), (trodAll_cons_mk (Below.trod laidOut (by kernel_rfl) (of_decide_eq_true (by kernel_rfl)) k0 bel lt0) (trodAll_cons_mk (shut_int Try.underlying2 w1) (trodAll_cons_mk (Below.trod laidOut (by kernel_rfl) (of_decide_eq_true (by kernel_rfl)) k2 bel lt2) trodAll_mk0))), rfl, bel.frame _, fun h => by cases h⟩
theorem over : Rows.threshRoundsRow.holds Try.pinned (OpenSpec.ofChange Rows.threshRoundsSpec) :=
  OpenClaim.holds_of_wide 4 Try.f4 rfl rfl rfl rfl rfl rfl rfl ⟨rfl, rfl, rfl, rfl, rfl⟩ rfl rfl rfl rfl rfl (by kernel_rfl) Try.func4 (by kernel_rfl)
    (of_decide_eq_true (by kernel_rfl)) (by unfold Func.isWrapper; first | (rw [if_pos (by decide +kernel)]; kernel_rfl) | (rw [if_neg (by decide +kernel)]; exact ⟨rfl, rfl⟩))
    (fun os started H enc _ => lifted os started H enc)
theorem proved : Rows.ThreshRoundsSaid := over
#print axioms proved
end Go.Proofs.Ytcoiidbefjbboaa.threshRounds
namespace Go.Proofs.Ytcoiidbefjbboaa
/-- The row, under a short name, for the claim. -/
theorem threshRounds_holds : Rows.ThreshRoundsSaid := threshRounds.proved
end Go.Proofs.Ytcoiidbefjbboaa
