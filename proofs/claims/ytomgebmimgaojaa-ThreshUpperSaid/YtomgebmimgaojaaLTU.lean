/- The row of this claim. -/
import Derived.Test.YtomgebmimgaojaaBTU6
import Derived.Test.YtomgebmimgaojaaRows
import Derived.WalkKit
import Derived.ProofKit
import Derived.OpenShut
import Derived.ShutString
import Derived.ChangeOld
import Derived.Below
import Derived.SizedLaws
import Derived.Lib.SmallJoins
section
namespace Go.Proofs.Ytomgebmimgaojaa.threshUpper
open Go.ChangeShapes Go.WideShapes Go.ChangeAt Go.RowKit Go.Proofs.YtomgebmimgaojaaW.PrintWords Go.Proofs.YtomgebmimgaojaaW.PrintMore Go.Proofs.Ytomgebmimgaojaa.QO
open Go.ChangeMaps (open_string shut_string)
set_option linter.unusedVariables false
theorem own : ownKnob Try.prog.godebug = none := by kernel_rfl
theorem laidOut : laidOutB Try.prog = true := by kernel_rfl
theorem Sopen25 {H : Type} {enc : TypeId × Value → H} (W : World) {base : Nat} {spare : Nat → Bool} {held : Bool} {fuel : Nat} {cs : List Value} {x : DataW H × List MemPlace}
    (h : DataW.trod enc Try.prog W base spare held fuel 25 cs = some x) (hw : ∀ m ∈ DataW.weights Try.prog 25 x.1, m ≤ 140737488351232) :
    ∃ (x0 : List Int) (x1 : List Int) (x2 : Bool), cs = (cs.drop 0).take 1 ++ (cs.drop 1).take 1 ++ (cs.drop 2).take 1 ∧ (∃ A c, (cs.drop 0).take 1 = [.slice A x0.length c] ∧ x0.length ≤ c ∧ Kd.C (Kd.int .i64) W A x0.length x0) ∧ (x0.length * 8 ≤ 140737488351232 ∧ x0.length ≤ maxLen ∧ ∀ x ∈ x0, (Lit.int .i64 x).wf = true) ∧ (∃ A c, (cs.drop 1).take 1 = [.slice A x1.length c] ∧ x1.length ≤ c ∧ Kd.C (Kd.int .i64) W A x1.length x1) ∧ (x1.length * 8 ≤ 140737488351232 ∧ x1.length ≤ maxLen ∧ ∀ x ∈ x1, (Lit.int .i64 x).wf = true) ∧ (cs.drop 2).take 1 = [.bool x2] ∧ (True) := by
  obtain ⟨xs, n, _, rfl, hlen, hx, hf⟩ := DataW.trod_struct Try.underlying25 h
  have hlen' : cs.length = 3 := hlen.trans (by kernel_rfl)
  obtain ⟨x0, hx0, hq0⟩ := Open.open_field (R := (Kd.slice 3 (Kd.int .i64)).K) Try.underlying25 hw hx hf 0 _ rfl 0 1 rfl (by kernel_rfl) (Open.opens_slice (d := (Kd.int .i64)) (B := 8) Try.underlying22 (by kernel_rfl) (by kernel_rfl) (Open.opens_int Try.underlying3))
  obtain ⟨x1, hx1, hq1⟩ := Open.open_field (R := (Kd.slice 2 (Kd.int .i64)).K) Try.underlying25 hw hx hf 1 _ rfl 1 1 rfl (by kernel_rfl) (Open.opens_slice (d := (Kd.int .i64)) (B := 8) Try.underlying23 (by kernel_rfl) (by kernel_rfl) (Open.opens_int Try.underlying2))
  obtain ⟨x2, hx2, hq2⟩ := Open.open_field (R := Kd.bool.K) Try.underlying25 hw hx hf 2 _ rfl 2 1 rfl (by kernel_rfl) (Open.opens_bool Try.underlying4)
  refine ⟨x0, x1, x2, ?_, hx0, hq0, hx1, hq1, hx2, hq2⟩
  match cs, hlen' with
  | [y0, y1, y2], _ => rfl
theorem Sopen37 {H : Type} {enc : TypeId × Value → H} (W : World) {base : Nat} {spare : Nat → Bool} {held : Bool} {fuel : Nat} {cs : List Value} {x : DataW H × List MemPlace}
    (h : DataW.trod enc Try.prog W base spare held fuel 37 cs = some x) (hw : ∀ m ∈ DataW.weights Try.prog 37 x.1, m ≤ 140737488351232) :
    ∃ (x0 : Int) (x1 : Int), cs = (cs.drop 0).take 1 ++ (cs.drop 1).take 1 ∧ (cs.drop 0).take 1 = [.int .i64 x0] ∧ ((Lit.int .i64 x0).wf = true) ∧ (cs.drop 1).take 1 = [.int .i64 x1] ∧ ((Lit.int .i64 x1).wf = true) := by
  obtain ⟨xs, n, _, rfl, hlen, hx, hf⟩ := DataW.trod_struct Try.underlying37 h
  have hlen' : cs.length = 2 := hlen.trans (by kernel_rfl)
  obtain ⟨x0, hx0, hq0⟩ := Open.open_field (R := (Kd.int .i64).K) Try.underlying37 hw hx hf 0 _ rfl 0 1 rfl (by kernel_rfl) (Open.opens_int Try.underlying2)
  obtain ⟨x1, hx1, hq1⟩ := Open.open_field (R := (Kd.int .i64).K) Try.underlying37 hw hx hf 1 _ rfl 1 1 rfl (by kernel_rfl) (Open.opens_int Try.underlying2)
  refine ⟨x0, x1, ?_, hx0, hq0, hx1, hq1⟩
  match cs, hlen' with
  | [y0, y1], _ => rfl
set_option maxRecDepth 100000 in
set_option maxHeartbeats 4000000 in
theorem lifted (os : Os) (started : os.Started) (H : Type) (enc : TypeId × Value → H) :
    ReturnsInHanded {} Try.checked os 6 .any (Rows.threshUpperSpec.pre6 enc Try.prog Try.f6 Rows.threshUpperRow.domain false) (Rows.threshUpperSpec.post enc Try.prog Try.f6 false true false false) := by
  refine returnsInHanded_of_change_sized (C := Try.checked) own started (by kernel_rfl) Try.func6
    (ChangeSpec.witness6 (enc := enc) (C := Try.checked) false ⟨#[], #[.slice none 0 0, .agg #[.slice none 0 0, .slice none 0 0, .bool false], .agg #[.slice none 0 0, .slice none 0 0, .bool false], .agg #[.int .i64 0, .int .i64 0], .int .i64 0], []⟩ 8 (by kernel_rfl) (by kernel_rfl) (by kernel_rfl) (by kernel_rfl)) ?_
  intro W base args ds gs before hval0 hW hcnd hsz0 _
  have hsz : (DataW.weightsEach Try.prog (Try.f6.params.toList ++ Rows.threshUpperSpec.plain.varTypes Try.prog) (ds ++ gs)).all (· ≤ reachBytes) = true := hsz0
  have hval : ∀ (j : Nat) t v, Try.f6.params[j]? = some t → args[j]? = some v → Value.okWide Try.prog W .any base t v := hval0
  have hW' := hW
  obtain ⟨p, q, hA0, hV, rfl, hfz, hnd⟩ := hW
  have hA : DataW.TrodAll enc Try.prog W 0 (fun _ => true) true Try.f6.params.toList args.toList ds p := hA0
  rw [Try.params6] at hA hval hsz
  obtain ⟨v0, vs0, d0, ds0, p0, q0, hargs, rfl, rfl, h0, r0⟩ := trodAll_cons hA
  obtain ⟨v1, vs1, d1, ds1, p1, q1, rfl, rfl, rfl, h1, r1⟩ := trodAll_cons r0
  obtain ⟨v2, vs2, d2, ds2, p2, q2, rfl, rfl, rfl, h2, r2⟩ := trodAll_cons r1
  obtain ⟨v3, vs3, d3, ds3, p3, q3, rfl, rfl, rfl, h3, r3⟩ := trodAll_cons r2
  obtain ⟨v4, vs4, d4, ds4, p4, q4, rfl, rfl, rfl, h4, r4⟩ := trodAll_cons r3
  obtain ⟨rfl, rfl, rfl⟩ := trodAll_nil r4
  obtain rfl : args = #[v0, v1, v2, v3, v4] := by cases args; simp_all
  obtain ⟨rfl, rfl⟩ := trodVars_none hV
  have k0 := h0
  have lt0 : ∀ x ∈ p0, x.block < W.heap.size := by obtain ⟨m, hm⟩ := k0; exact DataW.trod_lt m _ _ _ hm
  have wt0 := Open.weights_at hsz (j := 0) (t := 23) (d := d0) rfl rfl
  obtain ⟨A0, c0, l0, rfl, hc0, hr0, hq0⟩ := Open.arg_slice (Open.opens_slice (d := (Kd.int .i64)) (B := 8) Try.underlying23 (by kernel_rfl) (by kernel_rfl) (Open.opens_int Try.underlying2)) h0 wt0 (okWide_slice Try.underlying23 (hval 0 23 v0 rfl rfl))
  have k1 := h1
  have lt1 : ∀ x ∈ p1, x.block < W.heap.size := by obtain ⟨m, hm⟩ := k1; exact DataW.trod_lt m _ _ _ hm
  have wt1 := Open.weights_at hsz (j := 1) (t := 25) (d := d1) rfl rfl
  obtain ⟨cs1, rfl, hz1⟩ : ∃ cs : Array Value, v1 = .agg cs ∧ cs.size = Try.prog.cellsOf 25 := by
    have z := (hval 1 25 v1 rfl rfl)
    unfold Value.okWide at z
    rw [Try.underlying25] at z
    obtain ⟨cs, e, hs, _⟩ := z
    exact ⟨cs, e, hs⟩
  obtain ⟨fu1, hf1⟩ := h1
  obtain ⟨l1_0, l1_1, a1_2, hcs1, ⟨A1_0, c1_0, e1_0, hc1_0, hr1_0⟩, hq1_0, ⟨A1_1, c1_1, e1_1, hc1_1, hr1_1⟩, hq1_1, e1_2, hq1_2⟩ := Sopen25 W hf1 wt1
  obtain rfl : cs1 = #[.slice A1_0 l1_0.length c1_0, .slice A1_1 l1_1.length c1_1, .bool a1_2] := by
    have z : cs1.toList = [.slice A1_0 l1_0.length c1_0, .slice A1_1 l1_1.length c1_1, .bool a1_2] := by rw [show cs1.toList = _ from hcs1, e1_0, e1_1, e1_2]; rfl
    exact Array.ext' z
  have k2 := h2
  have lt2 : ∀ x ∈ p2, x.block < W.heap.size := by obtain ⟨m, hm⟩ := k2; exact DataW.trod_lt m _ _ _ hm
  have wt2 := Open.weights_at hsz (j := 2) (t := 25) (d := d2) rfl rfl
  obtain ⟨cs2, rfl, hz2⟩ : ∃ cs : Array Value, v2 = .agg cs ∧ cs.size = Try.prog.cellsOf 25 := by
    have z := (hval 2 25 v2 rfl rfl)
    unfold Value.okWide at z
    rw [Try.underlying25] at z
    obtain ⟨cs, e, hs, _⟩ := z
    exact ⟨cs, e, hs⟩
  obtain ⟨fu2, hf2⟩ := h2
  obtain ⟨l2_0, l2_1, a2_2, hcs2, ⟨A2_0, c2_0, e2_0, hc2_0, hr2_0⟩, hq2_0, ⟨A2_1, c2_1, e2_1, hc2_1, hr2_1⟩, hq2_1, e2_2, hq2_2⟩ := Sopen25 W hf2 wt2
  obtain rfl : cs2 = #[.slice A2_0 l2_0.length c2_0, .slice A2_1 l2_1.length c2_1, .bool a2_2] := by
    have z : cs2.toList = [.slice A2_0 l2_0.length c2_0, .slice A2_1 l2_1.length c2_1, .bool a2_2] := by rw [show cs2.toList = _ from hcs2, e2_0, e2_1, e2_2]; rfl
    exact Array.ext' z
  have k3 := h3
  have lt3 : ∀ x ∈ p3, x.block < W.heap.size := by obtain ⟨m, hm⟩ := k3; exact DataW.trod_lt m _ _ _ hm
  have wt3 := Open.weights_at hsz (j := 3) (t := 37) (d := d3) rfl rfl
  obtain ⟨cs3, rfl, hz3⟩ : ∃ cs : Array Value, v3 = .agg cs ∧ cs.size = Try.prog.cellsOf 37 := by
    have z := (hval 3 37 v3 rfl rfl)
    unfold Value.okWide at z
    rw [Try.underlying37] at z
    obtain ⟨cs, e, hs, _⟩ := z
    exact ⟨cs, e, hs⟩
  obtain ⟨fu3, hf3⟩ := h3
  obtain ⟨a3_0, a3_1, hcs3, e3_0, hq3_0, e3_1, hq3_1⟩ := Sopen37 W hf3 wt3
  obtain rfl : cs3 = #[.int .i64 a3_0, .int .i64 a3_1] := by
    have z : cs3.toList = [.int .i64 a3_0, .int .i64 a3_1] := by rw [show cs3.toList = _ from hcs3, e3_0, e3_1]; rfl
    exact Array.ext' z
  obtain ⟨a4, rfl, rfl, rfl, w4⟩ := open_int Try.underlying2 (hval 4 2 v4 rfl rfl) h4
  clear hA0 hval0 hsz0 hsz
  refine (threshUpper_walk A0 c0 l0 ⟨A1_0, c1_0, A1_1, c1_1, l1_0, l1_1, a1_2⟩ ⟨A2_0, c2_0, A2_1, c2_1, l2_0, l2_1, a2_2⟩ a3_0 a3_1 a4 W hr0 hc0 ⟨⟨hc1_0, .inl hr1_0⟩, ⟨hc1_1, .inl hr1_1⟩⟩ ⟨⟨hc2_0, .inl hr2_0⟩, ⟨hc2_1, .inl hr2_1⟩⟩ (by have := hq0.1; omega) (show l1_0.length ≤ 17592186044416 by have := hq1_0.1; omega) (show l2_0.length ≤ 17592186044416 by have := hq2_0.1; omega)).mono fun e W' ⟨he, bel⟩ => ?_
  subst he
  exact ⟨_, rfl, _, _, _, [], _, [], hW', trodAll_mk1 (shut_bool Try.underlying4 _), (trodAll_cons_mk (Below.trod laidOut (by kernel_rfl) (of_decide_eq_true (by kernel_rfl)) k0 bel lt0) (trodAll_cons_mk (Below.trod laidOut (by kernel_rfl) (of_decide_eq_true (by kernel_rfl)) k1 bel lt1) (trodAll_cons_mk (Below.trod laidOut (by kernel_rfl) (of_decide_eq_true (by kernel_rfl)) k2 bel lt2) (trodAll_cons_mk (Below.trod laidOut (by kernel_rfl) (of_decide_eq_true (by kernel_rfl)) k3 bel lt3) (trodAll_cons_mk (shut_int Try.underlying2 w4) trodAll_mk0))))), rfl, bel.frame _, fun h => by cases h⟩
theorem over : Rows.threshUpperRow.holds Try.pinned (OpenSpec.ofChange Rows.threshUpperSpec) :=
  OpenClaim.holds_of_wide 6 Try.f6 rfl rfl rfl rfl rfl rfl rfl ⟨rfl, rfl, rfl, rfl, rfl⟩ rfl rfl rfl rfl rfl (by kernel_rfl) Try.func6 (by kernel_rfl)
    (of_decide_eq_true (by kernel_rfl)) (by unfold Func.isWrapper; first | (rw [if_pos (by decide +kernel)]; kernel_rfl) | (rw [if_neg (by decide +kernel)]; exact ⟨rfl, rfl⟩))
    (fun os started H enc _ => lifted os started H enc)
theorem proved : Rows.ThreshUpperSaid := over
#print axioms proved
end Go.Proofs.Ytomgebmimgaojaa.threshUpper
namespace Go.Proofs.Ytomgebmimgaojaa
theorem threshUpper_holds : Rows.ThreshUpperSaid := threshUpper.proved
end Go.Proofs.Ytomgebmimgaojaa
end
