/- The row of this claim. -/
import Derived.Test.YtphfchbggechhaaBOK5
import Derived.Test.YtphfchbggechhaaRows
import Derived.WalkKit
import Derived.ProofKit
import Derived.OpenShut
import Derived.ShutString
import Derived.ChangeOld
import Derived.Below
import Derived.SizedLaws
import Derived.Lib.SmallJoins
section
namespace Go.Proofs.Ytphfchbggechhaa.octopKeeps
open Go.ChangeShapes Go.WideShapes Go.ChangeAt Go.RowKit YtphfchbggechhaaW.PrintWords YtphfchbggechhaaW.PrintMore Ytphfchbggechhaa.QO
open Go.ChangeMaps (open_string shut_string)
set_option linter.unusedVariables false
theorem own : ownKnob Try.prog.godebug = none := by kernel_rfl
theorem laidOut : laidOutB Try.prog = true := by kernel_rfl
theorem Scut25 {cs : List Value} (h : cs.length = 3) : cs = (cs.drop 0).take 1 ++ (cs.drop 1).take 1 ++ (cs.drop 2).take 1 := by
 match cs, h with
 | [y0, y1, y2], _ => rfl
theorem Sopen25 {H : Type} {enc : TypeId × Value → H} (W : World) {base : Nat} {spare : Nat → Bool} {held : Bool} {fuel : Nat} {cs : List Value} {x : DataW H × List MemPlace}
 (h : DataW.trod enc Try.prog W base spare held fuel 25 cs = some x) (hw : ∀ m ∈ DataW.weights Try.prog 25 x.1, m ≤ 140737488351232) :
 ∃ (x0 : List Int) (x1 : List Int) (x2 : Bool), cs = (cs.drop 0).take 1 ++ (cs.drop 1).take 1 ++ (cs.drop 2).take 1 ∧ (∃ A c, (cs.drop 0).take 1 = [.slice A x0.length c] ∧ x0.length ≤ c ∧ Kd.C (Kd.int .i64) W A x0.length x0) ∧ (x0.length * 8 ≤ 140737488351232 ∧ x0.length ≤ maxLen ∧ ∀ x ∈ x0, (Lit.int .i64 x).wf = true) ∧ (∃ A c, (cs.drop 1).take 1 = [.slice A x1.length c] ∧ x1.length ≤ c ∧ Kd.C (Kd.int .i64) W A x1.length x1) ∧ (x1.length * 8 ≤ 140737488351232 ∧ x1.length ≤ maxLen ∧ ∀ x ∈ x1, (Lit.int .i64 x).wf = true) ∧ (cs.drop 2).take 1 = [.bool x2] ∧ (True) := by
 obtain ⟨xs, n, _, rfl, hlen, hx, hf⟩ := DataW.trod_struct Try.underlying25 h
 have hlen' : cs.length = 3 := hlen.trans (by kernel_rfl)
 obtain ⟨x0, hx0, hq0⟩ := Open.open_field (R := (Kd.slice 3 (Kd.int .i64)).K) Try.underlying25 hw hx hf 0 _ rfl 0 1 rfl (by kernel_rfl) (Open.opens_slice (d := (Kd.int .i64)) (B := 8) Try.underlying22 (by kernel_rfl) (by kernel_rfl) (Open.opens_int Try.underlying3))
 obtain ⟨x1, hx1, hq1⟩ := Open.open_field (R := (Kd.slice 2 (Kd.int .i64)).K) Try.underlying25 hw hx hf 1 _ rfl 1 1 rfl (by kernel_rfl) (Open.opens_slice (d := (Kd.int .i64)) (B := 8) Try.underlying23 (by kernel_rfl) (by kernel_rfl) (Open.opens_int Try.underlying2))
 obtain ⟨x2, hx2, hq2⟩ := Open.open_field (R := Kd.bool.K) Try.underlying25 hw hx hf 2 _ rfl 2 1 rfl (by kernel_rfl) (Open.opens_bool Try.underlying4)
 refine ⟨x0, x1, x2, ?_, hx0, hq0, hx1, hq1, hx2, hq2⟩
 exact Scut25 hlen'
theorem Scut34 {cs : List Value} (h : cs.length = 5) : cs = (cs.drop 0).take 1 ++ (cs.drop 1).take 1 ++ (cs.drop 2).take 1 ++ (cs.drop 3).take 1 ++ (cs.drop 4).take 1 := by
 match cs, h with
 | [y0, y1, y2, y3, y4], _ => rfl
theorem Sopen34 {H : Type} {enc : TypeId × Value → H} (W : World) {base : Nat} {spare : Nat → Bool} {held : Bool} {fuel : Nat} {cs : List Value} {x : DataW H × List MemPlace}
 (h : DataW.trod enc Try.prog W base spare held fuel 34 cs = some x) (hw : ∀ m ∈ DataW.weights Try.prog 34 x.1, m ≤ 140737488351232) :
 ∃ (x0 : Int) (x1 : Int) (x2 : Int) (x3 : Int) (x4 : Int), cs = (cs.drop 0).take 1 ++ (cs.drop 1).take 1 ++ (cs.drop 2).take 1 ++ (cs.drop 3).take 1 ++ (cs.drop 4).take 1 ∧ (cs.drop 0).take 1 = [.int .i64 x0] ∧ ((Lit.int .i64 x0).wf = true) ∧ (cs.drop 1).take 1 = [.int .i64 x1] ∧ ((Lit.int .i64 x1).wf = true) ∧ (cs.drop 2).take 1 = [.int .i64 x2] ∧ ((Lit.int .i64 x2).wf = true) ∧ (cs.drop 3).take 1 = [.int .i64 x3] ∧ ((Lit.int .i64 x3).wf = true) ∧ (cs.drop 4).take 1 = [.int .i64 x4] ∧ ((Lit.int .i64 x4).wf = true) := by
 obtain ⟨xs, n, _, rfl, hlen, hx, hf⟩ := DataW.trod_struct Try.underlying34 h
 have hlen' : cs.length = 5 := hlen.trans (by kernel_rfl)
 obtain ⟨x0, hx0, hq0⟩ := Open.open_field (R := (Kd.int .i64).K) Try.underlying34 hw hx hf 0 _ rfl 0 1 rfl (by kernel_rfl) (Open.opens_int Try.underlying3)
 obtain ⟨x1, hx1, hq1⟩ := Open.open_field (R := (Kd.int .i64).K) Try.underlying34 hw hx hf 1 _ rfl 1 1 rfl (by kernel_rfl) (Open.opens_int Try.underlying3)
 obtain ⟨x2, hx2, hq2⟩ := Open.open_field (R := (Kd.int .i64).K) Try.underlying34 hw hx hf 2 _ rfl 2 1 rfl (by kernel_rfl) (Open.opens_int Try.underlying3)
 obtain ⟨x3, hx3, hq3⟩ := Open.open_field (R := (Kd.int .i64).K) Try.underlying34 hw hx hf 3 _ rfl 3 1 rfl (by kernel_rfl) (Open.opens_int Try.underlying3)
 obtain ⟨x4, hx4, hq4⟩ := Open.open_field (R := (Kd.int .i64).K) Try.underlying34 hw hx hf 4 _ rfl 4 1 rfl (by kernel_rfl) (Open.opens_int Try.underlying2)
 refine ⟨x0, x1, x2, x3, x4, ?_, hx0, hq0, hx1, hq1, hx2, hq2, hx3, hq3, hx4, hq4⟩
 exact Scut34 hlen'
theorem Scut36 {cs : List Value} (h : cs.length = 2) : cs = (cs.drop 0).take 1 ++ (cs.drop 1).take 1 := by
 match cs, h with
 | [y0, y1], _ => rfl
theorem Sopen36 {H : Type} {enc : TypeId × Value → H} (W : World) {base : Nat} {spare : Nat → Bool} {held : Bool} {fuel : Nat} {cs : List Value} {x : DataW H × List MemPlace}
 (h : DataW.trod enc Try.prog W base spare held fuel 36 cs = some x) (hw : ∀ m ∈ DataW.weights Try.prog 36 x.1, m ≤ 140737488351232) :
 ∃ (x0 : Int) (x1 : Int), cs = (cs.drop 0).take 1 ++ (cs.drop 1).take 1 ∧ (cs.drop 0).take 1 = [.int .i64 x0] ∧ ((Lit.int .i64 x0).wf = true) ∧ (cs.drop 1).take 1 = [.int .i64 x1] ∧ ((Lit.int .i64 x1).wf = true) := by
 obtain ⟨xs, n, _, rfl, hlen, hx, hf⟩ := DataW.trod_struct Try.underlying36 h
 have hlen' : cs.length = 2 := hlen.trans (by kernel_rfl)
 obtain ⟨x0, hx0, hq0⟩ := Open.open_field (R := (Kd.int .i64).K) Try.underlying36 hw hx hf 0 _ rfl 0 1 rfl (by kernel_rfl) (Open.opens_int Try.underlying2)
 obtain ⟨x1, hx1, hq1⟩ := Open.open_field (R := (Kd.int .i64).K) Try.underlying36 hw hx hf 1 _ rfl 1 1 rfl (by kernel_rfl) (Open.opens_int Try.underlying2)
 refine ⟨x0, x1, ?_, hx0, hq0, hx1, hq1⟩
 exact Scut36 hlen'
set_option maxRecDepth 100000 in
set_option maxHeartbeats 4000000 in
theorem lifted (os : Os) (started : os.Started) (H : Type) (enc : TypeId × Value → H) :
 ReturnsInHanded {} Try.checked os 8 .any (Rows.octopKeepsSpec.pre6 enc Try.prog Try.f8 Rows.octopKeepsRow.domain false) (Rows.octopKeepsSpec.post enc Try.prog Try.f8 false true false false) := by
 refine returnsInHanded_of_change_sized (C := Try.checked) own started (by kernel_rfl) Try.func8
  (ChangeSpec.witness6 (enc := enc) (C := Try.checked) false ⟨#[], #[.agg #[.slice none 0 0, .slice none 0 0, .bool false], .int .i64 0, .agg #[.int .i64 0, .int .i64 0, .int .i64 0, .int .i64 0, .int .i64 0], .agg #[.int .i64 0, .int .i64 0], .slice none 0 0], []⟩ 8 (by kernel_rfl) (by kernel_rfl) (by kernel_rfl) (by kernel_rfl)) ?_
 intro W base args ds gs before hval0 hW hcnd hsz0 _
 have hsz : (DataW.weightsEach Try.prog (Try.f8.params.toList ++ Rows.octopKeepsSpec.plain.varTypes Try.prog) (ds ++ gs)).all (· ≤ reachBytes) = true := hsz0
 have hval : ∀ (j : Nat) t v, Try.f8.params[j]? = some t → args[j]? = some v → Value.okWide Try.prog W .any base t v := hval0
 have hW' := hW
 obtain ⟨p, q, hA0, hV, rfl, hfz, hnd⟩ := hW
 have hA : DataW.TrodAll enc Try.prog W 0 (fun _ => true) true Try.f8.params.toList args.toList ds p := hA0
 rw [Try.params8] at hA hval hsz
 obtain ⟨v0, vs0, d0, ds0, p0, q0, hargs, rfl, rfl, h0, r0⟩ := trodAll_cons hA
 obtain ⟨v1, vs1, d1, ds1, p1, q1, rfl, rfl, rfl, h1, r1⟩ := trodAll_cons r0
 obtain ⟨v2, vs2, d2, ds2, p2, q2, rfl, rfl, rfl, h2, r2⟩ := trodAll_cons r1
 obtain ⟨v3, vs3, d3, ds3, p3, q3, rfl, rfl, rfl, h3, r3⟩ := trodAll_cons r2
 obtain ⟨v4, vs4, d4, ds4, p4, q4, rfl, rfl, rfl, h4, r4⟩ := trodAll_cons r3
 obtain ⟨rfl, rfl, rfl⟩ := trodAll_nil r4
 obtain rfl : args = #[v0, v1, v2, v3, v4] := by cases args; simp_all
 obtain ⟨rfl, rfl⟩ := trodVars_none hV
 have k0 := h0
 have lt0 : ∀ x ∈ p0, x.block < W.heap.size := by obtain ⟨m, hm⟩ := k0; exact DataW.trod_lt m _ _ _ hm
 have wt0 := Open.weights_at hsz (j := 0) (t := 25) (d := d0) rfl rfl
 obtain ⟨cs0, rfl, hz0⟩ : ∃ cs : Array Value, v0 = .agg cs ∧ cs.size = Try.prog.cellsOf 25 := by
  have z := (hval 0 25 v0 rfl rfl)
  unfold Value.okWide at z
  rw [Try.underlying25] at z
  obtain ⟨cs, e, hs, _⟩ := z
  exact ⟨cs, e, hs⟩
 obtain ⟨fu0, hf0⟩ := h0
 obtain ⟨l0_0, l0_1, a0_2, hcs0, ⟨A0_0, c0_0, e0_0, hc0_0, hr0_0⟩, hq0_0, ⟨A0_1, c0_1, e0_1, hc0_1, hr0_1⟩, hq0_1, e0_2, hq0_2⟩ := Sopen25 W hf0 wt0
 obtain rfl : cs0 = #[.slice A0_0 l0_0.length c0_0, .slice A0_1 l0_1.length c0_1, .bool a0_2] := by
  have z : cs0.toList = [.slice A0_0 l0_0.length c0_0, .slice A0_1 l0_1.length c0_1, .bool a0_2] := by rw [show cs0.toList = _ from hcs0, e0_0, e0_1, e0_2]; rfl
  exact Array.ext' z
 obtain ⟨a1, rfl, rfl, rfl, w1⟩ := open_int Try.underlying3 (hval 1 3 v1 rfl rfl) h1
 have k2 := h2
 have lt2 : ∀ x ∈ p2, x.block < W.heap.size := by obtain ⟨m, hm⟩ := k2; exact DataW.trod_lt m _ _ _ hm
 have wt2 := Open.weights_at hsz (j := 2) (t := 34) (d := d2) rfl rfl
 obtain ⟨cs2, rfl, hz2⟩ : ∃ cs : Array Value, v2 = .agg cs ∧ cs.size = Try.prog.cellsOf 34 := by
  have z := (hval 2 34 v2 rfl rfl)
  unfold Value.okWide at z
  rw [Try.underlying34] at z
  obtain ⟨cs, e, hs, _⟩ := z
  exact ⟨cs, e, hs⟩
 obtain ⟨fu2, hf2⟩ := h2
 obtain ⟨a2_0, a2_1, a2_2, a2_3, a2_4, hcs2, e2_0, hq2_0, e2_1, hq2_1, e2_2, hq2_2, e2_3, hq2_3, e2_4, hq2_4⟩ := Sopen34 W hf2 wt2
 obtain rfl : cs2 = #[.int .i64 a2_0, .int .i64 a2_1, .int .i64 a2_2, .int .i64 a2_3, .int .i64 a2_4] := by
  have z : cs2.toList = [.int .i64 a2_0, .int .i64 a2_1, .int .i64 a2_2, .int .i64 a2_3, .int .i64 a2_4] := by rw [show cs2.toList = _ from hcs2, e2_0, e2_1, e2_2, e2_3, e2_4]; rfl
  exact Array.ext' z
 have k3 := h3
 have lt3 : ∀ x ∈ p3, x.block < W.heap.size := by obtain ⟨m, hm⟩ := k3; exact DataW.trod_lt m _ _ _ hm
 have wt3 := Open.weights_at hsz (j := 3) (t := 36) (d := d3) rfl rfl
 obtain ⟨cs3, rfl, hz3⟩ : ∃ cs : Array Value, v3 = .agg cs ∧ cs.size = Try.prog.cellsOf 36 := by
  have z := (hval 3 36 v3 rfl rfl)
  unfold Value.okWide at z
  rw [Try.underlying36] at z
  obtain ⟨cs, e, hs, _⟩ := z
  exact ⟨cs, e, hs⟩
 obtain ⟨fu3, hf3⟩ := h3
 obtain ⟨a3_0, a3_1, hcs3, e3_0, hq3_0, e3_1, hq3_1⟩ := Sopen36 W hf3 wt3
 obtain rfl : cs3 = #[.int .i64 a3_0, .int .i64 a3_1] := by
  have z : cs3.toList = [.int .i64 a3_0, .int .i64 a3_1] := by rw [show cs3.toList = _ from hcs3, e3_0, e3_1]; rfl
  exact Array.ext' z
 have k4 := h4
 have lt4 : ∀ x ∈ p4, x.block < W.heap.size := by obtain ⟨m, hm⟩ := k4; exact DataW.trod_lt m _ _ _ hm
 have wt4 := Open.weights_at hsz (j := 4) (t := 23) (d := d4) rfl rfl
 obtain ⟨A4, c4, l4, rfl, hc4, hr4, hq4⟩ := Open.arg_slice (Open.opens_slice (d := (Kd.int .i64)) (B := 8) Try.underlying23 (by kernel_rfl) (by kernel_rfl) (Open.opens_int Try.underlying2)) h4 wt4 (okWide_slice Try.underlying23 (hval 4 23 v4 rfl rfl))
 clear hA0 hval0 hsz0 hsz
 refine (octopKeeps_walk ⟨A0_0, c0_0, A0_1, c0_1, l0_0, l0_1, a0_2⟩ a1 a2_0 a2_1 a2_2 a2_3 a2_4 a3_0 a3_1 A4 c4 l4 W ⟨⟨hc0_0, .inl hr0_0⟩, ⟨hc0_1, .inl hr0_1⟩⟩ hr4 hc4 (show l0_0.length ≤ 17592186044416 by have := hq0_0.1; omega) (by have := hq4.1; omega)).mono fun e W' ⟨he, bel⟩ => ?_
 subst he
 exact ⟨_, rfl, _, _, _, [], _, [], hW', trodAll_mk1 (shut_bool Try.underlying4 _), (trodAll_cons_mk (Below.trod laidOut (by kernel_rfl) (of_decide_eq_true (by kernel_rfl)) k0 bel lt0) (trodAll_cons_mk (shut_int Try.underlying3 w1) (trodAll_cons_mk (Below.trod laidOut (by kernel_rfl) (of_decide_eq_true (by kernel_rfl)) k2 bel lt2) (trodAll_cons_mk (Below.trod laidOut (by kernel_rfl) (of_decide_eq_true (by kernel_rfl)) k3 bel lt3) (trodAll_cons_mk (Below.trod laidOut (by kernel_rfl) (of_decide_eq_true (by kernel_rfl)) k4 bel lt4) trodAll_mk0))))), rfl, bel.frame _, fun h => by cases h⟩
theorem over : Rows.octopKeepsRow.holds Try.pinned (OpenSpec.ofChange Rows.octopKeepsSpec) :=
 OpenClaim.holds_of_wide 8 Try.f8 rfl rfl rfl rfl rfl rfl rfl ⟨rfl, rfl, rfl, rfl, rfl⟩ rfl rfl rfl rfl rfl (by kernel_rfl) Try.func8 (by kernel_rfl)
  (of_decide_eq_true (by kernel_rfl)) (by unfold Func.isWrapper; first | (rw [if_pos (by decide +kernel)]; kernel_rfl) | (rw [if_neg (by decide +kernel)]; exact ⟨rfl, rfl⟩))
  (fun os started H enc _ => lifted os started H enc)
theorem proved : Rows.OctopKeepsSaid := over
#print axioms proved
end Go.Proofs.Ytphfchbggechhaa.octopKeeps
namespace Go.Proofs.Ytphfchbggechhaa
theorem octopKeeps_holds : Rows.OctopKeepsSaid := octopKeeps.proved
end Go.Proofs.Ytphfchbggechhaa
end
