/- The row of this claim. -/
import Derived.Test.YtomgebmimgaojaaBTC5
import Derived.Test.YtomgebmimgaojaaRows
import Derived.WalkKit
import Derived.ProofKit
import Derived.OpenShut
import Derived.ShutString
import Derived.ChangeOld
import Derived.Below
import Derived.SizedLaws
import Derived.Lib.SmallJoins
section
namespace Go.Proofs.Ytomgebmimgaojaa.threshChains
open Go.ChangeShapes Go.WideShapes Go.ChangeAt Go.RowKit Go.Proofs.YtomgebmimgaojaaW.PrintWords Go.Proofs.YtomgebmimgaojaaW.PrintMore Go.Proofs.Ytomgebmimgaojaa.QO
open Go.ChangeMaps (open_string shut_string)
set_option linter.unusedVariables false
theorem own : ownKnob Try.prog.godebug = none := by kernel_rfl
theorem laidOut : laidOutB Try.prog = true := by kernel_rfl
def Q25 (s_ : S25) : Prop := (s_.f0.length * 8 ≤ 140737488351232 ∧ s_.f0.length ≤ maxLen ∧ ∀ x ∈ s_.f0, (Lit.int .i64 x).wf = true) ∧ (s_.f1.length * 8 ≤ 140737488351232 ∧ s_.f1.length ≤ maxLen ∧ ∀ x ∈ s_.f1, (Lit.int .i64 x).wf = true) ∧ (True)
theorem opens_S25 : Open.Opens Try.prog 25 k25.K Q25 := by
  intro H enc w base spare held fuel cs x h hw
  obtain ⟨xs, n, _, rfl, hlen, hx, hf⟩ := DataW.trod_struct Try.underlying25 h
  have hlen' : cs.length = 3 := hlen.trans (by kernel_rfl)
  obtain ⟨x0, hx0, hq0⟩ := Open.open_field (R := (Kd.slice 3 (Kd.int .i64)).K) Try.underlying25 hw hx hf 0 _ rfl 0 1 rfl (by kernel_rfl) (Open.opens_slice (d := (Kd.int .i64)) (B := 8) Try.underlying22 (by kernel_rfl) (by kernel_rfl) (Open.opens_int Try.underlying3))
  obtain ⟨x1, hx1, hq1⟩ := Open.open_field (R := (Kd.slice 2 (Kd.int .i64)).K) Try.underlying25 hw hx hf 1 _ rfl 1 1 rfl (by kernel_rfl) (Open.opens_slice (d := (Kd.int .i64)) (B := 8) Try.underlying23 (by kernel_rfl) (by kernel_rfl) (Open.opens_int Try.underlying2))
  obtain ⟨x2, hx2, hq2⟩ := Open.open_field (R := Kd.bool.K) Try.underlying25 hw hx hf 2 _ rfl 2 1 rfl (by kernel_rfl) (Open.opens_bool Try.underlying4)
  refine ⟨⟨x0, x1, x2⟩, ?_, hq0, hq1, hq2⟩
  match cs, hlen' with
  | [y0, y1, y2], _ => exact ⟨[y0], [y1, y2], rfl, hx0, ⟨[y1], [y2], rfl, hx1, hx2⟩⟩
set_option maxRecDepth 100000 in
set_option maxHeartbeats 4000000 in
theorem lifted (os : Os) (started : os.Started) (H : Type) (enc : TypeId × Value → H) :
    ReturnsInHanded {} Try.checked os 7 .any (Rows.threshChainsSpec.pre6 enc Try.prog Try.f7 Rows.threshChainsRow.domain false) (Rows.threshChainsSpec.post enc Try.prog Try.f7 false true false false) := by
  refine returnsInHanded_of_change_sized (C := Try.checked) own started (by kernel_rfl) Try.func7
    (ChangeSpec.witness6 (enc := enc) (C := Try.checked) false ⟨#[], #[.slice none 0 0, .slice none 0 0], []⟩ 8 (by kernel_rfl) (by kernel_rfl) (by kernel_rfl) (by kernel_rfl)) ?_
  intro W base args ds gs before hval0 hW hcnd hsz0 _
  have hsz : (DataW.weightsEach Try.prog (Try.f7.params.toList ++ Rows.threshChainsSpec.plain.varTypes Try.prog) (ds ++ gs)).all (· ≤ reachBytes) = true := hsz0
  have hval : ∀ (j : Nat) t v, Try.f7.params[j]? = some t → args[j]? = some v → Value.okWide Try.prog W .any base t v := hval0
  have hW' := hW
  obtain ⟨p, q, hA0, hV, rfl, hfz, hnd⟩ := hW
  have hA : DataW.TrodAll enc Try.prog W 0 (fun _ => true) true Try.f7.params.toList args.toList ds p := hA0
  rw [Try.params7] at hA hval hsz
  obtain ⟨v0, vs0, d0, ds0, p0, q0, hargs, rfl, rfl, h0, r0⟩ := trodAll_cons hA
  obtain ⟨v1, vs1, d1, ds1, p1, q1, rfl, rfl, rfl, h1, r1⟩ := trodAll_cons r0
  obtain ⟨rfl, rfl, rfl⟩ := trodAll_nil r1
  obtain rfl : args = #[v0, v1] := by cases args; simp_all
  obtain ⟨rfl, rfl⟩ := trodVars_none hV
  have k0 := h0
  have lt0 : ∀ x ∈ p0, x.block < W.heap.size := by obtain ⟨m, hm⟩ := k0; exact DataW.trod_lt m _ _ _ hm
  have wt0 := Open.weights_at hsz (j := 0) (t := 23) (d := d0) rfl rfl
  obtain ⟨A0, c0, l0, rfl, hc0, hr0, hq0⟩ := Open.arg_slice (Open.opens_slice (d := (Kd.int .i64)) (B := 8) Try.underlying23 (by kernel_rfl) (by kernel_rfl) (Open.opens_int Try.underlying2)) h0 wt0 (okWide_slice Try.underlying23 (hval 0 23 v0 rfl rfl))
  have k1 := h1
  have lt1 : ∀ x ∈ p1, x.block < W.heap.size := by obtain ⟨m, hm⟩ := k1; exact DataW.trod_lt m _ _ _ hm
  have wt1 := Open.weights_at hsz (j := 1) (t := 41) (d := d1) rfl rfl
  obtain ⟨A1, c1, l1, rfl, hc1, hr1, hq1⟩ := Open.arg_slice (Open.opens_slice (d := k25) (B := 56) Try.underlying41 (by kernel_rfl) (by kernel_rfl) opens_S25) h1 wt1 (okWide_slice Try.underlying41 (hval 1 41 v1 rfl rfl))
  clear hA0 hval0 hsz0 hsz
  refine (threshChains_walk A0 c0 l0 A1 c1 l1 W hr0 hc0 hr1 hc1 (by have := hq0.1; omega) (by have := hq1.1; omega) (fun x hx => by have := (hq1.2.2 x hx).1.1; omega)).mono fun e W' ⟨he, bel⟩ => ?_
  subst he
  exact ⟨_, rfl, _, _, _, [], _, [], hW', trodAll_mk1 (shut_bool Try.underlying4 _), (trodAll_cons_mk (Below.trod laidOut (by kernel_rfl) (of_decide_eq_true (by kernel_rfl)) k0 bel lt0) (trodAll_cons_mk (Below.trod laidOut (by kernel_rfl) (of_decide_eq_true (by kernel_rfl)) k1 bel lt1) trodAll_mk0)), rfl, bel.frame _, fun h => by cases h⟩
theorem over : Rows.threshChainsRow.holds Try.pinned (OpenSpec.ofChange Rows.threshChainsSpec) :=
  OpenClaim.holds_of_wide 7 Try.f7 rfl rfl rfl rfl rfl rfl rfl ⟨rfl, rfl, rfl, rfl, rfl⟩ rfl rfl rfl rfl rfl (by kernel_rfl) Try.func7 (by kernel_rfl)
    (of_decide_eq_true (by kernel_rfl)) (by unfold Func.isWrapper; first | (rw [if_pos (by decide +kernel)]; kernel_rfl) | (rw [if_neg (by decide +kernel)]; exact ⟨rfl, rfl⟩))
    (fun os started H enc _ => lifted os started H enc)
theorem proved : Rows.ThreshChainsSaid := over
#print axioms proved
end Go.Proofs.Ytomgebmimgaojaa.threshChains
namespace Go.Proofs.Ytomgebmimgaojaa
theorem threshChains_holds : Rows.ThreshChainsSaid := threshChains.proved
end Go.Proofs.Ytomgebmimgaojaa
end
