/- Own texts of this claim, joined: QOx0, QOx1, QOx1046, QOx1051, QOx1052, QOx1018, QOx1049, QOx1053, QOx1019, QOx1047, QOx1048, QOx1013, QOx1055, QOx1090, QOx1069, QOx1083, QOx1034, QOx1020, QOx1042, QOx1057, Iter, OctMath -/
import Derived.Test.YtomgebmimgaojaaBOBn0
import Derived.Test.YtomgebmimgaojaaProg
import Derived.Below
import Derived.Deep.Draws
import Derived.Deep.AppendLies
import Derived.Maps.AppendAt
import Derived.OwnWalk
import Derived.Laws.BytesArg
import Derived.Laws.MakeOwn
import Derived.Laws.OwnMore
import Derived.Deep.OwnRows
import Derived.Tactics
import Derived.Lib.ConvBytes
import Derived.Laws.Slices
import Derived.WalkKit
import Derived.KernelRfl
import Derived.RowKit3
import Derived.Deep.LoopGhost
import Derived.Deep.QuietTactic
import Derived.BigQuiet
import Derived.WideLaws
import Derived.Deep.DeepCutAuto
import Derived.Deep.CutBlock
import Derived.Deep.RegionHeld3
import Derived.Laws.Rows
import Derived.Lib.AppendStr
import Derived.ArgAppend
import Derived.Laws.IdiomCopy
import Derived.OrdersHeld
import Derived.Laws.BitsLemmas
import Derived.RowKit
import Derived.Deep.Cut
import Derived.Shelf.Abstract
import Derived.Lib.SliceRun
import Derived.WalkSpells
import Derived.Laws.Externs
import Derived.StillTailTactics
import GoSem.Extern.MathBitsCarry
import Derived.RangeFuncNested
import Derived.RangeFuncBound
import Derived.RangeFuncCalls
import Derived.RangeFuncLeaves
import Derived.RangeFuncBox
import Derived.Shelf.RegionOpen
import Derived.OwnWalkIn
import Derived.TacticsInMore
import Derived.LoopNIn
import Derived.LoopIn
import Derived.Stop.RegionWithIn
section
/- Written by a program of this session out of the translation. -/
namespace Go.Proofs.Ytomgebmimgaojaa.QO
open Go.RowKit Go.Proofs.YtomgebmimgaojaaW.PrintWords Go.Proofs.YtomgebmimgaojaaW.PrintLast
set_option linter.unusedVariables false
set_option linter.unusedSimpArgs false
def errW : Option Int → Value
  | none => .nilIface
  | some c => .iface 0 (.int .i64 c)
theorem errW_none : errW none = .nilIface := rfl
theorem errW_some (c : Int) : errW (some c) = .iface 0 (.int .i64 c) := rfl
theorem info2 : (Try.prog.info? 2).map (fun i => (i.zero, i.size, i.bytes)) = some (some (.int .i64 0), 1, 8) := by kernel_rfl
theorem info3 : (Try.prog.info? 3).map (fun i => (i.zero, i.size, i.bytes)) = some (some (.int .i64 0), 1, 8) := by kernel_rfl
-- the values' own types
def rd_L1 (xs : List (List Int)) (i : Int) : (List Int) := xs.getD i.toNat ([] : List Int)
theorem at_L1 {w : World} {A : Option Addr} {n : Nat} {xs : List (List Int)} (h : Kd.C (Kd.slice 3 (Kd.int .i64)) w A n xs) (i : Int) (h0 : 0 ≤ i) (h1 : i < n) : ∃ ad A0 c0, A = some ad ∧ w.cell? (ad.add i.toNat) = some (.slice A0 (rd_L1 xs i).length c0) ∧ (rd_L1 xs i).length ≤ c0 ∧ (Kd.int .i64).C w A0 (rd_L1 xs i).length (rd_L1 xs i) := by
  obtain ⟨ad, c, e, _, hK, hc0⟩ := Kd.C_get h ([] : List Int) i h0 h1
  have hc : ∀ j u, c[j]? = some u → w.cell? (ad.add (i.toNat * 1 + j)) = some u := hc0
  obtain ⟨A0, c0, rfl, l0, g0⟩ := hK
  exact ⟨ad, A0, c0, e, by have hq := hc 0 _ rfl; rwa [Nat.mul_one, Nat.add_zero] at hq, l0, g0⟩
def rd_L2 (xs : List (List Int)) (i : Int) : (List Int) := xs.getD i.toNat ([] : List Int)
theorem at_L2 {w : World} {A : Option Addr} {n : Nat} {xs : List (List Int)} (h : Kd.C (Kd.slice 2 (Kd.int .i64)) w A n xs) (i : Int) (h0 : 0 ≤ i) (h1 : i < n) : ∃ ad A0 c0, A = some ad ∧ w.cell? (ad.add i.toNat) = some (.slice A0 (rd_L2 xs i).length c0) ∧ (rd_L2 xs i).length ≤ c0 ∧ (Kd.int .i64).C w A0 (rd_L2 xs i).length (rd_L2 xs i) := by
  obtain ⟨ad, c, e, _, hK, hc0⟩ := Kd.C_get h ([] : List Int) i h0 h1
  have hc : ∀ j u, c[j]? = some u → w.cell? (ad.add (i.toNat * 1 + j)) = some u := hc0
  obtain ⟨A0, c0, rfl, l0, g0⟩ := hK
  exact ⟨ad, A0, c0, e, by have hq := hc 0 _ rfl; rwa [Nat.mul_one, Nat.add_zero] at hq, l0, g0⟩
/-! #### struct type 25 -/
structure S25 where
  f0 : (List Int)
  f1 : (List Int)
  f2 : Bool
def z25 : S25 := ⟨([] : List Int), ([] : List Int), false⟩
def k25 : Kd S25 := Kd.iso (Kd.pair (Kd.slice 3 (Kd.int .i64)) (Kd.pair (Kd.slice 2 (Kd.int .i64)) Kd.bool)) (fun x : S25 => (x.f0, x.f1, x.f2))
theorem k25_open {w : World} {x : S25} {cs : List Value} (h : k25.K w x cs) : ∃ A0 c0 A1 c1, cs = [.slice A0 x.f0.length c0, .slice A1 x.f1.length c1, .bool x.f2] ∧ x.f0.length ≤ c0 ∧ (Kd.int .i64).C w A0 x.f0.length x.f0 ∧ x.f1.length ≤ c1 ∧ (Kd.int .i64).C w A1 x.f1.length x.f1 := by
  obtain ⟨_, _, rfl, ⟨A0, c0, rfl, l0, g0⟩, ⟨_, _, rfl, ⟨A1, c1, rfl, l1, g1⟩, rfl⟩⟩ := h
  exact ⟨A0, c0, A1, c1, rfl, l0, g0, l1, g1⟩
theorem k25_openM {w : World} {base : Nat} {ok : Nat → Prop} {x : S25} {cs : List Value} (h : k25.M w base ok x cs) : ∃ v0 v1, cs = [v0, v1, .bool x.f2] ∧ (Kd.int .i64).R 3 w base ok v0 x.f0 ∧ (Kd.int .i64).R 2 w base ok v1 x.f1 := by
  obtain ⟨_, _, rfl, ⟨v0, rfl, g0⟩, ⟨_, _, rfl, ⟨v1, rfl, g1⟩, rfl⟩⟩ := h
  exact ⟨v0, v1, rfl, g0, g1⟩
theorem k25_mk (w : World) (x : S25) {A0 : Option Addr} {c0 : Nat} (l0 : x.f0.length ≤ c0) (g0 : (Kd.int .i64).C w A0 x.f0.length x.f0) {A1 : Option Addr} {c1 : Nat} (l1 : x.f1.length ≤ c1) (g1 : (Kd.int .i64).C w A1 x.f1.length x.f1) : k25.K w x [.slice A0 x.f0.length c0, .slice A1 x.f1.length c1, .bool x.f2] := ⟨[.slice A0 x.f0.length c0], [.slice A1 x.f1.length c1, .bool x.f2], rfl, ⟨A0, c0, rfl, l0, g0⟩, ⟨[.slice A1 x.f1.length c1], [.bool x.f2], rfl, ⟨A1, c1, rfl, l1, g1⟩, rfl⟩⟩
theorem k25_mkM (w : World) (base : Nat) (ok : Nat → Prop) (x : S25) {v0 : Value} (g0 : (Kd.int .i64).R 3 w base ok v0 x.f0) {v1 : Value} (g1 : (Kd.int .i64).R 2 w base ok v1 x.f1) : k25.M w base ok x [v0, v1, .bool x.f2] := ⟨[v0], [v1, .bool x.f2], rfl, ⟨v0, rfl, g0⟩, ⟨[v1], [.bool x.f2], rfl, ⟨v1, rfl, g1⟩, rfl⟩⟩
def rd_T25 (xs : List S25) (i : Int) : S25 := xs.getD i.toNat z25
theorem at_T25 {w : World} {A : Option Addr} {n : Nat} {xs : List S25} (h : Kd.C k25 w A n xs) (i : Int) (h0 : 0 ≤ i) (h1 : i < n) : ∃ ad A0 c0 A1 c1, A = some ad ∧ w.cell? (ad.add (i.toNat * 3)) = some (.slice A0 (rd_T25 xs i).f0.length c0) ∧ w.cell? ⟨(ad.add (i.toNat * 3)).block, (ad.add (i.toNat * 3)).off + 1, none⟩ = some (.slice A1 (rd_T25 xs i).f1.length c1) ∧ w.cell? ⟨(ad.add (i.toNat * 3)).block, (ad.add (i.toNat * 3)).off + 2, none⟩ = some (.bool (rd_T25 xs i).f2) ∧ (rd_T25 xs i).f0.length ≤ c0 ∧ (Kd.int .i64).C w A0 (rd_T25 xs i).f0.length (rd_T25 xs i).f0 ∧ (rd_T25 xs i).f1.length ≤ c1 ∧ (Kd.int .i64).C w A1 (rd_T25 xs i).f1.length (rd_T25 xs i).f1 := by
  obtain ⟨ad, c, e, _, hK, hc0⟩ := Kd.C_get h z25 i h0 h1
  have hc : ∀ j u, c[j]? = some u → w.cell? (ad.add (i.toNat * 3 + j)) = some u := hc0
  obtain ⟨A0, c0, A1, c1, rfl, l0, g0, l1, g1⟩ := k25_open hK
  exact ⟨ad, A0, c0, A1, c1, e, hc 0 _ rfl, by rw [← add_field _ _ 1 (by omega)]; exact hc 1 _ rfl, by rw [← add_field _ _ 2 (by omega)]; exact hc 2 _ rfl, l0, g0, l1, g1⟩
end Go.Proofs.Ytomgebmimgaojaa.QO
end
section
/- Written by a program of this session out of the translation. -/
noncomputable section
namespace Go.Proofs.Ytomgebmimgaojaa.QO
open Go.RowKit Go.Proofs.YtomgebmimgaojaaW.PrintWords Go.Proofs.YtomgebmimgaojaaW.PrintLast
set_option linter.unusedVariables false
set_option linter.unusedSimpArgs false
theorem eqA37 (d : Nat) (w : World) (x0 y0 : Int) (x1 y1 : Int) :
    (Op.equalIn (d + 2) 37 (.agg #[.int .i64 x0, .int .i64 x1]) (.agg #[.int .i64 y0, .int .i64 y1])).run Try.prog w = .ok (x0 == y0 && (x1 == y1)) w := by
  refine eqA_of Try.underlying37 (by kernel_rfl) ?_
  refine eqf_cons (by rfl) (by go_simp; rfl) (by go_simp; rfl) (by go_simp) ?_
  exact eqf_last (by rfl) (by go_simp; rfl) (by go_simp; rfl) (by go_simp)
end Go.Proofs.Ytomgebmimgaojaa.QO
end
end
section
/- Written by a program of this session out of the translation. -/
namespace Go.Proofs.Ytomgebmimgaojaa.QO
open Go.RowKit Go.Proofs.YtomgebmimgaojaaW.PrintWords Go.Proofs.YtomgebmimgaojaaW.PrintLast
set_option linter.unusedVariables false
set_option linter.unusedSimpArgs false
/-! ### oct_may: function 46 -/
/-- may these be Vars? -/
def VarsOk (l : List Int) : Prop := l.length ≤ 8 ∧ ∀ i : Int, 0 ≤ i → i < l.length → 0 ≤ rd l i ∧ (0 < i → rd l (i - 1) < rd l i)
noncomputable def varsB (l : List Int) : Bool := @decide (VarsOk l) (Classical.propDecidable _)
theorem varsB_true {l : List Int} : varsB l = true ↔ VarsOk l := by unfold varsB; exact @decide_eq_true_iff _ (Classical.propDecidable _)
theorem varsB_false {l : List Int} : varsB l = false ↔ ¬ VarsOk l := by unfold varsB; exact @decide_eq_false_iff_not _ (Classical.propDecidable _)
noncomputable def oct_may.f (l0 : List Int) : Option Bool := some (varsB l0)
set_option maxHeartbeats 8000000 in
set_option maxRecDepth 100000 in
theorem oct_may.calls (A0 : Option Addr) (c0 : Nat) (l0 : List Int) (r : Bool) (w : World) (hr0 : Kd.C (Kd.int .i64) w A0 l0.length l0) (hc0 : l0.length ≤ c0) (h : oct_may.f l0 = some r) :
 Calls Try.prog 46 #[.slice A0 l0.length c0] w fun e w' => e = .returned (.bool r) ∧ Drawn0 w w' := by
 have HR0 := Aside0.mk hr0
 have HV := Aside0.mk (Option.some.inj h)
 clear hr0 hc0 h
 by_cases c1 : (8 : Int) < (l0.length : Int)
 ·
  have f1 : decide ((8 : Int) < (l0.length : Int)) = true := decide_eq_true c1
  have f2 : decide (8 < l0.length) = true := decide_eq_true (by omega)
  have HC := Aside0.mk c1
  clear c1
  go_enter Try.func46, Try.ntmps46
  go_wp2
  go_ret
  refine ⟨?_, Drawn0.refl _⟩
  rw [← HV.out, varsB_false.2 (fun h => by have := h.1; have := HC.out; omega)]
  rfl
 ·
  have f1 : decide ((8 : Int) < (l0.length : Int)) = false := decide_eq_false c1
  have f2 : decide (8 < l0.length) = false := decide_eq_false (by omega)
  have HC := Aside0.mk c1
  clear c1
  go_enter Try.func46, Try.ntmps46
  go_wp2
  go_loopg [3, 4, 10] l0.length (fun gg _ _ s10 wr => ∃ i : Int, s10 = .int .i64 i ∧ Aside0 (0 ≤ i ∧ i ≤ l0.length ∧ l0.length - i.toNat ≤ gg) ∧ Aside0 (∀ j : Int, 0 ≤ j → j < i → 0 ≤ rd l0 j ∧ (0 < j → rd l0 (j - 1) < rd l0 j)) ∧ Drawn0 w wr)
  case atStart => exact ⟨0, rfl, ⟨by omega, by omega, by omega⟩, ⟨fun j h0 h1 => absurd h1 (by omega)⟩, Drawn0.refl _⟩
  case round =>
   obtain ⟨i, rfl, HI, HA, ⟨m1, rfl⟩⟩ := hrel
   by_cases hlt : i < (l0.length : Int)
   ·
    have p0 : 0 ≤ i := HI.out.1
    have hC : Kd.C (Kd.int .i64) (w.drewN m1) A0 l0.length l0 := Kd.C_drewN HR0.out _
    obtain ⟨ad, e0, hx⟩ := Kd.at_int hC i p0 hlt
    cases e0
    clear hC
    have HL := Aside0.mk hlt
    have c6b0 : decide (i < (l0.length : Int)) = true := decide_eq_true hlt
    by_cases c3 : rd l0 i < 0
    ·
     have f3 : decide (rd l0 i < 0) = true := decide_eq_true c3
     have H3 := Aside0.mk c3
     clear c3
     replace p0 := eq_true p0
     replace hlt := eq_true hlt
     go_wp2
     go_ret
     refine ⟨?_, by repeat (first | exact Drawn0.refl _ | apply Drawn0.step)⟩
     have h1 := HI.out; have h2 := HL.out; have h3 := H3.out
     rw [← HV.out, varsB_false.2 (fun h => by have := (h.2 i h1.1 h2).1; omega)]
     rfl
    ·
     have f3 : decide (rd l0 i < 0) = false := decide_eq_false c3
     have H3 := Aside0.mk c3
     clear c3
     by_cases c4 : 0 < i
     ·
      have f4 : decide (0 < i) = true := decide_eq_true c4
      have hm1 : wrap64 (i - 1) = i - 1 := by have := HC.out; unfold wrap64; omega
      obtain ⟨j, hj⟩ : ∃ j : Int, i - 1 = j := ⟨_, rfl⟩
      have q0 : 0 ≤ j := by omega
      have q1 : j < (l0.length : Int) := by omega
      obtain ⟨ad', e0, hy⟩ := Kd.at_int (Kd.C_drewN HR0.out m1) j q0 q1
      cases e0
      rw [hj] at hm1
      have hm2 : IntKind.i64.wrap (i - 1) = j := by rw [IntKind.wrap_i64, ← hj]; unfold wrap64 at hm1; omega
      have HJ := Aside0.mk hj
      have H4 := Aside0.mk c4
      by_cases c5 : rd l0 i ≤ rd l0 j
      ·
       have f5 : decide (rd l0 i ≤ rd l0 j) = true := decide_eq_true c5
       have H5 := Aside0.mk c5
       clear c5 c4
       replace p0 := eq_true p0
       replace hlt := eq_true hlt
       replace q0 := eq_true q0
       replace q1 := eq_true q1
       go_wp2
       go_ret
       refine ⟨?_, by repeat (first | exact Drawn0.refl _ | apply Drawn0.step)⟩
       have h1 := HI.out; have h2 := HL.out; have h5 := H5.out; have h4 := H4.out
       rw [← HV.out, varsB_false.2 (fun h => by have := (h.2 i h1.1 h2).2 h4; rw [HJ.out] at this; omega)]
       rfl
      ·
       have f5 : decide (rd l0 i ≤ rd l0 j) = false := decide_eq_false c5
       have H5 := Aside0.mk c5
       clear c5 c4
       replace p0 := eq_true p0
       replace hlt := eq_true hlt
       replace q0 := eq_true q0
       replace q1 := eq_true q1
       go_wp2
       go_roundg (l0.length - (i.toNat + 1))
       case measure => have h1 := HI.out; have h2 := HL.out; omega
       case rel =>
        have h1 := HI.out; have h2 := HL.out; have h3 := H3.out; have h4 := HC.out; have h5 := H5.out; have hj := HJ.out
        have hw : wrap64 (i + 1) = i + 1 := by unfold wrap64; omega
        refine ⟨wrap64 (i + 1), rfl, ⟨by omega, by omega, by omega⟩, ⟨fun k k0 k1 => ?_⟩, by repeat (first | exact Drawn0.refl _ | apply Drawn0.step)⟩
        by_cases e : k = i
        ·
         subst e; exact ⟨by omega, fun _ => by rw [hj]; omega⟩
        ·
         exact HA.out k k0 (by omega)
     ·
      have f4 : decide (0 < i) = false := decide_eq_false c4
      have H4 := Aside0.mk c4
      clear c4
      replace p0 := eq_true p0
      replace hlt := eq_true hlt
      go_wp2
      go_roundg (l0.length - (i.toNat + 1))
      case measure => have h1 := HI.out; have h2 := HL.out; omega
      case rel =>
       have h1 := HI.out; have h2 := HL.out; have h3 := H3.out; have h4 := HC.out; have h5 := H4.out
       have hw : wrap64 (i + 1) = i + 1 := by unfold wrap64; omega
       refine ⟨wrap64 (i + 1), rfl, ⟨by omega, by omega, by omega⟩, ⟨fun k k0 k1 => ?_⟩, by repeat (first | exact Drawn0.refl _ | apply Drawn0.step)⟩
       by_cases e : k = i
       ·
        subst e; exact ⟨by omega, fun h => absurd h (by omega)⟩
       ·
        exact HA.out k k0 (by omega)
   ·
    have c6b0 : decide (i < (l0.length : Int)) = false := decide_eq_false hlt
    have HL := Aside0.mk hlt
    clear hlt
    go_wp2
    go_ret
    have h1 := HI.out; have h2 := HL.out; have h4 := HC.out
    refine ⟨?_, by repeat (first | exact Drawn0.refl _ | apply Drawn0.step)⟩
    rw [← HV.out, varsB_true.2 ⟨by omega, fun k k0 k1 => HA.out k k0 (by omega)⟩]
    rfl
end Go.Proofs.Ytomgebmimgaojaa.QO
end
section
/- Written by a program of this session out of the translation. -/
noncomputable section
namespace Go.Proofs.Ytomgebmimgaojaa.QO
open Go.RowKit Go.Proofs.YtomgebmimgaojaaW.PrintWords Go.Proofs.YtomgebmimgaojaaW.PrintLast
set_option linter.unusedVariables false
set_option linter.unusedSimpArgs false
/-! ### oct_full_at: function 51 -/
/-- an entry of a whole matrix -/
def oct_full_at.f (a0_0 : Int) (l0_1 : List Int) (a1 : Int) (a2 : Int) : Option Int :=
 if 0 ≤ a0_0 ∧ a0_0 ≤ 16 ∧ 0 ≤ a1 ∧ a1 < 16 ∧ 0 ≤ a2 ∧ a2 < 16 ∧ a1 * a0_0 + a2 < l0_1.length then some (rd l0_1 (a1 * a0_0 + a2)) else none
theorem mul_in {a b : Int} (h0 : 0 ≤ a) (h1 : a ≤ 16) (h2 : 0 ≤ b) (h3 : b ≤ 16) : 0 ≤ b * a ∧ b * a ≤ 256 :=
 ⟨Int.mul_nonneg h2 h0, Int.le_trans (Int.mul_le_mul_of_nonneg_left h1 h2) (by omega)⟩
set_option maxHeartbeats 8000000 in
set_option maxRecDepth 100000 in
theorem oct_full_at.calls (a0_0 : Int) (A0_1 : Option Addr) (c0_1 : Nat) (l0_1 : List Int) (a1 : Int) (a2 : Int) (r : Int) (w : World) (hr0_1 : Kd.C (Kd.int .i64) w A0_1 l0_1.length l0_1) (hc0_1 : l0_1.length ≤ c0_1) (h : oct_full_at.f a0_0 l0_1 a1 a2 = some r) :
 Calls Try.prog 51 #[.agg #[.int .i64 a0_0, .slice A0_1 l0_1.length c0_1], .int .i64 a1, .int .i64 a2] w fun e w' => e = .returned (.int .i64 r) ∧ Below w.heap.size w w' := by
 have hu25 := Try.underlying58
 clear hc0_1
 unfold oct_full_at.f at h
 by_cases hc : 0 ≤ a0_0 ∧ a0_0 ≤ 16 ∧ 0 ≤ a1 ∧ a1 < 16 ∧ 0 ≤ a2 ∧ a2 < 16 ∧ a1 * a0_0 + a2 < l0_1.length
 ·
  rw [if_pos hc] at h
  obtain rfl := Option.some.inj h
  clear h
  obtain ⟨h0, h1, h2, h3, h4, h5, h6⟩ := hc
  have hm := mul_in h0 h1 h2 (by omega)
  obtain ⟨p, hp⟩ : ∃ p : Int, a1 * a0_0 = p := ⟨_, rfl⟩
  rw [hp] at hm h6 ⊢
  obtain ⟨q, hq⟩ : ∃ q : Int, p + a2 = q := ⟨_, rfl⟩
  rw [hq] at h6 ⊢
  have q0 : 0 ≤ q := by omega
  obtain ⟨ad, e0, hx⟩ := Kd.at_int hr0_1 q q0 h6
  cases e0
  have e1 : IntKind.i64.wrap (a1 * a0_0) = p := by rw [hp, IntKind.wrap_i64]; omega
  have e2 : IntKind.i64.wrap (p + a2) = q := by rw [hq, IntKind.wrap_i64]; omega
  have e3 : wrap64 (a1 * a0_0) = p := by rw [hp]; unfold wrap64; omega
  have e4 : wrap64 (p + a2) = q := by rw [hq]; unfold wrap64; omega
  have hx' := pw_cell_below (below_alloc (Below.refl w.heap.size w) (.cells #[.int .i64 a0_0, .slice (some ad) l0_1.length c0_1] 58)) hx
  replace q0 := eq_true q0
  replace h6 := eq_true h6
  clear hr0_1 h0 h1 h2 h3 h4 h5 hm hp hq hx
  go_enter Try.func51, Try.ntmps51
  go_wp2
  go_ret
  exact ⟨rfl, below_alloc (Below.refl _ _) _⟩
 ·
  rw [if_neg hc] at h
  cases h
end Go.Proofs.Ytomgebmimgaojaa.QO
end
end
section
/- Written by a program of this session out of the translation. -/
noncomputable section
namespace Go.Proofs.Ytomgebmimgaojaa.QO
open Go.RowKit Go.Proofs.YtomgebmimgaojaaW.PrintWords Go.Proofs.YtomgebmimgaojaaW.PrintLast
set_option linter.unusedVariables false
set_option linter.unusedSimpArgs false
/-! ### oct_bar: function 52 -/
/-- the node with the other sign -/
def nbar (i : Int) : Int := if i % 2 = 0 then i + 1 else i - 1
theorem xor_one (i : Int) (h0 : 0 ≤ i) (h1 : i < 16) : Go.bits .xor .i64 i 1 = nbar i := by
 have h : i = 0 ∨ i = 1 ∨ i = 2 ∨ i = 3 ∨ i = 4 ∨ i = 5 ∨ i = 6 ∨ i = 7 ∨ i = 8 ∨ i = 9 ∨ i = 10 ∨ i = 11 ∨ i = 12 ∨ i = 13 ∨ i = 14 ∨ i = 15 := by omega
 rcases h with rfl | rfl | rfl | rfl | rfl | rfl | rfl | rfl | rfl | rfl | rfl | rfl | rfl | rfl | rfl | rfl <;> decide
def oct_bar.f (a0 : Int) : Option Int := if 0 ≤ a0 ∧ a0 < 16 then some (nbar a0) else none
set_option maxHeartbeats 8000000 in
set_option maxRecDepth 100000 in
theorem oct_bar.calls (a0 : Int) (r : Int) (w : World) (h : oct_bar.f a0 = some r) :
 Calls Try.prog 52 #[.int .i64 a0] w fun e w' => e = .returned (.int .i64 r) ∧ Drawn0 w w' := by
 have hr : r = Go.bits .xor .i64 a0 1 := by
  unfold oct_bar.f at h; split at h
  ·
   rename_i hc; rw [xor_one a0 hc.1 hc.2]; exact (Option.some.inj h).symm
  ·
   cases h
 subst hr
 clear h
 go_enter Try.func52, Try.ntmps52
 go_wp2
 go_ret
 exact ⟨rfl, Drawn0.refl _⟩
set_option maxHeartbeats 8000000 in
set_option maxRecDepth 100000 in
theorem oct_bar_still (a0 : Int) (r : Int) (w : World) (h : oct_bar.f a0 = some r) :
 Calls Try.prog 52 #[.int .i64 a0] w fun e w' => e = .returned (.int .i64 r) ∧ w' = w := by
 have hr : r = Go.bits .xor .i64 a0 1 := by
  unfold oct_bar.f at h; split at h
  ·
   rename_i hc; rw [xor_one a0 hc.1 hc.2]; exact (Option.some.inj h).symm
  ·
   cases h
 subst hr
 clear h
 go_enter Try.func52, Try.ntmps52
 go_wp2
 go_ret
 exact ⟨rfl, rfl⟩
end Go.Proofs.Ytomgebmimgaojaa.QO
end
end
section
/- Written by a program of this session out of the translation. -/
namespace Go.Proofs.Ytomgebmimgaojaa.QO
open Go.RowKit Go.Proofs.YtomgebmimgaojaaW.PrintWords Go.Proofs.YtomgebmimgaojaaW.PrintLast
set_option linter.unusedVariables false
set_option linter.unusedSimpArgs false
/-! ### oct_Fit: function 18 -/
/-- a sound entry -/
def EntryOk (n2 : Int) (m : List Int) (i j : Int) : Prop :=
 (rd m (i * n2 + j) = 4611686018427387904 ∨ (-1099511627776 ≤ rd m (i * n2 + j) ∧ rd m (i * n2 + j) ≤ 1099511627776)) ∧ (i = j → rd m (i * n2 + j) = 0) ∧ rd m (i * n2 + j) = rd m (nbar j * n2 + nbar i)
/-- a sound octagon -/
def OFit (vars m : List Int) (empty : Bool) : Prop :=
 VarsOk vars ∧ (empty = true → m = []) ∧ (empty = false → (m.length : Int) = (2 * (vars.length : Int)) * (2 * (vars.length : Int)) ∧ ∀ i j : Int, 0 ≤ i → i < 2 * (vars.length : Int) → 0 ≤ j → j < 2 * (vars.length : Int) → EntryOk (2 * (vars.length : Int)) m i j)
noncomputable def ofitB (vars m : List Int) (empty : Bool) : Bool := @decide (OFit vars m empty) (Classical.propDecidable _)
theorem ofitB_true {vars m : List Int} {empty : Bool} : ofitB vars m empty = true ↔ OFit vars m empty := by unfold ofitB; exact @decide_eq_true_iff _ (Classical.propDecidable _)
theorem ofitB_false {vars m : List Int} {empty : Bool} : ofitB vars m empty = false ↔ ¬ OFit vars m empty := by unfold ofitB; exact @decide_eq_false_iff_not _ (Classical.propDecidable _)
theorem nbar_in {i n : Int} (h0 : 0 ≤ i) (h1 : i < 2 * n) : 0 ≤ nbar i ∧ nbar i < 2 * n := by unfold nbar; split <;> omega
theorem place_in {i j n : Int} (h0 : 0 ≤ i) (h1 : i < n) (h2 : 0 ≤ j) (h3 : j < n) : 0 ≤ i * n + j ∧ i * n + j < n * n := by
 have h5 := Int.mul_nonneg h0 (by omega : 0 ≤ n)
 have h6 : i * n ≤ (n - 1) * n := Int.mul_le_mul_of_nonneg_right (by omega) (by omega)
 have h7 : (n - 1) * n = n * n - n := by rw [Int.sub_mul]; omega
 omega
/-- an entry's reading, as the contract asks it -/
theorem at_ok {n : Nat} {m : List Int} {i j : Int} (hn : n ≤ 8) (hm : (m.length : Int) = (2 * (n : Int)) * (2 * (n : Int))) (h0 : 0 ≤ i) (h1 : i < 2 * (n : Int)) (h2 : 0 ≤ j) (h3 : j < 2 * (n : Int)) :
 oct_full_at.f (2 * (n : Int)) m i j = some (rd m (i * (2 * (n : Int)) + j)) := by
 unfold oct_full_at.f
 have := place_in h0 h1 h2 h3
 rw [if_pos ⟨by omega, by omega, h0, by omega, h2, by omega, by omega⟩]
noncomputable def oct_Fit.f (l0_0 : List Int) (l0_1 : List Int) (a0_2 : Bool) : Option Bool := if l0_0.length ≤ 17592186044416 then some (ofitB l0_0 l0_1 a0_2) else none
/-- what holds in a round: a box that lies, and all that lay -/
structure Box1 (w : World) (g : Nat) (cs : Array Value) (t : Nat) (W : World) : Prop where
 below : Below w.heap.size w W
 box : W.heap[g]? = some (.cells cs t (0, 0))
theorem Box1.next {w W W1 : World} {g : Nat} {cs : Array Value} {t : Nat} (h : Box1 w g cs t W) (hb : Below W.heap.size W W1) : Box1 w g cs t W1 :=
 ⟨h.below.trans (hb.mono h.below.size), (hb.block _ (blk_lt h.box)).trans h.box⟩
theorem box1_new {w W : World} {g : Nat} {cs : Array Value} {t : Nat} (hB : Below w.heap.size w W) (hs : W.heap.size = g) : Box1 w g cs t (W.alloc (.cells cs t)) :=
 ⟨below_alloc hB _, by rw [← hs]; exact heap_alloc_new W _⟩
theorem Box1.two {w W : World} {g : Nat} {a b : Value} {t : Nat} (h : Box1 w g #[a, b] t W) : W.cell? ⟨g, 0, none⟩ = some a ∧ W.cell? ⟨g, 1, none⟩ = some b := ⟨(blk_cell h.box 0).trans rfl, (blk_cell h.box 1).trans rfl⟩
theorem Box1.drew {w W : World} {g : Nat} {cs : Array Value} {t : Nat} (h : Box1 w g cs t W) : Box1 w g cs t W.drew := h.next (below_drew (Below.refl _ _))
theorem Box1.drewN {w W : World} {g : Nat} {cs : Array Value} {t : Nat} (h : Box1 w g cs t W) (n : Nat) : Box1 w g cs t (W.drewN n) := h.next (pw_below_drewN (Below.refl _ _) n)
theorem Box1.alloc {w W : World} {g : Nat} {cs : Array Value} {t : Nat} (h : Box1 w g cs t W) (o : Obj) : Box1 w g cs t (W.alloc o) := h.next (below_alloc (Below.refl _ _) o)
def oct_Fit.T14 : Bool × List (List Nat × List Nat) := (true, [([], []), ([0], [0]), ([1], [1]), ([2], [2]), ([3, 2], [2, 3]), ([4, 2, 2], [2, 4]), ([5], [5]), ([6, 5], [5, 6]), ([5, 7, 2], [2, 5, 7]), ([2, 8], [2, 8]), ([9, 5], [9]), ([10], [10]), ([10], [10]), ([11, 12, 10], [10, 11, 12]), ([13, 10, 10], [10, 13]), ([14], [14]), ([15, 14], [14, 15]), ([14, 16, 10], [10, 14, 16]), ([10, 17], [10, 17]), ([18, 14], [18]), ([19], [19]), ([19], [19]), ([19], [19]), ([22, 19, 19], [19, 22]), ([19], [19]), ([24, 23, 19], [19, 24]), ([21, 23, 25, 25, 19], [19, 21, 23, 25]), ([20, 26, 19], [19, 20, 26]), ([19, 27], [19, 27])])
def oct_Fit.B14 : List Nat := [0, 1, 3, 7, 15, 31, 63, 127, 255, 511, 1023, 2047, 2047, 8191, 16383, 32767, 65535, 131071, 262143, 524287, 1048575, 1048575, 1048575, 5242879, 1048575, 30408703, 66060287, 134217727, 268435455]
def FA0 : Array Bool := (mB 29 0)
def FA1 : Array Bool := (mB 29 1)
def FA2 : Array Bool := (mB 29 3)
def FA3 : Array Bool := (mB 29 7)
def FA4 : Array Bool := (mB 29 15)
def FA5 : Array Bool := (mB 29 31)
def FA6 : Array Bool := (mB 29 63)
def FA7 : Array Bool := (mB 29 127)
def FA8 : Array Bool := (mB 29 255)
def FA9 : Array Bool := (mB 29 511)
def FA10 : Array Bool := (mB 29 1023)
def FA11 : Array Bool := (mB 29 2047)
def FA12 : Array Bool := (mB 29 4095)
def FA13 : Array Bool := (mB 29 8191)
def FA14 : Array Bool := (mB 29 16383)
def FA15 : Array Bool := (mB 29 32767)
def FA16 : Array Bool := (mB 29 65535)
def FA17 : Array Bool := (mB 29 131071)
def FA18 : Array Bool := (mB 29 262143)
def FA19 : Array Bool := (mB 29 524287)
def FA20 : Array Bool := (mB 29 1048575)
def FA21 : Array Bool := (mB 29 2097151)
def FA22 : Array Bool := (mB 29 6291455)
def FA23 : Array Bool := (mB 29 23068671)
def FA24 : Array Bool := (mB 29 25165823)
def FA25 : Array Bool := (mB 29 33554431)
def FA26 : Array Bool := (mB 29 67108863)
def FA27 : Array Bool := (mB 29 134217727)
def FA28 : Array Bool := (mB 29 268435455)
def FA29 : Array Bool := (mB 29 536870911)
theorem oct_Fit.tab14 : rtab .any (opsOf Try.f18 14) = oct_Fit.T14 := by kernel_rfl
theorem oct_Fit.bits14 : waitsOk oct_Fit.T14.2 oct_Fit.B14 = true := by kernel_rfl
set_option maxHeartbeats 8000000 in
set_option maxRecDepth 100000 in
theorem oct_Fit.calls (A0_0 : Option Addr) (c0_0 : Nat) (l0_0 : List Int) (A0_1 : Option Addr) (c0_1 : Nat) (l0_1 : List Int) (a0_2 : Bool) (r : Bool) (w : World) (hr0_0 : Kd.C (Kd.int .i64) w A0_0 l0_0.length l0_0) (hc0_0 : l0_0.length ≤ c0_0) (hr0_1 : Kd.C (Kd.int .i64) w A0_1 l0_1.length l0_1) (hc0_1 : l0_1.length ≤ c0_1) (h : oct_Fit.f l0_0 l0_1 a0_2 = some r) :
 Calls Try.prog 18 #[.agg #[.slice A0_0 l0_0.length c0_0, .slice A0_1 l0_1.length c0_1, .bool a0_2]] w fun e w' => e = .returned (.bool r) ∧ Below w.heap.size w w' := by
 have hu25 := Try.underlying25
 have hu58 := Try.underlying58
 have HR0 := Aside0.mk hr0_0
 have HR1 := Aside0.mk hr0_1
 have HC0 := Aside0.mk hc0_0
 have HC1 := Aside0.mk hc0_1
 clear hr0_0 hr0_1 hc0_0 hc0_1
 unfold oct_Fit.f at h
 by_cases hlen : l0_0.length ≤ 17592186044416
 ·
  rw [if_pos hlen] at h
  have HV := Aside0.mk (Option.some.inj h)
  clear h
  have e1 : wrap64 (2 * (l0_0.length : Int)) = 2 * (l0_0.length : Int) := by unfold wrap64; omega
  have e2 : IntKind.i64.wrap (2 * (l0_0.length : Int)) = 2 * (l0_0.length : Int) := by rw [IntKind.wrap_i64]; omega
  cases hv : varsB l0_0 with
  | false =>
   have HM := fun W (hW : Kd.C (Kd.int .i64) W A0_0 l0_0.length l0_0) => oct_may.calls A0_0 c0_0 l0_0 false W hW HC0.out (by unfold oct_may.f; rw [hv])
   replace HM := Aside0.mk HM
   have HF := Aside0.mk (varsB_false.1 hv)
   clear hv hlen
   go_enter Try.func18, Try.ntmps18
   go_wp2_with (go_at_call 46; (with_reducible refine (HM.out _ ?side1).mono ?_); (case side1 => repeat (first | exact HR0.out | (with_reducible refine Kd.C_alloc ?_ _) | (with_reducible refine Kd.C_drewN ?_ _) | (with_reducible refine Kd.C_drew ?_))); rintro e w1 ⟨rfl, ⟨nd, rfl⟩⟩)
   go_ret
   refine ⟨?_, by repeat (first | exact Below.refl _ _ | (with_reducible apply below_alloc) | (with_reducible apply pw_below_drewN) | (with_reducible apply below_drew))⟩
   rw [← HV.out, ofitB_false.2 (fun h => HF.out h.1)]
   rfl
  | true =>
   have HM := fun W (hW : Kd.C (Kd.int .i64) W A0_0 l0_0.length l0_0) => oct_may.calls A0_0 c0_0 l0_0 true W hW HC0.out (by unfold oct_may.f; rw [hv])
   replace HM := Aside0.mk HM
   have HT := Aside0.mk (varsB_true.1 hv)
   clear hv hlen
   cases a0_2 with
   | true =>
    by_cases hz : l0_1.length = 0
    ·
     have f1 : ((l0_1.length : Int) == 0) = true := by rw [hz]; rfl
     have f2 : (l0_1.length == 0) = true := by rw [hz]; rfl
     have HZ := Aside0.mk hz
     clear hz
     go_enter Try.func18, Try.ntmps18
     go_wp2_with (go_at_call 46; (with_reducible refine (HM.out _ ?side1).mono ?_); (case side1 => repeat (first | exact HR0.out | (with_reducible refine Kd.C_alloc ?_ _) | (with_reducible refine Kd.C_drewN ?_ _) | (with_reducible refine Kd.C_drew ?_))); rintro e w1 ⟨rfl, ⟨nd, rfl⟩⟩)
     go_ret
     refine ⟨?_, by repeat (first | exact Below.refl _ _ | (with_reducible apply below_alloc) | (with_reducible apply pw_below_drewN) | (with_reducible apply below_drew))⟩
     rw [← HV.out, ofitB_true.2 ⟨HT.out, fun _ => List.eq_nil_of_length_eq_zero HZ.out, fun h => by cases h⟩]
     rfl
    ·
     have f1 : ((l0_1.length : Int) == 0) = false := by simpa using (by omega : ¬ ((l0_1.length : Int) = 0))
     have f2 : (l0_1.length == 0) = false := by simpa using hz
     have HZ := Aside0.mk hz
     clear hz
     go_enter Try.func18, Try.ntmps18
     go_wp2_with (go_at_call 46; (with_reducible refine (HM.out _ ?side1).mono ?_); (case side1 => repeat (first | exact HR0.out | (with_reducible refine Kd.C_alloc ?_ _) | (with_reducible refine Kd.C_drewN ?_ _) | (with_reducible refine Kd.C_drew ?_))); rintro e w1 ⟨rfl, ⟨nd, rfl⟩⟩)
     go_ret
     refine ⟨?_, by repeat (first | exact Below.refl _ _ | (with_reducible apply below_alloc) | (with_reducible apply pw_below_drewN) | (with_reducible apply below_drew))⟩
     rw [← HV.out, ofitB_false.2 (fun h => HZ.out (by rw [h.2.1 rfl]; rfl))]
     rfl
   | false =>
    obtain ⟨n2, hn2⟩ : ∃ n2 : Int, 2 * (l0_0.length : Int) = n2 := ⟨_, rfl⟩
    replace e1 : wrap64 (2 * (l0_0.length : Int)) = n2 := e1.trans hn2
    replace e2 : IntKind.i64.wrap (2 * (l0_0.length : Int)) = n2 := e2.trans hn2
    have hl8 := HT.out.1
    obtain ⟨nn, hnn⟩ : ∃ nn : Int, n2 * n2 = nn := ⟨_, rfl⟩
    have hnn2 : 0 ≤ nn ∧ nn ≤ 256 := by rw [← hnn]; exact mul_in (a := n2) (b := n2) (by omega) (by omega) (by omega) (by omega)
    have e3 : wrap64 (n2 * n2) = nn := by rw [hnn]; unfold wrap64; omega
    have e4 : IntKind.i64.wrap (n2 * n2) = nn := by rw [hnn, IntKind.wrap_i64]; omega
    by_cases hz : (l0_1.length : Int) = nn
    ·
     have f1 : ((l0_1.length : Int) != nn) = false := by rw [hz]; simp
     have HZ := Aside0.mk hz
     have HN := Aside0.mk hn2
     have HNN := Aside0.mk hnn
     clear hz hn2 hnn hnn2 hl8
     go_enter Try.func18, Try.ntmps18
     go_wp2_with (go_at_call 46; (with_reducible refine (HM.out _ ?side1).mono ?_); (case side1 => repeat (first | exact HR0.out | (with_reducible refine Kd.C_alloc ?_ _) | (with_reducible refine Kd.C_drewN ?_ _) | (with_reducible refine Kd.C_drew ?_))); rintro e w1 ⟨rfl, ⟨nd, rfl⟩⟩)
     go_loopg [5, 6, 7, 41, 44, 45] n2.toNat (fun gg _ _ _ s41 _ _ wr => ∃ i : Int, s41 = .int .i64 i ∧ Aside0 (0 ≤ i ∧ i ≤ n2 ∧ n2.toNat - i.toNat ≤ gg) ∧ Aside0 (Box1 w (w.heap.size + 1) #[.int .i64 n2, .slice A0_1 l0_1.length c0_1] 58 wr) ∧ Aside0 (∀ a b : Int, 0 ≤ a → a < i → 0 ≤ b → b < n2 → EntryOk n2 l0_1 a b))
     case atStart => exact ⟨0, rfl, ⟨by have := HN.out; omega, by have := HN.out; omega, by omega⟩, ⟨box1_new (by repeat (first | exact Below.refl _ _ | (with_reducible apply below_alloc) | (with_reducible apply pw_below_drewN) | (with_reducible apply below_drew))) (by simp)⟩, ⟨fun a b h0 h1 => absurd h1 (by omega)⟩⟩
     case round =>
      obtain ⟨i, rfl, HI, HX, HA⟩ := hrel
      by_cases hlt : i < n2
      ·
       have f2 : decide (i < n2) = true := decide_eq_true hlt
       have HL := Aside0.mk hlt
       clear hlt
       go_wp2
       obtain ⟨wo, rfl⟩ : ∃ wo : World, wo = wr := ⟨_, rfl⟩
       go_loopg [6, 7, 45] n2.toNat (fun hh _ _ s45 wr => ∃ j : Int, s45 = .int .i64 j ∧ Aside0 (0 ≤ j ∧ j ≤ n2 ∧ n2.toNat - j.toNat ≤ hh) ∧ Aside0 (Box1 w (w.heap.size + 1) #[.int .i64 n2, .slice A0_1 l0_1.length c0_1] 58 wr) ∧ Aside0 (∀ b : Int, 0 ≤ b → b < j → EntryOk n2 l0_1 i b))
       case atStart => exact ⟨0, rfl, ⟨by have := HN.out; omega, by have := HN.out; omega, by omega⟩, ⟨HX.out⟩, ⟨fun b h0 h1 => absurd h1 (by omega)⟩⟩
       case round =>
        clear HX
        obtain ⟨j, rfl, HJ, HX, HE⟩ := hrel
        by_cases hlt : j < n2
        ·
         have f3 : decide (j < n2) = true := decide_eq_true hlt
         have HK := Aside0.mk hlt
         clear hlt
         have hi := HI.out; have hj := HJ.out; have hil := HL.out; have hjl := HK.out
         have h8 := HT.out.1
         have hm : (l0_1.length : Int) = (2 * (l0_0.length : Int)) * (2 * (l0_0.length : Int)) := by rw [HN.out, HNN.out]; exact HZ.out
         have nj := nbar_in (i := j) (n := l0_0.length) hj.1 (by rw [HN.out]; exact hjl)
         have ni := nbar_in (i := i) (n := l0_0.length) hi.1 (by rw [HN.out]; exact hil)
         have a1 := at_ok (n := l0_0.length) (m := l0_1) (i := i) (j := j) h8 hm hi.1 (by rw [HN.out]; exact hil) hj.1 (by rw [HN.out]; exact hjl)
         have a2 := at_ok (n := l0_0.length) (m := l0_1) (i := nbar j) (j := nbar i) h8 hm nj.1 nj.2 ni.1 ni.2
         rw [HN.out] at a1 a2
         have b1 : oct_bar.f j = some (nbar j) := by unfold oct_bar.f; rw [if_pos ⟨hj.1, by have := HN.out; omega⟩]
         have b2 : oct_bar.f i = some (nbar i) := by unfold oct_bar.f; rw [if_pos ⟨hi.1, by have := HN.out; omega⟩]
         obtain ⟨x, hx⟩ : ∃ x, rd l0_1 (i * n2 + j) = x := ⟨_, rfl⟩
         obtain ⟨y, hy⟩ : ∃ y, rd l0_1 (nbar j * n2 + nbar i) = y := ⟨_, rfl⟩
         obtain ⟨p, hp⟩ : ∃ p, nbar j = p := ⟨_, rfl⟩
         obtain ⟨q, hq⟩ : ∃ q, nbar i = q := ⟨_, rfl⟩
         rw [hp, hq] at hy a2
         rw [hp] at b1
         rw [hq] at b2
         rw [hx] at a1
         rw [hy] at a2
         have C1 := Aside0.mk (fun W (hW : Kd.C (Kd.int .i64) W A0_1 l0_1.length l0_1) => oct_full_at.calls n2 A0_1 c0_1 l0_1 i j x W hW HC1.out a1)
         have C2 := Aside0.mk (fun W (hW : Kd.C (Kd.int .i64) W A0_1 l0_1.length l0_1) => oct_full_at.calls n2 A0_1 c0_1 l0_1 p q y W hW HC1.out a2)
         have B1 := Aside0.mk (fun W => oct_bar.calls j p W b1)
         have B2 := Aside0.mk (fun W => oct_bar.calls i q W b2)
         have HXY : Aside0 (EntryOk n2 l0_1 i j ↔ (x = 4611686018427387904 ∨ (-1099511627776 ≤ x ∧ x ≤ 1099511627776)) ∧ (i = j → x = 0) ∧ x = y) := ⟨by unfold EntryOk; rw [hp, hq, hx, hy]⟩
         clear hi hj hil hjl h8 hm nj ni a1 a2 b1 b2 hx hy hp hq
         obtain ⟨hx0, hx1⟩ := HX.out.two
         go_upto_region 14 with (first | (go_at_call 51; (with_reducible refine (C1.out _ ?s1).mono ?_); (case s1 => exact Kd.C_below HR1.out HX.out.below); rintro e w1 ⟨rfl, hb⟩; have hY := Box1.next HX.out (show Below _ _ _ from hb); clear HX hx0 hx1; have HX := Aside0.mk hY; obtain ⟨hx0, hx1⟩ := hY.two; clear hY hb))
         go_cut [80] (fun s80 wx => ∃ b : Bool, s80 = .bool b ∧ (b = false ↔ (x = 4611686018427387904 ∨ (-1099511627776 ≤ x ∧ x ≤ 1099511627776)) ∧ (i = j → x = 0) ∧ x = y) ∧ Box1 w (w.heap.size + 1) #[.int .i64 n2, .slice A0_1 l0_1.length c0_1] 58 wx)
         case first =>
          by_cases c1 : x = 4611686018427387904
          ·
           have f1 : (x != 4611686018427387904) = false := by rw [c1]; rfl
           by_cases c4 : i = j
           ·
            have f4 : (i == j) = true := by simpa using c4
            by_cases c5 : x = 0
            ·
             have f5 : (x != 0) = false := by rw [c5]; rfl
             have HB : Aside0 ((x != y) = false ↔ (x = 4611686018427387904 ∨ (-1099511627776 ≤ x ∧ x ≤ 1099511627776)) ∧ (i = j → x = 0) ∧ x = y) := ⟨by simp only [bne_eq_false_iff_eq]; constructor <;> intro h <;> omega⟩
             clear c1 c4 c5
             have n_ := Aside0.mk HX.out.drew
             clear HX hx0 hx1
             have HX := n_
             clear n_
             refine start_ (n := 29) (S := fun w' => w'.cell? ⟨w.heap.size + 1, 0, none⟩ = some (.int .i64 n2) ∧ w'.cell? ⟨w.heap.size + 1, 1, none⟩ = some (.slice A0_1 l0_1.length c0_1)) (ds := []) FA0 (by kernel_rfl) rfl rfl HX.out.two (fun hHeld => ?_); refine with_tabW oct_Fit.tab14 oct_Fit.bits14 (fun HT_ HW_ => ?_)
             generalize w1.drew = w2 at HX hHeld ⊢
             refine pV_ 0 52 FA1 HT_ ?_
             refine pV_ 1 53 FA2 HT_ ?_
             refine pV_ 2 54 FA3 HT_ ?_
             refine pU_ 3 55 FA4 HT_ ?_
             refine pU_ 4 56 FA5 HT_ ?_
             refine pU_ 5 57 FA6 HT_ ?_
             refine pU_ 6 58 FA7 HT_ ?_
             refine pU_ 7 59 FA8 HT_ ?_
             refine pU_ 8 60 FA9 HT_ ?_
             refine pV_ 9 61 FA10 HT_ ?_
             refine pV_ 10 62 FA11 HT_ ?_
             refine pV_ 11 63 FA12 HT_ ?_
             refine pV_ 12 64 FA13 HT_ ?_
             refine pV_ 13 65 FA14 HT_ ?_
             refine pV_ 14 66 FA15 HT_ ?_
             refine pV_ 15 67 FA16 HT_ ?_
             refine pV_ 16 68 FA17 HT_ ?_
             refine pV_ 17 69 FA18 HT_ ?_
             refine pV_ 18 70 FA19 HT_ ?_
             refine pV_ 19 71 FA20 HT_ ?_
             refine pV_ 20 72 FA21 HT_ ?_
             refine pV_ 22 74 FA22 HT_ ?_
             refine pV_ 24 76 FA23 HT_ ?_
             refine tV_ 21 73 FA24 HT_ HW_ hHeld ?_
             refine one_ (i := 23) (N := some 75) FA25 rfl rfl (one_of HT_.out (by kernel_rfl)) (by decide) (fun K hK => ?_)
             refine goes_ Try.func52 (by kernel_rfl) rfl #[.int .i64 j] (by rfl) rfl rfl vL ?_
             with_reducible refine (B1.out _).mono ?_
             rintro e w' ⟨rfl, ⟨nd, rfl⟩⟩
             refine ⟨_, rfl, ?_⟩
             have n_ := Aside0.mk (HX.out.drewN nd)
             clear HX
             have HX := n_
             clear n_
             refine hK.out _ _ HX.out.two (fun hHeld => ?_)
             clear hK K
             refine norm_ (a' := ?_) ?_ ?_
             rotate_left
             ·
              show Act.put _ (some 75) _ = _; simp only [Act.put, List.setIfInBounds_toArray, List.set_cons_zero, List.set_cons_succ, i64_w, i32_w]; rfl
             refine one_ (i := 25) (N := some 77) FA26 rfl rfl (one_of HT_.out (by kernel_rfl)) (by decide) (fun K hK => ?_)
             refine goes_ Try.func52 (by kernel_rfl) rfl #[.int .i64 i] (by rfl) rfl rfl vL ?_
             with_reducible refine (B2.out _).mono ?_
             rintro e w' ⟨rfl, ⟨nd, rfl⟩⟩
             refine ⟨_, rfl, ?_⟩
             have n_ := Aside0.mk (HX.out.drewN nd)
             clear HX
             have HX := n_
             clear n_
             refine hK.out _ _ HX.out.two (fun hHeld => ?_)
             clear hK K
             refine norm_ (a' := ?_) ?_ ?_
             rotate_left
             ·
              show Act.put _ (some 77) _ = _; simp only [Act.put, List.setIfInBounds_toArray, List.set_cons_zero, List.set_cons_succ, i64_w, i32_w]; rfl
             refine one_ (i := 26) (N := some 78) FA27 rfl rfl (one_of HT_.out (by kernel_rfl)) (by decide) (fun K hK => ?_)
             refine goes_ Try.func51 (by kernel_rfl) rfl #[.agg #[.int .i64 n2, .slice A0_1 l0_1.length c0_1], .int .i64 p, .int .i64 q] (by rfl) rfl rfl vL ?_
             with_reducible refine (C2.out _ ?s1).mono ?_
             (case s1 => exact Kd.C_below HR1.out HX.out.below)
             rintro e w3 ⟨rfl, hb⟩
             refine ⟨_, rfl, ?_⟩
             have n_ := Aside0.mk (HX.out.next hb)
             clear HX hb
             have HX := n_
             clear n_
             refine hK.out _ _ HX.out.two (fun hHeld => ?_)
             clear hK K
             refine norm_ (a' := ?_) ?_ ?_
             rotate_left
             ·
              show Act.put _ (some 78) _ = _; simp only [Act.put, List.setIfInBounds_toArray, List.set_cons_zero, List.set_cons_succ, i64_w, i32_w]; rfl
             refine pV_ 27 79 FA28 HT_ ?_
             refine pV_ 28 80 FA29 HT_ ?_
             refine done_ (done_of HT_.out (by kernel_rfl)) ?_
             try (go_wp2_with fail)
             go_meet
             exact ⟨(x != y), rfl, (by have h := HB.out; first | exact h | simpa using h), HX.out⟩
            ·
             have f5 : (x != 0) = true := by simpa using c5
             have HB : Aside0 (true = false ↔ (x = 4611686018427387904 ∨ (-1099511627776 ≤ x ∧ x ≤ 1099511627776)) ∧ (i = j → x = 0) ∧ x = y) := ⟨by constructor; (intro h; cases h); intro h; exfalso; omega⟩
             clear c1 c4 c5
             go_quiet (fail)
             go_wp2_with fail
             go_meet
             exact ⟨true, rfl, (by have h := HB.out; first | exact h | simpa using h), (by repeat (first | exact HX.out | (with_reducible apply Box1.drewN) | (with_reducible apply Box1.drew) | (with_reducible apply Box1.alloc)))⟩
           ·
            have f4 : (i == j) = false := by simpa using c4
            have HB : Aside0 ((x != y) = false ↔ (x = 4611686018427387904 ∨ (-1099511627776 ≤ x ∧ x ≤ 1099511627776)) ∧ (i = j → x = 0) ∧ x = y) := ⟨by simp only [bne_eq_false_iff_eq]; constructor <;> intro h <;> omega⟩
            clear c1 c4
            have n_ := Aside0.mk HX.out.drew
            clear HX hx0 hx1
            have HX := n_
            clear n_
            refine start_ (n := 29) (S := fun w' => w'.cell? ⟨w.heap.size + 1, 0, none⟩ = some (.int .i64 n2) ∧ w'.cell? ⟨w.heap.size + 1, 1, none⟩ = some (.slice A0_1 l0_1.length c0_1)) (ds := []) FA0 (by kernel_rfl) rfl rfl HX.out.two (fun hHeld => ?_); refine with_tabW oct_Fit.tab14 oct_Fit.bits14 (fun HT_ HW_ => ?_)
            generalize w1.drew = w2 at HX hHeld ⊢
            refine pV_ 0 52 FA1 HT_ ?_
            refine pV_ 1 53 FA2 HT_ ?_
            refine pV_ 2 54 FA3 HT_ ?_
            refine pU_ 3 55 FA4 HT_ ?_
            refine pU_ 4 56 FA5 HT_ ?_
            refine pU_ 5 57 FA6 HT_ ?_
            refine pU_ 6 58 FA7 HT_ ?_
            refine pU_ 7 59 FA8 HT_ ?_
            refine pU_ 8 60 FA9 HT_ ?_
            refine pV_ 9 61 FA10 HT_ ?_
            refine pV_ 10 62 FA11 HT_ ?_
            refine pV_ 11 63 FA12 HT_ ?_
            refine pV_ 12 64 FA13 HT_ ?_
            refine pV_ 13 65 FA14 HT_ ?_
            refine pV_ 14 66 FA15 HT_ ?_
            refine pU_ 15 67 FA16 HT_ ?_
            refine pU_ 16 68 FA17 HT_ ?_
            refine pV_ 17 69 FA18 HT_ ?_
            refine pV_ 18 70 FA19 HT_ ?_
            refine pV_ 19 71 FA20 HT_ ?_
            refine pV_ 20 72 FA21 HT_ ?_
            refine pV_ 22 74 FA22 HT_ ?_
            refine pV_ 24 76 FA23 HT_ ?_
            refine tV_ 21 73 FA24 HT_ HW_ hHeld ?_
            refine one_ (i := 23) (N := some 75) FA25 rfl rfl (one_of HT_.out (by kernel_rfl)) (by decide) (fun K hK => ?_)
            refine goes_ Try.func52 (by kernel_rfl) rfl #[.int .i64 j] (by rfl) rfl rfl vL ?_
            with_reducible refine (B1.out _).mono ?_
            rintro e w' ⟨rfl, ⟨nd, rfl⟩⟩
            refine ⟨_, rfl, ?_⟩
            have n_ := Aside0.mk (HX.out.drewN nd)
            clear HX
            have HX := n_
            clear n_
            refine hK.out _ _ HX.out.two (fun hHeld => ?_)
            clear hK K
            refine norm_ (a' := ?_) ?_ ?_
            rotate_left
            ·
             show Act.put _ (some 75) _ = _; simp only [Act.put, List.setIfInBounds_toArray, List.set_cons_zero, List.set_cons_succ, i64_w, i32_w]; rfl
            refine one_ (i := 25) (N := some 77) FA26 rfl rfl (one_of HT_.out (by kernel_rfl)) (by decide) (fun K hK => ?_)
            refine goes_ Try.func52 (by kernel_rfl) rfl #[.int .i64 i] (by rfl) rfl rfl vL ?_
            with_reducible refine (B2.out _).mono ?_
            rintro e w' ⟨rfl, ⟨nd, rfl⟩⟩
            refine ⟨_, rfl, ?_⟩
            have n_ := Aside0.mk (HX.out.drewN nd)
            clear HX
            have HX := n_
            clear n_
            refine hK.out _ _ HX.out.two (fun hHeld => ?_)
            clear hK K
            refine norm_ (a' := ?_) ?_ ?_
            rotate_left
            ·
             show Act.put _ (some 77) _ = _; simp only [Act.put, List.setIfInBounds_toArray, List.set_cons_zero, List.set_cons_succ, i64_w, i32_w]; rfl
            refine one_ (i := 26) (N := some 78) FA27 rfl rfl (one_of HT_.out (by kernel_rfl)) (by decide) (fun K hK => ?_)
            refine goes_ Try.func51 (by kernel_rfl) rfl #[.agg #[.int .i64 n2, .slice A0_1 l0_1.length c0_1], .int .i64 p, .int .i64 q] (by rfl) rfl rfl vL ?_
            with_reducible refine (C2.out _ ?s1).mono ?_
            (case s1 => exact Kd.C_below HR1.out HX.out.below)
            rintro e w3 ⟨rfl, hb⟩
            refine ⟨_, rfl, ?_⟩
            have n_ := Aside0.mk (HX.out.next hb)
            clear HX hb
            have HX := n_
            clear n_
            refine hK.out _ _ HX.out.two (fun hHeld => ?_)
            clear hK K
            refine norm_ (a' := ?_) ?_ ?_
            rotate_left
            ·
             show Act.put _ (some 78) _ = _; simp only [Act.put, List.setIfInBounds_toArray, List.set_cons_zero, List.set_cons_succ, i64_w, i32_w]; rfl
            refine pV_ 27 79 FA28 HT_ ?_
            refine pV_ 28 80 FA29 HT_ ?_
            refine done_ (done_of HT_.out (by kernel_rfl)) ?_
            try (go_wp2_with fail)
            go_meet
            exact ⟨(x != y), rfl, (by have h := HB.out; first | exact h | simpa using h), HX.out⟩
          ·
           have f1 : (x != 4611686018427387904) = true := by simpa using c1
           by_cases c2 : x < -1099511627776
           ·
            have f2 : decide (x < -1099511627776) = true := decide_eq_true c2
            have HB : Aside0 (true = false ↔ (x = 4611686018427387904 ∨ (-1099511627776 ≤ x ∧ x ≤ 1099511627776)) ∧ (i = j → x = 0) ∧ x = y) := ⟨by constructor; (intro h; cases h); intro h; exfalso; omega⟩
            clear c1 c2
            go_quiet (fail)
            go_wp2_with fail
            go_meet
            exact ⟨true, rfl, (by have h := HB.out; first | exact h | simpa using h), (by repeat (first | exact HX.out | (with_reducible apply Box1.drewN) | (with_reducible apply Box1.drew) | (with_reducible apply Box1.alloc)))⟩
           ·
            have f2 : decide (x < -1099511627776) = false := decide_eq_false c2
            by_cases c3 : 1099511627776 < x
            ·
             have f3 : decide (1099511627776 < x) = true := decide_eq_true c3
             have HB : Aside0 (true = false ↔ (x = 4611686018427387904 ∨ (-1099511627776 ≤ x ∧ x ≤ 1099511627776)) ∧ (i = j → x = 0) ∧ x = y) := ⟨by constructor; (intro h; cases h); intro h; exfalso; omega⟩
             clear c1 c2 c3
             go_quiet (fail)
             go_wp2_with fail
             go_meet
             exact ⟨true, rfl, (by have h := HB.out; first | exact h | simpa using h), (by repeat (first | exact HX.out | (with_reducible apply Box1.drewN) | (with_reducible apply Box1.drew) | (with_reducible apply Box1.alloc)))⟩
            ·
             have f3 : decide (1099511627776 < x) = false := decide_eq_false c3
             by_cases c4 : i = j
             ·
              have f4 : (i == j) = true := by simpa using c4
              by_cases c5 : x = 0
              ·
               have f5 : (x != 0) = false := by rw [c5]; rfl
               have HB : Aside0 ((x != y) = false ↔ (x = 4611686018427387904 ∨ (-1099511627776 ≤ x ∧ x ≤ 1099511627776)) ∧ (i = j → x = 0) ∧ x = y) := ⟨by simp only [bne_eq_false_iff_eq]; constructor <;> intro h <;> omega⟩
               clear c1 c2 c3 c4 c5
               have n_ := Aside0.mk HX.out.drew
               clear HX hx0 hx1
               have HX := n_
               clear n_
               refine start_ (n := 29) (S := fun w' => w'.cell? ⟨w.heap.size + 1, 0, none⟩ = some (.int .i64 n2) ∧ w'.cell? ⟨w.heap.size + 1, 1, none⟩ = some (.slice A0_1 l0_1.length c0_1)) (ds := []) FA0 (by kernel_rfl) rfl rfl HX.out.two (fun hHeld => ?_); refine with_tabW oct_Fit.tab14 oct_Fit.bits14 (fun HT_ HW_ => ?_)
               generalize w1.drew = w2 at HX hHeld ⊢
               refine pV_ 0 52 FA1 HT_ ?_
               refine pV_ 1 53 FA2 HT_ ?_
               refine pV_ 2 54 FA3 HT_ ?_
               refine pV_ 3 55 FA4 HT_ ?_
               refine pV_ 4 56 FA5 HT_ ?_
               refine pV_ 5 57 FA6 HT_ ?_
               refine pV_ 6 58 FA7 HT_ ?_
               refine pV_ 7 59 FA8 HT_ ?_
               refine pV_ 8 60 FA9 HT_ ?_
               refine pV_ 9 61 FA10 HT_ ?_
               refine pV_ 10 62 FA11 HT_ ?_
               refine pV_ 11 63 FA12 HT_ ?_
               refine pV_ 12 64 FA13 HT_ ?_
               refine pV_ 13 65 FA14 HT_ ?_
               refine pV_ 14 66 FA15 HT_ ?_
               refine pV_ 15 67 FA16 HT_ ?_
               refine pV_ 16 68 FA17 HT_ ?_
               refine pV_ 17 69 FA18 HT_ ?_
               refine pV_ 18 70 FA19 HT_ ?_
               refine pV_ 19 71 FA20 HT_ ?_
               refine pV_ 20 72 FA21 HT_ ?_
               refine pV_ 22 74 FA22 HT_ ?_
               refine pV_ 24 76 FA23 HT_ ?_
               refine tV_ 21 73 FA24 HT_ HW_ hHeld ?_
               refine one_ (i := 23) (N := some 75) FA25 rfl rfl (one_of HT_.out (by kernel_rfl)) (by decide) (fun K hK => ?_)
               refine goes_ Try.func52 (by kernel_rfl) rfl #[.int .i64 j] (by rfl) rfl rfl vL ?_
               with_reducible refine (B1.out _).mono ?_
               rintro e w' ⟨rfl, ⟨nd, rfl⟩⟩
               refine ⟨_, rfl, ?_⟩
               have n_ := Aside0.mk (HX.out.drewN nd)
               clear HX
               have HX := n_
               clear n_
               refine hK.out _ _ HX.out.two (fun hHeld => ?_)
               clear hK K
               refine norm_ (a' := ?_) ?_ ?_
               rotate_left
               ·
                show Act.put _ (some 75) _ = _; simp only [Act.put, List.setIfInBounds_toArray, List.set_cons_zero, List.set_cons_succ, i64_w, i32_w]; rfl
               refine one_ (i := 25) (N := some 77) FA26 rfl rfl (one_of HT_.out (by kernel_rfl)) (by decide) (fun K hK => ?_)
               refine goes_ Try.func52 (by kernel_rfl) rfl #[.int .i64 i] (by rfl) rfl rfl vL ?_
               with_reducible refine (B2.out _).mono ?_
               rintro e w' ⟨rfl, ⟨nd, rfl⟩⟩
               refine ⟨_, rfl, ?_⟩
               have n_ := Aside0.mk (HX.out.drewN nd)
               clear HX
               have HX := n_
               clear n_
               refine hK.out _ _ HX.out.two (fun hHeld => ?_)
               clear hK K
               refine norm_ (a' := ?_) ?_ ?_
               rotate_left
               ·
                show Act.put _ (some 77) _ = _; simp only [Act.put, List.setIfInBounds_toArray, List.set_cons_zero, List.set_cons_succ, i64_w, i32_w]; rfl
               refine one_ (i := 26) (N := some 78) FA27 rfl rfl (one_of HT_.out (by kernel_rfl)) (by decide) (fun K hK => ?_)
               refine goes_ Try.func51 (by kernel_rfl) rfl #[.agg #[.int .i64 n2, .slice A0_1 l0_1.length c0_1], .int .i64 p, .int .i64 q] (by rfl) rfl rfl vL ?_
               with_reducible refine (C2.out _ ?s1).mono ?_
               (case s1 => exact Kd.C_below HR1.out HX.out.below)
               rintro e w3 ⟨rfl, hb⟩
               refine ⟨_, rfl, ?_⟩
               have n_ := Aside0.mk (HX.out.next hb)
               clear HX hb
               have HX := n_
               clear n_
               refine hK.out _ _ HX.out.two (fun hHeld => ?_)
               clear hK K
               refine norm_ (a' := ?_) ?_ ?_
               rotate_left
               ·
                show Act.put _ (some 78) _ = _; simp only [Act.put, List.setIfInBounds_toArray, List.set_cons_zero, List.set_cons_succ, i64_w, i32_w]; rfl
               refine pV_ 27 79 FA28 HT_ ?_
               refine pV_ 28 80 FA29 HT_ ?_
               refine done_ (done_of HT_.out (by kernel_rfl)) ?_
               try (go_wp2_with fail)
               go_meet
               exact ⟨(x != y), rfl, (by have h := HB.out; first | exact h | simpa using h), HX.out⟩
              ·
               have f5 : (x != 0) = true := by simpa using c5
               have HB : Aside0 (true = false ↔ (x = 4611686018427387904 ∨ (-1099511627776 ≤ x ∧ x ≤ 1099511627776)) ∧ (i = j → x = 0) ∧ x = y) := ⟨by constructor; (intro h; cases h); intro h; exfalso; omega⟩
               clear c1 c2 c3 c4 c5
               go_quiet (fail)
               go_wp2_with fail
               go_meet
               exact ⟨true, rfl, (by have h := HB.out; first | exact h | simpa using h), (by repeat (first | exact HX.out | (with_reducible apply Box1.drewN) | (with_reducible apply Box1.drew) | (with_reducible apply Box1.alloc)))⟩
             ·
              have f4 : (i == j) = false := by simpa using c4
              have HB : Aside0 ((x != y) = false ↔ (x = 4611686018427387904 ∨ (-1099511627776 ≤ x ∧ x ≤ 1099511627776)) ∧ (i = j → x = 0) ∧ x = y) := ⟨by simp only [bne_eq_false_iff_eq]; constructor <;> intro h <;> omega⟩
              clear c1 c2 c3 c4
              have n_ := Aside0.mk HX.out.drew
              clear HX hx0 hx1
              have HX := n_
              clear n_
              refine start_ (n := 29) (S := fun w' => w'.cell? ⟨w.heap.size + 1, 0, none⟩ = some (.int .i64 n2) ∧ w'.cell? ⟨w.heap.size + 1, 1, none⟩ = some (.slice A0_1 l0_1.length c0_1)) (ds := []) FA0 (by kernel_rfl) rfl rfl HX.out.two (fun hHeld => ?_); refine with_tabW oct_Fit.tab14 oct_Fit.bits14 (fun HT_ HW_ => ?_)
              generalize w1.drew = w2 at HX hHeld ⊢
              refine pV_ 0 52 FA1 HT_ ?_
              refine pV_ 1 53 FA2 HT_ ?_
              refine pV_ 2 54 FA3 HT_ ?_
              refine pV_ 3 55 FA4 HT_ ?_
              refine pV_ 4 56 FA5 HT_ ?_
              refine pV_ 5 57 FA6 HT_ ?_
              refine pV_ 6 58 FA7 HT_ ?_
              refine pV_ 7 59 FA8 HT_ ?_
              refine pV_ 8 60 FA9 HT_ ?_
              refine pV_ 9 61 FA10 HT_ ?_
              refine pV_ 10 62 FA11 HT_ ?_
              refine pV_ 11 63 FA12 HT_ ?_
              refine pV_ 12 64 FA13 HT_ ?_
              refine pV_ 13 65 FA14 HT_ ?_
              refine pV_ 14 66 FA15 HT_ ?_
              refine pU_ 15 67 FA16 HT_ ?_
              refine pU_ 16 68 FA17 HT_ ?_
              refine pV_ 17 69 FA18 HT_ ?_
              refine pV_ 18 70 FA19 HT_ ?_
              refine pV_ 19 71 FA20 HT_ ?_
              refine pV_ 20 72 FA21 HT_ ?_
              refine pV_ 22 74 FA22 HT_ ?_
              refine pV_ 24 76 FA23 HT_ ?_
              refine tV_ 21 73 FA24 HT_ HW_ hHeld ?_
              refine one_ (i := 23) (N := some 75) FA25 rfl rfl (one_of HT_.out (by kernel_rfl)) (by decide) (fun K hK => ?_)
              refine goes_ Try.func52 (by kernel_rfl) rfl #[.int .i64 j] (by rfl) rfl rfl vL ?_
              with_reducible refine (B1.out _).mono ?_
              rintro e w' ⟨rfl, ⟨nd, rfl⟩⟩
              refine ⟨_, rfl, ?_⟩
              have n_ := Aside0.mk (HX.out.drewN nd)
              clear HX
              have HX := n_
              clear n_
              refine hK.out _ _ HX.out.two (fun hHeld => ?_)
              clear hK K
              refine norm_ (a' := ?_) ?_ ?_
              rotate_left
              ·
               show Act.put _ (some 75) _ = _; simp only [Act.put, List.setIfInBounds_toArray, List.set_cons_zero, List.set_cons_succ, i64_w, i32_w]; rfl
              refine one_ (i := 25) (N := some 77) FA26 rfl rfl (one_of HT_.out (by kernel_rfl)) (by decide) (fun K hK => ?_)
              refine goes_ Try.func52 (by kernel_rfl) rfl #[.int .i64 i] (by rfl) rfl rfl vL ?_
              with_reducible refine (B2.out _).mono ?_
              rintro e w' ⟨rfl, ⟨nd, rfl⟩⟩
              refine ⟨_, rfl, ?_⟩
              have n_ := Aside0.mk (HX.out.drewN nd)
              clear HX
              have HX := n_
              clear n_
              refine hK.out _ _ HX.out.two (fun hHeld => ?_)
              clear hK K
              refine norm_ (a' := ?_) ?_ ?_
              rotate_left
              ·
               show Act.put _ (some 77) _ = _; simp only [Act.put, List.setIfInBounds_toArray, List.set_cons_zero, List.set_cons_succ, i64_w, i32_w]; rfl
              refine one_ (i := 26) (N := some 78) FA27 rfl rfl (one_of HT_.out (by kernel_rfl)) (by decide) (fun K hK => ?_)
              refine goes_ Try.func51 (by kernel_rfl) rfl #[.agg #[.int .i64 n2, .slice A0_1 l0_1.length c0_1], .int .i64 p, .int .i64 q] (by rfl) rfl rfl vL ?_
              with_reducible refine (C2.out _ ?s1).mono ?_
              (case s1 => exact Kd.C_below HR1.out HX.out.below)
              rintro e w3 ⟨rfl, hb⟩
              refine ⟨_, rfl, ?_⟩
              have n_ := Aside0.mk (HX.out.next hb)
              clear HX hb
              have HX := n_
              clear n_
              refine hK.out _ _ HX.out.two (fun hHeld => ?_)
              clear hK K
              refine norm_ (a' := ?_) ?_ ?_
              rotate_left
              ·
               show Act.put _ (some 78) _ = _; simp only [Act.put, List.setIfInBounds_toArray, List.set_cons_zero, List.set_cons_succ, i64_w, i32_w]; rfl
              refine pV_ 27 79 FA28 HT_ ?_
              refine pV_ 28 80 FA29 HT_ ?_
              refine done_ (done_of HT_.out (by kernel_rfl)) ?_
              try (go_wp2_with fail)
              go_meet
              exact ⟨(x != y), rfl, (by have h := HB.out; first | exact h | simpa using h), HX.out⟩
         case rest =>
          obtain ⟨b, rfl, hb, hX⟩ := hcut
          clear HX hx0 hx1 C1 C2 B1 B2
          have HX := Aside0.mk hX
          have HB := Aside0.mk (hb.trans HXY.out.symm)
          clear hX hb HXY
          cases b with
          | true =>
           go_wp2
           go_ret
           refine ⟨?_, HX.out.below⟩
           have h1 := HI.out; have h2 := HL.out; have h3 := HJ.out; have h4 := HK.out
           rw [← HV.out, ofitB_false.2 (fun h => by have := (h.2.2 rfl).2 i j h1.1 (by rw [HN.out]; exact h2) h3.1 (by rw [HN.out]; exact h4); rw [HN.out] at this; exact absurd (HB.out.2 this) (by simp))]
           rfl
          | false =>
           go_wp2
           go_roundg (n2.toNat - (j.toNat + 1))
           case measure => have h1 := HJ.out; have h2 := HK.out; omega
           case rel =>
            have h1 := HJ.out; have h2 := HK.out; have h3 := HT.out.1; have h4 := HN.out
            have hw : wrap64 (j + 1) = j + 1 := by unfold wrap64; omega
            refine ⟨wrap64 (j + 1), rfl, ⟨by omega, by omega, by omega⟩, ⟨HX.out⟩, ⟨fun b b0 b1 => ?_⟩⟩
            by_cases e : b = j
            ·
             subst e; exact HB.out.1 (by first | rfl | trivial)
            ·
             exact HE.out b b0 (by omega)
        ·
         have f3 : decide (j < n2) = false := decide_eq_false hlt
         have HK := Aside0.mk hlt
         clear hlt
         go_wp2
         go_roundg (n2.toNat - (i.toNat + 1))
         case measure => have h1 := HI.out; have h2 := HL.out; omega
         case rel =>
          have h1 := HI.out; have h2 := HL.out; have h3 := HT.out.1; have h4 := HN.out; have h5 := HK.out; have h6 := HJ.out
          have hw : wrap64 (i + 1) = i + 1 := by unfold wrap64; omega
          refine ⟨wrap64 (i + 1), rfl, ⟨by omega, by omega, by omega⟩, ⟨HX.out⟩, ⟨fun a b a0 a1 b0 b1 => ?_⟩⟩
          by_cases e : a = i
          ·
           subst e; exact HE.out b b0 (by omega)
          ·
           exact HA.out a b a0 (by omega) b0 b1
      ·
       have f2 : decide (i < n2) = false := decide_eq_false hlt
       have HL := Aside0.mk hlt
       clear hlt
       go_wp2
       go_ret
       have h1 := HI.out; have h2 := HL.out
       refine ⟨?_, HX.out.below⟩
       rw [← HV.out, ofitB_true.2 ⟨HT.out, fun h => (by cases h), fun _ => ⟨by rw [HN.out, HNN.out]; exact HZ.out, fun a b a0 a1 b0 b1 => by rw [HN.out] at a1 b1 ⊢; exact HA.out a b a0 (by omega) b0 b1⟩⟩]
       rfl
    ·
     have f1 : ((l0_1.length : Int) != nn) = true := by simpa using hz
     have HZ := Aside0.mk hz
     have HN := Aside0.mk hn2
     have HNN := Aside0.mk hnn
     clear hz hn2 hnn hnn2 hl8
     go_enter Try.func18, Try.ntmps18
     go_wp2_with (go_at_call 46; (with_reducible refine (HM.out _ ?side1).mono ?_); (case side1 => repeat (first | exact HR0.out | (with_reducible refine Kd.C_alloc ?_ _) | (with_reducible refine Kd.C_drewN ?_ _) | (with_reducible refine Kd.C_drew ?_))); rintro e w1 ⟨rfl, ⟨nd, rfl⟩⟩)
     go_ret
     refine ⟨?_, by repeat (first | exact Below.refl _ _ | (with_reducible apply below_alloc) | (with_reducible apply pw_below_drewN) | (with_reducible apply below_drew))⟩
     rw [← HV.out, ofitB_false.2 (fun h => HZ.out (by rw [(h.2.2 rfl).1, HN.out, HNN.out]))]
     rfl
 ·
  rw [if_neg hlen] at h
  cases h
end Go.Proofs.Ytomgebmimgaojaa.QO
end
section
/- Written by a program of this session out of the translation. -/
namespace Go.Proofs.Ytomgebmimgaojaa.QO
open Go.RowKit Go.Proofs.YtomgebmimgaojaaW.PrintWords Go.Proofs.YtomgebmimgaojaaW.PrintLast
set_option linter.unusedVariables false
set_option linter.unusedSimpArgs false
/-! ### gimbalref11_VarsFit: function 49 -/
noncomputable def gimbalref11_VarsFit.f (l0 : List Int) : Option Bool := some (varsB l0)
set_option maxHeartbeats 8000000 in
set_option maxRecDepth 100000 in
theorem gimbalref11_VarsFit.calls (A0 : Option Addr) (c0 : Nat) (l0 : List Int) (r : Bool) (w : World) (hr0 : Kd.C (Kd.int .i64) w A0 l0.length l0) (hc0 : l0.length ≤ c0) (h : gimbalref11_VarsFit.f l0 = some r) :
 Calls Try.prog 49 #[.slice A0 l0.length c0] w fun e w' => e = .returned (.bool r) ∧ Drawn0 w w' := by
 have HR0 := Aside0.mk hr0
 have HV := Aside0.mk (Option.some.inj h)
 clear hr0 hc0 h
 by_cases c1 : (8 : Int) < (l0.length : Int)
 ·
  have f1 : decide ((8 : Int) < (l0.length : Int)) = true := decide_eq_true c1
  have f2 : decide (8 < l0.length) = true := decide_eq_true (by omega)
  have HC := Aside0.mk c1
  clear c1
  go_enter Try.func49, Try.ntmps49
  go_wp2
  go_ret
  refine ⟨?_, Drawn0.refl _⟩
  rw [← HV.out, varsB_false.2 (fun h => by have := h.1; have := HC.out; omega)]
  rfl
 ·
  have f1 : decide ((8 : Int) < (l0.length : Int)) = false := decide_eq_false c1
  have f2 : decide (8 < l0.length) = false := decide_eq_false (by omega)
  have HC := Aside0.mk c1
  clear c1
  go_enter Try.func49, Try.ntmps49
  go_wp2
  go_loopg [3, 4, 10] l0.length (fun gg _ _ s10 wr => ∃ i : Int, s10 = .int .i64 i ∧ Aside0 (0 ≤ i ∧ i ≤ l0.length ∧ l0.length - i.toNat ≤ gg) ∧ Aside0 (∀ j : Int, 0 ≤ j → j < i → 0 ≤ rd l0 j ∧ (0 < j → rd l0 (j - 1) < rd l0 j)) ∧ Drawn0 w wr)
  case atStart => exact ⟨0, rfl, ⟨by omega, by omega, by omega⟩, ⟨fun j h0 h1 => absurd h1 (by omega)⟩, Drawn0.refl _⟩
  case round =>
   obtain ⟨i, rfl, HI, HA, ⟨m1, rfl⟩⟩ := hrel
   by_cases hlt : i < (l0.length : Int)
   ·
    have p0 : 0 ≤ i := HI.out.1
    have hC : Kd.C (Kd.int .i64) (w.drewN m1) A0 l0.length l0 := Kd.C_drewN HR0.out _
    obtain ⟨ad, e0, hx⟩ := Kd.at_int hC i p0 hlt
    cases e0
    clear hC
    have HL := Aside0.mk hlt
    have c6b0 : decide (i < (l0.length : Int)) = true := decide_eq_true hlt
    by_cases c3 : rd l0 i < 0
    ·
     have f3 : decide (rd l0 i < 0) = true := decide_eq_true c3
     have H3 := Aside0.mk c3
     clear c3
     replace p0 := eq_true p0
     replace hlt := eq_true hlt
     go_wp2
     go_ret
     refine ⟨?_, by repeat (first | exact Drawn0.refl _ | apply Drawn0.step)⟩
     have h1 := HI.out; have h2 := HL.out; have h3 := H3.out
     rw [← HV.out, varsB_false.2 (fun h => by have := (h.2 i h1.1 h2).1; omega)]
     rfl
    ·
     have f3 : decide (rd l0 i < 0) = false := decide_eq_false c3
     have H3 := Aside0.mk c3
     clear c3
     by_cases c4 : 0 < i
     ·
      have f4 : decide (0 < i) = true := decide_eq_true c4
      have hm1 : wrap64 (i - 1) = i - 1 := by have := HC.out; unfold wrap64; omega
      obtain ⟨j, hj⟩ : ∃ j : Int, i - 1 = j := ⟨_, rfl⟩
      have q0 : 0 ≤ j := by omega
      have q1 : j < (l0.length : Int) := by omega
      obtain ⟨ad', e0, hy⟩ := Kd.at_int (Kd.C_drewN HR0.out m1) j q0 q1
      cases e0
      rw [hj] at hm1
      have hm2 : IntKind.i64.wrap (i - 1) = j := by rw [IntKind.wrap_i64, ← hj]; unfold wrap64 at hm1; omega
      have HJ := Aside0.mk hj
      have H4 := Aside0.mk c4
      by_cases c5 : rd l0 i ≤ rd l0 j
      ·
       have f5 : decide (rd l0 i ≤ rd l0 j) = true := decide_eq_true c5
       have H5 := Aside0.mk c5
       clear c5 c4
       replace p0 := eq_true p0
       replace hlt := eq_true hlt
       replace q0 := eq_true q0
       replace q1 := eq_true q1
       go_wp2
       go_ret
       refine ⟨?_, by repeat (first | exact Drawn0.refl _ | apply Drawn0.step)⟩
       have h1 := HI.out; have h2 := HL.out; have h5 := H5.out; have h4 := H4.out
       rw [← HV.out, varsB_false.2 (fun h => by have := (h.2 i h1.1 h2).2 h4; rw [HJ.out] at this; omega)]
       rfl
      ·
       have f5 : decide (rd l0 i ≤ rd l0 j) = false := decide_eq_false c5
       have H5 := Aside0.mk c5
       clear c5 c4
       replace p0 := eq_true p0
       replace hlt := eq_true hlt
       replace q0 := eq_true q0
       replace q1 := eq_true q1
       go_wp2
       go_roundg (l0.length - (i.toNat + 1))
       case measure => have h1 := HI.out; have h2 := HL.out; omega
       case rel =>
        have h1 := HI.out; have h2 := HL.out; have h3 := H3.out; have h4 := HC.out; have h5 := H5.out; have hj := HJ.out
        have hw : wrap64 (i + 1) = i + 1 := by unfold wrap64; omega
        refine ⟨wrap64 (i + 1), rfl, ⟨by omega, by omega, by omega⟩, ⟨fun k k0 k1 => ?_⟩, by repeat (first | exact Drawn0.refl _ | apply Drawn0.step)⟩
        by_cases e : k = i
        ·
         subst e; exact ⟨by omega, fun _ => by rw [hj]; omega⟩
        ·
         exact HA.out k k0 (by omega)
     ·
      have f4 : decide (0 < i) = false := decide_eq_false c4
      have H4 := Aside0.mk c4
      clear c4
      replace p0 := eq_true p0
      replace hlt := eq_true hlt
      go_wp2
      go_roundg (l0.length - (i.toNat + 1))
      case measure => have h1 := HI.out; have h2 := HL.out; omega
      case rel =>
       have h1 := HI.out; have h2 := HL.out; have h3 := H3.out; have h4 := HC.out; have h5 := H4.out
       have hw : wrap64 (i + 1) = i + 1 := by unfold wrap64; omega
       refine ⟨wrap64 (i + 1), rfl, ⟨by omega, by omega, by omega⟩, ⟨fun k k0 k1 => ?_⟩, by repeat (first | exact Drawn0.refl _ | apply Drawn0.step)⟩
       by_cases e : k = i
       ·
        subst e; exact ⟨by omega, fun h => absurd h (by omega)⟩
       ·
        exact HA.out k k0 (by omega)
   ·
    have c6b0 : decide (i < (l0.length : Int)) = false := decide_eq_false hlt
    have HL := Aside0.mk hlt
    clear hlt
    go_wp2
    go_ret
    have h1 := HI.out; have h2 := HL.out; have h4 := HC.out
    refine ⟨?_, by repeat (first | exact Drawn0.refl _ | apply Drawn0.step)⟩
    rw [← HV.out, varsB_true.2 ⟨by omega, fun k k0 k1 => HA.out k k0 (by omega)⟩]
    rfl
end Go.Proofs.Ytomgebmimgaojaa.QO
end
section
/- Written by a program of this session out of the translation. -/
noncomputable section
namespace Go.Proofs.Ytomgebmimgaojaa.QO
open Go.RowKit Go.Proofs.YtomgebmimgaojaaW.PrintWords Go.Proofs.YtomgebmimgaojaaW.PrintLast
set_option linter.unusedVariables false
set_option linter.unusedSimpArgs false
/-! ### gimbalref11_bar: function 53 -/
def gimbalref11_bar.f (a0 : Int) : Option Int := if 0 ≤ a0 ∧ a0 < 16 then some (nbar a0) else none
set_option maxHeartbeats 8000000 in
set_option maxRecDepth 100000 in
theorem gimbalref11_bar.calls (a0 : Int) (r : Int) (w : World) (h : gimbalref11_bar.f a0 = some r) :
 Calls Try.prog 53 #[.int .i64 a0] w fun e w' => e = .returned (.int .i64 r) ∧ Drawn0 w w' := by
 have hr : r = Go.bits .xor .i64 a0 1 := by
  unfold gimbalref11_bar.f at h; split at h
  ·
   rename_i hc; rw [xor_one a0 hc.1 hc.2]; exact (Option.some.inj h).symm
  ·
   cases h
 subst hr
 clear h
 go_enter Try.func53, Try.ntmps53
 go_wp2
 go_ret
 exact ⟨rfl, Drawn0.refl _⟩
set_option maxHeartbeats 8000000 in
set_option maxRecDepth 100000 in
theorem gimbalref11_bar_still (a0 : Int) (r : Int) (w : World) (h : gimbalref11_bar.f a0 = some r) :
 Calls Try.prog 53 #[.int .i64 a0] w fun e w' => e = .returned (.int .i64 r) ∧ w' = w := by
 have hr : r = Go.bits .xor .i64 a0 1 := by
  unfold gimbalref11_bar.f at h; split at h
  ·
   rename_i hc; rw [xor_one a0 hc.1 hc.2]; exact (Option.some.inj h).symm
  ·
   cases h
 subst hr
 clear h
 go_enter Try.func53, Try.ntmps53
 go_wp2
 go_ret
 exact ⟨rfl, rfl⟩
end Go.Proofs.Ytomgebmimgaojaa.QO
end
end
section
/- Written by a program of this session out of the translation. -/
namespace Go.Proofs.Ytomgebmimgaojaa.QO
open Go.RowKit Go.Proofs.YtomgebmimgaojaaW.PrintWords Go.Proofs.YtomgebmimgaojaaW.PrintLast
set_option linter.unusedVariables false
set_option linter.unusedSimpArgs false
/-! ### gimbalref11_Fit: function 19 -/
noncomputable def gimbalref11_Fit.f (l0_0 : List Int) (l0_1 : List Int) (a0_2 : Bool) : Option Bool := if l0_0.length ≤ 17592186044416 then some (ofitB l0_0 l0_1 a0_2) else none
theorem Box1.three {w W : World} {g : Nat} {a b c : Value} {t : Nat} (h : Box1 w g #[a, b, c] t W) : W.cell? ⟨g, 0, none⟩ = some a ∧ W.cell? ⟨g, 1, none⟩ = some b ∧ W.cell? ⟨g, 2, none⟩ = some c := ⟨(blk_cell h.box 0).trans rfl, (blk_cell h.box 1).trans rfl, (blk_cell h.box 2).trans rfl⟩
set_option maxHeartbeats 8000000 in
set_option maxRecDepth 100000 in
theorem gimbalref11_Fit.calls (A0_0 : Option Addr) (c0_0 : Nat) (l0_0 : List Int) (A0_1 : Option Addr) (c0_1 : Nat) (l0_1 : List Int) (a0_2 : Bool) (r : Bool) (w : World) (hr0_0 : Kd.C (Kd.int .i64) w A0_0 l0_0.length l0_0) (hc0_0 : l0_0.length ≤ c0_0) (hr0_1 : Kd.C (Kd.int .i64) w A0_1 l0_1.length l0_1) (hc0_1 : l0_1.length ≤ c0_1) (h : gimbalref11_Fit.f l0_0 l0_1 a0_2 = some r) :
 Calls Try.prog 19 #[.agg #[.slice A0_0 l0_0.length c0_0, .slice A0_1 l0_1.length c0_1, .bool a0_2]] w fun e w' => e = .returned (.bool r) ∧ Below w.heap.size w w' := by
 have hu25 := Try.underlying25
 have HR0 := Aside0.mk hr0_0
 have HR1 := Aside0.mk hr0_1
 have HC0 := Aside0.mk hc0_0
 have HC1 := Aside0.mk hc0_1
 clear hr0_0 hr0_1 hc0_0 hc0_1
 unfold gimbalref11_Fit.f at h
 by_cases hlen : l0_0.length ≤ 17592186044416
 ·
  rw [if_pos hlen] at h
  have HV := Aside0.mk (Option.some.inj h)
  clear h
  have e1 : wrap64 (2 * (l0_0.length : Int)) = 2 * (l0_0.length : Int) := by unfold wrap64; omega
  have e2 : IntKind.i64.wrap (2 * (l0_0.length : Int)) = 2 * (l0_0.length : Int) := by rw [IntKind.wrap_i64]; omega
  cases hv : varsB l0_0 with
  | false =>
   have HM := fun W (hW : Kd.C (Kd.int .i64) W A0_0 l0_0.length l0_0) => gimbalref11_VarsFit.calls A0_0 c0_0 l0_0 false W hW HC0.out (by unfold gimbalref11_VarsFit.f; rw [hv])
   replace HM := Aside0.mk HM
   have HF := Aside0.mk (varsB_false.1 hv)
   clear hv hlen
   go_enter Try.func19, Try.ntmps19
   go_wp2_with (go_at_call 49; (with_reducible refine (HM.out _ ?side1).mono ?_); (case side1 => repeat (first | exact HR0.out | (with_reducible refine Kd.C_alloc ?_ _) | (with_reducible refine Kd.C_drewN ?_ _) | (with_reducible refine Kd.C_drew ?_))); rintro e w1 ⟨rfl, ⟨nd, rfl⟩⟩)
   go_ret
   refine ⟨?_, by repeat (first | exact Below.refl _ _ | (with_reducible apply below_alloc) | (with_reducible apply pw_below_drewN) | (with_reducible apply below_drew))⟩
   rw [← HV.out, ofitB_false.2 (fun h => HF.out h.1)]
   rfl
  | true =>
   have HM := fun W (hW : Kd.C (Kd.int .i64) W A0_0 l0_0.length l0_0) => gimbalref11_VarsFit.calls A0_0 c0_0 l0_0 true W hW HC0.out (by unfold gimbalref11_VarsFit.f; rw [hv])
   replace HM := Aside0.mk HM
   have HT := Aside0.mk (varsB_true.1 hv)
   clear hv hlen
   cases a0_2 with
   | true =>
    by_cases hz : l0_1.length = 0
    ·
     have f1 : ((l0_1.length : Int) == 0) = true := by rw [hz]; rfl
     have f2 : (l0_1.length == 0) = true := by rw [hz]; rfl
     have HZ := Aside0.mk hz
     clear hz
     go_enter Try.func19, Try.ntmps19
     go_wp2_with (go_at_call 49; (with_reducible refine (HM.out _ ?side1).mono ?_); (case side1 => repeat (first | exact HR0.out | (with_reducible refine Kd.C_alloc ?_ _) | (with_reducible refine Kd.C_drewN ?_ _) | (with_reducible refine Kd.C_drew ?_))); rintro e w1 ⟨rfl, ⟨nd, rfl⟩⟩)
     go_ret
     refine ⟨?_, by repeat (first | exact Below.refl _ _ | (with_reducible apply below_alloc) | (with_reducible apply pw_below_drewN) | (with_reducible apply below_drew))⟩
     rw [← HV.out, ofitB_true.2 ⟨HT.out, fun _ => List.eq_nil_of_length_eq_zero HZ.out, fun h => by cases h⟩]
     rfl
    ·
     have f1 : ((l0_1.length : Int) == 0) = false := by simpa using (by omega : ¬ ((l0_1.length : Int) = 0))
     have f2 : (l0_1.length == 0) = false := by simpa using hz
     have HZ := Aside0.mk hz
     clear hz
     go_enter Try.func19, Try.ntmps19
     go_wp2_with (go_at_call 49; (with_reducible refine (HM.out _ ?side1).mono ?_); (case side1 => repeat (first | exact HR0.out | (with_reducible refine Kd.C_alloc ?_ _) | (with_reducible refine Kd.C_drewN ?_ _) | (with_reducible refine Kd.C_drew ?_))); rintro e w1 ⟨rfl, ⟨nd, rfl⟩⟩)
     go_ret
     refine ⟨?_, by repeat (first | exact Below.refl _ _ | (with_reducible apply below_alloc) | (with_reducible apply pw_below_drewN) | (with_reducible apply below_drew))⟩
     rw [← HV.out, ofitB_false.2 (fun h => HZ.out (by rw [h.2.1 rfl]; rfl))]
     rfl
   | false =>
    obtain ⟨n2, hn2⟩ : ∃ n2 : Int, 2 * (l0_0.length : Int) = n2 := ⟨_, rfl⟩
    replace e1 : wrap64 (2 * (l0_0.length : Int)) = n2 := e1.trans hn2
    replace e2 : IntKind.i64.wrap (2 * (l0_0.length : Int)) = n2 := e2.trans hn2
    have hl8 := HT.out.1
    obtain ⟨nn, hnn⟩ : ∃ nn : Int, n2 * n2 = nn := ⟨_, rfl⟩
    have hnn2 : 0 ≤ nn ∧ nn ≤ 256 := by rw [← hnn]; exact mul_in (a := n2) (b := n2) (by omega) (by omega) (by omega) (by omega)
    have e3 : wrap64 (n2 * n2) = nn := by rw [hnn]; unfold wrap64; omega
    have e4 : IntKind.i64.wrap (n2 * n2) = nn := by rw [hnn, IntKind.wrap_i64]; omega
    by_cases hz : (l0_1.length : Int) = nn
    ·
     have f1 : ((l0_1.length : Int) != nn) = false := by rw [hz]; simp
     have HZ := Aside0.mk hz
     have HN := Aside0.mk hn2
     have HNN := Aside0.mk hnn
     clear hz hn2 hnn hnn2 hl8
     go_enter Try.func19, Try.ntmps19
     go_wp2_with (go_at_call 49; (with_reducible refine (HM.out _ ?side1).mono ?_); (case side1 => repeat (first | exact HR0.out | (with_reducible refine Kd.C_alloc ?_ _) | (with_reducible refine Kd.C_drewN ?_ _) | (with_reducible refine Kd.C_drew ?_))); rintro e w1 ⟨rfl, ⟨nd, rfl⟩⟩)
     go_loopg [4, 5, 6] n2.toNat (fun gg s4 _ _ wr => ∃ i : Int, s4 = .int .i64 i ∧ Aside0 (0 ≤ i ∧ i ≤ n2 ∧ n2.toNat - i.toNat ≤ gg) ∧ Aside0 (Box1 w w.heap.size #[.slice A0_0 l0_0.length c0_0, .slice A0_1 l0_1.length c0_1, .bool false] 25 wr) ∧ Aside0 (∀ a b : Int, 0 ≤ a → a < i → 0 ≤ b → b < n2 → EntryOk n2 l0_1 a b))
     case atStart => exact ⟨0, rfl, ⟨by have := HN.out; omega, by have := HN.out; omega, by omega⟩, ⟨by repeat (first | exact box1_new (Below.refl _ _) rfl | (with_reducible apply Box1.drewN) | (with_reducible apply Box1.drew))⟩, ⟨fun a b h0 h1 => absurd h1 (by omega)⟩⟩
     case round =>
      obtain ⟨i, rfl, HI, HX, HA⟩ := hrel
      by_cases hlt : i < n2
      ·
       have f2 : decide (i < n2) = true := decide_eq_true hlt
       have HL := Aside0.mk hlt
       clear hlt
       go_wp2
       obtain ⟨wo, rfl⟩ : ∃ wo : World, wo = wr := ⟨_, rfl⟩
       go_loopg [5, 6] n2.toNat (fun hh s5 _ wr => ∃ j : Int, s5 = .int .i64 j ∧ Aside0 (0 ≤ j ∧ j ≤ n2 ∧ n2.toNat - j.toNat ≤ hh) ∧ Aside0 (Box1 w w.heap.size #[.slice A0_0 l0_0.length c0_0, .slice A0_1 l0_1.length c0_1, .bool false] 25 wr) ∧ Aside0 (∀ b : Int, 0 ≤ b → b < j → EntryOk n2 l0_1 i b))
       case atStart => exact ⟨0, rfl, ⟨by have := HN.out; omega, by have := HN.out; omega, by omega⟩, ⟨HX.out⟩, ⟨fun b h0 h1 => absurd h1 (by omega)⟩⟩
       case round =>
        clear HX
        obtain ⟨j, rfl, HJ, HX, HE⟩ := hrel
        by_cases hlt : j < n2
        ·
         have f3 : decide (j < n2) = true := decide_eq_true hlt
         have HK := Aside0.mk hlt
         clear hlt
         have hi := HI.out; have hj := HJ.out; have hil := HL.out; have hjl := HK.out
         have h8 := HT.out.1
         have hm : (l0_1.length : Int) = n2 * n2 := by rw [HNN.out]; exact HZ.out
         have nj := nbar_in (i := j) (n := l0_0.length) hj.1 (by rw [HN.out]; exact hjl)
         have ni := nbar_in (i := i) (n := l0_0.length) hi.1 (by rw [HN.out]; exact hil)
         rw [HN.out] at nj ni
         have hn16 : n2 ≤ 16 := by have := HN.out; omega
         have b1 : gimbalref11_bar.f j = some (nbar j) := by unfold gimbalref11_bar.f; rw [if_pos ⟨hj.1, by have := HN.out; omega⟩]
         have b2 : gimbalref11_bar.f i = some (nbar i) := by unfold gimbalref11_bar.f; rw [if_pos ⟨hi.1, by have := HN.out; omega⟩]
         have pl1 := place_in (n := n2) hi.1 hil hj.1 hjl
         have pl2 := place_in (n := n2) nj.1 nj.2 ni.1 ni.2
         obtain ⟨p, hp⟩ : ∃ p, nbar j = p := ⟨_, rfl⟩
         obtain ⟨q, hq⟩ : ∃ q, nbar i = q := ⟨_, rfl⟩
         rw [hp] at nj pl2 b1
         rw [hq] at ni pl2 b2
         have mi1 := mul_in (a := n2) (b := i) (by omega) (by have := HN.out; omega) (by omega) (by have := HN.out; omega)
         have mi2 := mul_in (a := n2) (b := p) (by omega) (by have := HN.out; omega) (by omega) (by have := HN.out; omega)
         obtain ⟨s, hs⟩ : ∃ s, i * n2 = s := ⟨_, rfl⟩
         obtain ⟨u, hu⟩ : ∃ u, s + j = u := ⟨_, rfl⟩
         obtain ⟨v, hv⟩ : ∃ v, p * n2 = v := ⟨_, rfl⟩
         obtain ⟨z, hz⟩ : ∃ z, v + q = z := ⟨_, rfl⟩
         rw [hs] at pl1 mi1
         rw [hu] at pl1
         rw [hv] at pl2 mi2
         rw [hz] at pl2
         rw [← hm] at pl1 pl2
         obtain ⟨ad, e0, hx⟩ := Kd.at_int (Kd.C_below HR1.out HX.out.below) u pl1.1 pl1.2
         obtain ⟨ad', e9, hy⟩ := Kd.at_int (Kd.C_below HR1.out HX.out.below) z pl2.1 pl2.2
         cases e0
         cases e9
         obtain ⟨x, hxx⟩ : ∃ x, rd l0_1 u = x := ⟨_, rfl⟩
         obtain ⟨y, hyy⟩ : ∃ y, rd l0_1 z = y := ⟨_, rfl⟩
         rw [hxx] at hx
         rw [hyy] at hy
         have g1 : wrap64 (i * n2) = s := by rw [hs]; unfold wrap64; omega
         have g2 : IntKind.i64.wrap (i * n2) = s := by rw [hs, IntKind.wrap_i64]; omega
         have g3 : wrap64 (s + j) = u := by rw [hu]; unfold wrap64; omega
         have g4 : IntKind.i64.wrap (s + j) = u := by rw [hu, IntKind.wrap_i64]; omega
         have g5 : wrap64 (p * n2) = v := by rw [hv]; unfold wrap64; omega
         have g6 : IntKind.i64.wrap (p * n2) = v := by rw [hv, IntKind.wrap_i64]; omega
         have g7 : wrap64 (v + q) = z := by rw [hz]; unfold wrap64; omega
         have g8 : IntKind.i64.wrap (v + q) = z := by rw [hz, IntKind.wrap_i64]; omega
         have k1 := eq_true pl1.1
         have k2 := eq_true pl1.2
         have k3 := eq_true pl2.1
         have k4 := eq_true pl2.2
         have B1 := Aside0.mk (fun W => gimbalref11_bar_still j p W b1)
         have B2 := Aside0.mk (fun W => gimbalref11_bar_still i q W b2)
         have HXY : Aside0 (EntryOk n2 l0_1 i j ↔ (x = 4611686018427387904 ∨ (-1099511627776 ≤ x ∧ x ≤ 1099511627776)) ∧ (i = j → x = 0) ∧ x = y) := ⟨by unfold EntryOk; rw [hp, hq, hs, hu, hv, hz, hxx, hyy]⟩
         clear hi hj hil hjl h8 hn16 hm nj ni b1 b2 hp hq hs hu hv hz hxx hyy pl1 pl2 mi1 mi2
         obtain ⟨hx0, hx1, hx2⟩ := HX.out.three
         go_upto_region 15 with fail
         go_cut [80] (fun s80 wx => ∃ b : Bool, s80 = .bool b ∧ (b = false ↔ (x = 4611686018427387904 ∨ (-1099511627776 ≤ x ∧ x ≤ 1099511627776)) ∧ (i = j → x = 0) ∧ x = y) ∧ Box1 w w.heap.size #[.slice A0_0 l0_0.length c0_0, .slice (some ad) l0_1.length c0_1, .bool false] 25 wx)
         case first =>
          by_cases c1 : x = 4611686018427387904
          ·
           have f1 : (x != 4611686018427387904) = false := by rw [c1]; rfl
           by_cases c4 : i = j
           ·
            have f4 : (i == j) = true := by simpa using c4
            by_cases c5 : x = 0
            ·
             have f5 : (x != 0) = false := by rw [c5]; rfl
             by_cases c6 : x = y
             ·
              have f6 : (x != y) = false := by rw [c6]; simp
              have HB : Aside0 (false = false ↔ (x = 4611686018427387904 ∨ (-1099511627776 ≤ x ∧ x ≤ 1099511627776)) ∧ (i = j → x = 0) ∧ x = y) := ⟨by constructor; (intro _; exact ⟨by omega, by omega, by omega⟩); intro _; rfl⟩
              clear c1 c4 c5 c6
              go_quiet ((first | (go_at_call 53; exact Calls.quiet_of_same (B1.out _)) | (go_at_call 53; exact Calls.quiet_of_same (B2.out _))))
              go_wp2_with fail
              go_meet
              exact ⟨false, rfl, (by have h := HB.out; first | exact h | simpa using h), (by repeat (first | exact HX.out | (with_reducible apply Box1.drewN) | (with_reducible apply Box1.drew)))⟩
             ·
              have f6 : (x != y) = true := by simpa using c6
              have HB : Aside0 (true = false ↔ (x = 4611686018427387904 ∨ (-1099511627776 ≤ x ∧ x ≤ 1099511627776)) ∧ (i = j → x = 0) ∧ x = y) := ⟨by constructor; (intro h; cases h); intro h; exfalso; omega⟩
              clear c1 c4 c5 c6
              go_quiet ((first | (go_at_call 53; exact Calls.quiet_of_same (B1.out _)) | (go_at_call 53; exact Calls.quiet_of_same (B2.out _))))
              go_wp2_with fail
              go_meet
              exact ⟨true, rfl, (by have h := HB.out; first | exact h | simpa using h), (by repeat (first | exact HX.out | (with_reducible apply Box1.drewN) | (with_reducible apply Box1.drew)))⟩
            ·
             have f5 : (x != 0) = true := by simpa using c5
             have HB : Aside0 (true = false ↔ (x = 4611686018427387904 ∨ (-1099511627776 ≤ x ∧ x ≤ 1099511627776)) ∧ (i = j → x = 0) ∧ x = y) := ⟨by constructor; (intro h; cases h); intro h; exfalso; omega⟩
             clear c1 c4 c5
             go_quiet ((first | (go_at_call 53; exact Calls.quiet_of_same (B1.out _)) | (go_at_call 53; exact Calls.quiet_of_same (B2.out _))))
             go_wp2_with fail
             go_meet
             exact ⟨true, rfl, (by have h := HB.out; first | exact h | simpa using h), (by repeat (first | exact HX.out | (with_reducible apply Box1.drewN) | (with_reducible apply Box1.drew)))⟩
           ·
            have f4 : (i == j) = false := by simpa using c4
            by_cases c6 : x = y
            ·
             have f6 : (x != y) = false := by rw [c6]; simp
             have HB : Aside0 (false = false ↔ (x = 4611686018427387904 ∨ (-1099511627776 ≤ x ∧ x ≤ 1099511627776)) ∧ (i = j → x = 0) ∧ x = y) := ⟨by constructor; (intro _; exact ⟨by omega, by omega, by omega⟩); intro _; rfl⟩
             clear c1 c4 c6
             go_quiet ((first | (go_at_call 53; exact Calls.quiet_of_same (B1.out _)) | (go_at_call 53; exact Calls.quiet_of_same (B2.out _))))
             go_wp2_with fail
             go_meet
             exact ⟨false, rfl, (by have h := HB.out; first | exact h | simpa using h), (by repeat (first | exact HX.out | (with_reducible apply Box1.drewN) | (with_reducible apply Box1.drew)))⟩
            ·
             have f6 : (x != y) = true := by simpa using c6
             have HB : Aside0 (true = false ↔ (x = 4611686018427387904 ∨ (-1099511627776 ≤ x ∧ x ≤ 1099511627776)) ∧ (i = j → x = 0) ∧ x = y) := ⟨by constructor; (intro h; cases h); intro h; exfalso; omega⟩
             clear c1 c4 c6
             go_quiet ((first | (go_at_call 53; exact Calls.quiet_of_same (B1.out _)) | (go_at_call 53; exact Calls.quiet_of_same (B2.out _))))
             go_wp2_with fail
             go_meet
             exact ⟨true, rfl, (by have h := HB.out; first | exact h | simpa using h), (by repeat (first | exact HX.out | (with_reducible apply Box1.drewN) | (with_reducible apply Box1.drew)))⟩
          ·
           have f1 : (x != 4611686018427387904) = true := by simpa using c1
           by_cases c2 : x < -1099511627776
           ·
            have f2 : decide (x < -1099511627776) = true := decide_eq_true c2
            have HB : Aside0 (true = false ↔ (x = 4611686018427387904 ∨ (-1099511627776 ≤ x ∧ x ≤ 1099511627776)) ∧ (i = j → x = 0) ∧ x = y) := ⟨by constructor; (intro h; cases h); intro h; exfalso; omega⟩
            clear c1 c2
            go_quiet ((first | (go_at_call 53; exact Calls.quiet_of_same (B1.out _)) | (go_at_call 53; exact Calls.quiet_of_same (B2.out _))))
            go_wp2_with fail
            go_meet
            exact ⟨true, rfl, (by have h := HB.out; first | exact h | simpa using h), (by repeat (first | exact HX.out | (with_reducible apply Box1.drewN) | (with_reducible apply Box1.drew)))⟩
           ·
            have f2 : decide (x < -1099511627776) = false := decide_eq_false c2
            by_cases c3 : 1099511627776 < x
            ·
             have f3 : decide (1099511627776 < x) = true := decide_eq_true c3
             have HB : Aside0 (true = false ↔ (x = 4611686018427387904 ∨ (-1099511627776 ≤ x ∧ x ≤ 1099511627776)) ∧ (i = j → x = 0) ∧ x = y) := ⟨by constructor; (intro h; cases h); intro h; exfalso; omega⟩
             clear c1 c2 c3
             go_quiet ((first | (go_at_call 53; exact Calls.quiet_of_same (B1.out _)) | (go_at_call 53; exact Calls.quiet_of_same (B2.out _))))
             go_wp2_with fail
             go_meet
             exact ⟨true, rfl, (by have h := HB.out; first | exact h | simpa using h), (by repeat (first | exact HX.out | (with_reducible apply Box1.drewN) | (with_reducible apply Box1.drew)))⟩
            ·
             have f3 : decide (1099511627776 < x) = false := decide_eq_false c3
             by_cases c4 : i = j
             ·
              have f4 : (i == j) = true := by simpa using c4
              by_cases c5 : x = 0
              ·
               have f5 : (x != 0) = false := by rw [c5]; rfl
               by_cases c6 : x = y
               ·
                have f6 : (x != y) = false := by rw [c6]; simp
                have HB : Aside0 (false = false ↔ (x = 4611686018427387904 ∨ (-1099511627776 ≤ x ∧ x ≤ 1099511627776)) ∧ (i = j → x = 0) ∧ x = y) := ⟨by constructor; (intro _; exact ⟨by omega, by omega, by omega⟩); intro _; rfl⟩
                clear c1 c2 c3 c4 c5 c6
                go_quiet ((first | (go_at_call 53; exact Calls.quiet_of_same (B1.out _)) | (go_at_call 53; exact Calls.quiet_of_same (B2.out _))))
                go_wp2_with fail
                go_meet
                exact ⟨false, rfl, (by have h := HB.out; first | exact h | simpa using h), (by repeat (first | exact HX.out | (with_reducible apply Box1.drewN) | (with_reducible apply Box1.drew)))⟩
               ·
                have f6 : (x != y) = true := by simpa using c6
                have HB : Aside0 (true = false ↔ (x = 4611686018427387904 ∨ (-1099511627776 ≤ x ∧ x ≤ 1099511627776)) ∧ (i = j → x = 0) ∧ x = y) := ⟨by constructor; (intro h; cases h); intro h; exfalso; omega⟩
                clear c1 c2 c3 c4 c5 c6
                go_quiet ((first | (go_at_call 53; exact Calls.quiet_of_same (B1.out _)) | (go_at_call 53; exact Calls.quiet_of_same (B2.out _))))
                go_wp2_with fail
                go_meet
                exact ⟨true, rfl, (by have h := HB.out; first | exact h | simpa using h), (by repeat (first | exact HX.out | (with_reducible apply Box1.drewN) | (with_reducible apply Box1.drew)))⟩
              ·
               have f5 : (x != 0) = true := by simpa using c5
               have HB : Aside0 (true = false ↔ (x = 4611686018427387904 ∨ (-1099511627776 ≤ x ∧ x ≤ 1099511627776)) ∧ (i = j → x = 0) ∧ x = y) := ⟨by constructor; (intro h; cases h); intro h; exfalso; omega⟩
               clear c1 c2 c3 c4 c5
               go_quiet ((first | (go_at_call 53; exact Calls.quiet_of_same (B1.out _)) | (go_at_call 53; exact Calls.quiet_of_same (B2.out _))))
               go_wp2_with fail
               go_meet
               exact ⟨true, rfl, (by have h := HB.out; first | exact h | simpa using h), (by repeat (first | exact HX.out | (with_reducible apply Box1.drewN) | (with_reducible apply Box1.drew)))⟩
             ·
              have f4 : (i == j) = false := by simpa using c4
              by_cases c6 : x = y
              ·
               have f6 : (x != y) = false := by rw [c6]; simp
               have HB : Aside0 (false = false ↔ (x = 4611686018427387904 ∨ (-1099511627776 ≤ x ∧ x ≤ 1099511627776)) ∧ (i = j → x = 0) ∧ x = y) := ⟨by constructor; (intro _; exact ⟨by omega, by omega, by omega⟩); intro _; rfl⟩
               clear c1 c2 c3 c4 c6
               go_quiet ((first | (go_at_call 53; exact Calls.quiet_of_same (B1.out _)) | (go_at_call 53; exact Calls.quiet_of_same (B2.out _))))
               go_wp2_with fail
               go_meet
               exact ⟨false, rfl, (by have h := HB.out; first | exact h | simpa using h), (by repeat (first | exact HX.out | (with_reducible apply Box1.drewN) | (with_reducible apply Box1.drew)))⟩
              ·
               have f6 : (x != y) = true := by simpa using c6
               have HB : Aside0 (true = false ↔ (x = 4611686018427387904 ∨ (-1099511627776 ≤ x ∧ x ≤ 1099511627776)) ∧ (i = j → x = 0) ∧ x = y) := ⟨by constructor; (intro h; cases h); intro h; exfalso; omega⟩
               clear c1 c2 c3 c4 c6
               go_quiet ((first | (go_at_call 53; exact Calls.quiet_of_same (B1.out _)) | (go_at_call 53; exact Calls.quiet_of_same (B2.out _))))
               go_wp2_with fail
               go_meet
               exact ⟨true, rfl, (by have h := HB.out; first | exact h | simpa using h), (by repeat (first | exact HX.out | (with_reducible apply Box1.drewN) | (with_reducible apply Box1.drew)))⟩
         case rest =>
          obtain ⟨b, rfl, hb, hX⟩ := hcut
          clear HX hx0 hx1 hx2 hx hy B1 B2 g1 g2 g3 g4 g5 g6 g7 g8 k1 k2 k3 k4
          have HX := Aside0.mk hX
          have HB := Aside0.mk (hb.trans HXY.out.symm)
          clear hX hb HXY
          cases b with
          | true =>
           go_wp2
           go_ret
           refine ⟨?_, HX.out.below⟩
           have h1 := HI.out; have h2 := HL.out; have h3 := HJ.out; have h4 := HK.out
           rw [← HV.out, ofitB_false.2 (fun h => by have := (h.2.2 rfl).2 i j h1.1 (by rw [HN.out]; exact h2) h3.1 (by rw [HN.out]; exact h4); rw [HN.out] at this; exact absurd (HB.out.2 this) (by simp))]
           rfl
          | false =>
           go_wp2
           go_roundg (n2.toNat - (j.toNat + 1))
           case measure => have h1 := HJ.out; have h2 := HK.out; omega
           case rel =>
            have h1 := HJ.out; have h2 := HK.out; have h3 := HT.out.1; have h4 := HN.out
            have hw : wrap64 (j + 1) = j + 1 := by unfold wrap64; omega
            refine ⟨wrap64 (j + 1), rfl, ⟨by omega, by omega, by omega⟩, ⟨HX.out⟩, ⟨fun b b0 b1 => ?_⟩⟩
            by_cases e : b = j
            ·
             subst e; exact HB.out.1 (by first | rfl | trivial)
            ·
             exact HE.out b b0 (by omega)
        ·
         have f3 : decide (j < n2) = false := decide_eq_false hlt
         have HK := Aside0.mk hlt
         clear hlt
         go_wp2
         go_roundg (n2.toNat - (i.toNat + 1))
         case measure => have h1 := HI.out; have h2 := HL.out; omega
         case rel =>
          have h1 := HI.out; have h2 := HL.out; have h3 := HT.out.1; have h4 := HN.out; have h5 := HK.out; have h6 := HJ.out
          have hw : wrap64 (i + 1) = i + 1 := by unfold wrap64; omega
          refine ⟨wrap64 (i + 1), rfl, ⟨by omega, by omega, by omega⟩, ⟨HX.out⟩, ⟨fun a b a0 a1 b0 b1 => ?_⟩⟩
          by_cases e : a = i
          ·
           subst e; exact HE.out b b0 (by omega)
          ·
           exact HA.out a b a0 (by omega) b0 b1
      ·
       have f2 : decide (i < n2) = false := decide_eq_false hlt
       have HL := Aside0.mk hlt
       clear hlt
       go_wp2
       go_ret
       have h1 := HI.out; have h2 := HL.out
       refine ⟨?_, HX.out.below⟩
       rw [← HV.out, ofitB_true.2 ⟨HT.out, fun h => (by cases h), fun _ => ⟨by rw [HN.out, HNN.out]; exact HZ.out, fun a b a0 a1 b0 b1 => by rw [HN.out] at a1 b1 ⊢; exact HA.out a b a0 (by omega) b0 b1⟩⟩]
       rfl
    ·
     have f1 : ((l0_1.length : Int) != nn) = true := by simpa using hz
     have HZ := Aside0.mk hz
     have HN := Aside0.mk hn2
     have HNN := Aside0.mk hnn
     clear hz hn2 hnn hnn2 hl8
     go_enter Try.func19, Try.ntmps19
     go_wp2_with (go_at_call 49; (with_reducible refine (HM.out _ ?side1).mono ?_); (case side1 => repeat (first | exact HR0.out | (with_reducible refine Kd.C_alloc ?_ _) | (with_reducible refine Kd.C_drewN ?_ _) | (with_reducible refine Kd.C_drew ?_))); rintro e w1 ⟨rfl, ⟨nd, rfl⟩⟩)
     go_ret
     refine ⟨?_, by repeat (first | exact Below.refl _ _ | (with_reducible apply below_alloc) | (with_reducible apply pw_below_drewN) | (with_reducible apply below_drew))⟩
     rw [← HV.out, ofitB_false.2 (fun h => HZ.out (by rw [(h.2.2 rfl).1, HN.out, HNN.out]))]
     rfl
 ·
  rw [if_neg hlen] at h
  cases h
end Go.Proofs.Ytomgebmimgaojaa.QO
end
section
/- Written by a program of this session out of the translation. -/
noncomputable section
namespace Go.Proofs.Ytomgebmimgaojaa.QO
open Go.RowKit Go.Proofs.YtomgebmimgaojaaW.PrintWords Go.Proofs.YtomgebmimgaojaaW.PrintLast
set_option linter.unusedVariables false
set_option linter.unusedSimpArgs false
/-! ### slices_Clone_int_int: function 47 -/
def slices_Clone_int_int.f (l0 : List Int) : Option (List Int) := if l0.length < 17592186044416 then some l0 else none
theorem R_lit_nil (W : World) (e : Nat) : Kd.R (Kd.int .i64) e (W.alloc (.cells #[] e)) W.heap.size (fun _ => True) (.slice (some ⟨W.heap.size, 0, none⟩) 0 0) [] := by
 have h := own_lit_of (enc := Value.int .i64) W W.heap.size e [] (Nat.le_refl _) (by simp)
 exact Kd.R_of_own (h1 := fun _ => rfl) h (fun _ _ => trivial)
set_option maxHeartbeats 8000000 in
set_option maxRecDepth 100000 in
theorem slices_Clone_int_int.calls (A0 : Option Addr) (c0 : Nat) (l0 : List Int) (r : List Int) (w : World) (hr0 : Kd.C (Kd.int .i64) w A0 l0.length l0) (hc0 : l0.length ≤ c0) (h : slices_Clone_int_int.f l0 = some r) :
 Calls Try.prog 47 #[.slice A0 l0.length c0] w fun e w' => ∃ v0_ : Value, e = .returned (v0_) ∧ Kd.R (Kd.int .i64) 3 w' w.heap.size (fun _ => True) v0_ r ∧ Below w.heap.size w w' := by
 have HR0 := Aside0.mk hr0
 have HB := Aside0.mk (Below.refl w.heap.size w)
 clear hc0
 unfold slices_Clone_int_int.f at h
 by_cases c2 : l0.length < 17592186044416
 ·
  rw [if_pos c2] at h
  obtain rfl := Option.some.inj h
  have LM := Aside0.mk c2
  clear h c2
  have qT : ∀ (w : World) (a : Option Addr) (n c n' c' : Nat), (binOp .eql 22 (.slice a n c) (.slice none n' c')).run Try.prog w = .ok (.bool a.isNone) w := fun w a n c n' c' => Lib.run_eql_slice_nil w _ _ a n c n' c' Try.underlying22
  cases A0 with
  | none =>
   have hl : l0 = [] := by
    obtain ⟨h1, _, h2⟩ := hr0
    by_cases hz : 0 < l0.length
    ·
     obtain ⟨ad, e, _⟩ := h2 hz; cases e
    ·
     exact List.eq_nil_of_length_eq_zero (by omega)
   subst hl
   clear hr0
   go_enter Try.func47, Try.ntmps47
   go_wp2
   go_ret
   exact ⟨_, rfl, Kd.R_nil _ _ _ _ _, HB.out⟩
  | some ad =>
   clear hr0
   go_enter Try.func47, Try.ntmps47
   go_wp2_with (first | ((with_reducible refine gate_builtin (b := .append) (xs := #[.tmp 5, .tmp 6]) rfl ?_); at_builtin; refine Kd.R_append_rows (Kd.int .i64) (w0 := w) w.heap.size rfl (.tmp 5) (.tmp 6) 22 3 (.int .i64 0) 8 rfl Try.underlying22 info3 rfl (by decide) (by omega) (.slice (some ⟨w.heap.size, 0, none⟩) 0 0) ([] : List Int) l0 _ _ _ (fun _ => True) (fun _ => False) rfl rfl ?aO ?aR (fun _ _ h => h) (fun _ h => h.elim) ?aF ?aB ?aS ?aL ?_; (case aR => exact Kd.C_alloc HR0.out _); (case aB => exact (vW HB.out)); (case aF => exact (fun _ _ => trivial)); (case aO => exact R_lit_nil _ _); (case aS => exact (below_size (vW HB.out))); (case aL => have := LM.out; rw [List.length_nil]; omega); intro v174 w3 ho hb hg hat; replace HB := Aside0.mk (hb); have HO := Aside0.mk (ho); clear ho hb hg hat))
   go_ret
   exact ⟨_, rfl, HO.out, HB.out⟩
 ·
  rw [if_neg c2] at h
  exact absurd h (by simp)
end Go.Proofs.Ytomgebmimgaojaa.QO
end
end
section
/- Written by a program of this session out of the translation. -/
noncomputable section
namespace Go.Proofs.Ytomgebmimgaojaa.QO
open Go.RowKit Go.Proofs.YtomgebmimgaojaaW.PrintWords Go.Proofs.YtomgebmimgaojaaW.PrintLast
set_option linter.unusedVariables false
set_option linter.unusedSimpArgs false
/-! ### dbm_New: function 48 -/
mutual
def dbm_New.j0 : Nat → Int → Bool → Option (List Int)
 | 0, _, _ => none
 | k + 1, x0, x16 => if x16 = true then (some ([] : List Int)) else (if 0 ≤ (wrap64 (x0 * x0)) then (if (wrap64 (x0 * x0) : Int).toNat ≤ 35184372088832 then ((some (List.replicate (wrap64 (x0 * x0) : Int).toNat 0 : List Int)).bind fun y107 => (dbm_New.l0 k x0 y107 (y107.length : Int) 0)) else (none)) else (none))
def dbm_New.l0 : Nat → Int → List Int → Int → Int → Option (List Int)
 | 0, _, _, _, _ => none
 | k + 1, x0, x3, x22, x23 => if x23 < x22 then (if 0 ≤ x23 then (if x23 < (x3.length : Int) then (dbm_New.l0 k x0 (x3.set (x23 : Int).toNat 4611686018427387904) x22 (wrap64 (x23 + 1))) else (none)) else (none)) else (dbm_New.l1 k x0 x3 x0 0)
def dbm_New.l1 : Nat → Int → List Int → Int → Int → Option (List Int)
 | 0, _, _, _, _ => none
 | k + 1, x0, x3, x30, x31 => if x31 < x30 then (if 0 ≤ (wrap64 ((wrap64 (x31 * x0)) + x31)) then (if (wrap64 ((wrap64 (x31 * x0)) + x31)) < (x3.length : Int) then (dbm_New.l1 k x0 (x3.set ((wrap64 ((wrap64 (x31 * x0)) + x31)) : Int).toNat 0) x30 (wrap64 (x31 + 1))) else (none)) else (none)) else (some x3)
end
def dbm_New.f (k : Nat) (a0 : Int) : Option (List Int) := if a0 < 0 then (dbm_New.j0 k a0 true) else (if a0 > 16 then (dbm_New.j0 k a0 true) else (dbm_New.j0 k a0 ((Int.tmod a0 2) != 0)))
theorem dbm_New.mono_l : ∀ k, (∀ y0 y1, LeO (dbm_New.j0 k y0 y1) (dbm_New.j0 (k + 1) y0 y1)) ∧ (∀ y0 y1 y2 y3, LeO (dbm_New.l0 k y0 y1 y2 y3) (dbm_New.l0 (k + 1) y0 y1 y2 y3)) ∧ (∀ y0 y1 y2 y3, LeO (dbm_New.l1 k y0 y1 y2 y3) (dbm_New.l1 (k + 1) y0 y1 y2 y3))
 | 0 => ⟨fun _ _ r h => by simp [dbm_New.j0] at h, fun _ _ _ _ r h => by simp [dbm_New.l0] at h, fun _ _ _ _ r h => by simp [dbm_New.l1] at h⟩
 | k + 1 => by
  obtain ⟨ih0, ih1, ih2⟩ := dbm_New.mono_l k
  refine ⟨?_, ?_, ?_⟩
  ·
   intro y0 y1
   unfold dbm_New.j0
   repeat' first
   | (with_reducible exact ih0 _ _)
   | (with_reducible exact ih1 _ _ _ _)
   | (with_reducible exact ih2 _ _ _ _)
   | (with_reducible exact LeO.refl _)
   | (with_reducible exact LeO.none _)
   | (with_reducible refine LeO.ite ?_ ?_)
   | (with_reducible refine LeO.bind ?_ (fun _ => ?_))
   | exact ih0 _ _
   | exact ih1 _ _ _ _
   | exact ih2 _ _ _ _
   | exact LeO.none _
   | refine LeO.ite ?_ ?_
   | refine LeO.bind ?_ (fun _ => ?_)
  ·
   intro y0 y1 y2 y3
   unfold dbm_New.l0
   repeat' first
   | (with_reducible exact ih0 _ _)
   | (with_reducible exact ih1 _ _ _ _)
   | (with_reducible exact ih2 _ _ _ _)
   | (with_reducible exact LeO.refl _)
   | (with_reducible exact LeO.none _)
   | (with_reducible refine LeO.ite ?_ ?_)
   | (with_reducible refine LeO.bind ?_ (fun _ => ?_))
   | exact ih0 _ _
   | exact ih1 _ _ _ _
   | exact ih2 _ _ _ _
   | exact LeO.none _
   | refine LeO.ite ?_ ?_
   | refine LeO.bind ?_ (fun _ => ?_)
  ·
   intro y0 y1 y2 y3
   unfold dbm_New.l1
   repeat' first
   | (with_reducible exact ih0 _ _)
   | (with_reducible exact ih1 _ _ _ _)
   | (with_reducible exact ih2 _ _ _ _)
   | (with_reducible exact LeO.refl _)
   | (with_reducible exact LeO.none _)
   | (with_reducible refine LeO.ite ?_ ?_)
   | (with_reducible refine LeO.bind ?_ (fun _ => ?_))
   | exact ih0 _ _
   | exact ih1 _ _ _ _
   | exact ih2 _ _ _ _
   | exact LeO.none _
   | refine LeO.ite ?_ ?_
   | refine LeO.bind ?_ (fun _ => ?_)
theorem dbm_New.mono : ∀ a0 k, LeO (dbm_New.f k a0) (dbm_New.f (k + 1) a0) := by
 intro a0 k
 obtain ⟨ih0, ih1, ih2⟩ := dbm_New.mono_l k
 unfold dbm_New.f
 repeat' first
  | (with_reducible exact ih0 _ _)
  | (with_reducible exact ih1 _ _ _ _)
  | (with_reducible exact ih2 _ _ _ _)
  | (with_reducible exact LeO.refl _)
  | (with_reducible exact LeO.none _)
  | (with_reducible refine LeO.ite ?_ ?_)
  | (with_reducible refine LeO.bind ?_ (fun _ => ?_))
  | exact ih0 _ _
  | exact ih1 _ _ _ _
  | exact ih2 _ _ _ _
  | exact LeO.none _
  | refine LeO.ite ?_ ?_
  | refine LeO.bind ?_ (fun _ => ?_)
set_option maxHeartbeats 8000000 in
set_option maxRecDepth 100000 in
theorem dbm_New.calls (k : Nat) (a0 : Int) (r : List Int) (w : World) (h : dbm_New.f k a0 = some r) :
 Calls Try.prog 48 #[.int .i64 a0] w fun e w' => ∃ v0_ : Value, e = .returned (v0_) ∧ Kd.R (Kd.int .i64) 2 w' w.heap.size (fun _ => True) v0_ r ∧ Below w.heap.size w w' := by
 have HB := Aside0.mk (Below.refl w.heap.size w)
 have H : (if a0 < 0 then (dbm_New.j0 k a0 true) else (if a0 > 16 then (dbm_New.j0 k a0 true) else (dbm_New.j0 k a0 ((Int.tmod a0 2) != 0)))) = some r := h
 clear h
 have HC2 := Aside0.mk H
 clear H
 go_enter Try.func48, Try.ntmps48
 go_upto_region 1 with (fail)
 go_cut [16] (fun v16 wc => ∃ (kq : Nat) (x16_1 : Bool), v16 = .bool x16_1 ∧ Aside0 (dbm_New.j0 kq a0 x16_1 = some r) ∧ Aside0 (kq ≤ k) ∧ Aside0 (Below w.heap.size w wc))
 case first =>
  have H := HC2.out
  clear HC2
  by_cases c3 : a0 < 0
  ·
   rw [if_pos c3] at H
   have c3b0 : decide (a0 < 0) = true := decide_eq_true c3
   clear c3
   (first | rw [c3b0] | (simp only [i64_w, i32_w]; rw [c3b0]) | skip)
   have H' := Aside0.mk H
   clear H
   go_wp2
   go_meet
   case rel => exact ⟨_, (true), (by first | rfl | (simp; done) | (simp [*]; done)), H', ⟨by first | omega | exact Nat.le_refl _⟩, ⟨vW HB.out⟩⟩
  ·
   rw [if_neg c3] at H
   have c3b0 : decide (a0 < 0) = false := decide_eq_false c3
   clear c3
   (first | rw [c3b0] | (simp only [i64_w, i32_w]; rw [c3b0]) | skip)
   by_cases c4 : a0 > 16
   ·
    rw [if_pos c4] at H
    have c4b0 : decide (16 < a0) = true := decide_eq_true c4
    clear c4
    have H' := Aside0.mk H
    clear H
    go_wp2
    go_meet
    case rel => exact ⟨_, (true), (by first | rfl | (simp; done) | (simp [*]; done)), H', ⟨by first | omega | exact Nat.le_refl _⟩, ⟨vW HB.out⟩⟩
   ·
    rw [if_neg c4] at H
    have c4b0 : decide (16 < a0) = false := decide_eq_false c4
    clear c4
    have H' := Aside0.mk H
    clear H
    go_wp2
    go_meet
    case rel => exact ⟨_, (((Int.tmod a0 2) != 0)), (by first | rfl | (simp; done) | (simp [*]; done)), H', ⟨by first | omega | exact Nat.le_refl _⟩, ⟨vW HB.out⟩⟩
 case rest =>
  clear HC2
  try clear p2
  try clear c3
  try clear c3b0
  try clear c4
  try clear c4b0
  obtain ⟨kq, x16_1, rfl, HA, HJ1, HB⟩ := hcut
  cases kq with
  | zero => exact absurd HA.out (by simp [dbm_New.j0])
  | succ kj1 =>
   have H := HA.out
   clear HA
   simp only [dbm_New.j0] at H
   by_cases c5 : x16_1 = true
   ·
    subst c5
    have H1 : (some ([] : List Int)) = some r := by rw [if_pos rfl] at H; exact H
    clear H
    have H := H1
    clear H1
    obtain rfl := Option.some.inj H
    go_wp2
    go_ret
    exact ⟨_, by first | rfl | (simp [errW_none, errW_some] <;> rfl) | (simp [*, errW_none, errW_some] <;> rfl) | (simp [wrap64]; done), by first | exact Kd.R_nil _ _ _ _ _ | exact Kd.N_nil _ _ _ _ _ | exact Kd.V_nil _ _ _ _ _ | exact Kd.Q_nil _ _ _ _ _ | exact Kd.S_nil _ _ _ _ _, vW HB.out⟩
   ·
    replace c5 := Bool.eq_false_iff.mpr c5
    subst c5
    have H1 : (if 0 ≤ (wrap64 (a0 * a0)) then (if (wrap64 (a0 * a0) : Int).toNat ≤ 35184372088832 then ((some (List.replicate (wrap64 (a0 * a0) : Int).toNat 0 : List Int)).bind fun y107 => (dbm_New.l0 kj1 a0 y107 (y107.length : Int) 0)) else (none)) else (none)) = some r := by rw [if_neg (show ¬ (false = true) by decide)] at H; exact H
    clear H
    have H := H1
    clear H1
    obtain ⟨ji6, hji6⟩ : ∃ j_ : Int, (wrap64 (a0 * a0)) = j_ := ⟨_, rfl⟩
    replace H : (if 0 ≤ (ji6) then (if (ji6 : Int).toNat ≤ 35184372088832 then ((some (List.replicate (ji6 : Int).toNat 0 : List Int)).bind fun y107 => (dbm_New.l0 kj1 a0 y107 (y107.length : Int) 0)) else (none)) else (none)) = some r := by first | (rw [hji6] at H; exact H) | (simp only [hji6] at H ⊢; exact H)
    have hji6w : (IntKind.i64.wrap (a0 * a0)) = ji6 := (i64_w _).trans hji6
    by_cases c7 : 0 ≤ (ji6)
    ·
     rw [if_pos c7] at H
     have c7b0 := eq_true c7
     have c7b1 : decide (0 ≤ (ji6)) = true := decide_eq_true c7
     clear c7
     by_cases c8 : (ji6 : Int).toNat ≤ 35184372088832
     ·
      rw [if_pos c8] at H
      have c8b0 := eq_true c8
      have c8b1 : decide ((ji6 : Int).toNat ≤ 35184372088832) = true := decide_eq_true c8
      clear c8
      obtain ⟨y107, hy107⟩ : ∃ y_ : List Int, y_ = (List.replicate (ji6 : Int).toNat 0) := ⟨_, rfl⟩
      replace H : (dbm_New.l0 kj1 a0 y107 (y107.length : Int) 0) = some r := by first | (rw [hy107]; with_reducible exact H) | (have H2_ := (Option.bind_some _ _).symm.trans H; rw [hy107]; with_reducible exact H2_) | (have H2_ := (Option.bind_some _ _).symm.trans H; with_reducible exact H2_) | with_reducible exact H | (rw [hy107]; exact H) | exact H
      have Ny107 := Aside0.mk hy107
      clear hy107
      have H' := Aside0.mk H
      clear H
      go_wp2_with (first | ((with_reducible refine gate_dst (N := 20) rfl ?_); refine Kd.R_make (Kd.int .i64) _ 2 rfl (N := 20) rfl 23 _ _ rfl ji6 rfl rfl Try.underlying23 (.int .i64 0) 8 info2 rfl (by decide) (by omega) 0 (ok := fun _ => True) (okp := fun _ => True) rfl (fun _ hk => hk) trivial (of_decide_eq_true (by first | (with_reducible assumption) | assumption)) (Nat.le_trans (Nat.mul_le_mul_right _ (of_decide_eq_true (by first | (with_reducible assumption) | assumption) : ji6.toNat ≤ 35184372088832)) (by omega)) (Below.refl _ _) (Nat.le_refl _) ?_; intro v108 w9 ho10 hb hg_ hnew_; clear hg_ hnew_; (first | rw [← Ny107.out] at ho10 | (simp only [Int.reduceToNat] at ho10; rw [← Ny107.out] at ho10)); have HO109 := Aside0.mk (Kd.R_lower ho10 (below_size (vW HB.out))); replace HB := vWs HB hb; clear hb ho10; obtain ⟨Ao11, co11, eo11⟩ := Kd.R_slice HO109.out; subst eo11))
      go_loopg [23] kj1 (fun kq v23 w' => ∃ (x3_2 : List Int) (x23_2 : Int), v23 = .int .i64 x23_2 ∧ Aside0 (dbm_New.l0 kq a0 x3_2 (y107.length : Int) x23_2 = some r) ∧ Aside0 (kq ≤ kj1) ∧ Aside0 (Kd.R (Kd.int .i64) 2 w' w.heap.size (fun _ => True) (.slice Ao11 y107.length co11) x3_2) ∧ Aside0 (Below w.heap.size w w'))
      case atStart => exact ⟨(y107), (0), (by first | rfl | (simp; done) | (simp [*]; done)), H', ⟨Nat.le_refl _⟩, ⟨vR HO109.out⟩, ⟨vW HB.out⟩⟩
      case round =>
       clear H'
       try clear p2
       try clear c3
       try clear c3b0
       try clear c4
       try clear c4b0
       try clear c5
       try clear p6
       try clear c7
       try clear c7b0
       try clear c7b1
       try clear c8
       try clear c8b0
       try clear c8b1
       try clear p2
       obtain ⟨x3_2, x23_2, rfl, HA, HK2, HO_3, HB⟩ := hrel
       have hl3_2 := (Kd.R_reads' HO_3.out).1
       rw [hl3_2] at HO_3
       (try simp only [hl3_2])
       cases gk with
       | zero => exact absurd HA.out (by simp [dbm_New.l0])
       | succ k2 =>
        have H := HA.out
        clear HA
        simp only [dbm_New.l0] at H
        by_cases c12 : x23_2 < (y107.length : Int)
        ·
         rw [if_pos c12] at H
         have c12b0 : decide (x23_2 < (y107.length : Int)) = true := decide_eq_true c12
         clear c12
         by_cases c13 : 0 ≤ x23_2
         ·
          rw [if_pos c13] at H
          have c13b0 : decide (0 ≤ x23_2) = true := decide_eq_true c13
          clear c13
          by_cases c14 : x23_2 < (x3_2.length : Int)
          ·
           rw [if_pos c14] at H
           have c14b0 : decide (x23_2 < (x3_2.length : Int)) = true := decide_eq_true c14
           clear c14
           obtain ⟨y110, hy110⟩ : ∃ y_ : List Int, y_ = (x3_2.set (x23_2 : Int).toNat 4611686018427387904) := ⟨_, rfl⟩
           replace H : (dbm_New.l0 k2 a0 y110 (y107.length : Int) (wrap64 (x23_2 + 1))) = some r := by first | (rw [hy110]; with_reducible exact H) | (have H2_ := (Option.bind_some _ _).symm.trans H; rw [hy110]; with_reducible exact H2_) | (have H2_ := (Option.bind_some _ _).symm.trans H; with_reducible exact H2_) | with_reducible exact H | (rw [hy110]; exact H) | exact H
           have Ny110 := Aside0.mk hy110
           clear hy110
           have H' := Aside0.mk H
           clear H
           have p15 : 0 ≤ (x23_2 : Int) := of_decide_eq_true (by first | (with_reducible assumption) | assumption)
           have q15 : (x23_2 : Int) < ((x3_2.length : Int) : Int) := of_decide_eq_true (by first | (with_reducible assumption) | assumption)
           obtain ⟨go15, co15, eo15, gb15, gl15, cl15, HG15⟩ := Kd.R_form HO_3.out (by omega)
           (first | cases eo15 | (injection eo15 with ea_ en_ ec_; (first | subst ea_ | (injection ea_ with ea_; subst ea_)); subst ec_; clear en_))
           have GB15 := Aside0.mk gb15
           have GG15 := Aside0.mk HG15
           clear gb15 gl15 HG15
           obtain ⟨hx15_0, hf15_0⟩ := Kd.R_celln 0 HO_3.out (x23_2 : Int) p15 q15
           replace p15 := eq_true p15
           replace q15 := eq_true q15
           have HP16 := Kd.R_putg HO_3.out (x23_2 : Int) 4611686018427387904
           go_wp2_with (first | ((with_reducible refine gate_store (t := 2) (p := 28) rfl ?_); refine store_event (t := 2) (p := 28) (v := ?vo_w17) (w1 := (wr.setCell ⟨go15, (x23_2 : Int).toNat, none⟩ (.int .i64 4611686018427387904))) ?hg ?ho ?hn ?hr ?_; (case ho => rfl); (case hg => rfl); (case hn => rfl); (case hr => first | (go_simp; done) | (go_simp; rfl)); intro w17 hw; have hg : wr.grownBy w17 (some go15) := (by rw [hw]; exact HP16.2); have hp_ : Kd.R (Kd.int .i64) 2 w17 w.heap.size (fun _ => True) (.slice (some ⟨go15, 0, none⟩) x3_2.length co11) y110 := (by rw [hw, Ny110.out]; exact HP16.1); clear HP16; replace HO_3 := Aside0.mk (hp_); replace HB := Aside0.mk ((by rw [hw]; exact below_set (HB.out) GB15.out : Below w.heap.size w w17)); clear hg hw hp_))
           (try simp only [← hl3_2])
           go_roundg k2
           case measure => have := HJ1.out; have := HK2.out; omega
           case rel => exact ⟨(y110), (wrap64 (x23_2 + 1)), (by first | rfl | (simp; done) | (simp [*]; done)), H', ⟨by have := HJ1.out; have := HK2.out; omega⟩, ⟨by (try simp only [hl3_2]); (with_reducible repeat (first | apply Kd.R_alloc | apply Kd.R_drewN | apply Kd.R_drew)); exact HO_3.out⟩, ⟨vW HB.out⟩⟩
          ·
           rw [if_neg c14] at H
           exact absurd H (by simp)
         ·
          rw [if_neg c13] at H
          exact absurd H (by simp)
        ·
         rw [if_neg c12] at H
         have c12b0 : decide (x23_2 < (y107.length : Int)) = false := decide_eq_false c12
         try (have c12b1 := c12b0; simp only [hl3_2] at c12b1)
         clear c12
         have H' := Aside0.mk H
         clear H
         go_wp2
         go_loopg [31] k2 (fun kq v31 w' => ∃ (x3_3 : List Int) (x31_3 : Int), v31 = .int .i64 x31_3 ∧ Aside0 (dbm_New.l1 kq a0 x3_3 a0 x31_3 = some r) ∧ Aside0 (kq ≤ k2) ∧ Aside0 (Kd.R (Kd.int .i64) 2 w' w.heap.size (fun _ => True) (.slice Ao11 x3_2.length co11) x3_3) ∧ Aside0 (Below w.heap.size w w'))
         case atStart => exact ⟨(x3_2), (0), (by first | rfl | (simp; done) | (simp [*]; done)), H', ⟨Nat.le_refl _⟩, ⟨by (try simp only [hl3_2]); (with_reducible repeat (first | apply Kd.R_alloc | apply Kd.R_drewN | apply Kd.R_drew)); exact HO_3.out⟩, ⟨vW HB.out⟩⟩
         case round =>
          clear H'
          try clear c1
          try clear p1
          try clear q1
          try clear hx1
          try clear hf1
          try clear p2
          try clear c3
          try clear c3b0
          try clear c4
          try clear c4b0
          try clear c5
          try clear p6
          try clear c7
          try clear c7b0
          try clear c7b1
          try clear c8
          try clear c8b0
          try clear c8b1
          try clear c12
          try clear c12b0
          try clear c13
          try clear c13b0
          try clear c14
          try clear c14b0
          try clear p15
          try clear q15
          try clear hx15
          try clear hf15
          try clear hx15_0
          try clear p15
          try clear p2
          try clear p6
          try clear q15
          obtain ⟨x3_3, x31_3, rfl, HA, HK3, HO_3, HB⟩ := hrel
          have hl3_3 := (Kd.R_reads' HO_3.out).1
          rw [hl3_3] at HO_3
          (try simp only [hl3_3])
          cases gk with
          | zero => exact absurd HA.out (by simp [dbm_New.l1])
          | succ k3 =>
           have H := HA.out
           clear HA
           simp only [dbm_New.l1] at H
           by_cases c18 : x31_3 < a0
           ·
            rw [if_pos c18] at H
            have c18b0 : decide (x31_3 < a0) = true := decide_eq_true c18
            clear c18
            obtain ⟨ji19, hji19⟩ : ∃ j_ : Int, (wrap64 ((wrap64 (x31_3 * a0)) + x31_3)) = j_ := ⟨_, rfl⟩
            replace H : (if 0 ≤ (ji19) then (if (ji19) < (x3_3.length : Int) then (dbm_New.l1 k3 a0 (x3_3.set ((ji19) : Int).toNat 0) a0 (wrap64 (x31_3 + 1))) else (none)) else (none)) = some r := by first | (rw [hji19] at H; exact H) | (simp only [hji19] at H ⊢; exact H)
            have hji19w : (IntKind.i64.wrap ((wrap64 (x31_3 * a0)) + x31_3)) = ji19 := (i64_w _).trans hji19
            by_cases c20 : 0 ≤ (ji19)
            ·
             rw [if_pos c20] at H
             have c20b0 : decide (0 ≤ (ji19)) = true := decide_eq_true c20
             clear c20
             by_cases c21 : (ji19) < (x3_3.length : Int)
             ·
              rw [if_pos c21] at H
              have c21b0 : decide ((ji19) < (x3_3.length : Int)) = true := decide_eq_true c21
              clear c21
              obtain ⟨y111, hy111⟩ : ∃ y_ : List Int, y_ = (x3_3.set ((ji19) : Int).toNat 0) := ⟨_, rfl⟩
              replace H : (dbm_New.l1 k3 a0 y111 a0 (wrap64 (x31_3 + 1))) = some r := by first | (rw [hy111]; with_reducible exact H) | (have H2_ := (Option.bind_some _ _).symm.trans H; rw [hy111]; with_reducible exact H2_) | (have H2_ := (Option.bind_some _ _).symm.trans H; with_reducible exact H2_) | with_reducible exact H | (rw [hy111]; exact H) | exact H
              have Ny111 := Aside0.mk hy111
              clear hy111
              have H' := Aside0.mk H
              clear H
              have p22 : 0 ≤ ((ji19) : Int) := of_decide_eq_true (by first | (with_reducible assumption) | assumption)
              have q22 : ((ji19) : Int) < ((x3_3.length : Int) : Int) := of_decide_eq_true (by first | (with_reducible assumption) | assumption)
              obtain ⟨go22, co22, eo22, gb22, gl22, cl22, HG22⟩ := Kd.R_form HO_3.out (by omega)
              (first | cases eo22 | (injection eo22 with ea_ en_ ec_; (first | subst ea_ | (injection ea_ with ea_; subst ea_)); subst ec_; clear en_))
              have GB22 := Aside0.mk gb22
              have GG22 := Aside0.mk HG22
              clear gb22 gl22 HG22
              obtain ⟨hx22_0, hf22_0⟩ := Kd.R_celln 0 HO_3.out ((ji19) : Int) p22 q22
              replace p22 := eq_true p22
              replace q22 := eq_true q22
              have HP23 := Kd.R_putg HO_3.out ((ji19) : Int) 0
              go_wp2_with (first | ((with_reducible refine gate_store (t := 2) (p := 40) rfl ?_); refine store_event (t := 2) (p := 40) (v := ?vo_w24) (w1 := (wr.setCell ⟨go22, ((ji19) : Int).toNat, none⟩ (.int .i64 0))) ?hg ?ho ?hn ?hr ?_; (case ho => rfl); (case hg => rfl); (case hn => rfl); (case hr => first | (go_simp; done) | (go_simp; rfl)); intro w24 hw; have hg : wr.grownBy w24 (some go22) := (by rw [hw]; exact HP23.2); have hp_ : Kd.R (Kd.int .i64) 2 w24 w.heap.size (fun _ => True) (.slice (some ⟨go22, 0, none⟩) x3_3.length co11) y111 := (by rw [hw, Ny111.out]; exact HP23.1); clear HP23; replace HO_3 := Aside0.mk (hp_); replace HB := Aside0.mk ((by rw [hw]; exact below_set (HB.out) GB22.out : Below w.heap.size w w24)); clear hg hw hp_))
              (try simp only [← hl3_3])
              go_roundg k3
              case measure => have := HJ1.out; have := HK2.out; have := HK3.out; omega
              case rel => exact ⟨(y111), (wrap64 (x31_3 + 1)), (by first | rfl | (simp; done) | (simp [*]; done)), H', ⟨by have := HJ1.out; have := HK2.out; have := HK3.out; omega⟩, ⟨by (try simp only [hl3_2]); (try simp only [hl3_3]); (with_reducible repeat (first | apply Kd.R_alloc | apply Kd.R_drewN | apply Kd.R_drew)); exact HO_3.out⟩, ⟨vW HB.out⟩⟩
             ·
              rw [if_neg c21] at H
              exact absurd H (by simp)
            ·
             rw [if_neg c20] at H
             exact absurd H (by simp)
           ·
            rw [if_neg c18] at H
            have c18b0 : decide (x31_3 < a0) = false := decide_eq_false c18
            clear c18
            obtain rfl := Option.some.inj H
            go_wp2
            go_ret
            exact ⟨_, by first | rfl | (simp [errW_none, errW_some] <;> rfl) | (simp only [← hji6]; first | rfl | (simp [errW_none, errW_some] <;> rfl)) | (simp [*, errW_none, errW_some] <;> rfl) | (simp [wrap64]; done), by (with_reducible repeat (first | apply Kd.R_alloc | apply Kd.R_drewN | apply Kd.R_drew)); exact HO_3.out, vW HB.out⟩
     ·
      rw [if_neg c8] at H
      exact absurd H (by simp)
    ·
     rw [if_neg c7] at H
     exact absurd H (by simp)
end Go.Proofs.Ytomgebmimgaojaa.QO
end
end
section
/- Written by a program of this session out of the translation. -/
noncomputable section
namespace Go.Proofs.Ytomgebmimgaojaa.QO
open Go.RowKit Go.Proofs.YtomgebmimgaojaaW.PrintWords Go.Proofs.YtomgebmimgaojaaW.PrintLast
set_option linter.unusedVariables false
set_option linter.unusedSimpArgs false
/-! ### oct_Top: function 13 -/
def oct_Top.f (k : Nat) (l0 : List Int) : Option (List Int × List Int × Bool) := (oct_may.f l0).bind fun t113 => (if t113 = true then ((slices_Clone_int_int.f l0).bind fun t114 => ((dbm_New.f k (wrap64 (2 * (l0.length : Int)))).bind fun t117 => (some (t114, t117, false)))) else (some (([] : List Int), ([] : List Int), false)))
theorem oct_Top.mono : ∀ a0 k, LeO (oct_Top.f k a0) (oct_Top.f (k + 1) a0) := by
 intro a0 k
 unfold oct_Top.f
 repeat' first
  | (with_reducible exact dbm_New.mono _ _)
  | (with_reducible exact LeO.refl _)
  | (with_reducible exact LeO.none _)
  | (with_reducible refine LeO.ite ?_ ?_)
  | (with_reducible refine LeO.bind ?_ (fun _ => ?_))
  | exact dbm_New.mono _ _
  | exact LeO.none _
  | refine LeO.ite ?_ ?_
  | refine LeO.bind ?_ (fun _ => ?_)
set_option maxHeartbeats 8000000 in
set_option maxRecDepth 100000 in
theorem oct_Top.calls (k : Nat) (A0 : Option Addr) (c0 : Nat) (l0 : List Int) (r1 : List Int) (r2 : List Int) (r3 : Bool) (w : World) (hr0 : Kd.C (Kd.int .i64) w A0 l0.length l0) (hc0 : l0.length ≤ c0) (h : oct_Top.f k l0 = some (r1, r2, r3)) :
 Calls Try.prog 13 #[.slice A0 l0.length c0] w fun e w' => ∃ v0_ v1_ : Value, e = .returned (.agg #[v0_, v1_, .bool r3]) ∧ Kd.R (Kd.int .i64) 3 w' w.heap.size (fun _ => True) v0_ r1 ∧ Kd.R (Kd.int .i64) 2 w' w.heap.size (fun _ => True) v1_ r2 ∧ Below w.heap.size w w' := by
 have hu25 := Try.underlying25
 have HR0 := Aside0.mk hr0
 have HC0 := Aside0.mk hc0
 clear hr0 hc0
 have HB := Aside0.mk (Below.refl w.heap.size w)
 have H : ((oct_may.f l0).bind fun t113 => (if t113 = true then ((slices_Clone_int_int.f l0).bind fun t114 => ((dbm_New.f k (wrap64 (2 * (l0.length : Int)))).bind fun t117 => (some (t114, t117, false)))) else (some (([] : List Int), ([] : List Int), false)))) = some (r1, r2, r3) := h
 clear h
 replace H := Option.bind_eq_some_iff.mp H
 obtain ⟨t113, A20, H⟩ := H
 replace H : (if t113 = true then ((slices_Clone_int_int.f l0).bind fun t114 => ((dbm_New.f k (wrap64 (2 * (l0.length : Int)))).bind fun t117 => (some (t114, t117, false)))) else (some (([] : List Int), ([] : List Int), false))) = some (r1, r2, r3) := H
 have A2 := Aside0.mk A20
 clear A20
 by_cases c3 : t113 = true
 ·
  subst c3
  have H1 : ((slices_Clone_int_int.f l0).bind fun t114 => ((dbm_New.f k (wrap64 (2 * (l0.length : Int)))).bind fun t117 => (some (t114, t117, false)))) = some (r1, r2, r3) := by rw [if_pos rfl] at H; exact H
  clear H
  have H := H1
  clear H1
  replace H := Option.bind_eq_some_iff.mp H
  obtain ⟨t114, A40, H⟩ := H
  replace H : ((dbm_New.f k (wrap64 (2 * (l0.length : Int)))).bind fun t117 => (some (t114, t117, false))) = some (r1, r2, r3) := H
  have A4 := Aside0.mk A40
  clear A40
  replace H := Option.bind_eq_some_iff.mp H
  obtain ⟨t117, A50, H⟩ := H
  replace H : (some (t114, t117, false)) = some (r1, r2, r3) := H
  have A5 := Aside0.mk A50
  clear A50
  simp only [Option.some.injEq, Prod.mk.injEq] at H
  obtain ⟨rfl, rfl, rfl⟩ := H
  go_enter Try.func13, Try.ntmps13
  go_wp2_with (first | ((with_reducible refine gate_dst (N := 2) rfl ?_); refine box_event ?hg (N := 2) ?hd (cs := #[.slice none 0 0, .slice none 0 0, .bool false]) (t := 25) ?hr ?_; (case hd => rfl); (case hg => rfl); (case hr => first | (go_simp; done) | (go_simp; rfl)); intro gb112 hg w6 hbox hb; have BK112 := Aside0.mk (hbox); have GW112 := vS hg HB; have GE112 := vS hg HB; replace HB := vWs HB hb; clear hb hbox hg) | ((with_reducible refine gate_callee (f := 46) rfl ?_); refine goesL_ (some 4) rfl rfl Try.func46 (by kernel_rfl) rfl #[.slice A0 l0.length c0] rfl vL ?_; (with_reducible refine (oct_may.calls _ _ l0 true _ ?side1 ?side2 A2.out).mono ?_); (case side1 => exact vC (Kd.C_below HR0.out HB.out)); (case side2 => exact HC0.out); rintro e w' ⟨rfl, ⟨nd, rfl⟩⟩; refine ⟨_, rfl, ?_⟩; (try (rw [drewN_self w6]; generalize hq_ : World.drewN w6 _ = w6; have n0_ : Aside0 (w6.heap[gb112]? = some (.cells #[.slice none 0 0, .slice none 0 0, .bool false] 25 (0, 0))) := ⟨by rw [← hq_]; exact (vB BK112.out)⟩; have n1_ : Aside0 (Below w.heap.size w w6) := ⟨by rw [← hq_]; exact (vW HB.out)⟩; clear BK112 HB hq_; have BK112 := n0_; have HB := n1_; clear n0_ n1_))) | ((with_reducible refine gate_callee (f := 47) rfl ?_); refine goesL_ (some 8) rfl rfl Try.func47 (by kernel_rfl) rfl #[.slice A0 l0.length c0] rfl vL ?_; (with_reducible refine (slices_Clone_int_int.calls _ _ l0 t114 _ ?side1 ?side2 A4.out).mono ?_); (case side1 => exact vC (Kd.C_below HR0.out HB.out)); (case side2 => exact HC0.out); rintro e w7 ⟨v115, rfl, ho0, hb⟩; refine ⟨_, rfl, ?_⟩; have HO116 := Aside0.mk (Kd.R_lower ho0 (below_size (vW HB.out))); replace BK112 := vBb BK112 hb; replace HB := vWs HB hb; (try clear hb); (try clear hb2); (try clear hk); (try clear hi); (try clear ho0)) | ((with_reducible refine gate_callee (f := 48) rfl ?_); refine goesL_ (some 12) rfl rfl Try.func48 (by kernel_rfl) rfl #[.int .i64 (wrap64 (2 * (l0.length : Int)))] rfl vL ?_; (with_reducible refine (dbm_New.calls k (wrap64 (2 * (l0.length : Int))) t117 _ A5.out).mono ?_); rintro e w8 ⟨v118, rfl, ho0, hb⟩; refine ⟨_, rfl, ?_⟩; replace HO116 := vRb HO116 hb; have HO119 := Aside0.mk (Kd.R_lower ho0 (below_size (vW HB.out))); replace BK112 := vBb BK112 hb; replace HB := vWs HB hb; (try clear hb); (try clear hb2); (try clear hk); (try clear hi); (try clear ho0); obtain ⟨Ao9, co9, eo9⟩ := Kd.R_slice HO119.out; subst eo9; obtain ⟨Ao10, co10, eo10⟩ := Kd.R_slice HO116.out; subst eo10; obtain ⟨hcz11_0, hcz11_1, hcz11_2, hfz11_0, hfz11_1, hfz11_2⟩ := vF3 BK112.out))
  refine bodyPost_ret (results_cell_row rfl _ _ gb112 25 #[.slice Ao10 t114.length co10, .slice Ao9 t117.length co9, .bool false] (0, 0) _ rfl (by (with_reducible repeat (first | refine blk_drewN ?_ _ | refine blk_drew ?_ | refine blk_alloc ?_ _)); refine blk_put (cs := #[.slice Ao10 t114.length co10, .slice Ao9 t117.length co9, .bool false]) ?_ 2 _ rfl; (with_reducible repeat (first | refine blk_drewN ?_ _ | refine blk_drew ?_ | refine blk_alloc ?_ _)); refine blk_put (cs := #[.slice Ao10 t114.length co10, .slice none 0 0, .bool false]) ?_ 1 _ rfl; (with_reducible repeat (first | refine blk_drewN ?_ _ | refine blk_drew ?_ | refine blk_alloc ?_ _)); refine blk_put (cs := #[.slice none 0 0, .slice none 0 0, .bool false]) ?_ 0 _ rfl; (with_reducible repeat (first | refine blk_drewN ?_ _ | refine blk_drew ?_ | refine blk_alloc ?_ _)); exact BK112.out) Try.underlying25 rfl (by kernel_rfl)) rfl ?_
  exact ⟨_, _, by first | rfl | (simp [errW_none, errW_some] <;> rfl) | (simp [*, errW_none, errW_some] <;> rfl) | (simp [wrap64]; done), by (with_reducible repeat (first | apply Kd.R_alloc | apply Kd.R_drewN | apply Kd.R_drew)); exact Kd.R_mono (Kd.R_far (p := ⟨gb112, 2, none⟩) (Kd.R_far (p := ⟨gb112, 1, none⟩) (Kd.R_far (p := ⟨gb112, 0, none⟩) (Kd.R_types HO116.out BK112.out (by decide)) (fun _ hk => hk.2) (.slice Ao10 t114.length co10)) (fun _ hk => hk.2) (.slice Ao9 t117.length co9)) (fun _ hk => hk.2) (.bool false)) (fun _ hk => trivial), by (with_reducible repeat (first | apply Kd.R_alloc | apply Kd.R_drewN | apply Kd.R_drew)); exact Kd.R_mono (Kd.R_far (p := ⟨gb112, 2, none⟩) (Kd.R_far (p := ⟨gb112, 1, none⟩) (Kd.R_far (p := ⟨gb112, 0, none⟩) (Kd.R_types HO119.out BK112.out (by decide)) (fun _ hk => hk.2) (.slice Ao10 t114.length co10)) (fun _ hk => hk.2) (.slice Ao9 t117.length co9)) (fun _ hk => hk.2) (.bool false)) (fun _ hk => trivial), vW HB.out⟩
 ·
  replace c3 := Bool.eq_false_iff.mpr c3
  subst c3
  have H1 : (some (([] : List Int), ([] : List Int), false)) = some (r1, r2, r3) := by rw [if_neg (show ¬ (false = true) by decide)] at H; exact H
  clear H
  have H := H1
  clear H1
  simp only [Option.some.injEq, Prod.mk.injEq] at H
  obtain ⟨rfl, rfl, rfl⟩ := H
  go_enter Try.func13, Try.ntmps13
  go_wp2_with (first | ((with_reducible refine gate_dst (N := 2) rfl ?_); refine box_event ?hg (N := 2) ?hd (cs := #[.slice none 0 0, .slice none 0 0, .bool false]) (t := 25) ?hr ?_; (case hd => rfl); (case hg => rfl); (case hr => first | (go_simp; done) | (go_simp; rfl)); intro gb112 hg w12 hbox hb; have BK112 := Aside0.mk (hbox); have GW112 := vS hg HB; have GE112 := vS hg HB; replace HB := vWs HB hb; clear hb hbox hg) | ((with_reducible refine gate_callee (f := 46) rfl ?_); refine goesL_ (some 4) rfl rfl Try.func46 (by kernel_rfl) rfl #[.slice A0 l0.length c0] rfl vL ?_; (with_reducible refine (oct_may.calls _ _ l0 false _ ?side1 ?side2 A2.out).mono ?_); (case side1 => exact vC (Kd.C_below HR0.out HB.out)); (case side2 => exact HC0.out); rintro e w' ⟨rfl, ⟨nd, rfl⟩⟩; refine ⟨_, rfl, ?_⟩; (try (rw [drewN_self w12]; generalize hq_ : World.drewN w12 _ = w12; have n0_ : Aside0 (w12.heap[gb112]? = some (.cells #[.slice none 0 0, .slice none 0 0, .bool false] 25 (0, 0))) := ⟨by rw [← hq_]; exact (vB BK112.out)⟩; have n1_ : Aside0 (Below w.heap.size w w12) := ⟨by rw [← hq_]; exact (vW HB.out)⟩; clear BK112 HB hq_; have BK112 := n0_; have HB := n1_; clear n0_ n1_)); obtain ⟨hcz13_0, hcz13_1, hcz13_2, hfz13_0, hfz13_1, hfz13_2⟩ := vF3 BK112.out))
  refine bodyPost_ret (results_cell_row rfl _ _ gb112 25 #[.slice none 0 0, .slice none 0 0, .bool false] (0, 0) _ rfl (by (with_reducible repeat (first | refine blk_drewN ?_ _ | refine blk_drew ?_ | refine blk_alloc ?_ _)); refine blk_put (cs := #[.slice none 0 0, .slice none 0 0, .bool false]) ?_ 2 _ rfl; (with_reducible repeat (first | refine blk_drewN ?_ _ | refine blk_drew ?_ | refine blk_alloc ?_ _)); refine blk_put (cs := #[.slice none 0 0, .slice none 0 0, .bool false]) ?_ 1 _ rfl; (with_reducible repeat (first | refine blk_drewN ?_ _ | refine blk_drew ?_ | refine blk_alloc ?_ _)); refine blk_put (cs := #[.slice none 0 0, .slice none 0 0, .bool false]) ?_ 0 _ rfl; (with_reducible repeat (first | refine blk_drewN ?_ _ | refine blk_drew ?_ | refine blk_alloc ?_ _)); exact BK112.out) Try.underlying25 rfl (by kernel_rfl)) rfl ?_
  exact ⟨_, _, by first | rfl | (simp [errW_none, errW_some] <;> rfl) | (simp [*, errW_none, errW_some] <;> rfl) | (simp [wrap64]; done), by first | exact Kd.R_nil _ _ _ _ _ | exact Kd.N_nil _ _ _ _ _ | exact Kd.V_nil _ _ _ _ _ | exact Kd.Q_nil _ _ _ _ _ | exact Kd.S_nil _ _ _ _ _, by first | exact Kd.R_nil _ _ _ _ _ | exact Kd.N_nil _ _ _ _ _ | exact Kd.V_nil _ _ _ _ _ | exact Kd.Q_nil _ _ _ _ _ | exact Kd.S_nil _ _ _ _ _, vW HB.out⟩
end Go.Proofs.Ytomgebmimgaojaa.QO
end
end
section
/- Written by a program of this session out of the translation. -/
noncomputable section
namespace Go.Proofs.Ytomgebmimgaojaa.QO
open Go.RowKit Go.Proofs.YtomgebmimgaojaaW.PrintWords Go.Proofs.YtomgebmimgaojaaW.PrintLast
set_option linter.unusedVariables false
set_option linter.unusedSimpArgs false
/-! ### oct_of: function 55 -/
/-- the value that stands for an octagon's table -/
def tableV (n : Int) (A : Option Addr) (len cap : Nat) : Value := .iface 85 (.agg #[.int .i64 n, .slice A len cap])
set_option maxHeartbeats 8000000 in
set_option maxRecDepth 100000 in
theorem oct_of_any (A0 : Option Addr) (n0 c0 : Nat) (A1 : Option Addr) (n1 c1 : Nat) (b : Bool) (w : World) (hn : n0 ≤ 17592186044416) :
 Calls Try.prog 55 #[.agg #[.slice A0 n0 c0, .slice A1 n1 c1, .bool b]] w fun e w' => e = .returned (tableV (2 * (n0 : Int)) A1 n1 c1) ∧ Below w.heap.size w w' := by
 have hu25 := Try.underlying25
 have hw : wrap64 (2 * (n0 : Int)) = 2 * (n0 : Int) := by unfold wrap64; omega
 have hw2 : IntKind.i64.wrap (2 * (n0 : Int)) = 2 * (n0 : Int) := by rw [IntKind.wrap_i64]; omega
 clear hn
 go_enter Try.func55, Try.ntmps55
 go_wp2
 go_ret
 exact ⟨rfl, below_alloc (Below.refl _ _) _⟩
/-- the two methods of a table, found at its type -/
theorem meth_size (m : Int) (A : Option Addr) (n c : Nat) (w : World) : (method 213 85 (.agg #[.int .i64 m, .slice A n c]) "gimbal/oct.size").run Try.prog w = .ok (110, .agg #[.int .i64 m, .slice A n c]) w := by kernel_rfl
theorem meth_at (m : Int) (A : Option Addr) (n c : Nat) (w : World) : (method 213 85 (.agg #[.int .i64 m, .slice A n c]) "gimbal/oct.at").run Try.prog w = .ok (111, .agg #[.int .i64 m, .slice A n c]) w := by kernel_rfl
set_option maxHeartbeats 8000000 in
set_option maxRecDepth 100000 in
theorem oct_size_any (m : Int) (A : Option Addr) (n c : Nat) (w : World) :
 Calls Try.prog 110 #[.agg #[.int .i64 m, .slice A n c]] w fun e w' => e = .returned (.int .i64 m) ∧ Below w.heap.size w w' := by
 have hu58 := Try.underlying58
 go_enter Try.func110, Try.ntmps110
 go_wp2
 go_ret
 exact ⟨rfl, below_alloc (Below.refl _ _) _⟩
/-- an entry by way of the half that is not mirrored -/
def lowAt (n2 : Int) (m : List Int) (i j : Int) : Int := if j / 2 > i / 2 then rd m (nbar j * n2 + nbar i) else rd m (i * n2 + j)
set_option maxHeartbeats 8000000 in
set_option maxRecDepth 100000 in
theorem oct_lower_at_any (n : Nat) (A : Option Addr) (c : Nat) (m : List Int) (i j : Int) (w : World) (hr : Kd.C (Kd.int .i64) w A m.length m) (hc : m.length ≤ c) (hn : n ≤ 8) (hm : (m.length : Int) = (2 * (n : Int)) * (2 * (n : Int)))
 (h0 : 0 ≤ i) (h1 : i < 2 * (n : Int)) (h2 : 0 ≤ j) (h3 : j < 2 * (n : Int)) :
 Calls Try.prog 111 #[.agg #[.int .i64 (2 * (n : Int)), .slice A m.length c], .int .i64 i, .int .i64 j] w fun e w' => e = .returned (.int .i64 (lowAt (2 * (n : Int)) m i j)) ∧ Below w.heap.size w w' := by
 have hu58 := Try.underlying58
 have hu85 := Try.underlying85
 have nj := nbar_in (i := j) (n := n) h2 h3
 have ni := nbar_in (i := i) (n := n) h0 h1
 have a1 := at_ok (n := n) (m := m) (i := i) (j := j) hn hm h0 h1 h2 h3
 have a2 := at_ok (n := n) (m := m) (i := nbar j) (j := nbar i) hn hm nj.1 nj.2 ni.1 ni.2
 have b1 : oct_bar.f j = some (nbar j) := by unfold oct_bar.f; rw [if_pos ⟨h2, by omega⟩]
 have b2 : oct_bar.f i = some (nbar i) := by unfold oct_bar.f; rw [if_pos ⟨h0, by omega⟩]
 have HR := Aside0.mk hr
 obtain ⟨i2, hi2⟩ : ∃ i2 : Int, i / 2 = i2 := ⟨_, rfl⟩
 obtain ⟨j2, hj2⟩ : ∃ j2 : Int, j / 2 = j2 := ⟨_, rfl⟩
 have d1 : i.tdiv 2 = i2 := by rw [Int.tdiv_eq_ediv_of_nonneg h0]; exact hi2
 have d2 : j.tdiv 2 = j2 := by rw [Int.tdiv_eq_ediv_of_nonneg h2]; exact hj2
 have d3 : wrap64 i2 = i2 := by unfold wrap64; omega
 have d4 : wrap64 j2 = j2 := by unfold wrap64; omega
 by_cases hlt : j / 2 > i / 2
 ·
  have e : lowAt (2 * (n : Int)) m i j = rd m (nbar j * (2 * (n : Int)) + nbar i) := by unfold lowAt; rw [if_pos hlt]
  rw [e]
  obtain ⟨n2, hn2⟩ : ∃ n2 : Int, 2 * (n : Int) = n2 := ⟨_, rfl⟩
  rw [hn2] at a2 ⊢
  obtain ⟨p, hp⟩ : ∃ p, nbar j = p := ⟨_, rfl⟩
  obtain ⟨q, hq⟩ : ∃ q, nbar i = q := ⟨_, rfl⟩
  rw [hp, hq] at a2 ⊢
  rw [hp] at b1
  rw [hq] at b2
  obtain ⟨y, hy⟩ : ∃ y, rd m (p * n2 + q) = y := ⟨_, rfl⟩
  rw [hy] at a2 ⊢
  have C2 := Aside0.mk (fun W (hW : Kd.C (Kd.int .i64) W A m.length m) => oct_full_at.calls n2 A c m p q y W hW hc a2)
  have B1 := Aside0.mk (fun W => oct_bar_still j p W b1)
  have B2 := Aside0.mk (fun W => oct_bar_still i q W b2)
  have f1 : decide (i2 < j2) = true := decide_eq_true (by omega)
  clear nj ni a1 a2 b1 b2 hr hlt hi2 hj2 e hy hp hq hm hn hn2 h1 h3 h0 h2 hc
  go_enter Try.func111, Try.ntmps111
  go_wp2_with (first | (go_at_call 52; (with_reducible refine (B1.out _).mono ?_); rintro e w' ⟨rfl, rfl⟩) | (go_at_call 52; (with_reducible refine (B2.out _).mono ?_); rintro e w' ⟨rfl, rfl⟩) | (go_at_call 51; (with_reducible refine (C2.out _ ?s1).mono ?_); (case s1 => exact Kd.C_alloc HR.out _); rintro e w1 ⟨rfl, hb⟩))
  go_ret
  exact ⟨rfl, (below_alloc (Below.refl _ _) _).trans (hb.mono (by simp))⟩
 ·
  have e : lowAt (2 * (n : Int)) m i j = rd m (i * (2 * (n : Int)) + j) := by unfold lowAt; rw [if_neg hlt]
  rw [e]
  obtain ⟨n2, hn2⟩ : ∃ n2 : Int, 2 * (n : Int) = n2 := ⟨_, rfl⟩
  rw [hn2] at a1 ⊢
  obtain ⟨y, hy⟩ : ∃ y, rd m (i * n2 + j) = y := ⟨_, rfl⟩
  rw [hy] at a1 ⊢
  have C1 := Aside0.mk (fun W (hW : Kd.C (Kd.int .i64) W A m.length m) => oct_full_at.calls n2 A c m i j y W hW hc a1)
  have f1 : decide (i2 < j2) = false := decide_eq_false (by omega)
  clear nj ni a1 a2 b1 b2 hr hlt hi2 hj2 e hy hm hn hn2 h1 h3 h0 h2 hc
  go_enter Try.func111, Try.ntmps111
  go_wp2_with (go_at_call 51; (with_reducible refine (C1.out _ ?s1).mono ?_); (case s1 => exact Kd.C_alloc HR.out _); rintro e w1 ⟨rfl, hb⟩)
  go_ret
  exact ⟨rfl, (below_alloc (Below.refl _ _) _).trans (hb.mono (by simp))⟩
end Go.Proofs.Ytomgebmimgaojaa.QO
end
end
section
/- Written by a program of this session out of the translation. -/
noncomputable section
namespace Go.Proofs.Ytomgebmimgaojaa.QO
open Go.RowKit Go.Proofs.YtomgebmimgaojaaW.PrintWords Go.Proofs.YtomgebmimgaojaaW.PrintLast
set_option linter.unusedVariables false
set_option linter.unusedSimpArgs false
/-! ### oct_less: function 90 -/
/-- the entry that stands for math/bits.Sub64 -/
def sub64Row : Array Value → Sem Value := fun args => do
 let (x, y, b) ← Extern.MathBitsCarry.three "Sub64" args
 pure (Extern.MathBitsCarry.pair ((x + Extern.MathBitsCarry.m64 - y - b) % Extern.MathBitsCarry.m64) (if x < y + b then 1 else 0))
theorem run_sub64Row (x y b : Nat) (hb : b ≤ 1) (w : World) :
 (sub64Row #[.int .u64 x, .int .u64 y, .int .u64 b]).run Try.prog w =
  .ok (.tuple #[.int .u64 (((x + 18446744073709551616 - y - b) % 18446744073709551616 : Nat) : Int), .int .u64 ((if x < y + b then 1 else 0 : Nat) : Int)]) w := by
 have : b = 0 ∨ b = 1 := by omega
 rcases this with rfl | rfl <;> rfl
theorem sub64_call (x y b : Nat) (hb : b ≤ 1) (w : World) :
 (callFunc 94 #[.int .u64 x, .int .u64 y, .int .u64 b]).run Try.prog w =
  .ok (.value (.tuple #[.int .u64 (((x + 18446744073709551616 - y - b) % 18446744073709551616 : Nat) : Int), .int .u64 ((if x < y + b then 1 else 0 : Nat) : Int)])) w := by
 rw [run_callFunc_extern Try.func94 (by kernel_rfl) (by kernel_rfl) (by kernel_rfl) (e := sub64Row) (by kernel_rfl), run_sub64Row x y b hb]
 rfl
theorem sub64_int (x y c : Int) (w : World) (hx : 0 ≤ x) (hx' : x < 18446744073709551616) (hy : 0 ≤ y) (hy' : y < 18446744073709551616) (hc : 0 ≤ c) (hc' : c ≤ 1) :
 (callFunc 94 #[.int .u64 x, .int .u64 y, .int .u64 c]).run Try.prog w = .ok (.value (.tuple #[.int .u64 ((x - y - c) % 18446744073709551616), .int .u64 (if x < y + c then 1 else 0)])) w := by
 obtain ⟨x, rfl⟩ := Int.eq_ofNat_of_zero_le hx
 obtain ⟨y, rfl⟩ := Int.eq_ofNat_of_zero_le hy
 obtain ⟨c, rfl⟩ := Int.eq_ofNat_of_zero_le hc
 rw [sub64_call x y c (by omega) w]
 have e1 : (((x + 18446744073709551616 - y - c) % 18446744073709551616 : Nat) : Int) = ((x : Int) - y - c) % 18446744073709551616 := by omega
 have e2 : ((if x < y + c then 1 else 0 : Nat) : Int) = if (x : Int) < y + c then 1 else 0 := by split <;> split <;> omega
 rw [e1, e2]
theorem u64_in (x : Int) : 0 ≤ IntKind.u64.wrap x ∧ IntKind.u64.wrap x < 18446744073709551616 := by rw [IntKind.wrap_u64]; omega
theorem less_lo (a b : Int) : (IntKind.u64.wrap b - IntKind.u64.wrap a - 0) % 18446744073709551616 = (b - a) % 18446744073709551616 := by
 rw [IntKind.wrap_u64, IntKind.wrap_u64, Int.sub_zero, ← Int.sub_emod]
theorem less_num (a b hi bo : Int) (ha : -9223372036854775808 ≤ a ∧ a ≤ 9223372036854775807) (hb : -9223372036854775808 ≤ b ∧ b ≤ 9223372036854775807)
 (hb0 : IntKind.u64.wrap b = b % 18446744073709551616) (ha0 : IntKind.u64.wrap a = a % 18446744073709551616)
 (hb1 : IntKind.u64.wrap (b / 9223372036854775808) = b / 9223372036854775808 % 18446744073709551616) (ha1 : IntKind.u64.wrap (a / 9223372036854775808) = a / 9223372036854775808 % 18446744073709551616)
 (hbo : (if IntKind.u64.wrap b < IntKind.u64.wrap a then 1 else 0) = bo)
 (hhi : (IntKind.u64.wrap (b / 9223372036854775808) - IntKind.u64.wrap (a / 9223372036854775808) - bo) % 18446744073709551616 = hi) :
 IntKind.i64.wrap hi = (b - a) / 18446744073709551616 := by
 rw [hb0, ha0] at hbo
 rw [hb1, ha1] at hhi
 have B : (b < 0 ∧ b % 18446744073709551616 = b + 18446744073709551616 ∧ b / 9223372036854775808 % 18446744073709551616 = 18446744073709551615) ∨ (0 ≤ b ∧ b % 18446744073709551616 = b ∧ b / 9223372036854775808 % 18446744073709551616 = 0) := by omega
 have A : (a < 0 ∧ a % 18446744073709551616 = a + 18446744073709551616 ∧ a / 9223372036854775808 % 18446744073709551616 = 18446744073709551615) ∨ (0 ≤ a ∧ a % 18446744073709551616 = a ∧ a / 9223372036854775808 % 18446744073709551616 = 0) := by omega
 have D : (b - a) / 18446744073709551616 = if b < a then -1 else 0 := by split <;> omega
 rw [D, IntKind.wrap_i64]
 clear D hb0 ha0 hb1 ha1
 generalize b / 9223372036854775808 % 18446744073709551616 = b1 at *
 generalize a / 9223372036854775808 % 18446744073709551616 = a1 at *
 generalize b % 18446744073709551616 = b2 at *
 generalize a % 18446744073709551616 = a2 at *
 rcases B with ⟨B1, rfl, rfl⟩ | ⟨B1, rfl, rfl⟩ <;> rcases A with ⟨A1, rfl, rfl⟩ | ⟨A1, rfl, rfl⟩ <;> split at hbo <;> subst hbo <;> subst hhi <;> split <;> omega
set_option maxHeartbeats 8000000 in
set_option maxRecDepth 100000 in
theorem oct_less_any (a b : Int) (w : World) (ha : -9223372036854775808 ≤ a ∧ a ≤ 9223372036854775807) (hb : -9223372036854775808 ≤ b ∧ b ≤ 9223372036854775807) :
 Calls Try.prog 90 #[.int .i64 a, .int .i64 b] w fun e w' => e = .returned (.tuple #[.int .i64 ((b - a) / 18446744073709551616), .int .u64 ((b - a) % 18446744073709551616)]) ∧ Drawn0 w w' := by
 have hb0 := IntKind.wrap_u64 b
 have ha0 := IntKind.wrap_u64 a
 have hb1 := IntKind.wrap_u64 (b / 9223372036854775808)
 have ha1 := IntKind.wrap_u64 (a / 9223372036854775808)
 obtain ⟨lo, hlo⟩ : ∃ lo : Int, (IntKind.u64.wrap b - IntKind.u64.wrap a - 0) % 18446744073709551616 = lo := ⟨_, rfl⟩
 obtain ⟨bo, hbo⟩ : ∃ bo : Int, (if IntKind.u64.wrap b < IntKind.u64.wrap a + 0 then 1 else 0) = bo := ⟨_, rfl⟩
 obtain ⟨hi, hhi⟩ : ∃ hi : Int, (IntKind.u64.wrap (b / 9223372036854775808) - IntKind.u64.wrap (a / 9223372036854775808) - bo) % 18446744073709551616 = hi := ⟨_, rfl⟩
 obtain ⟨bp, hbp⟩ : ∃ bp : Int, (if IntKind.u64.wrap (b / 9223372036854775808) < IntKind.u64.wrap (a / 9223372036854775808) + bo then 1 else 0) = bp := ⟨_, rfl⟩
 have hbo2 : 0 ≤ bo ∧ bo ≤ 1 := by rw [← hbo]; split <;> decide
 have h1 : ∀ w, (callFunc 94 #[.int .u64 (IntKind.u64.wrap b), .int .u64 (IntKind.u64.wrap a), .int .u64 0]).run Try.prog w = .ok (.value (.tuple #[.int .u64 lo, .int .u64 bo])) w := by
  intro w
  rw [sub64_int _ _ 0 w (u64_in _).1 (u64_in _).2 (u64_in _).1 (u64_in _).2 (by decide) (by decide), hlo, hbo]
 have h2 : ∀ w, (callFunc 94 #[.int .u64 (IntKind.u64.wrap (b / 9223372036854775808)), .int .u64 (IntKind.u64.wrap (a / 9223372036854775808)), .int .u64 bo]).run Try.prog w = .ok (.value (.tuple #[.int .u64 hi, .int .u64 bp])) w := by
  intro w
  rw [sub64_int _ _ bo w (u64_in _).1 (u64_in _).2 (u64_in _).1 (u64_in _).2 hbo2.1 hbo2.2, hhi, hbp]
 have e1 : lo = (b - a) % 18446744073709551616 := by rw [← hlo]; exact less_lo a b
 have e2 : wrap64 hi = (b - a) / 18446744073709551616 := by
  rw [Int.add_zero] at hbo
  unfold wrap64
  rw [← IntKind.wrap_i64]
  exact less_num a b hi bo ha hb hb0 ha0 hb1 ha1 hbo hhi
 have E1 := Aside0.mk e1
 have E2 := Aside0.mk e2
 clear hb0 ha0 hb1 ha1 hlo hbo hhi hbp hbo2 e1 e2 ha hb
 go_enter Try.func90, Try.ntmps90
 go_wp2
 go_ret2
 refine ⟨?_, Drawn0.refl _⟩
 rw [← E1.out, ← E2.out]
 rfl
end Go.Proofs.Ytomgebmimgaojaa.QO
end
end
section
/- Written by a program of this session out of the translation. -/
noncomputable section
namespace Go.Proofs.Ytomgebmimgaojaa.QO
open Go.RowKit Go.Proofs.YtomgebmimgaojaaW.PrintWords Go.Proofs.YtomgebmimgaojaaW.PrintLast
set_option linter.unusedVariables false
set_option linter.unusedSimpArgs false
/-! ### oct_above: function 69 -/
/-- is b - a above c? -/
def oct_above.f (a0 : Int) (a1 : Int) (a2 : Int) : Option Bool :=
 if (-9223372036854775808 ≤ a0 ∧ a0 ≤ 9223372036854775807) ∧ (-9223372036854775808 ≤ a1 ∧ a1 ≤ 9223372036854775807) ∧ (-9223372036854775808 ≤ a2 ∧ a2 ≤ 9223372036854775807) then some (decide (a1 - a0 > a2)) else none
set_option maxHeartbeats 8000000 in
set_option maxRecDepth 100000 in
theorem oct_above.calls (a0 : Int) (a1 : Int) (a2 : Int) (r : Bool) (w : World) (h : oct_above.f a0 a1 a2 = some r) :
 Calls Try.prog 69 #[.int .i64 a0, .int .i64 a1, .int .i64 a2] w fun e w' => e = .returned (.bool r) ∧ Drawn0 w w' := by
 unfold oct_above.f at h
 by_cases hc : (-9223372036854775808 ≤ a0 ∧ a0 ≤ 9223372036854775807) ∧ (-9223372036854775808 ≤ a1 ∧ a1 ≤ 9223372036854775807) ∧ (-9223372036854775808 ≤ a2 ∧ a2 ≤ 9223372036854775807)
 ·
  rw [if_pos hc] at h
  obtain rfl := Option.some.inj h
  clear h
  obtain ⟨h0, h1, h2⟩ := hc
  have hw := IntKind.wrap_u64 a2
  obtain ⟨hi, hhi⟩ : ∃ hi : Int, (a1 - a0) / 18446744073709551616 = hi := ⟨_, rfl⟩
  obtain ⟨lo, hlo⟩ : ∃ lo : Int, (a1 - a0) % 18446744073709551616 = lo := ⟨_, rfl⟩
  have HL := fun W => oct_less_any a0 a1 W h0 h1
  rw [hhi, hlo] at HL
  have HC := Aside0.mk HL
  clear HL
  by_cases hne : hi = a2 / 9223372036854775808
  ·
   have f1 : (hi != a2 / 9223372036854775808) = false := by rw [hne]; simp
   have E : Aside0 (decide (IntKind.u64.wrap a2 < lo) = decide (a1 - a0 > a2)) := ⟨by rw [decide_eq_decide]; omega⟩
   clear hw hhi hlo h0 h1 h2 hne
   go_enter Try.func69, Try.ntmps69
   go_wp2_with (go_at_call 90; (with_reducible refine (HC.out _).mono ?_); rintro e w1 ⟨rfl, ⟨nd, rfl⟩⟩)
   go_ret
   refine ⟨?_, ⟨_, rfl⟩⟩
   rw [← E.out]; rfl
  ·
   have f1 : (hi != a2 / 9223372036854775808) = true := by simpa using hne
   have E : Aside0 (decide (a2 / 9223372036854775808 < hi) = decide (a1 - a0 > a2)) := ⟨by rw [decide_eq_decide]; omega⟩
   clear hw hhi hlo h0 h1 h2 hne
   go_enter Try.func69, Try.ntmps69
   go_wp2_with (go_at_call 90; (with_reducible refine (HC.out _).mono ?_); rintro e w1 ⟨rfl, ⟨nd, rfl⟩⟩)
   go_ret
   refine ⟨?_, ⟨_, rfl⟩⟩
   rw [← E.out]; rfl
 ·
  rw [if_neg hc] at h
  exact absurd h (by simp)
end Go.Proofs.Ytomgebmimgaojaa.QO
end
end
section
/- Written by a program of this session out of the translation. -/
noncomputable section
namespace Go.Proofs.Ytomgebmimgaojaa.QO
open Go.RowKit Go.Proofs.YtomgebmimgaojaaW.PrintWords Go.Proofs.YtomgebmimgaojaaW.PrintLast
set_option linter.unusedVariables false
set_option linter.unusedSimpArgs false
/-! ### bound_Fit: function 83 -/
def bfit (a : Int) : Int := if a < -4611686018427387904 then -4611686018427387904 else if a > 4611686018427387904 then 4611686018427387904 else a
theorem bfit_in (a : Int) : -4611686018427387904 ≤ bfit a ∧ bfit a ≤ 4611686018427387904 := by unfold bfit; split <;> (try split) <;> omega
theorem bfit_id {a : Int} (h : -4611686018427387904 ≤ a) (h' : a ≤ 4611686018427387904) : bfit a = a := by unfold bfit; rw [if_neg (by omega), if_neg (by omega)]
theorem w64 {x : Int} (h : -9223372036854775808 ≤ x) (h' : x ≤ 9223372036854775807) : wrap64 x = x := by unfold wrap64; omega
theorem bcell {W w1 : World} (hb : Below W.heap.size W w1) : (∀ b o, b < W.heap.size → w1.cell? ⟨b, o, none⟩ = W.cell? ⟨b, o, none⟩) ∧ (∀ b o, b < W.heap.size → w1.frozen? ⟨b, o, none⟩ = W.frozen? ⟨b, o, none⟩) :=
 ⟨fun b o h => hb.cell (p := ⟨b, o, none⟩) h, fun b o h => hb.frozen (p := ⟨b, o, none⟩) h⟩
def bound_Fit.f (a0 : Int) : Option (Int) := some (bfit a0)
set_option maxHeartbeats 8000000 in
set_option maxRecDepth 100000 in
theorem bound_Fit.calls (a0 : Int) (r : Int) (w : World) (h : bound_Fit.f a0 = some r) :
 Calls Try.prog 83 #[.int .i64 a0] w fun e w' => e = .returned (.int .i64 r) ∧ Drawn0 w w' := by
 obtain rfl := Option.some.inj h
 clear h
 go_enter Try.func83, Try.ntmps83
 go_wp2
 all_goals
  go_ret
  refine ⟨?_, Drawn0.refl _⟩
  first
   | (rw [show bfit a0 = 4611686018427387904 by unfold bfit; (repeat' split) <;> omega]; rfl)
   | (rw [show bfit a0 = -4611686018427387904 by unfold bfit; (repeat' split) <;> omega]; rfl)
   | (rw [show bfit a0 = a0 by unfold bfit; (repeat' split) <;> omega]; rfl)
end Go.Proofs.Ytomgebmimgaojaa.QO
end
end
section
/- Written by a program of this session out of the translation. -/
namespace Go.Proofs.Ytomgebmimgaojaa.QO
open Go.RowKit Go.Proofs.YtomgebmimgaojaaW.PrintWords Go.Proofs.YtomgebmimgaojaaW.PrintLast
set_option linter.unusedVariables false
set_option linter.unusedSimpArgs false
/-! ### oct_Has: function 34 -/
/-- a node's value -/
def sgn (v : List Int) (i : Int) : Int := if i % 2 = 1 then - rd v (i / 2) else rd v (i / 2)
/-- the values are in it -/
def HasP (vars m : List Int) (empty : Bool) (v : List Int) : Prop :=
 empty = false ∧ OFit vars m empty ∧ v.length = vars.length ∧ (∀ k : Int, 0 ≤ k → k < v.length → -4611686018427387904 < rd v k ∧ rd v k < 4611686018427387904) ∧
 ∀ i j : Int, 0 ≤ i → i < 2 * (vars.length : Int) → 0 ≤ j → j < 2 * (vars.length : Int) → rd m (i * (2 * (vars.length : Int)) + j) = 4611686018427387904 ∨ sgn v j - sgn v i ≤ rd m (i * (2 * (vars.length : Int)) + j)
theorem Box1.one {w W : World} {g : Nat} {a : Value} {t : Nat} (h : Box1 w g #[a] t W) : W.cell? ⟨g, 0, none⟩ = some a := (blk_cell h.box 0).trans rfl
theorem Box1.three' {w W : World} {g : Nat} {a b c : Value} {t : Nat} (h : Box1 w g #[a, b, c] t W) : W.cell? ⟨g, 0, none⟩ = some a ∧ W.cell? ⟨g, 1, none⟩ = some b ∧ W.cell? ⟨g, 2, none⟩ = some c := ⟨(blk_cell h.box 0).trans rfl, (blk_cell h.box 1).trans rfl, (blk_cell h.box 2).trans rfl⟩
noncomputable def hasB (vars m : List Int) (empty : Bool) (v : List Int) : Bool := @decide (HasP vars m empty v) (Classical.propDecidable _)
theorem hasB_true {vars m : List Int} {empty : Bool} {v : List Int} : hasB vars m empty v = true ↔ HasP vars m empty v := by unfold hasB; exact @decide_eq_true_iff _ (Classical.propDecidable _)
theorem hasB_false {vars m : List Int} {empty : Bool} {v : List Int} : hasB vars m empty v = false ↔ ¬ HasP vars m empty v := by unfold hasB; exact @decide_eq_false_iff_not _ (Classical.propDecidable _)
noncomputable def oct_Has.f (l0_0 : List Int) (l0_1 : List Int) (a0_2 : Bool) (l1 : List Int) : Option Bool := if l0_0.length ≤ 17592186044416 ∧ l1.length ≤ 17592186044416 then some (hasB l0_0 l0_1 a0_2 l1) else none
/-- of a sound octagon both halves say the same -/
theorem lowAt_eq {vars m : List Int} (h : OFit vars m false) {i j : Int} (h0 : 0 ≤ i) (h1 : i < 2 * (vars.length : Int)) (h2 : 0 ≤ j) (h3 : j < 2 * (vars.length : Int)) : lowAt (2 * (vars.length : Int)) m i j = rd m (i * (2 * (vars.length : Int)) + j) := by
 unfold lowAt; split
 ·
  exact (((h.2.2 rfl).2 i j h0 h1 h2 h3).2.2).symm
 ·
  rfl
set_option maxHeartbeats 8000000 in
set_option maxRecDepth 100000 in
theorem oct_sgn_any (A : Option Addr) (c : Nat) (v : List Int) (i : Int) (B : Nat) (W : World) (hr : Kd.C (Kd.int .i64) W A v.length v) (hb : W.cell? ⟨B, 0, none⟩ = some (.slice A v.length c)) (h0 : 0 ≤ i) (h1 : i < 16) (h2 : i / 2 < v.length) (h3 : -4611686018427387904 < rd v (i / 2) ∧ rd v (i / 2) < 4611686018427387904) :
 Calls Try.prog 68 #[.int .i64 i, .pointer (some ⟨B, 0, none⟩)] W fun e w' => e = .returned (.int .i64 (sgn v i)) ∧ w' = W := by
 obtain ⟨k, hk⟩ : ∃ k : Int, i / 2 = k := ⟨_, rfl⟩
 rw [hk] at h2 h3
 have k0 : 0 ≤ k := by omega
 obtain ⟨ad, e0, hx⟩ := Kd.at_int hr k k0 h2
 cases e0
 have d1 : i.tdiv 2 = k := by rw [Int.tdiv_eq_ediv_of_nonneg h0]; exact hk
 have d3 : wrap64 k = k := by unfold wrap64; omega
 obtain ⟨m, hm⟩ : ∃ m : Int, i % 2 = m := ⟨_, rfl⟩
 have d2 : i.tmod 2 = m := by rw [Int.tmod_eq_emod_of_nonneg h0]; exact hm
 have d4 : wrap64 m = m := by unfold wrap64; omega
 have hs : sgn v i = if m = 1 then - rd v k else rd v k := by unfold sgn; rw [hm, hk]
 rw [hs]
 obtain ⟨x, hxx⟩ : ∃ x, rd v k = x := ⟨_, rfl⟩
 rw [hxx] at hx h3 ⊢
 have d5 : wrap64 (-x) = -x := by unfold wrap64; omega
 have k1 := eq_true k0
 have k2 := eq_true h2
 by_cases hc : m = 1
 ·
  rw [if_pos hc]
  have f1 : (m == 1) = true := by simpa using hc
  clear hr h0 h1 h2 h3 k0 hk hm hs hxx hc
  go_enter Try.func68, Try.ntmps68
  go_wp2
  go_ret
  refine ⟨?_, rfl⟩
  first | rfl | (show Ending.returned (Value.int IntKind.i64 (wrap64 (-x))) = _; rw [d5])
 ·
  rw [if_neg hc]
  have f1 : (m == 1) = false := by simpa using hc
  clear hr h0 h1 h2 h3 k0 hk hm hs hxx hc
  go_enter Try.func68, Try.ntmps68
  go_wp2
  go_ret
  refine ⟨?_, rfl⟩
  first | rfl | (show Ending.returned (Value.int IntKind.i64 (wrap64 (-x))) = _; rw [d5])
set_option maxHeartbeats 8000000 in
set_option maxRecDepth 100000 in
theorem oct_Has.calls (A0_0 : Option Addr) (c0_0 : Nat) (l0_0 : List Int) (A0_1 : Option Addr) (c0_1 : Nat) (l0_1 : List Int) (a0_2 : Bool) (A1 : Option Addr) (c1 : Nat) (l1 : List Int) (r : Bool) (w : World) (hr0_0 : Kd.C (Kd.int .i64) w A0_0 l0_0.length l0_0) (hc0_0 : l0_0.length ≤ c0_0) (hr0_1 : Kd.C (Kd.int .i64) w A0_1 l0_1.length l0_1) (hc0_1 : l0_1.length ≤ c0_1) (hr1 : Kd.C (Kd.int .i64) w A1 l1.length l1) (hc1 : l1.length ≤ c1) (h : oct_Has.f l0_0 l0_1 a0_2 l1 = some r) :
 Calls Try.prog 34 #[.agg #[.slice A0_0 l0_0.length c0_0, .slice A0_1 l0_1.length c0_1, .bool a0_2], .slice A1 l1.length c1] w fun e w' => e = .returned (.bool r) ∧ Below w.heap.size w w' := by
 have hu25 := Try.underlying25
 have HR0 := Aside0.mk hr0_0
 have HR1 := Aside0.mk hr0_1
 have HR2 := Aside0.mk hr1
 have HC0 := Aside0.mk hc0_0
 have HC1 := Aside0.mk hc0_1
 have HC2 := Aside0.mk hc1
 clear hr0_0 hr0_1 hc0_0 hc0_1 hr1 hc1
 unfold oct_Has.f at h
 by_cases hlen : l0_0.length ≤ 17592186044416 ∧ l1.length ≤ 17592186044416
 ·
  rw [if_pos hlen] at h
  have HV := Aside0.mk (Option.some.inj h)
  clear h
  have HLEN := Aside0.mk hlen
  clear hlen
  cases a0_2 with
  | true =>
   go_enter Try.func34, Try.ntmps34
   go_wp2
   go_ret
   refine ⟨?_, by repeat (first | exact Below.refl _ _ | (with_reducible apply below_alloc) | (with_reducible apply pw_below_drewN) | (with_reducible apply below_drew))⟩
   rw [← HV.out, hasB_false.2 (fun h => by cases h.1)]
   rfl
  | false =>
   cases hf : ofitB l0_0 l0_1 false with
   | false =>
    have HF := Aside0.mk (fun W (h0 : Kd.C (Kd.int .i64) W A0_0 l0_0.length l0_0) (h1 : Kd.C (Kd.int .i64) W A0_1 l0_1.length l0_1) => oct_Fit.calls A0_0 c0_0 l0_0 A0_1 c0_1 l0_1 false false W h0 HC0.out h1 HC1.out (by unfold oct_Fit.f; rw [if_pos HLEN.out.1, hf]))
    have HN := Aside0.mk (ofitB_false.1 hf)
    clear hf
    go_enter Try.func34, Try.ntmps34
    go_wp2_with (go_at_call 18; (with_reducible refine (HF.out _ ?s1 ?s2).mono ?_); (case s1 => repeat (first | exact HR0.out | (with_reducible refine Kd.C_alloc ?_ _))); (case s2 => repeat (first | exact HR1.out | (with_reducible refine Kd.C_alloc ?_ _))); rintro e w1 ⟨rfl, hb⟩)
    go_ret
    refine ⟨?_, (below_alloc (below_alloc (Below.refl _ _) _) _).trans (hb.mono (by simp; omega))⟩
    rw [← HV.out, hasB_false.2 (fun h => HN.out h.2.1)]
    rfl
   | true =>
    have HF := Aside0.mk (fun W (h0 : Kd.C (Kd.int .i64) W A0_0 l0_0.length l0_0) (h1 : Kd.C (Kd.int .i64) W A0_1 l0_1.length l0_1) => oct_Fit.calls A0_0 c0_0 l0_0 A0_1 c0_1 l0_1 false true W h0 HC0.out h1 HC1.out (by unfold oct_Fit.f; rw [if_pos HLEN.out.1, hf]))
    have HT := Aside0.mk (ofitB_true.1 hf)
    clear hf
    by_cases hl : l1.length = l0_0.length
    ·
     have f1 : ((l1.length : Int) != (l0_0.length : Int)) = false := by rw [hl]; simp
     have f2 : (l1.length != l0_0.length) = false := by rw [hl]; simp
     have HL := Aside0.mk hl
     clear hl
     go_enter Try.func34, Try.ntmps34
     have hB0 : Box1 w w.heap.size #[.slice A0_0 l0_0.length c0_0, .slice A0_1 l0_1.length c0_1, .bool false] 25 ((w.alloc (.cells #[.slice A0_0 l0_0.length c0_0, .slice A0_1 l0_1.length c0_1, .bool false] 25)).alloc (.cells #[.slice A1 l1.length c1] 23)) := Box1.alloc (box1_new (Below.refl _ _) rfl) _
     have hB1 : Box1 w (w.heap.size + 1) #[.slice A1 l1.length c1] 23 ((w.alloc (.cells #[.slice A0_0 l0_0.length c0_0, .slice A0_1 l0_1.length c0_1, .bool false] 25)).alloc (.cells #[.slice A1 l1.length c1] 23)) := box1_new (below_alloc (Below.refl _ _) _) (by simp)
     have HX := Aside0.mk hB0
     have HY := Aside0.mk hB1
     clear hB0 hB1
     go_upto_region 3 with (go_at_call 18; (with_reducible refine (HF.out _ ?s1 ?s2).mono ?_); (case s1 => repeat (first | exact HR0.out | (with_reducible refine Kd.C_alloc ?_ _))); (case s2 => repeat (first | exact HR1.out | (with_reducible refine Kd.C_alloc ?_ _))); rintro e w1 ⟨rfl, hb⟩; obtain ⟨hcc, hff⟩ := bcell hb; have hz := hb.size; rw [World.size_alloc, World.size_alloc] at hz)
     have nX := Aside0.mk (HX.out.next hb)
     have nY := Aside0.mk (HY.out.next hb)
     clear HX HY hb hcc hff hz
     have HX := nX
     have HY := nY
     clear nX nY
     obtain ⟨hx0, hx1, hx2⟩ := HX.out.three'
     have hy0 := HY.out.one
     go_wp2_with fail
     go_loopg [6, 29] l1.length (fun gg _ s29 wr => ∃ k : Int, s29 = .int .i64 k ∧ Aside0 (0 ≤ k ∧ k ≤ l1.length ∧ l1.length - k.toNat ≤ gg) ∧ Aside0 (Box1 w w.heap.size #[.slice A0_0 l0_0.length c0_0, .slice A0_1 l0_1.length c0_1, .bool false] 25 wr) ∧ Aside0 (Box1 w (w.heap.size + 1) #[.slice A1 l1.length c1] 23 wr) ∧ Aside0 (∀ a : Int, 0 ≤ a → a < k → -4611686018427387904 < rd l1 a ∧ rd l1 a < 4611686018427387904))
     case atStart => exact ⟨0, rfl, ⟨by omega, by omega, by omega⟩, HX, HY, ⟨fun a h0 h1 => absurd h1 (by omega)⟩⟩
     case round =>
      clear HX HY hx0 hx1 hx2 hy0
      obtain ⟨k, rfl, HK, HX, HY, HA⟩ := hrel
      by_cases hlt : k < (l1.length : Int)
      ·
       have c6b0 : decide (k < (l1.length : Int)) = true := decide_eq_true hlt
       have p0 : 0 ≤ k := HK.out.1
       obtain ⟨ad, e0, hx⟩ := Kd.at_int (Kd.C_below HR2.out HX.out.below) k p0 hlt
       cases e0
       have HQ := Aside0.mk hlt
       obtain ⟨x, hxx⟩ : ∃ x, rd l1 k = x := ⟨_, rfl⟩
       rw [hxx] at hx
       have HXX := Aside0.mk hxx
       clear hxx
       replace p0 := eq_true p0
       replace hlt := eq_true hlt
       by_cases c1 : 4611686018427387904 ≤ x
       ·
        have f3 : decide (4611686018427387904 ≤ x) = true := decide_eq_true c1
        have HC := Aside0.mk c1
        clear c1
        go_wp2
        go_ret
        refine ⟨?_, HX.out.below⟩
        rw [← HV.out, hasB_false.2 (fun h => by have h1 := HK.out; have h2 := HQ.out; have h3 := (h.2.2.2.1 k h1.1 h2).2; rw [HXX.out] at h3; have := HC.out; omega)]
        rfl
       ·
        have f3 : decide (4611686018427387904 ≤ x) = false := decide_eq_false c1
        have HC := Aside0.mk c1
        clear c1
        by_cases c2 : x ≤ -4611686018427387904
        ·
         have f4 : decide (x ≤ -4611686018427387904) = true := decide_eq_true c2
         have HD := Aside0.mk c2
         clear c2
         go_wp2
         go_ret
         refine ⟨?_, HX.out.below⟩
         rw [← HV.out, hasB_false.2 (fun h => by have h1 := HK.out; have h2 := HQ.out; have h3 := (h.2.2.2.1 k h1.1 h2).1; rw [HXX.out] at h3; have := HD.out; omega)]
         rfl
        ·
         have f4 : decide (x ≤ -4611686018427387904) = false := decide_eq_false c2
         have HD := Aside0.mk c2
         clear c2
         go_wp2
         go_roundg (l1.length - (k.toNat + 1))
         case measure => have h1 := HK.out; have h2 := HQ.out; omega
         case rel =>
          have h1 := HK.out; have h2 := HQ.out; have h3 := HC.out; have h4 := HD.out; have h5 := HLEN.out.2
          have hw : wrap64 (k + 1) = k + 1 := by unfold wrap64; omega
          refine ⟨wrap64 (k + 1), rfl, ⟨by omega, by omega, by omega⟩, HX, HY, ⟨fun a a0 a1 => ?_⟩⟩
          by_cases e : a = k
          ·
           subst e; rw [HXX.out]; omega
          ·
           exact HA.out a a0 (by omega)
      ·
       have c6b0 : decide (k < (l1.length : Int)) = false := decide_eq_false hlt
       have HALL : Aside0 (∀ a : Int, 0 ≤ a → a < l1.length → -4611686018427387904 < rd l1 a ∧ rd l1 a < 4611686018427387904) := ⟨fun a a0 a1 => HA.out a a0 (by omega)⟩
       clear hlt HA HK
       obtain ⟨hx0, hx1, hx2⟩ := HX.out.three'
       have hy0 := HY.out.one
       have hm0 := meth_size
       have hm1 := meth_at
       go_wp2_with (first | (go_at_call 55; (with_reducible refine (oct_of_any _ _ _ _ _ _ _ _ HLEN.out.1).mono ?_); rintro e w1 ⟨rfl, hb⟩; unfold tableV; clear hx0 hx1 hx2 hy0; have nX : Aside0 (Box1 w w.heap.size #[.slice A0_0 l0_0.length c0_0, .slice A0_1 l0_1.length c0_1, .bool false] 25 w1) := ⟨Box1.next HX.out hb⟩; have nY : Aside0 (Box1 w (w.heap.size + 1) #[.slice A1 l1.length c1] 23 w1) := ⟨Box1.next HY.out hb⟩; clear HX HY hb; have HX := nX; have HY := nY; clear nX nY) | (go_at_call 110; (with_reducible refine (oct_size_any _ _ _ _ _).mono ?_); rintro e w1 ⟨rfl, hb⟩; have nX : Aside0 (Box1 w w.heap.size #[.slice A0_0 l0_0.length c0_0, .slice A0_1 l0_1.length c0_1, .bool false] 25 w1) := ⟨Box1.next HX.out hb⟩; have nY : Aside0 (Box1 w (w.heap.size + 1) #[.slice A1 l1.length c1] 23 w1) := ⟨Box1.next HY.out hb⟩; clear HX HY hb; have HX := nX; have HY := nY; clear nX nY))
       go_loopg [9, 10, 11, 45, 49, 50] (2 * l0_0.length) (fun gg _ _ _ s45 _ _ wr => ∃ i : Int, s45 = .int .i64 i ∧ Aside0 (0 ≤ i ∧ i ≤ 2 * (l0_0.length : Int) ∧ 2 * l0_0.length - i.toNat ≤ gg) ∧ Aside0 (Box1 w w.heap.size #[.slice A0_0 l0_0.length c0_0, .slice A0_1 l0_1.length c0_1, .bool false] 25 wr) ∧ Aside0 (Box1 w (w.heap.size + 1) #[.slice A1 l1.length c1] 23 wr) ∧ Aside0 (∀ a b : Int, 0 ≤ a → a < i → 0 ≤ b → b < 2 * (l0_0.length : Int) → rd l0_1 (a * (2 * (l0_0.length : Int)) + b) = 4611686018427387904 ∨ sgn l1 b - sgn l1 a ≤ rd l0_1 (a * (2 * (l0_0.length : Int)) + b)))
       case atStart => exact ⟨0, rfl, ⟨by omega, by omega, by omega⟩, HX, HY, ⟨fun a b h0 h1 => absurd h1 (by omega)⟩⟩
       case round =>
        clear HX HY
        obtain ⟨i, rfl, HI, HX, HY, HA⟩ := hrel
        by_cases hlt : i < 2 * (l0_0.length : Int)
        ·
         have f3 : decide (i < 2 * (l0_0.length : Int)) = true := decide_eq_true hlt
         have HIL := Aside0.mk hlt
         clear hlt
         go_wp2_with (go_at_call 110; (with_reducible refine (oct_size_any _ _ _ _ _).mono ?_); rintro e w1 ⟨rfl, hb⟩; have nX : Aside0 (Box1 w w.heap.size #[.slice A0_0 l0_0.length c0_0, .slice A0_1 l0_1.length c0_1, .bool false] 25 w1) := ⟨Box1.next HX.out hb⟩; have nY : Aside0 (Box1 w (w.heap.size + 1) #[.slice A1 l1.length c1] 23 w1) := ⟨Box1.next HY.out hb⟩; clear HX HY hb; have HX := nX; have HY := nY; clear nX nY)
         go_loopg [10, 11, 50] (2 * l0_0.length) (fun hh _ _ s50 wr => ∃ j : Int, s50 = .int .i64 j ∧ Aside0 (0 ≤ j ∧ j ≤ 2 * (l0_0.length : Int) ∧ 2 * l0_0.length - j.toNat ≤ hh) ∧ Aside0 (Box1 w w.heap.size #[.slice A0_0 l0_0.length c0_0, .slice A0_1 l0_1.length c0_1, .bool false] 25 wr) ∧ Aside0 (Box1 w (w.heap.size + 1) #[.slice A1 l1.length c1] 23 wr) ∧ Aside0 (∀ b : Int, 0 ≤ b → b < j → rd l0_1 (i * (2 * (l0_0.length : Int)) + b) = 4611686018427387904 ∨ sgn l1 b - sgn l1 i ≤ rd l0_1 (i * (2 * (l0_0.length : Int)) + b)))
         case atStart => exact ⟨0, rfl, ⟨by omega, by omega, by omega⟩, HX, HY, ⟨fun b h0 h1 => absurd h1 (by omega)⟩⟩
         case round =>
          clear HX HY
          obtain ⟨j, rfl, HJ, HX, HY, HE⟩ := hrel
          by_cases hlt : j < 2 * (l0_0.length : Int)
          ·
           have f4 : decide (j < 2 * (l0_0.length : Int)) = true := decide_eq_true hlt
           have HJL := Aside0.mk hlt
           clear hlt
           have hi := HI.out; have hj := HJ.out; have hil := HIL.out; have hjl := HJL.out; have hle := HL.out; have h8 := HT.out.1.1
           have hm := ((HT.out.2.2 rfl).1)
           have cq1 := fun W (hW : Kd.C (Kd.int .i64) W A0_1 l0_1.length l0_1) => oct_lower_at_any l0_0.length A0_1 c0_1 l0_1 i j W hW HC1.out h8 hm hi.1 hil hj.1 hjl
           have s1 := fun W (hW : Kd.C (Kd.int .i64) W A1 l1.length l1) (hb : W.cell? ⟨w.heap.size + 1, 0, none⟩ = some (.slice A1 l1.length c1)) => oct_sgn_any A1 c1 l1 i (w.heap.size + 1) W hW hb hi.1 (by omega) (by omega) (HALL.out (i / 2) (by omega) (by omega))
           have s2 := fun W (hW : Kd.C (Kd.int .i64) W A1 l1.length l1) (hb : W.cell? ⟨w.heap.size + 1, 0, none⟩ = some (.slice A1 l1.length c1)) => oct_sgn_any A1 c1 l1 j (w.heap.size + 1) W hW hb hj.1 (by omega) (by omega) (HALL.out (j / 2) (by omega) (by omega))
           have bi : -4611686018427387904 < sgn l1 i ∧ sgn l1 i < 4611686018427387904 := by have := HALL.out (i / 2) (by omega) (by omega); unfold sgn; split <;> omega
           have bj : -4611686018427387904 < sgn l1 j ∧ sgn l1 j < 4611686018427387904 := by have := HALL.out (j / 2) (by omega) (by omega); unfold sgn; split <;> omega
           have hx := lowAt_eq HT.out hi.1 hil hj.1 hjl
           have hxb := ((HT.out.2.2 rfl).2 i j hi.1 hil hj.1 hjl).1
           obtain ⟨x, hxx⟩ : ∃ x, lowAt (2 * (l0_0.length : Int)) l0_1 i j = x := ⟨_, rfl⟩
           rw [hxx] at hx
           rw [← hx] at hxb
           obtain ⟨si, hsi⟩ : ∃ si, sgn l1 i = si := ⟨_, rfl⟩
           obtain ⟨sj, hsj⟩ : ∃ sj, sgn l1 j = sj := ⟨_, rfl⟩
           simp only [hxx] at cq1
           simp only [hsi] at s1
           simp only [hsj] at s2
           rw [hsi] at bi
           rw [hsj] at bj
           have HXI : Aside0 ((rd l0_1 (i * (2 * (l0_0.length : Int)) + j) = 4611686018427387904 ∨ sgn l1 j - sgn l1 i ≤ rd l0_1 (i * (2 * (l0_0.length : Int)) + j)) ↔ (x = 4611686018427387904 ∨ sj - si ≤ x)) := ⟨by rw [← hx, hsi, hsj]⟩
           have C1 := Aside0.mk cq1
           have S1 := Aside0.mk s1
           have S2 := Aside0.mk s2
           have ab := fun W => oct_above.calls si sj x (decide (sj - si > x)) W (by unfold oct_above.f; rw [if_pos ⟨by omega, by omega, by omega⟩])
           clear hi hj hil hjl hle h8 hm cq1 s1 s2 bi bj hx hxb hxx hsi hsj
           by_cases cx : x = 4611686018427387904
           ·
            have f5 : (x != 4611686018427387904) = false := by rw [cx]; simp
            have HCX := Aside0.mk cx
            clear cx ab
            go_wp2_with (go_at_call 111; (with_reducible refine (C1.out _ ?s1).mono ?_); (case s1 => exact Kd.C_below HR1.out HX.out.below); rintro e w1 ⟨rfl, hb⟩; have nX : Aside0 (Box1 w w.heap.size #[.slice A0_0 l0_0.length c0_0, .slice A0_1 l0_1.length c0_1, .bool false] 25 w1) := ⟨Box1.next HX.out hb⟩; have nY : Aside0 (Box1 w (w.heap.size + 1) #[.slice A1 l1.length c1] 23 w1) := ⟨Box1.next HY.out hb⟩; clear HX HY hb; have HX := nX; have HY := nY; clear nX nY)
            go_roundg (2 * l0_0.length - (j.toNat + 1))
            case measure => have h1 := HJ.out; have h2 := HJL.out; omega
            case rel =>
             have h1 := HJ.out; have h2 := HJL.out; have h3 := HLEN.out
             have hw : wrap64 (j + 1) = j + 1 := by unfold wrap64; omega
             refine ⟨wrap64 (j + 1), rfl, ⟨by omega, by omega, by omega⟩, ⟨HX.out⟩, ⟨HY.out⟩, ⟨fun b b0 b1 => ?_⟩⟩
             by_cases e : b = j
             ·
              subst e; exact HXI.out.2 (Or.inl HCX.out)
             ·
              exact HE.out b b0 (by omega)
           ·
            have f5 : (x != 4611686018427387904) = true := by simpa using cx
            have HCX := Aside0.mk cx
            clear cx
            by_cases cy : sj - si > x
            ·
             rw [decide_eq_true cy] at ab
             have AB := Aside0.mk ab
             have HCY := Aside0.mk cy
             clear cy ab
             go_wp2_with (first | (go_at_call 111; (with_reducible refine (C1.out _ ?s1).mono ?_); (case s1 => exact Kd.C_below HR1.out HX.out.below); rintro e w1 ⟨rfl, hb⟩; have nX : Aside0 (Box1 w w.heap.size #[.slice A0_0 l0_0.length c0_0, .slice A0_1 l0_1.length c0_1, .bool false] 25 w1) := ⟨Box1.next HX.out hb⟩; have nY : Aside0 (Box1 w (w.heap.size + 1) #[.slice A1 l1.length c1] 23 w1) := ⟨Box1.next HY.out hb⟩; clear HX HY hb; have HX := nX; have HY := nY; clear nX nY) | (go_at_call 68; (with_reducible refine (S1.out _ ?s1 ?s2).mono ?_); (case s1 => exact Kd.C_below HR2.out HX.out.below); (case s2 => exact HY.out.one); rintro e w1 ⟨rfl, rfl⟩) | (go_at_call 68; (with_reducible refine (S2.out _ ?s1 ?s2).mono ?_); (case s1 => exact Kd.C_below HR2.out HX.out.below); (case s2 => exact HY.out.one); rintro e w1 ⟨rfl, rfl⟩) | (go_at_call 69; (with_reducible refine (AB.out _).mono ?_); rintro e w1 ⟨rfl, ⟨nd, rfl⟩⟩))
             go_ret
             refine ⟨?_, (HX.out.drewN _).below⟩
             rw [← HV.out, hasB_false.2 (fun h => by have h1 := HI.out; have h2 := HIL.out; have h3 := HJ.out; have h4 := HJL.out; have h5 := HXI.out.1 (h.2.2.2.2 i j h1.1 h2 h3.1 h4); have h6 := HCX.out; have h7 := HCY.out; omega)]
             rfl
            ·
             rw [decide_eq_false cy] at ab
             have AB := Aside0.mk ab
             have HCY := Aside0.mk cy
             clear cy ab
             go_wp2_with (first | (go_at_call 111; (with_reducible refine (C1.out _ ?s1).mono ?_); (case s1 => exact Kd.C_below HR1.out HX.out.below); rintro e w1 ⟨rfl, hb⟩; have nX : Aside0 (Box1 w w.heap.size #[.slice A0_0 l0_0.length c0_0, .slice A0_1 l0_1.length c0_1, .bool false] 25 w1) := ⟨Box1.next HX.out hb⟩; have nY : Aside0 (Box1 w (w.heap.size + 1) #[.slice A1 l1.length c1] 23 w1) := ⟨Box1.next HY.out hb⟩; clear HX HY hb; have HX := nX; have HY := nY; clear nX nY) | (go_at_call 68; (with_reducible refine (S1.out _ ?s1 ?s2).mono ?_); (case s1 => exact Kd.C_below HR2.out HX.out.below); (case s2 => exact HY.out.one); rintro e w1 ⟨rfl, rfl⟩) | (go_at_call 68; (with_reducible refine (S2.out _ ?s1 ?s2).mono ?_); (case s1 => exact Kd.C_below HR2.out HX.out.below); (case s2 => exact HY.out.one); rintro e w1 ⟨rfl, rfl⟩) | (go_at_call 69; (with_reducible refine (AB.out _).mono ?_); rintro e w1 ⟨rfl, ⟨nd, rfl⟩⟩))
             go_roundg (2 * l0_0.length - (j.toNat + 1))
             case measure => have h1 := HJ.out; have h2 := HJL.out; omega
             case rel =>
              have h1 := HJ.out; have h2 := HJL.out; have h3 := HLEN.out
              have hw : wrap64 (j + 1) = j + 1 := by unfold wrap64; omega
              refine ⟨wrap64 (j + 1), rfl, ⟨by omega, by omega, by omega⟩, ⟨HX.out.drewN _⟩, ⟨HY.out.drewN _⟩, ⟨fun b b0 b1 => ?_⟩⟩
              by_cases e : b = j
              ·
               subst e; exact HXI.out.2 (Or.inr (by have := HCY.out; omega))
              ·
               exact HE.out b b0 (by omega)
          ·
           have f4 : decide (j < 2 * (l0_0.length : Int)) = false := decide_eq_false hlt
           have HJL := Aside0.mk hlt
           clear hlt
           go_wp2
           go_roundg (2 * l0_0.length - (i.toNat + 1))
           case measure => have h1 := HI.out; have h2 := HIL.out; omega
           case rel =>
            have h1 := HI.out; have h2 := HIL.out; have h3 := HLEN.out; have h5 := HJL.out; have h6 := HJ.out
            have hw : wrap64 (i + 1) = i + 1 := by unfold wrap64; omega
            refine ⟨wrap64 (i + 1), rfl, ⟨by omega, by omega, by omega⟩, HX, HY, ⟨fun a b a0 a1 b0 b1 => ?_⟩⟩
            by_cases e : a = i
            ·
             subst e; exact HE.out b b0 (by omega)
            ·
             exact HA.out a b a0 (by omega) b0 b1
        ·
         have f3 : decide (i < 2 * (l0_0.length : Int)) = false := decide_eq_false hlt
         have HIL := Aside0.mk hlt
         clear hlt
         go_wp2
         go_ret
         have h1 := HI.out; have h2 := HIL.out
         refine ⟨?_, HX.out.below⟩
         rw [← HV.out, (hasB_true (vars := l0_0) (m := l0_1) (empty := false) (v := l1)).2 ⟨rfl, HT.out, HL.out, HALL.out, fun a b a0 a1 b0 b1 => HA.out a b a0 (by omega) b0 b1⟩]
         rfl
    ·
     have f1 : ((l1.length : Int) != (l0_0.length : Int)) = true := by simpa using (by omega : ¬ ((l1.length : Int) = (l0_0.length : Int)))
     have f2 : (l1.length != l0_0.length) = true := by simpa using hl
     have HL := Aside0.mk hl
     clear hl
     go_enter Try.func34, Try.ntmps34
     go_wp2_with (go_at_call 18; (with_reducible refine (HF.out _ ?s1 ?s2).mono ?_); (case s1 => repeat (first | exact HR0.out | (with_reducible refine Kd.C_alloc ?_ _))); (case s2 => repeat (first | exact HR1.out | (with_reducible refine Kd.C_alloc ?_ _))); rintro e w1 ⟨rfl, hb⟩; obtain ⟨hcc, hff⟩ := bcell hb; have hz := hb.size; rw [World.size_alloc, World.size_alloc] at hz)
     go_ret
     refine ⟨?_, (below_alloc (below_alloc (Below.refl _ _) _) _).trans (hb.mono (by simp; omega))⟩
     rw [← HV.out, hasB_false.2 (fun h => HL.out h.2.2.1)]
     rfl
 ·
  rw [if_neg hlen] at h
  cases h
end Go.Proofs.Ytomgebmimgaojaa.QO
end
section
/- Written by a program of this session out of the translation. -/
noncomputable section
namespace Go.Proofs.Ytomgebmimgaojaa.QO
open Go.RowKit Go.Proofs.YtomgebmimgaojaaW.PrintWords Go.Proofs.YtomgebmimgaojaaW.PrintLast
set_option linter.unusedVariables false
set_option linter.unusedSimpArgs false
/-! ### gimballaw11_awake: function 20 -/
def gimballaw11_awake.f (k : Nat)  : Option (Bool) := (oct_Top.f k (([3] : List Int))).bind fun bt123 => (if (bt123.2.1.length : Int) = 4 then (if 0 < (bt123.2.1.length : Int) then (if (rd bt123.2.1 0) = 0 then (if 1 < (bt123.2.1.length : Int) then (if (rd bt123.2.1 1) = 4611686018427387904 then ((oct_Has.f bt123.1 bt123.2.1 bt123.2.2 (([9] : List Int))).bind fun t136 => (some t136)) else (some false)) else (none)) else (some false)) else (none)) else (some false))
theorem gimballaw11_awake.mono : ∀ k, LeO (gimballaw11_awake.f k ) (gimballaw11_awake.f (k + 1) ) := by
 intro  k
 unfold gimballaw11_awake.f
 repeat' first
  | (with_reducible exact oct_Top.mono _ _)
  | (with_reducible exact LeO.refl _)
  | (with_reducible exact LeO.none _)
  | (with_reducible refine LeO.ite ?_ ?_)
  | (with_reducible refine LeO.bind ?_ (fun _ => ?_))
  | exact oct_Top.mono _ _
  | exact LeO.none _
  | refine LeO.ite ?_ ?_
  | refine LeO.bind ?_ (fun _ => ?_)
set_option maxHeartbeats 8000000 in
set_option maxRecDepth 100000 in
theorem gimballaw11_awake.calls (k : Nat)  (r : Bool) (w : World) (h : gimballaw11_awake.f k  = some r) :
 Calls Try.prog 20 #[] w fun e w' => e = .returned (.bool r) ∧ Below w.heap.size w w' := by
 have hu25 := Try.underlying25
 have HB := Aside0.mk (Below.refl w.heap.size w)
 have H : ((oct_Top.f k (([3] : List Int))).bind fun bt123 => (if (bt123.2.1.length : Int) = 4 then (if 0 < (bt123.2.1.length : Int) then (if (rd bt123.2.1 0) = 0 then (if 1 < (bt123.2.1.length : Int) then (if (rd bt123.2.1 1) = 4611686018427387904 then ((oct_Has.f bt123.1 bt123.2.1 bt123.2.2 (([9] : List Int))).bind fun t136 => (some t136)) else (some false)) else (none)) else (some false)) else (none)) else (some false))) = some r := h
 clear h
 obtain ⟨y120, hy120⟩ : ∃ y_ : List Int, y_ = (([3] : List Int)) := ⟨_, rfl⟩
 replace H : ((oct_Top.f k y120).bind fun bt123 => (if (bt123.2.1.length : Int) = 4 then (if 0 < (bt123.2.1.length : Int) then (if (rd bt123.2.1 0) = 0 then (if 1 < (bt123.2.1.length : Int) then (if (rd bt123.2.1 1) = 4611686018427387904 then ((oct_Has.f bt123.1 bt123.2.1 bt123.2.2 (([9] : List Int))).bind fun t136 => (some t136)) else (some false)) else (none)) else (some false)) else (none)) else (some false))) = some r := by first | (rw [hy120]; with_reducible exact H) | (have H2_ := (Option.bind_some _ _).symm.trans H; rw [hy120]; with_reducible exact H2_) | (have H2_ := (Option.bind_some _ _).symm.trans H; with_reducible exact H2_) | with_reducible exact H | (rw [hy120]; exact H) | exact H
 have Ny120 := Aside0.mk hy120
 clear hy120
 replace H := Option.bind_eq_some_iff.mp H
 obtain ⟨⟨t123, t126, t129⟩, A10, H⟩ := H
 replace H : (if (t126.length : Int) = 4 then (if 0 < (t126.length : Int) then (if (rd t126 0) = 0 then (if 1 < (t126.length : Int) then (if (rd t126 1) = 4611686018427387904 then ((oct_Has.f t123 t126 t129 (([9] : List Int))).bind fun t136 => (some t136)) else (some false)) else (none)) else (some false)) else (none)) else (some false)) = some r := H
 have A1 := Aside0.mk A10
 clear A10
 by_cases c2 : (t126.length : Int) = 4
 ·
  rw [if_pos c2] at H
  have c2b0 : ((t126.length : Int) == 4) = true := beq_iff_eq.mpr c2
  have c2b1 : ((t126.length : Int) != 4) = false := bne_eq_false_iff_eq.mpr c2
  clear c2
  by_cases c3 : 0 < (t126.length : Int)
  ·
   rw [if_pos c3] at H
   have c3b0 : decide (0 < (t126.length : Int)) = true := decide_eq_true c3
   have c3b1 : decide (0 < t126.length) = true := decide_eq_true (by omega)
   clear c3
   by_cases c4 : (rd t126 0) = 0
   ·
    rw [if_pos c4] at H
    have c4b0 : ((rd t126 0) == 0) = true := beq_iff_eq.mpr c4
    have c4b1 : ((rd t126 0) != 0) = false := bne_eq_false_iff_eq.mpr c4
    clear c4
    by_cases c5 : 1 < (t126.length : Int)
    ·
     rw [if_pos c5] at H
     have c5b0 : decide (1 < (t126.length : Int)) = true := decide_eq_true c5
     have c5b1 : decide (1 < t126.length) = true := decide_eq_true (by omega)
     clear c5
     by_cases c6 : (rd t126 1) = 4611686018427387904
     ·
      rw [if_pos c6] at H
      have c6b0 : ((rd t126 1) == 4611686018427387904) = true := beq_iff_eq.mpr c6
      have c6b1 : ((rd t126 1) != 4611686018427387904) = false := bne_eq_false_iff_eq.mpr c6
      clear c6
      obtain ⟨y133, hy133⟩ : ∃ y_ : List Int, y_ = (([9] : List Int)) := ⟨_, rfl⟩
      replace H : ((oct_Has.f t123 t126 t129 y133).bind fun t136 => (some t136)) = some r := by first | (rw [hy133]; with_reducible exact H) | (have H2_ := (Option.bind_some _ _).symm.trans H; rw [hy133]; with_reducible exact H2_) | (have H2_ := (Option.bind_some _ _).symm.trans H; with_reducible exact H2_) | with_reducible exact H | (rw [hy133]; exact H) | exact H
      have Ny133 := Aside0.mk hy133
      clear hy133
      replace H := Option.bind_eq_some_iff.mp H
      obtain ⟨t136, A70, H⟩ := H
      replace H : (some t136) = some r := H
      have A7 := Aside0.mk A70
      clear A70
      obtain rfl := Option.some.inj H
      go_enter Try.func20, Try.ntmps20
      go_wp2_with (first | ((with_reducible refine gate_dst (N := 2) rfl ?_); (try (refine gate_guard (by rfl) ?_; dsimp only)); refine Kd.R_lit (Kd.int .i64) _ 3 ?hg (N := 2) ?hd (xs := ([3] : List Int)) (inner := [.int .i64 3]) (ok := fun _ => True) (okp := fun _ => True) ?hr ?hp (fun _ hk => hk) trivial (Below.refl _ _) (Nat.le_refl _) (by simp) ?_; (case hd => rfl); (case hg => rfl); (case hr => first | (go_simp; done) | (go_simp; rfl)); (case hp => exact (Reps.one (show Kd.M (Kd.int .i64) _ _ _ 3 [.int .i64 3] from rfl) (Reps.none _ _))); intro v121 w8 ho9 hb hg_ hnew_; clear hg_ hnew_; (first | rw [← Ny120.out] at ho9 | (simp only [Int.reduceToNat] at ho9; rw [← Ny120.out] at ho9)); have HO122 := Aside0.mk (Kd.R_lower ho9 (below_size (vW HB.out))); replace HB := vWs HB hb; clear hb ho9; obtain ⟨Ao10, co10, eo10⟩ := Kd.R_slice HO122.out; subst eo10) | ((with_reducible refine gate_callee (f := 13) rfl ?_); refine goesL_ (some 3) rfl rfl Try.func13 (by kernel_rfl) rfl #[.slice Ao10 y120.length co10] rfl vL ?_; (with_reducible refine (oct_Top.calls k _ _ y120 t123 t126 t129 _ ?side1 ?side2 A1.out).mono ?_); (case side1 => repeat (first | exact (Kd.R_reads' HO122.out).2.2 | (with_reducible refine Kd.C_alloc ?_ _) | (with_reducible refine Kd.C_drewN ?_ _) | (with_reducible refine Kd.C_drew ?_))); (case side2 => exact (Kd.R_reads' HO122.out).2.1); rintro e w11 ⟨v124, v127, rfl, ho0, ho1, hb⟩; refine ⟨_, rfl, ?_⟩; have HO125 := Aside0.mk (Kd.R_lower (Kd.R_new' ho0 (Kd.R_lt (vR HO122.out))) (below_size (vW HB.out))); replace HO122 := Aside0.mk (Kd.R_elder' (vR HO122.out) (Kd.R_base ho0) hb); have HO128 := Aside0.mk (Kd.R_lower ho1 (below_size (vW HB.out))); replace HB := vWs HB hb; (try clear hb); (try clear hb2); (try clear hk); (try clear hi); (try clear ho0); (try clear ho1)) | ((with_reducible refine gate_dst (N := 1) rfl ?_); (try (refine gate_guard (by rfl) ?_; dsimp only)); refine box_event ?hg (N := 1) ?hd (cs := #[.slice none 0 0, .slice none 0 0, .bool false]) (t := 25) ?hr ?_; (case hd => rfl); (case hg => rfl); (case hr => first | (go_simp; done) | (go_simp; rfl)); intro gb130 hg w12 hbox hb; replace HO122 := vRb HO122 hb; replace HO125 := vRb HO125 hb; replace HO128 := vRb HO128 hb; have BK130 := Aside0.mk (hbox); have GW130 := vS hg HB; have GE130 := vS hg HB; replace HB := vWs HB hb; clear hb hbox hg; obtain ⟨Ao13, co13, eo13⟩ := Kd.R_slice HO125.out; subst eo13; obtain ⟨hcz14_0, hcz14_1, hcz14_2, hfz14_0, hfz14_1, hfz14_2⟩ := vF3 BK130.out; obtain ⟨Ao15, co15, eo15⟩ := Kd.R_slice HO128.out; subst eo15; have p131 : 0 ≤ (0 : Int) := (by omega); have q131 : 0 < (t126.length : Int) := of_decide_eq_true (by first | (with_reducible assumption) | assumption); obtain ⟨ad131, e131, hx131_0⟩ := Kd.at_int (Kd.R_reads' HO128.out).2.2 0 p131 q131; cases e131; have qi131 : (0 < t126.length) = True := eq_true (by omega); (try rw [show ((0 : Int)).toNat = 0 from rfl] at hx131_0); (try rw [Addr.add_zero'] at hx131_0); have hn131_0 : ad131.block ≠ gb130 := Kd.own_blk (Kd.R_ne HO128.out BK130.out (by decide)); have hn131_1 : ad131.block ≠ gb130 := Kd.own_blk (Kd.R_ne HO128.out BK130.out (by decide)); have hn131_2 : ad131.block ≠ gb130 := Kd.own_blk (Kd.R_ne HO128.out BK130.out (by decide)); replace hx131_0 := (cell_far (p := ⟨gb130, 0, none⟩) (by first | (rw [add_block]; exact hn131_0) | (show (Addr.add _ _).block ≠ _; rw [add_block]; exact hn131_0) | exact hn131_0) (.slice Ao13 t123.length co13)).trans hx131_0; replace hx131_0 := (cell_far (p := ⟨gb130, 1, none⟩) (by first | (rw [add_block]; exact hn131_1) | (show (Addr.add _ _).block ≠ _; rw [add_block]; exact hn131_1) | exact hn131_1) (.slice (some ad131) t126.length co15)).trans hx131_0; replace hx131_0 := (cell_far (p := ⟨gb130, 2, none⟩) (by first | (rw [add_block]; exact hn131_2) | (show (Addr.add _ _).block ≠ _; rw [add_block]; exact hn131_2) | exact hn131_2) (.bool t129)).trans hx131_0; clear hn131_0; clear hn131_1; clear hn131_2; replace p131 := eq_true p131; replace q131 := eq_true q131; have p132 : 0 ≤ (1 : Int) := (by omega); have q132 : 1 < (t126.length : Int) := of_decide_eq_true (by first | (with_reducible assumption) | assumption); obtain ⟨ad132, e132, hx132_0⟩ := Kd.at_int (Kd.R_reads' HO128.out).2.2 1 p132 q132; obtain rfl : ad131 = ad132 := (by injection e132); (try simp only [show (1 : Int).toNat = 1 from rfl, Nat.reduceMul, Nat.reduceEqDiff, Go.Addr.add, ↓reduceIte] at hx132_0); have qi132 : (1 < t126.length) = True := eq_true (by omega); (try rw [show ((1 : Int)).toNat = 1 from rfl] at hx132_0); have hn132_0 : ad131.block ≠ gb130 := Kd.own_blk (Kd.R_ne HO128.out BK130.out (by decide)); have hn132_1 : ad131.block ≠ gb130 := Kd.own_blk (Kd.R_ne HO128.out BK130.out (by decide)); have hn132_2 : ad131.block ≠ gb130 := Kd.own_blk (Kd.R_ne HO128.out BK130.out (by decide)); replace hx132_0 := (cell_far (p := ⟨gb130, 0, none⟩) (by first | (rw [add_block]; exact hn132_0) | (show (Addr.add _ _).block ≠ _; rw [add_block]; exact hn132_0) | exact hn132_0) (.slice Ao13 t123.length co13)).trans hx132_0; replace hx132_0 := (cell_far (p := ⟨gb130, 1, none⟩) (by first | (rw [add_block]; exact hn132_1) | (show (Addr.add _ _).block ≠ _; rw [add_block]; exact hn132_1) | exact hn132_1) (.slice (some ad131) t126.length co15)).trans hx132_0; replace hx132_0 := (cell_far (p := ⟨gb130, 2, none⟩) (by first | (rw [add_block]; exact hn132_2) | (show (Addr.add _ _).block ≠ _; rw [add_block]; exact hn132_2) | exact hn132_2) (.bool t129)).trans hx132_0; clear hn132_0; clear hn132_1; clear hn132_2; replace p132 := eq_true p132; replace q132 := eq_true q132) | ((with_reducible refine gate_dst (N := 24) rfl ?_); (try (refine gate_guard (by rfl) ?_; dsimp only)); refine Kd.R_lit (Kd.int .i64) _ 2 ?hg (N := 24) ?hd (xs := ([9] : List Int)) (inner := [.int .i64 9]) (ok := fun _ => True) (okp := fun _ => True) ?hr ?hp (fun _ hk => hk) trivial (Below.refl _ _) (Nat.le_refl _) (by simp) ?_; (case hd => rfl); (case hg => rfl); (case hr => first | (go_simp; done) | (go_simp; rfl)); (case hp => exact (Reps.one (show Kd.M (Kd.int .i64) _ _ _ 9 [.int .i64 9] from rfl) (Reps.none _ _))); intro v134 w16 ho17 hb hg_ hnew_; clear hg_ hnew_; (first | rw [← Ny133.out] at ho17 | (simp only [Int.reduceToNat] at ho17; rw [← Ny133.out] at ho17)); replace HO122 := vTb HO122 BK130 hb; replace HO125 := vTb HO125 BK130 hb; have HO135 := Aside0.mk (Kd.R_lower (Kd.R_new' ho17 (Kd.R_lt (vT HO128.out BK130.out))) (below_size (vW HB.out))); replace HO128 := Aside0.mk (Kd.R_elder' (vT HO128.out BK130.out) (Kd.R_base ho17) hb); replace BK130 := Aside0.mk (blk_below (g := gb130) (o := .cells #[.slice Ao13 t123.length co13, .slice (some ad131) t126.length co15, .bool t129] 25 (0, 0)) (by (with_reducible repeat (first | refine blk_drewN ?_ _ | refine blk_drew ?_ | refine blk_alloc ?_ _)); refine blk_put (cs := #[.slice Ao13 t123.length co13, .slice (some ad131) t126.length co15, .bool false]) ?_ 2 _ rfl; (with_reducible repeat (first | refine blk_drewN ?_ _ | refine blk_drew ?_ | refine blk_alloc ?_ _)); refine blk_put (cs := #[.slice Ao13 t123.length co13, .slice none 0 0, .bool false]) ?_ 1 _ rfl; (with_reducible repeat (first | refine blk_drewN ?_ _ | refine blk_drew ?_ | refine blk_alloc ?_ _)); refine blk_put (cs := #[.slice none 0 0, .slice none 0 0, .bool false]) ?_ 0 _ rfl; (with_reducible repeat (first | refine blk_drewN ?_ _ | refine blk_drew ?_ | refine blk_alloc ?_ _)); exact BK130.out) hb); replace HB := vWs HB hb; clear hb ho17; obtain ⟨Ao18, co18, eo18⟩ := Kd.R_slice HO135.out; subst eo18) | (go_at_call 34; (with_reducible refine (oct_Has.calls _ _ t123 _ _ t126 t129 _ _ y133 t136 _ ?side1 ?side2 ?side3 ?side4 ?side5 ?side6 A7.out).mono ?_); (case side1 => repeat (first | exact (Kd.R_reads' HO125.out).2.2 | (with_reducible refine Kd.C_alloc ?_ _) | (with_reducible refine Kd.C_drewN ?_ _) | (with_reducible refine Kd.C_drew ?_))); (case side2 => exact (Kd.R_reads' HO125.out).2.1); (case side3 => repeat (first | exact (Kd.R_reads' HO128.out).2.2 | (with_reducible refine Kd.C_alloc ?_ _) | (with_reducible refine Kd.C_drewN ?_ _) | (with_reducible refine Kd.C_drew ?_))); (case side4 => exact (Kd.R_reads' HO128.out).2.1); (case side5 => repeat (first | exact (Kd.R_reads' HO135.out).2.2 | (with_reducible refine Kd.C_alloc ?_ _) | (with_reducible refine Kd.C_drewN ?_ _) | (with_reducible refine Kd.C_drew ?_))); (case side6 => exact (Kd.R_reads' HO135.out).2.1); rintro e w19 ⟨rfl, hb⟩; replace HO122 := vRb HO122 hb; replace HO125 := vRb HO125 hb; replace HO128 := vRb HO128 hb; replace HO135 := vRb HO135 hb; replace BK130 := vBb BK130 hb; replace HB := vWs HB hb; (try clear hb); (try clear hb2); (try clear hk); (try clear hi)))
      go_ret
      exact ⟨by first | rfl | (simp [errW_none, errW_some] <;> rfl) | (simp [*, errW_none, errW_some] <;> rfl) | (simp [wrap64]; done), vW HB.out⟩
     ·
      rw [if_neg c6] at H
      have c6b0 : ((rd t126 1) == 4611686018427387904) = false := beq_eq_false_iff_ne.mpr c6
      have c6b1 : ((rd t126 1) != 4611686018427387904) = true := bne_iff_ne.mpr c6
      obtain rfl := Option.some.inj H
      go_enter Try.func20, Try.ntmps20
      go_wp2_with (first | ((with_reducible refine gate_dst (N := 2) rfl ?_); (try (refine gate_guard (by rfl) ?_; dsimp only)); refine Kd.R_lit (Kd.int .i64) _ 3 ?hg (N := 2) ?hd (xs := ([3] : List Int)) (inner := [.int .i64 3]) (ok := fun _ => True) (okp := fun _ => True) ?hr ?hp (fun _ hk => hk) trivial (Below.refl _ _) (Nat.le_refl _) (by simp) ?_; (case hd => rfl); (case hg => rfl); (case hr => first | (go_simp; done) | (go_simp; rfl)); (case hp => exact (Reps.one (show Kd.M (Kd.int .i64) _ _ _ 3 [.int .i64 3] from rfl) (Reps.none _ _))); intro v121 w20 ho21 hb hg_ hnew_; clear hg_ hnew_; (first | rw [← Ny120.out] at ho21 | (simp only [Int.reduceToNat] at ho21; rw [← Ny120.out] at ho21)); have HO122 := Aside0.mk (Kd.R_lower ho21 (below_size (vW HB.out))); replace HB := vWs HB hb; clear hb ho21; obtain ⟨Ao22, co22, eo22⟩ := Kd.R_slice HO122.out; subst eo22) | ((with_reducible refine gate_callee (f := 13) rfl ?_); refine goesL_ (some 3) rfl rfl Try.func13 (by kernel_rfl) rfl #[.slice Ao22 y120.length co22] rfl vL ?_; (with_reducible refine (oct_Top.calls k _ _ y120 t123 t126 t129 _ ?side1 ?side2 A1.out).mono ?_); (case side1 => repeat (first | exact (Kd.R_reads' HO122.out).2.2 | (with_reducible refine Kd.C_alloc ?_ _) | (with_reducible refine Kd.C_drewN ?_ _) | (with_reducible refine Kd.C_drew ?_))); (case side2 => exact (Kd.R_reads' HO122.out).2.1); rintro e w23 ⟨v124, v127, rfl, ho0, ho1, hb⟩; refine ⟨_, rfl, ?_⟩; have HO125 := Aside0.mk (Kd.R_lower (Kd.R_new' ho0 (Kd.R_lt (vR HO122.out))) (below_size (vW HB.out))); replace HO122 := Aside0.mk (Kd.R_elder' (vR HO122.out) (Kd.R_base ho0) hb); have HO128 := Aside0.mk (Kd.R_lower ho1 (below_size (vW HB.out))); replace HB := vWs HB hb; (try clear hb); (try clear hb2); (try clear hk); (try clear hi); (try clear ho0); (try clear ho1)) | ((with_reducible refine gate_dst (N := 1) rfl ?_); (try (refine gate_guard (by rfl) ?_; dsimp only)); refine box_event ?hg (N := 1) ?hd (cs := #[.slice none 0 0, .slice none 0 0, .bool false]) (t := 25) ?hr ?_; (case hd => rfl); (case hg => rfl); (case hr => first | (go_simp; done) | (go_simp; rfl)); intro gb130 hg w24 hbox hb; replace HO122 := vRb HO122 hb; replace HO125 := vRb HO125 hb; replace HO128 := vRb HO128 hb; have BK130 := Aside0.mk (hbox); have GW130 := vS hg HB; have GE130 := vS hg HB; replace HB := vWs HB hb; clear hb hbox hg; obtain ⟨Ao25, co25, eo25⟩ := Kd.R_slice HO125.out; subst eo25; obtain ⟨hcz26_0, hcz26_1, hcz26_2, hfz26_0, hfz26_1, hfz26_2⟩ := vF3 BK130.out; obtain ⟨Ao27, co27, eo27⟩ := Kd.R_slice HO128.out; subst eo27; have p131 : 0 ≤ (0 : Int) := (by omega); have q131 : 0 < (t126.length : Int) := of_decide_eq_true (by first | (with_reducible assumption) | assumption); obtain ⟨ad131, e131, hx131_0⟩ := Kd.at_int (Kd.R_reads' HO128.out).2.2 0 p131 q131; cases e131; have qi131 : (0 < t126.length) = True := eq_true (by omega); (try rw [show ((0 : Int)).toNat = 0 from rfl] at hx131_0); (try rw [Addr.add_zero'] at hx131_0); have hn131_0 : ad131.block ≠ gb130 := Kd.own_blk (Kd.R_ne HO128.out BK130.out (by decide)); have hn131_1 : ad131.block ≠ gb130 := Kd.own_blk (Kd.R_ne HO128.out BK130.out (by decide)); have hn131_2 : ad131.block ≠ gb130 := Kd.own_blk (Kd.R_ne HO128.out BK130.out (by decide)); replace hx131_0 := (cell_far (p := ⟨gb130, 0, none⟩) (by first | (rw [add_block]; exact hn131_0) | (show (Addr.add _ _).block ≠ _; rw [add_block]; exact hn131_0) | exact hn131_0) (.slice Ao25 t123.length co25)).trans hx131_0; replace hx131_0 := (cell_far (p := ⟨gb130, 1, none⟩) (by first | (rw [add_block]; exact hn131_1) | (show (Addr.add _ _).block ≠ _; rw [add_block]; exact hn131_1) | exact hn131_1) (.slice (some ad131) t126.length co27)).trans hx131_0; replace hx131_0 := (cell_far (p := ⟨gb130, 2, none⟩) (by first | (rw [add_block]; exact hn131_2) | (show (Addr.add _ _).block ≠ _; rw [add_block]; exact hn131_2) | exact hn131_2) (.bool t129)).trans hx131_0; clear hn131_0; clear hn131_1; clear hn131_2; replace p131 := eq_true p131; replace q131 := eq_true q131; have p132 : 0 ≤ (1 : Int) := (by omega); have q132 : 1 < (t126.length : Int) := of_decide_eq_true (by first | (with_reducible assumption) | assumption); obtain ⟨ad132, e132, hx132_0⟩ := Kd.at_int (Kd.R_reads' HO128.out).2.2 1 p132 q132; obtain rfl : ad131 = ad132 := (by injection e132); (try simp only [show (1 : Int).toNat = 1 from rfl, Nat.reduceMul, Nat.reduceEqDiff, Go.Addr.add, ↓reduceIte] at hx132_0); have qi132 : (1 < t126.length) = True := eq_true (by omega); (try rw [show ((1 : Int)).toNat = 1 from rfl] at hx132_0); have hn132_0 : ad131.block ≠ gb130 := Kd.own_blk (Kd.R_ne HO128.out BK130.out (by decide)); have hn132_1 : ad131.block ≠ gb130 := Kd.own_blk (Kd.R_ne HO128.out BK130.out (by decide)); have hn132_2 : ad131.block ≠ gb130 := Kd.own_blk (Kd.R_ne HO128.out BK130.out (by decide)); replace hx132_0 := (cell_far (p := ⟨gb130, 0, none⟩) (by first | (rw [add_block]; exact hn132_0) | (show (Addr.add _ _).block ≠ _; rw [add_block]; exact hn132_0) | exact hn132_0) (.slice Ao25 t123.length co25)).trans hx132_0; replace hx132_0 := (cell_far (p := ⟨gb130, 1, none⟩) (by first | (rw [add_block]; exact hn132_1) | (show (Addr.add _ _).block ≠ _; rw [add_block]; exact hn132_1) | exact hn132_1) (.slice (some ad131) t126.length co27)).trans hx132_0; replace hx132_0 := (cell_far (p := ⟨gb130, 2, none⟩) (by first | (rw [add_block]; exact hn132_2) | (show (Addr.add _ _).block ≠ _; rw [add_block]; exact hn132_2) | exact hn132_2) (.bool t129)).trans hx132_0; clear hn132_0; clear hn132_1; clear hn132_2; replace p132 := eq_true p132; replace q132 := eq_true q132))
      go_ret
      exact ⟨by first | rfl | (simp [errW_none, errW_some] <;> rfl) | (simp [*, errW_none, errW_some] <;> rfl) | (simp [wrap64]; done), vW HB.out⟩
    ·
     rw [if_neg c5] at H
     exact absurd H (by simp)
   ·
    rw [if_neg c4] at H
    have c4b0 : ((rd t126 0) == 0) = false := beq_eq_false_iff_ne.mpr c4
    have c4b1 : ((rd t126 0) != 0) = true := bne_iff_ne.mpr c4
    obtain rfl := Option.some.inj H
    go_enter Try.func20, Try.ntmps20
    go_wp2_with (first | ((with_reducible refine gate_dst (N := 2) rfl ?_); (try (refine gate_guard (by rfl) ?_; dsimp only)); refine Kd.R_lit (Kd.int .i64) _ 3 ?hg (N := 2) ?hd (xs := ([3] : List Int)) (inner := [.int .i64 3]) (ok := fun _ => True) (okp := fun _ => True) ?hr ?hp (fun _ hk => hk) trivial (Below.refl _ _) (Nat.le_refl _) (by simp) ?_; (case hd => rfl); (case hg => rfl); (case hr => first | (go_simp; done) | (go_simp; rfl)); (case hp => exact (Reps.one (show Kd.M (Kd.int .i64) _ _ _ 3 [.int .i64 3] from rfl) (Reps.none _ _))); intro v121 w28 ho29 hb hg_ hnew_; clear hg_ hnew_; (first | rw [← Ny120.out] at ho29 | (simp only [Int.reduceToNat] at ho29; rw [← Ny120.out] at ho29)); have HO122 := Aside0.mk (Kd.R_lower ho29 (below_size (vW HB.out))); replace HB := vWs HB hb; clear hb ho29; obtain ⟨Ao30, co30, eo30⟩ := Kd.R_slice HO122.out; subst eo30) | ((with_reducible refine gate_callee (f := 13) rfl ?_); refine goesL_ (some 3) rfl rfl Try.func13 (by kernel_rfl) rfl #[.slice Ao30 y120.length co30] rfl vL ?_; (with_reducible refine (oct_Top.calls k _ _ y120 t123 t126 t129 _ ?side1 ?side2 A1.out).mono ?_); (case side1 => repeat (first | exact (Kd.R_reads' HO122.out).2.2 | (with_reducible refine Kd.C_alloc ?_ _) | (with_reducible refine Kd.C_drewN ?_ _) | (with_reducible refine Kd.C_drew ?_))); (case side2 => exact (Kd.R_reads' HO122.out).2.1); rintro e w31 ⟨v124, v127, rfl, ho0, ho1, hb⟩; refine ⟨_, rfl, ?_⟩; have HO125 := Aside0.mk (Kd.R_lower (Kd.R_new' ho0 (Kd.R_lt (vR HO122.out))) (below_size (vW HB.out))); replace HO122 := Aside0.mk (Kd.R_elder' (vR HO122.out) (Kd.R_base ho0) hb); have HO128 := Aside0.mk (Kd.R_lower ho1 (below_size (vW HB.out))); replace HB := vWs HB hb; (try clear hb); (try clear hb2); (try clear hk); (try clear hi); (try clear ho0); (try clear ho1)) | ((with_reducible refine gate_dst (N := 1) rfl ?_); (try (refine gate_guard (by rfl) ?_; dsimp only)); refine box_event ?hg (N := 1) ?hd (cs := #[.slice none 0 0, .slice none 0 0, .bool false]) (t := 25) ?hr ?_; (case hd => rfl); (case hg => rfl); (case hr => first | (go_simp; done) | (go_simp; rfl)); intro gb130 hg w32 hbox hb; replace HO122 := vRb HO122 hb; replace HO125 := vRb HO125 hb; replace HO128 := vRb HO128 hb; have BK130 := Aside0.mk (hbox); have GW130 := vS hg HB; have GE130 := vS hg HB; replace HB := vWs HB hb; clear hb hbox hg; obtain ⟨Ao33, co33, eo33⟩ := Kd.R_slice HO125.out; subst eo33; obtain ⟨hcz34_0, hcz34_1, hcz34_2, hfz34_0, hfz34_1, hfz34_2⟩ := vF3 BK130.out; obtain ⟨Ao35, co35, eo35⟩ := Kd.R_slice HO128.out; subst eo35; have p131 : 0 ≤ (0 : Int) := (by omega); have q131 : 0 < (t126.length : Int) := of_decide_eq_true (by first | (with_reducible assumption) | assumption); obtain ⟨ad131, e131, hx131_0⟩ := Kd.at_int (Kd.R_reads' HO128.out).2.2 0 p131 q131; cases e131; have qi131 : (0 < t126.length) = True := eq_true (by omega); (try rw [show ((0 : Int)).toNat = 0 from rfl] at hx131_0); (try rw [Addr.add_zero'] at hx131_0); have hn131_0 : ad131.block ≠ gb130 := Kd.own_blk (Kd.R_ne HO128.out BK130.out (by decide)); have hn131_1 : ad131.block ≠ gb130 := Kd.own_blk (Kd.R_ne HO128.out BK130.out (by decide)); have hn131_2 : ad131.block ≠ gb130 := Kd.own_blk (Kd.R_ne HO128.out BK130.out (by decide)); replace hx131_0 := (cell_far (p := ⟨gb130, 0, none⟩) (by first | (rw [add_block]; exact hn131_0) | (show (Addr.add _ _).block ≠ _; rw [add_block]; exact hn131_0) | exact hn131_0) (.slice Ao33 t123.length co33)).trans hx131_0; replace hx131_0 := (cell_far (p := ⟨gb130, 1, none⟩) (by first | (rw [add_block]; exact hn131_1) | (show (Addr.add _ _).block ≠ _; rw [add_block]; exact hn131_1) | exact hn131_1) (.slice (some ad131) t126.length co35)).trans hx131_0; replace hx131_0 := (cell_far (p := ⟨gb130, 2, none⟩) (by first | (rw [add_block]; exact hn131_2) | (show (Addr.add _ _).block ≠ _; rw [add_block]; exact hn131_2) | exact hn131_2) (.bool t129)).trans hx131_0; clear hn131_0; clear hn131_1; clear hn131_2; replace p131 := eq_true p131; replace q131 := eq_true q131))
    go_ret
    exact ⟨by first | rfl | (simp [errW_none, errW_some] <;> rfl) | (simp [*, errW_none, errW_some] <;> rfl) | (simp [wrap64]; done), vW HB.out⟩
  ·
   rw [if_neg c3] at H
   exact absurd H (by simp)
 ·
  rw [if_neg c2] at H
  have c2b0 : ((t126.length : Int) == 4) = false := beq_eq_false_iff_ne.mpr c2
  have c2b1 : ((t126.length : Int) != 4) = true := bne_iff_ne.mpr c2
  obtain rfl := Option.some.inj H
  go_enter Try.func20, Try.ntmps20
  go_wp2_with (first | ((with_reducible refine gate_dst (N := 2) rfl ?_); (try (refine gate_guard (by rfl) ?_; dsimp only)); refine Kd.R_lit (Kd.int .i64) _ 3 ?hg (N := 2) ?hd (xs := ([3] : List Int)) (inner := [.int .i64 3]) (ok := fun _ => True) (okp := fun _ => True) ?hr ?hp (fun _ hk => hk) trivial (Below.refl _ _) (Nat.le_refl _) (by simp) ?_; (case hd => rfl); (case hg => rfl); (case hr => first | (go_simp; done) | (go_simp; rfl)); (case hp => exact (Reps.one (show Kd.M (Kd.int .i64) _ _ _ 3 [.int .i64 3] from rfl) (Reps.none _ _))); intro v121 w36 ho37 hb hg_ hnew_; clear hg_ hnew_; (first | rw [← Ny120.out] at ho37 | (simp only [Int.reduceToNat] at ho37; rw [← Ny120.out] at ho37)); have HO122 := Aside0.mk (Kd.R_lower ho37 (below_size (vW HB.out))); replace HB := vWs HB hb; clear hb ho37; obtain ⟨Ao38, co38, eo38⟩ := Kd.R_slice HO122.out; subst eo38) | ((with_reducible refine gate_callee (f := 13) rfl ?_); refine goesL_ (some 3) rfl rfl Try.func13 (by kernel_rfl) rfl #[.slice Ao38 y120.length co38] rfl vL ?_; (with_reducible refine (oct_Top.calls k _ _ y120 t123 t126 t129 _ ?side1 ?side2 A1.out).mono ?_); (case side1 => repeat (first | exact (Kd.R_reads' HO122.out).2.2 | (with_reducible refine Kd.C_alloc ?_ _) | (with_reducible refine Kd.C_drewN ?_ _) | (with_reducible refine Kd.C_drew ?_))); (case side2 => exact (Kd.R_reads' HO122.out).2.1); rintro e w39 ⟨v124, v127, rfl, ho0, ho1, hb⟩; refine ⟨_, rfl, ?_⟩; have HO125 := Aside0.mk (Kd.R_lower (Kd.R_new' ho0 (Kd.R_lt (vR HO122.out))) (below_size (vW HB.out))); replace HO122 := Aside0.mk (Kd.R_elder' (vR HO122.out) (Kd.R_base ho0) hb); have HO128 := Aside0.mk (Kd.R_lower ho1 (below_size (vW HB.out))); replace HB := vWs HB hb; (try clear hb); (try clear hb2); (try clear hk); (try clear hi); (try clear ho0); (try clear ho1)) | ((with_reducible refine gate_dst (N := 1) rfl ?_); (try (refine gate_guard (by rfl) ?_; dsimp only)); refine box_event ?hg (N := 1) ?hd (cs := #[.slice none 0 0, .slice none 0 0, .bool false]) (t := 25) ?hr ?_; (case hd => rfl); (case hg => rfl); (case hr => first | (go_simp; done) | (go_simp; rfl)); intro gb130 hg w40 hbox hb; replace HO122 := vRb HO122 hb; replace HO125 := vRb HO125 hb; replace HO128 := vRb HO128 hb; have BK130 := Aside0.mk (hbox); have GW130 := vS hg HB; have GE130 := vS hg HB; replace HB := vWs HB hb; clear hb hbox hg; obtain ⟨Ao41, co41, eo41⟩ := Kd.R_slice HO125.out; subst eo41; obtain ⟨hcz42_0, hcz42_1, hcz42_2, hfz42_0, hfz42_1, hfz42_2⟩ := vF3 BK130.out; obtain ⟨Ao43, co43, eo43⟩ := Kd.R_slice HO128.out; subst eo43))
  go_ret
  exact ⟨by first | rfl | (simp [errW_none, errW_some] <;> rfl) | (simp [*, errW_none, errW_some] <;> rfl) | (simp [wrap64]; done), vW HB.out⟩
end Go.Proofs.Ytomgebmimgaojaa.QO
end
end
section
/- Written by a program of this session out of the translation. -/
noncomputable section
namespace Go.Proofs.Ytomgebmimgaojaa.QO
open Go.RowKit Go.Proofs.YtomgebmimgaojaaW.PrintWords Go.Proofs.YtomgebmimgaojaaW.PrintLast
set_option linter.unusedVariables false
set_option linter.unusedSimpArgs false
/-! ### gimballaw11_form: function 42 -/
def gimballaw11_form.j0 : Nat → Bool → Int → Int → Int → Int → Int → Option (Bool)
 | 0, _, _, _, _, _, _ => none
 | k + 1, x40, x265000, x265001, x265002, x265003, x265004 => if x40 = true then (some false) else (if x265001 = 0 then (if x265003 = 0 then (if x265000 = 0 then (some (x265002 == 0)) else (some false)) else (some false)) else (if x265003 = 0 then (if x265002 = 0 then (some true) else (some false)) else (some (decide (x265000 < x265002)))))
def gimballaw11_form.f (k : Nat) (a0_0 : Int) (a0_1 : Int) (a0_2 : Int) (a0_3 : Int) (a0_4 : Int) : Option (Bool) := if a0_4 < (-1099511627776) then (gimballaw11_form.j0 k true a0_0 a0_1 a0_2 a0_3 a0_4) else (if a0_4 > 1099511627776 then (gimballaw11_form.j0 k true a0_0 a0_1 a0_2 a0_3 a0_4) else (if a0_1 < (-1) then (gimballaw11_form.j0 k true a0_0 a0_1 a0_2 a0_3 a0_4) else (if a0_1 > 1 then (gimballaw11_form.j0 k true a0_0 a0_1 a0_2 a0_3 a0_4) else (if a0_3 < (-1) then (gimballaw11_form.j0 k true a0_0 a0_1 a0_2 a0_3 a0_4) else (if a0_3 > 1 then (gimballaw11_form.j0 k true a0_0 a0_1 a0_2 a0_3 a0_4) else (if a0_0 < 0 then (gimballaw11_form.j0 k true a0_0 a0_1 a0_2 a0_3 a0_4) else (gimballaw11_form.j0 k (decide (a0_2 < 0)) a0_0 a0_1 a0_2 a0_3 a0_4)))))))
theorem gimballaw11_form.mono_l : ∀ k, (∀ y0 y1 y2 y3 y4 y5, LeO (gimballaw11_form.j0 k y0 y1 y2 y3 y4 y5) (gimballaw11_form.j0 (k + 1) y0 y1 y2 y3 y4 y5))
 | 0 => fun _ _ _ _ _ _ r h => by simp [gimballaw11_form.j0] at h
 | k + 1 => by
  have ih0 := gimballaw11_form.mono_l k
  ·
   intro y0 y1 y2 y3 y4 y5
   unfold gimballaw11_form.j0
   repeat' first
   | (with_reducible exact ih0 _ _ _ _ _ _)
   | (with_reducible exact LeO.refl _)
   | (with_reducible exact LeO.none _)
   | (with_reducible refine LeO.ite ?_ ?_)
   | (with_reducible refine LeO.bind ?_ (fun _ => ?_))
   | exact ih0 _ _ _ _ _ _
   | exact LeO.none _
   | refine LeO.ite ?_ ?_
   | refine LeO.bind ?_ (fun _ => ?_)
theorem gimballaw11_form.mono : ∀ a0 a1 a2 a3 a4 k, LeO (gimballaw11_form.f k a0 a1 a2 a3 a4) (gimballaw11_form.f (k + 1) a0 a1 a2 a3 a4) := by
 intro a0 a1 a2 a3 a4 k
 have ih0 := gimballaw11_form.mono_l k
 unfold gimballaw11_form.f
 repeat' first
  | (with_reducible exact ih0 _ _ _ _ _ _)
  | (with_reducible exact LeO.refl _)
  | (with_reducible exact LeO.none _)
  | (with_reducible refine LeO.ite ?_ ?_)
  | (with_reducible refine LeO.bind ?_ (fun _ => ?_))
  | exact ih0 _ _ _ _ _ _
  | exact LeO.none _
  | refine LeO.ite ?_ ?_
  | refine LeO.bind ?_ (fun _ => ?_)
set_option maxHeartbeats 8000000 in
set_option maxRecDepth 100000 in
theorem gimballaw11_form.calls (k : Nat) (a0_0 : Int) (a0_1 : Int) (a0_2 : Int) (a0_3 : Int) (a0_4 : Int) (r : Bool) (w : World) (h : gimballaw11_form.f k a0_0 a0_1 a0_2 a0_3 a0_4 = some r) :
 Calls Try.prog 42 #[.agg #[.int .i64 a0_0, .int .i64 a0_1, .int .i64 a0_2, .int .i64 a0_3, .int .i64 a0_4]] w fun e w' => e = .returned (.bool r) ∧ Below w.heap.size w w' := by
 have hu49 := Try.underlying49
 have HB := Aside0.mk (Below.refl w.heap.size w)
 have H : (if a0_4 < (-1099511627776) then (gimballaw11_form.j0 k true a0_0 a0_1 a0_2 a0_3 a0_4) else (if a0_4 > 1099511627776 then (gimballaw11_form.j0 k true a0_0 a0_1 a0_2 a0_3 a0_4) else (if a0_1 < (-1) then (gimballaw11_form.j0 k true a0_0 a0_1 a0_2 a0_3 a0_4) else (if a0_1 > 1 then (gimballaw11_form.j0 k true a0_0 a0_1 a0_2 a0_3 a0_4) else (if a0_3 < (-1) then (gimballaw11_form.j0 k true a0_0 a0_1 a0_2 a0_3 a0_4) else (if a0_3 > 1 then (gimballaw11_form.j0 k true a0_0 a0_1 a0_2 a0_3 a0_4) else (if a0_0 < 0 then (gimballaw11_form.j0 k true a0_0 a0_1 a0_2 a0_3 a0_4) else (gimballaw11_form.j0 k (decide (a0_2 < 0)) a0_0 a0_1 a0_2 a0_3 a0_4)))))))) = some r := h
 clear h
 have HC2 := Aside0.mk H
 clear H
 go_enter Try.func42, Try.ntmps42
 go_upto_region 1 with ((with_reducible refine gate_dst (N := 1) rfl ?_); refine box_event ?hg (N := 1) ?hd (cs := #[.int .i64 a0_0, .int .i64 a0_1, .int .i64 a0_2, .int .i64 a0_3, .int .i64 a0_4]) (t := 49) ?hr ?_; (case hd => rfl); (case hg => rfl); (case hr => first | (go_simp; done) | (go_simp; rfl)); intro gb264 hg w3 hbox hb; have BK264 := Aside0.mk (hbox); have GW264 := vS hg HB; have GE264 := vS hg HB; replace HB := vWs HB hb; clear hb hbox hg)
 (try simp only [Act.put, List.setIfInBounds_toArray, List.set_cons_zero, List.set_cons_succ])
 go_cut [40] (fun v40 wc => ∃ (kq : Nat) (x40_1 : Bool), v40 = .bool x40_1 ∧ Aside0 (gimballaw11_form.j0 kq x40_1 a0_0 a0_1 a0_2 a0_3 a0_4 = some r) ∧ Aside0 (kq ≤ k) ∧ Aside0 (wc.heap[gb264]? = some (.cells #[.int .i64 a0_0, .int .i64 a0_1, .int .i64 a0_2, .int .i64 a0_3, .int .i64 a0_4] 49 (0, 0))) ∧ Aside0 (Below w.heap.size w wc))
 case first =>
  have H := HC2.out
  clear HC2
  by_cases c4 : a0_4 < (-1099511627776)
  ·
   rw [if_pos c4] at H
   have c4b0 : decide (a0_4 < (-1099511627776)) = true := decide_eq_true c4
   clear c4
   (first | rw [c4b0] | (simp only [i64_w, i32_w]; rw [c4b0]) | skip)
   have H' := Aside0.mk H
   clear H
   obtain ⟨hcz5_0, hcz5_1, hcz5_2, hcz5_3, hcz5_4, hfz5_0, hfz5_1, hfz5_2, hfz5_3, hfz5_4⟩ := vF5 BK264.out
   go_wp2
   go_meet
   case rel => exact ⟨_, (true), (by first | rfl | (simp; done) | (simp [*]; done)), H', ⟨by first | omega | exact Nat.le_refl _⟩, ⟨vB BK264.out⟩, ⟨vW HB.out⟩⟩
  ·
   rw [if_neg c4] at H
   have c4b0 : decide (a0_4 < (-1099511627776)) = false := decide_eq_false c4
   clear c4
   (first | rw [c4b0] | (simp only [i64_w, i32_w]; rw [c4b0]) | skip)
   by_cases c6 : a0_4 > 1099511627776
   ·
    rw [if_pos c6] at H
    have c6b0 : decide (1099511627776 < a0_4) = true := decide_eq_true c6
    clear c6
    have H' := Aside0.mk H
    clear H
    obtain ⟨hcz7_0, hcz7_1, hcz7_2, hcz7_3, hcz7_4, hfz7_0, hfz7_1, hfz7_2, hfz7_3, hfz7_4⟩ := vF5 BK264.out
    go_wp2
    go_meet
    case rel => exact ⟨_, (true), (by first | rfl | (simp; done) | (simp [*]; done)), H', ⟨by first | omega | exact Nat.le_refl _⟩, ⟨vB BK264.out⟩, ⟨vW HB.out⟩⟩
   ·
    rw [if_neg c6] at H
    have c6b0 : decide (1099511627776 < a0_4) = false := decide_eq_false c6
    clear c6
    by_cases c8 : a0_1 < (-1)
    ·
     rw [if_pos c8] at H
     have c8b0 : decide (a0_1 < (-1)) = true := decide_eq_true c8
     clear c8
     have H' := Aside0.mk H
     clear H
     obtain ⟨hcz9_0, hcz9_1, hcz9_2, hcz9_3, hcz9_4, hfz9_0, hfz9_1, hfz9_2, hfz9_3, hfz9_4⟩ := vF5 BK264.out
     go_wp2
     go_meet
     case rel => exact ⟨_, (true), (by first | rfl | (simp; done) | (simp [*]; done)), H', ⟨by first | omega | exact Nat.le_refl _⟩, ⟨vB BK264.out⟩, ⟨vW HB.out⟩⟩
    ·
     rw [if_neg c8] at H
     have c8b0 : decide (a0_1 < (-1)) = false := decide_eq_false c8
     clear c8
     by_cases c10 : a0_1 > 1
     ·
      rw [if_pos c10] at H
      have c10b0 : decide (1 < a0_1) = true := decide_eq_true c10
      clear c10
      have H' := Aside0.mk H
      clear H
      obtain ⟨hcz11_0, hcz11_1, hcz11_2, hcz11_3, hcz11_4, hfz11_0, hfz11_1, hfz11_2, hfz11_3, hfz11_4⟩ := vF5 BK264.out
      go_wp2
      go_meet
      case rel => exact ⟨_, (true), (by first | rfl | (simp; done) | (simp [*]; done)), H', ⟨by first | omega | exact Nat.le_refl _⟩, ⟨vB BK264.out⟩, ⟨vW HB.out⟩⟩
     ·
      rw [if_neg c10] at H
      have c10b0 : decide (1 < a0_1) = false := decide_eq_false c10
      clear c10
      by_cases c12 : a0_3 < (-1)
      ·
       rw [if_pos c12] at H
       have c12b0 : decide (a0_3 < (-1)) = true := decide_eq_true c12
       clear c12
       have H' := Aside0.mk H
       clear H
       obtain ⟨hcz13_0, hcz13_1, hcz13_2, hcz13_3, hcz13_4, hfz13_0, hfz13_1, hfz13_2, hfz13_3, hfz13_4⟩ := vF5 BK264.out
       go_wp2
       go_meet
       case rel => exact ⟨_, (true), (by first | rfl | (simp; done) | (simp [*]; done)), H', ⟨by first | omega | exact Nat.le_refl _⟩, ⟨vB BK264.out⟩, ⟨vW HB.out⟩⟩
      ·
       rw [if_neg c12] at H
       have c12b0 : decide (a0_3 < (-1)) = false := decide_eq_false c12
       clear c12
       by_cases c14 : a0_3 > 1
       ·
        rw [if_pos c14] at H
        have c14b0 : decide (1 < a0_3) = true := decide_eq_true c14
        clear c14
        have H' := Aside0.mk H
        clear H
        obtain ⟨hcz15_0, hcz15_1, hcz15_2, hcz15_3, hcz15_4, hfz15_0, hfz15_1, hfz15_2, hfz15_3, hfz15_4⟩ := vF5 BK264.out
        go_wp2
        go_meet
        case rel => exact ⟨_, (true), (by first | rfl | (simp; done) | (simp [*]; done)), H', ⟨by first | omega | exact Nat.le_refl _⟩, ⟨vB BK264.out⟩, ⟨vW HB.out⟩⟩
       ·
        rw [if_neg c14] at H
        have c14b0 : decide (1 < a0_3) = false := decide_eq_false c14
        clear c14
        by_cases c16 : a0_0 < 0
        ·
         rw [if_pos c16] at H
         have c16b0 : decide (a0_0 < 0) = true := decide_eq_true c16
         clear c16
         have H' := Aside0.mk H
         clear H
         obtain ⟨hcz17_0, hcz17_1, hcz17_2, hcz17_3, hcz17_4, hfz17_0, hfz17_1, hfz17_2, hfz17_3, hfz17_4⟩ := vF5 BK264.out
         go_wp2
         go_meet
         case rel => exact ⟨_, (true), (by first | rfl | (simp; done) | (simp [*]; done)), H', ⟨by first | omega | exact Nat.le_refl _⟩, ⟨vB BK264.out⟩, ⟨vW HB.out⟩⟩
        ·
         rw [if_neg c16] at H
         have c16b0 : decide (a0_0 < 0) = false := decide_eq_false c16
         clear c16
         have H' := Aside0.mk H
         clear H
         obtain ⟨hcz18_0, hcz18_1, hcz18_2, hcz18_3, hcz18_4, hfz18_0, hfz18_1, hfz18_2, hfz18_3, hfz18_4⟩ := vF5 BK264.out
         go_wp2
         go_meet
         case rel => exact ⟨_, (decide (a0_2 < 0)), (by first | rfl | (simp; done) | (simp [*]; done)), H', ⟨by first | omega | exact Nat.le_refl _⟩, ⟨vB BK264.out⟩, ⟨vW HB.out⟩⟩
 case rest =>
  clear HC2
  obtain ⟨kq, x40_1, rfl, HA, HJ1, BK264, HB⟩ := hcut
  cases kq with
  | zero => exact absurd HA.out (by simp [gimballaw11_form.j0])
  | succ kj1 =>
   have H := HA.out
   clear HA
   simp only [gimballaw11_form.j0] at H
   by_cases c19 : x40_1 = true
   ·
    subst c19
    have H1 : (some false) = some r := by rw [if_pos rfl] at H; exact H
    clear H
    have H := H1
    clear H1
    obtain rfl := Option.some.inj H
    go_wp2
    go_ret
    exact ⟨by first | rfl | (simp [errW_none, errW_some] <;> rfl) | (simp [*, errW_none, errW_some] <;> rfl) | (simp [wrap64]; done), vW HB.out⟩
   ·
    replace c19 := Bool.eq_false_iff.mpr c19
    subst c19
    have H1 : (if a0_1 = 0 then (if a0_3 = 0 then (if a0_0 = 0 then (some (a0_2 == 0)) else (some false)) else (some false)) else (if a0_3 = 0 then (if a0_2 = 0 then (some true) else (some false)) else (some (decide (a0_0 < a0_2))))) = some r := by rw [if_neg (show ¬ (false = true) by decide)] at H; exact H
    clear H
    have H := H1
    clear H1
    by_cases c20 : a0_1 = 0
    ·
     rw [if_pos c20] at H
     have c20b0 : (a0_1 == 0) = true := beq_iff_eq.mpr c20
     have c20b1 : (a0_1 != 0) = false := bne_eq_false_iff_eq.mpr c20
     clear c20
     by_cases c21 : a0_3 = 0
     ·
      rw [if_pos c21] at H
      have c21b0 : (a0_3 == 0) = true := beq_iff_eq.mpr c21
      have c21b1 : (a0_3 != 0) = false := bne_eq_false_iff_eq.mpr c21
      clear c21
      by_cases c22 : a0_0 = 0
      ·
       rw [if_pos c22] at H
       have c22b0 : (a0_0 == 0) = true := beq_iff_eq.mpr c22
       have c22b1 : (a0_0 != 0) = false := bne_eq_false_iff_eq.mpr c22
       clear c22
       obtain rfl := Option.some.inj H
       obtain ⟨hcz23_0, hcz23_1, hcz23_2, hcz23_3, hcz23_4, hfz23_0, hfz23_1, hfz23_2, hfz23_3, hfz23_4⟩ := vF5 BK264.out
       go_wp2
       go_ret
       exact ⟨by first | rfl | (simp [errW_none, errW_some] <;> rfl) | (simp [*, errW_none, errW_some] <;> rfl) | (simp [wrap64]; done), vW HB.out⟩
      ·
       rw [if_neg c22] at H
       have c22b0 : (a0_0 == 0) = false := beq_eq_false_iff_ne.mpr c22
       have c22b1 : (a0_0 != 0) = true := bne_iff_ne.mpr c22
       obtain rfl := Option.some.inj H
       obtain ⟨hcz24_0, hcz24_1, hcz24_2, hcz24_3, hcz24_4, hfz24_0, hfz24_1, hfz24_2, hfz24_3, hfz24_4⟩ := vF5 BK264.out
       go_wp2
       go_ret
       exact ⟨by first | rfl | (simp [errW_none, errW_some] <;> rfl) | (simp [*, errW_none, errW_some] <;> rfl) | (simp [wrap64]; done), vW HB.out⟩
     ·
      rw [if_neg c21] at H
      have c21b0 : (a0_3 == 0) = false := beq_eq_false_iff_ne.mpr c21
      have c21b1 : (a0_3 != 0) = true := bne_iff_ne.mpr c21
      obtain rfl := Option.some.inj H
      obtain ⟨hcz25_0, hcz25_1, hcz25_2, hcz25_3, hcz25_4, hfz25_0, hfz25_1, hfz25_2, hfz25_3, hfz25_4⟩ := vF5 BK264.out
      go_wp2
      go_ret
      exact ⟨by first | rfl | (simp [errW_none, errW_some] <;> rfl) | (simp [*, errW_none, errW_some] <;> rfl) | (simp [wrap64]; done), vW HB.out⟩
    ·
     rw [if_neg c20] at H
     have c20b0 : (a0_1 == 0) = false := beq_eq_false_iff_ne.mpr c20
     have c20b1 : (a0_1 != 0) = true := bne_iff_ne.mpr c20
     by_cases c26 : a0_3 = 0
     ·
      rw [if_pos c26] at H
      have c26b0 : (a0_3 == 0) = true := beq_iff_eq.mpr c26
      have c26b1 : (a0_3 != 0) = false := bne_eq_false_iff_eq.mpr c26
      clear c26
      by_cases c27 : a0_2 = 0
      ·
       rw [if_pos c27] at H
       have c27b0 : (a0_2 == 0) = true := beq_iff_eq.mpr c27
       have c27b1 : (a0_2 != 0) = false := bne_eq_false_iff_eq.mpr c27
       clear c27
       obtain rfl := Option.some.inj H
       obtain ⟨hcz28_0, hcz28_1, hcz28_2, hcz28_3, hcz28_4, hfz28_0, hfz28_1, hfz28_2, hfz28_3, hfz28_4⟩ := vF5 BK264.out
       go_wp2
       go_ret
       exact ⟨by first | rfl | (simp [errW_none, errW_some] <;> rfl) | (simp [*, errW_none, errW_some] <;> rfl) | (simp [wrap64]; done), vW HB.out⟩
      ·
       rw [if_neg c27] at H
       have c27b0 : (a0_2 == 0) = false := beq_eq_false_iff_ne.mpr c27
       have c27b1 : (a0_2 != 0) = true := bne_iff_ne.mpr c27
       obtain rfl := Option.some.inj H
       obtain ⟨hcz29_0, hcz29_1, hcz29_2, hcz29_3, hcz29_4, hfz29_0, hfz29_1, hfz29_2, hfz29_3, hfz29_4⟩ := vF5 BK264.out
       go_wp2
       go_ret
       exact ⟨by first | rfl | (simp [errW_none, errW_some] <;> rfl) | (simp [*, errW_none, errW_some] <;> rfl) | (simp [wrap64]; done), vW HB.out⟩
     ·
      rw [if_neg c26] at H
      have c26b0 : (a0_3 == 0) = false := beq_eq_false_iff_ne.mpr c26
      have c26b1 : (a0_3 != 0) = true := bne_iff_ne.mpr c26
      obtain rfl := Option.some.inj H
      obtain ⟨hcz30_0, hcz30_1, hcz30_2, hcz30_3, hcz30_4, hfz30_0, hfz30_1, hfz30_2, hfz30_3, hfz30_4⟩ := vF5 BK264.out
      go_wp2
      go_ret
      exact ⟨by first | rfl | (simp [errW_none, errW_some] <;> rfl) | (simp [*, errW_none, errW_some] <;> rfl) | (simp [wrap64]; done), vW HB.out⟩
end Go.Proofs.Ytomgebmimgaojaa.QO
end
end
section
/- Written by a program of this session out of the translation. -/
noncomputable section
namespace Go.Proofs.Ytomgebmimgaojaa.QO
open Go.RowKit Go.Proofs.YtomgebmimgaojaaW.PrintWords Go.Proofs.YtomgebmimgaojaaW.PrintLast
set_option linter.unusedVariables false
set_option linter.unusedSimpArgs false
/-! ### bound_Up: function 57 -/
def bound_Up.f (a0 : Int) (a1 : Int) : Option (Int) := (bound_Fit.f a0).bind fun t151 => ((bound_Fit.f a1).bind fun t152 => (if t151 = 4611686018427387904 then (some 4611686018427387904) else (if t152 = 4611686018427387904 then (some 4611686018427387904) else (some (mn (mx (wrap64 (t151 + t152)) (-4611686018427387903)) 4611686018427387904)))))
set_option maxHeartbeats 8000000 in
set_option maxRecDepth 100000 in
theorem bound_Up.calls (a0 : Int) (a1 : Int) (r : Int) (w : World) (h : bound_Up.f a0 a1 = some r) :
 Calls Try.prog 57 #[.int .i64 a0, .int .i64 a1] w fun e w' => e = .returned (.int .i64 r) ∧ Below w.heap.size w w' := by
 have HB := Aside0.mk (Below.refl w.heap.size w)
 have H : ((bound_Fit.f a0).bind fun t151 => ((bound_Fit.f a1).bind fun t152 => (if t151 = 4611686018427387904 then (some 4611686018427387904) else (if t152 = 4611686018427387904 then (some 4611686018427387904) else (some (mn (mx (wrap64 (t151 + t152)) (-4611686018427387903)) 4611686018427387904)))))) = some r := h
 clear h
 replace H := Option.bind_eq_some_iff.mp H
 obtain ⟨t151, A30, H⟩ := H
 replace H : ((bound_Fit.f a1).bind fun t152 => (if t151 = 4611686018427387904 then (some 4611686018427387904) else (if t152 = 4611686018427387904 then (some 4611686018427387904) else (some (mn (mx (wrap64 (t151 + t152)) (-4611686018427387903)) 4611686018427387904))))) = some r := H
 have A3 := Aside0.mk A30
 clear A30
 replace H := Option.bind_eq_some_iff.mp H
 obtain ⟨t152, A40, H⟩ := H
 replace H : (if t151 = 4611686018427387904 then (some 4611686018427387904) else (if t152 = 4611686018427387904 then (some 4611686018427387904) else (some (mn (mx (wrap64 (t151 + t152)) (-4611686018427387903)) 4611686018427387904)))) = some r := H
 have A4 := Aside0.mk A40
 clear A40
 by_cases c5 : t151 = 4611686018427387904
 ·
  rw [if_pos c5] at H
  have c5b0 : (t151 == 4611686018427387904) = true := beq_iff_eq.mpr c5
  have c5b1 : (t151 != 4611686018427387904) = false := bne_eq_false_iff_eq.mpr c5
  clear c5
  obtain rfl := Option.some.inj H
  go_enter Try.func57, Try.ntmps57
  go_wp2_with (first | ((with_reducible refine gate_callee (f := 83) rfl ?_); refine goesL_ (some 6) rfl rfl Try.func83 (by kernel_rfl) rfl #[.int .i64 a0] rfl vL ?_; (with_reducible refine (bound_Fit.calls a0 t151 _ A3.out).mono ?_); rintro e w' ⟨rfl, ⟨nd, rfl⟩⟩; refine ⟨_, rfl, ?_⟩) | ((with_reducible refine gate_callee (f := 83) rfl ?_); refine goesL_ (some 8) rfl rfl Try.func83 (by kernel_rfl) rfl #[.int .i64 a1] rfl vL ?_; (with_reducible refine (bound_Fit.calls a1 t152 _ A4.out).mono ?_); rintro e w' ⟨rfl, ⟨nd, rfl⟩⟩; refine ⟨_, rfl, ?_⟩))
  go_ret
  exact ⟨by first | rfl | (simp [errW_none, errW_some] <;> rfl) | (simp [*, errW_none, errW_some] <;> rfl) | (simp [wrap64]; done), vW HB.out⟩
 ·
  rw [if_neg c5] at H
  have c5b0 : (t151 == 4611686018427387904) = false := beq_eq_false_iff_ne.mpr c5
  have c5b1 : (t151 != 4611686018427387904) = true := bne_iff_ne.mpr c5
  by_cases c6 : t152 = 4611686018427387904
  ·
   rw [if_pos c6] at H
   have c6b0 : (t152 == 4611686018427387904) = true := beq_iff_eq.mpr c6
   have c6b1 : (t152 != 4611686018427387904) = false := bne_eq_false_iff_eq.mpr c6
   clear c6
   obtain rfl := Option.some.inj H
   go_enter Try.func57, Try.ntmps57
   go_wp2_with (first | ((with_reducible refine gate_callee (f := 83) rfl ?_); refine goesL_ (some 6) rfl rfl Try.func83 (by kernel_rfl) rfl #[.int .i64 a0] rfl vL ?_; (with_reducible refine (bound_Fit.calls a0 t151 _ A3.out).mono ?_); rintro e w' ⟨rfl, ⟨nd, rfl⟩⟩; refine ⟨_, rfl, ?_⟩) | ((with_reducible refine gate_callee (f := 83) rfl ?_); refine goesL_ (some 8) rfl rfl Try.func83 (by kernel_rfl) rfl #[.int .i64 a1] rfl vL ?_; (with_reducible refine (bound_Fit.calls a1 t152 _ A4.out).mono ?_); rintro e w' ⟨rfl, ⟨nd, rfl⟩⟩; refine ⟨_, rfl, ?_⟩))
   go_ret
   exact ⟨by first | rfl | (simp [errW_none, errW_some] <;> rfl) | (simp [*, errW_none, errW_some] <;> rfl) | (simp [wrap64]; done), vW HB.out⟩
  ·
   rw [if_neg c6] at H
   have c6b0 : (t152 == 4611686018427387904) = false := beq_eq_false_iff_ne.mpr c6
   have c6b1 : (t152 != 4611686018427387904) = true := bne_iff_ne.mpr c6
   obtain ⟨ji7, hji7⟩ : ∃ j_ : Int, (mx (wrap64 (t151 + t152)) (-4611686018427387903)) = j_ := ⟨_, rfl⟩
   replace H : (some (mn (ji7) 4611686018427387904)) = some r := by first | (rw [hji7] at H; exact H) | (simp only [hji7] at H ⊢; exact H)
   (try rw [hji7] at A3)
   (try rw [hji7] at A4)
   have hji7_ : (if (wrap64 (t151 + t152)) < (-4611686018427387903) then (-4611686018427387903) else (wrap64 (t151 + t152))) = ji7 := hji7
   obtain ⟨ji8, hji8⟩ : ∃ j_ : Int, (mn (ji7) 4611686018427387904) = j_ := ⟨_, rfl⟩
   replace H : (some ji8) = some r := by first | (rw [hji8] at H; exact H) | (simp only [hji8] at H ⊢; exact H)
   (try rw [hji8] at A3)
   (try rw [hji8] at A4)
   have hji8_ : (if 4611686018427387904 < (ji7) then 4611686018427387904 else (ji7)) = ji8 := hji8
   obtain rfl := Option.some.inj H
   go_enter Try.func57, Try.ntmps57
   go_wp2_with (first | ((with_reducible refine gate_callee (f := 83) rfl ?_); refine goesL_ (some 6) rfl rfl Try.func83 (by kernel_rfl) rfl #[.int .i64 a0] rfl vL ?_; (with_reducible refine (bound_Fit.calls a0 t151 _ A3.out).mono ?_); rintro e w' ⟨rfl, ⟨nd, rfl⟩⟩; refine ⟨_, rfl, ?_⟩) | ((with_reducible refine gate_callee (f := 83) rfl ?_); refine goesL_ (some 8) rfl rfl Try.func83 (by kernel_rfl) rfl #[.int .i64 a1] rfl vL ?_; (with_reducible refine (bound_Fit.calls a1 t152 _ A4.out).mono ?_); rintro e w' ⟨rfl, ⟨nd, rfl⟩⟩; refine ⟨_, rfl, ?_⟩))
   go_ret
   exact ⟨by first | rfl | (simp [errW_none, errW_some] <;> rfl) | (simp only [← hji7, ← hji8]; first | rfl | (simp [errW_none, errW_some] <;> rfl)) | (simp [*, errW_none, errW_some] <;> rfl) | (simp [wrap64]; done), vW HB.out⟩
end Go.Proofs.Ytomgebmimgaojaa.QO
end
end
section
/- The iterator over two tables, walked once for every loop body. -/
noncomputable section
namespace Go.Proofs.Ytomgebmimgaojaa.QO
open Go.RowKit Go.Shelf Go.Proofs.YtomgebmimgaojaaW.PrintWords Go.Proofs.YtomgebmimgaojaaW.PrintLast Go.Proofs.YtomgebmimgaojaaW.PrintMore
attribute [local go_sem] Oper.semAt_some
set_option linter.unusedVariables false
set_option linter.unusedSimpArgs false
/-- what an iterator's invariant abides: new blocks -/
theorem abides_below {β : Type} {B : Nat} {J : β → World → Prop} (hJ : AbidesFrom B J) {s : β} {W W' : World} (h : J s W) (hb : Below W.heap.size W W') : J s W' :=
  hJ s W W' none h ⟨hb.os, hb.tape, hb.output, hb.size, fun k hk _ => hb.block k hk⟩ (fun r e => by cases e)
/-- what lay ahead of the caller, and the two boxes, lie as they lay -/
structure KeepBoxes (n₀ B1 B2 : Nat) (W W' : World) : Prop where
  below : Below n₀ W W'
  box1 : W'.heap[B1]? = W.heap[B1]?
  box2 : W'.heap[B2]? = W.heap[B2]?
theorem KeepBoxes.trans {n₀ B1 B2 : Nat} {A B C : World} (h : KeepBoxes n₀ B1 B2 A B) (k : KeepBoxes n₀ B1 B2 B C) : KeepBoxes n₀ B1 B2 A C :=
  ⟨h.below.trans k.below, k.box1.trans h.box1, k.box2.trans h.box2⟩
theorem KeepBoxes.refl (n₀ B1 B2 : Nat) (A : World) : KeepBoxes n₀ B1 B2 A A := ⟨Below.refl _ _, rfl, rfl⟩
theorem keepBoxes_b {n₀ B1 B2 : Nat} {w : World} (hn : n₀ ≤ w.heap.size) (h1 : B1 < w.heap.size) (h2 : B2 < w.heap.size) (W : World) (l : Nat) (o o' : Obj) (hl : w.heap.size ≤ l) (h : W.heap[l]? = some o) (hc : o.isCells = false) (hw : o.isWalk = false) :
    KeepBoxes n₀ B1 B2 W (W.putObj l o') :=
  ⟨belowK_b hn W l o o' hl h hc hw, World.putObj_heap_other (by omega), World.putObj_heap_other (by omega)⟩
/-- one box with a table -/
def TBox (W : World) (B : Nat) (n : Int) (A : Option Addr) (len cap : Nat) : Prop := W.heap[B]? = some (.cells #[tableV n A len cap] 64 (0, 0))
theorem TBox.cell {W : World} {B : Nat} {n : Int} {A : Option Addr} {len cap : Nat} (h : TBox W B n A len cap) : W.cell? ⟨B, 0, none⟩ = some (.iface 85 (.agg #[.int .i64 n, .slice A len cap])) := by
  unfold TBox at h; simp [World.cell?, h, tableV]
set_option maxHeartbeats 8000000 in
set_option maxRecDepth 100000 in
theorem oct_both_in (n1 n2 : Int) (A1 A2 : Option Addr) (l1 c1 l2 c2 : Nat) (w : World) :
    CallsIn Fence.wide 5 Try.prog 73 #[tableV n1 A1 l1 c1, tableV n2 A2 l2 c2] w fun e w' => e = .returned (.func (.func 91) #[] #[.pointer (some ⟨w.heap.size, 0, none⟩), .pointer (some ⟨w.heap.size + 1, 0, none⟩)]) ∧
      w' = (w.alloc (.cells #[tableV n1 A1 l1 c1] 64)).alloc (.cells #[tableV n2 A2 l2 c2] 64) := by
  unfold tableV
  refine callsIn_of_wp Try.func73 rfl trivial ?_ rfl
  simp only [Try.ntmps73, List.size_toArray, List.length_cons, List.length_nil, Nat.reduceAdd, Nat.reduceSub, Array.replicate_succ, Array.replicate_zero, List.push_toArray, List.append_toArray, List.nil_append, List.cons_append]
  gi_wp2
  go_ret
  exact ⟨rfl, rfl⟩
/-- the rounds' pairs -/
def pairAt (n2 : Nat) (m1 m2 : List Int) (k : Nat) : Int × Int × Int := ((k : Int), lowAt (n2 : Int) m1 ((k / n2 : Nat) : Int) ((k % n2 : Nat) : Int), lowAt (n2 : Int) m2 ((k / n2 : Nat) : Int) ((k % n2 : Nat) : Int))
theorem pairAt_ij {n2 i j : Nat} {m1 m2 : List Int} (hj : j < n2) : pairAt n2 m1 m2 (i * n2 + j) = (((i * n2 + j : Nat) : Int), lowAt (n2 : Int) m1 (i : Int) (j : Int), lowAt (n2 : Int) m2 (i : Int) (j : Int)) := by
  have h1 : (i * n2 + j) / n2 = i := by rw [Nat.mul_comm, Nat.mul_add_div (by omega), Nat.div_eq_of_lt hj, Nat.add_zero]
  have h2 : (i * n2 + j) % n2 = j := by rw [Nat.mul_comm, Nat.mul_add_mod, Nat.mod_eq_of_lt hj]
  unfold pairAt; rw [h1, h2]
/-- what the iterator knows of a world -/
structure BP (w0 : World) (n₀ B1 B2 : Nat) (n : Int) (A1 : Option Addr) (l1 c1 : Nat) (A2 : Option Addr) (l2 c2 : Nat) (W : World) : Prop where
  below : Below n₀ w0 W
  box1 : TBox W B1 n A1 l1 c1
  box2 : TBox W B2 n A2 l2 c2
theorem BP.next {w0 : World} {n₀ B1 B2 : Nat} {n : Int} {A1 : Option Addr} {l1 c1 : Nat} {A2 : Option Addr} {l2 c2 : Nat} {W W' : World} (h : BP w0 n₀ B1 B2 n A1 l1 c1 A2 l2 c2 W) (hn : n₀ ≤ W.heap.size) (hb : Below W.heap.size W W') : BP w0 n₀ B1 B2 n A1 l1 c1 A2 l2 c2 W' :=
  ⟨h.below.trans (hb.mono hn), (hb.block _ (Array.getElem?_eq_some_iff.1 h.box1).1).trans h.box1, (hb.block _ (Array.getElem?_eq_some_iff.1 h.box2).1).trans h.box2⟩
theorem BP.keep {w0 : World} {n₀ B1 B2 : Nat} {n : Int} {A1 : Option Addr} {l1 c1 : Nat} {A2 : Option Addr} {l2 c2 : Nat} {W W' : World} (h : BP w0 n₀ B1 B2 n A1 l1 c1 A2 l2 c2 W) (hb : KeepBoxes n₀ B1 B2 W W') : BP w0 n₀ B1 B2 n A1 l1 c1 A2 l2 c2 W' :=
  ⟨h.below.trans hb.below, hb.box1.trans h.box1, hb.box2.trans h.box2⟩
set_option maxHeartbeats 16000000 in
set_option maxRecDepth 100000 in
/-- **the iterator's own function, for every loop body that keeps what lay ahead and the two boxes** -/
theorem oct_both1_in (l B1 B2 : Nat) (A1 A2 : Option Addr) (c1 c2 : Nat) (m1 m2 : List Int) (nv n2 : Nat) (w0 : World) (hn : nv ≤ 8) (hn2 : n2 = 2 * nv) (hm1 : (m1.length : Int) = (2 * (nv : Int)) * (2 * (nv : Int))) (hm2 : (m2.length : Int) = (2 * (nv : Int)) * (2 * (nv : Int)))
    (hc1 : m1.length ≤ c1) (hc2 : m2.length ≤ c2) (hr1 : Kd.C (Kd.int .i64) w0 A1 m1.length m1) (hr2 : Kd.C (Kd.int .i64) w0 A2 m2.length m2)
    (J Jx : Nat → World → Prop) (W : World) (hJ : AbidesFrom W.heap.size J) (hJx : AbidesFrom W.heap.size Jx)
    (hY : ∀ k W1, J k W1 → k < n2 * n2 → YieldAt Fence.wide 4 Try.prog l #[.int .i64 (pairAt n2 m1 m2 k).1, .agg #[.int .i64 (pairAt n2 m1 m2 k).2.1, .int .i64 (pairAt n2 m1 m2 k).2.2]] W1 fun e W' =>
      (e = .returned (.bool true) ∧ J (k + 1) W' ∧ KeepBoxes w0.heap.size B1 B2 W1 W') ∨ (e = .returned (.bool false) ∧ Jx (k + 1) W'))
    (hB : BP w0 w0.heap.size B1 B2 (2 * (nv : Int)) A1 m1.length c1 A2 m2.length c2 W) (h0 : J 0 W) :
    CallsIn Fence.wide 5 Try.prog 91 #[.func (.yield l) #[] #[], .pointer (some ⟨B1, 0, none⟩), .pointer (some ⟨B2, 0, none⟩)] W fun e W' => (∃ v, e = .returned v) ∧
      (J (n2 * n2) W' ∨ (∃ k, k ≤ n2 * n2 ∧ Jx k W')) := by
  have hms := meth_size
  have hma := meth_at
  have AT1 := Aside0.mk (fun (W : World) (i j : Int) (hW : Below w0.heap.size w0 W) (h0 : 0 ≤ i) (h1 : i < 2 * (nv : Int)) (h2 : 0 ≤ j) (h3 : j < 2 * (nv : Int)) => oct_lower_at_any nv A1 c1 m1 i j W (Kd.C_below hr1 hW) hc1 hn hm1 h0 h1 h2 h3)
  have AT2 := Aside0.mk (fun (W : World) (i j : Int) (hW : Below w0.heap.size w0 W) (h0 : 0 ≤ i) (h1 : i < 2 * (nv : Int)) (h2 : 0 ≤ j) (h3 : j < 2 * (nv : Int)) => oct_lower_at_any nv A2 c2 m2 i j W (Kd.C_below hr2 hW) hc2 hn hm2 h0 h1 h2 h3)
  have HJ := Aside0.mk hJ
  have HY := Aside0.mk hY
  have HB := Aside0.mk hB
  have H0 := Aside0.mk h0
  have HN := Aside0.mk (And.intro hn hn2)
  clear hr1 hr2 hJ hJx hY h0 hc1 hc2 hn hn2 hm1 hm2
  have hb1 := HB.out.box1.cell
  clear hB
  refine callsIn_of_wp Try.func91 rfl trivial ?_ rfl
  simp only [Try.ntmps91, List.size_toArray, List.length_cons, List.length_nil, Nat.reduceAdd, Nat.reduceSub, Array.replicate_succ, Array.replicate_zero, List.push_toArray, List.append_toArray, List.nil_append, List.cons_append]
  gi_wp2_with (refine ⟨trivial, ?_⟩; gi_at_call 110; (with_reducible refine (callsIn_wide.2 (oct_size_any _ _ _ _ _)).mono ?_); rintro e w1 ⟨rfl, hb⟩; have HB2 : Aside0 (BP w0 w0.heap.size B1 B2 (2 * (nv : Int)) A1 m1.length c1 A2 m2.length c2 w1) := ⟨BP.next HB.out HB.out.below.size hb⟩; have HJ2 : Aside0 (J 0 w1) := ⟨abides_below HJ.out H0.out hb⟩; clear HB H0 hb hb1)
  gi_loopw [10] (fun i wr => ∃ k : Nat, i = .int .i64 (k : Int) ∧ Aside0 (k ≤ n2) ∧ Aside0 (J ((k * n2)) wr) ∧ Aside0 (BP w0 w0.heap.size B1 B2 (2 * (nv : Int)) A1 m1.length c1 A2 m2.length c2 wr))
    (fun i _ => n2 - (intOf i).toNat)
  case atStart => exact ⟨0, rfl, ⟨Nat.zero_le _⟩, ⟨by rw [Nat.zero_mul]; exact HJ2.out⟩, HB2⟩
  case round =>
    clear HJ2 HB2
    obtain ⟨k, rfl, HK, HJ3, HB3⟩ := hrel
    by_cases hlt : k < n2
    · have f3 : decide ((k : Int) < 2 * (nv : Int)) = true := decide_eq_true (by have := HN.out.2; omega)
      have HKL := Aside0.mk hlt
      clear hlt
      gi_wp2
      gi_loopw [14] (fun i wr => ∃ j : Nat, i = .int .i64 (j : Int) ∧ Aside0 (j ≤ n2) ∧ Aside0 (J ((k * n2 + j)) wr) ∧ Aside0 (BP w0 w0.heap.size B1 B2 (2 * (nv : Int)) A1 m1.length c1 A2 m2.length c2 wr))
        (fun i _ => n2 - (intOf i).toNat)
      case atStart => exact ⟨0, rfl, ⟨Nat.zero_le _⟩, ⟨HJ3.out⟩, HB3⟩
      case round =>
        clear HJ3 HB3
        obtain ⟨j, rfl, HJJ, HJ4, HB4⟩ := hrel
        by_cases hlt : j < n2
        · have f4 : decide ((j : Int) < 2 * (nv : Int)) = true := decide_eq_true (by have := HN.out.2; omega)
          have HJL := Aside0.mk hlt
          clear hlt
          have HX : Aside0 (pairAt n2 m1 m2 (k * n2 + j) = (((k * n2 + j : Nat) : Int), lowAt (2 * (nv : Int)) m1 (k : Int) (j : Int), lowAt (2 * (nv : Int)) m2 (k : Int) (j : Int))) := ⟨by
            have e : ((n2 : Nat) : Int) = 2 * (nv : Int) := by have := HN.out.2; omega
            rw [pairAt_ij HJL.out, e]⟩
          obtain ⟨p, hp⟩ : ∃ p, IntKind.i64.wrap ((k : Int) * (2 * (nv : Int))) = p := ⟨_, rfl⟩
          obtain ⟨q, hq⟩ : ∃ q, IntKind.i64.wrap (p + (j : Int)) = q := ⟨_, rfl⟩
          have HQ : Aside0 (q = ((k * n2 + j : Nat) : Int)) := ⟨by
            have h1 := HN.out.1; have h2 := HN.out.2; have h3 := HKL.out; have h4 := HJL.out
            have h5 : k * n2 ≤ 15 * 16 := Nat.mul_le_mul (by omega) (by omega)
            have h6 : (k : Int) * (2 * (nv : Int)) = ((k * n2 : Nat) : Int) := by rw [h2]; push_cast; rfl
            rw [h6, IntKind.wrap_i64] at hp
            have h7 : p = ((k * n2 : Nat) : Int) := by rw [← hp]; omega
            rw [h7, IntKind.wrap_i64] at hq; rw [← hq]; omega⟩
          have IJ : Aside0 (0 ≤ (k : Int) ∧ (k : Int) < 2 * (nv : Int) ∧ 0 ≤ (j : Int) ∧ (j : Int) < 2 * (nv : Int)) := ⟨by have h2 := HN.out.2; have h3 := HKL.out; have h4 := HJL.out; omega⟩
          have HYX : Aside0 (∀ W1, J ((k * n2 + j)) W1 → YieldAt Fence.wide 4 Try.prog l #[.int .i64 q, .agg #[.int .i64 (lowAt (2 * (nv : Int)) m1 (k : Int) (j : Int)), .int .i64 (lowAt (2 * (nv : Int)) m2 (k : Int) (j : Int))]] W1 fun e W' =>
              ∃ b, e = .returned (.bool b) ∧ ((b = true ∧ J ((k * n2 + (j + 1))) W' ∧ KeepBoxes w0.heap.size B1 B2 W1 W') ∨ (b = false ∧ Jx ((k * n2 + (j + 1))) W'))) := ⟨fun W1 h => by
            have hlen : k * n2 + j < n2 * n2 := by
              have h3 := HKL.out; have h4 := HJL.out
              have : (k + 1) * n2 ≤ n2 * n2 := Nat.mul_le_mul_right _ h3
              rw [Nat.add_mul, Nat.one_mul] at this; omega
            have := HY.out _ W1 h hlen
            rw [HX.out, ← HQ.out] at this
            obtain ⟨fn, tmps, assign, body, hy, hR⟩ := this
            refine ⟨fn, tmps, assign, body, hy, hR.mono ?_⟩
            rintro e W' (⟨rfl, h1, h2⟩ | ⟨rfl, h1⟩)
            · exact ⟨true, rfl, .inl ⟨rfl, h1, h2⟩⟩
            · exact ⟨false, rfl, .inr ⟨rfl, h1⟩⟩⟩
          obtain ⟨y1, hy1⟩ : ∃ y, lowAt (2 * (nv : Int)) m1 (k : Int) (j : Int) = y := ⟨_, rfl⟩
          obtain ⟨y2, hy2⟩ : ∃ y, lowAt (2 * (nv : Int)) m2 (k : Int) (j : Int) = y := ⟨_, rfl⟩
          have C1 : Aside0 (∀ W, Below w0.heap.size w0 W → Calls Try.prog 111 #[.agg #[.int .i64 (2 * (nv : Int)), .slice A1 m1.length c1], .int .i64 (k : Int), .int .i64 (j : Int)] W fun e w' => e = .returned (.int .i64 y1) ∧ Below W.heap.size W w') := ⟨fun W hW => by rw [← hy1]; exact AT1.out W k j hW IJ.out.1 IJ.out.2.1 IJ.out.2.2.1 IJ.out.2.2.2⟩
          have C2 : Aside0 (∀ W, Below w0.heap.size w0 W → Calls Try.prog 111 #[.agg #[.int .i64 (2 * (nv : Int)), .slice A2 m2.length c2], .int .i64 (k : Int), .int .i64 (j : Int)] W fun e w' => e = .returned (.int .i64 y2) ∧ Below W.heap.size W w') := ⟨fun W hW => by rw [← hy2]; exact AT2.out W k j hW IJ.out.1 IJ.out.2.1 IJ.out.2.2.1 IJ.out.2.2.2⟩
          rw [hy1, hy2] at HYX
          have HBd : Aside0 (BP w0 w0.heap.size B1 B2 (2 * (nv : Int)) A1 m1.length c1 A2 m2.length c2 wr.drew) := ⟨BP.next HB4.out HB4.out.below.size (below_drew (Below.refl _ _))⟩
          have HJd : Aside0 (J ((k * n2 + j)) wr.drew) := ⟨abides_below HJ.out HJ4.out (below_drew (Below.refl _ _))⟩
          have hb1 := HB4.out.box1.cell
          have hb2 := HB4.out.box2.cell
          clear AT1 AT2 HX hy1 hy2 HY
          gi_wp2
          gi_region_with (first
            | (refine ⟨trivial, ?_⟩; gi_at_call 111; (with_reducible refine (callsIn_wide.2 (C1.out _ ?s1)).mono ?_); (case s1 => exact HBd.out.below); rintro e w1 ⟨rfl, hb⟩; have HB5 : Aside0 (BP w0 w0.heap.size B1 B2 (2 * (nv : Int)) A1 m1.length c1 A2 m2.length c2 w1) := ⟨BP.next HBd.out HBd.out.below.size hb⟩; have HJ5 : Aside0 (J ((k * n2 + j)) w1) := ⟨abides_below HJ.out HJd.out hb⟩; have hb4 := HB5.out.box2.cell; clear C1 hb HBd HJd)
            | (refine ⟨trivial, ?_⟩; gi_at_call 111; (with_reducible refine (callsIn_wide.2 (C2.out _ ?s1)).mono ?_); (case s1 => exact HB5.out.below); rintro e w2 ⟨rfl, hb⟩; have HB6 : Aside0 (BP w0 w0.heap.size B1 B2 (2 * (nv : Int)) A1 m1.length c1 A2 m2.length c2 w2) := ⟨BP.next HB5.out HB5.out.below.size hb⟩; have HJ6 : Aside0 (J ((k * n2 + j)) w2) := ⟨abides_below HJ.out HJ5.out hb⟩; obtain ⟨fn, tmps, assign, body, hy, hR⟩ := HYX.out w2 HJ6.out; clear C2 hb HB5 HJ5 hb4)
            | (refine hR.mono ?_; rintro e W3 ⟨b, rfl, h3⟩; have H3 := Aside0.mk h3; clear h3 hR hy))
          all_goals (
            obtain ⟨rfl, h1, h2⟩ | ⟨rfl, h1⟩ := H3.out
            · have H1 := Aside0.mk h1
              have HB7 : Aside0 (BP w0 w0.heap.size B1 B2 (2 * (nv : Int)) A1 m1.length c1 A2 m2.length c2 W3) := ⟨BP.keep HB6.out h2⟩
              clear h1 h2 H3 HB6 HJ6 HYX
              gi_wp2
              go_roundw
              case rel =>
                have h3 := HJL.out; have h4 := HN.out
                have hw : wrap64 ((j : Int) + 1) = ((j + 1 : Nat) : Int) := by unfold wrap64; omega
                exact ⟨j + 1, by rw [hw], ⟨h3⟩, H1, HB7⟩
              case measure =>
                have h3 := HJL.out; have h4 := HN.out
                have hw : wrap64 ((j : Int) + 1) = ((j + 1 : Nat) : Int) := by unfold wrap64; omega
                rw [hw]; simp only [intOf]; omega
            · have H1 := Aside0.mk h1
              clear h1 H3 HB6 HJ6 HYX
              gi_wp2
              refine bodyPost_ret (results_none rfl _ _ _) rfl ?_
              refine ⟨⟨_, rfl⟩, .inr ⟨k * n2 + (j + 1), ?_, H1.out⟩⟩
              have h3 := HKL.out; have h4 := HJL.out
              have : (k + 1) * n2 ≤ n2 * n2 := Nat.mul_le_mul_right _ h3
              rw [Nat.add_mul, Nat.one_mul] at this; omega)
        · have f4 : decide ((j : Int) < 2 * (nv : Int)) = false := decide_eq_false (by have := HN.out.2; omega)
          have ej : j = n2 := by have := HJJ.out; omega
          have HEJ := Aside0.mk ej
          clear hlt ej
          gi_wp2
          have h3 := HKL.out; have h4 := HN.out
          have hw : wrap64 ((k : Int) + 1) = ((k + 1 : Nat) : Int) := by unfold wrap64; omega
          have hj := HJ4.out
          rw [HEJ.out] at hj
          have e : (k + 1) * n2 = k * n2 + n2 := by rw [Nat.add_mul, Nat.one_mul]
          refine ⟨⟨k + 1, by rw [hw], ⟨h3⟩, ⟨by rw [e]; exact hj⟩, HB4⟩, ?_⟩
          rw [hw]; simp only [intOf]; omega
    · have f3 : decide ((k : Int) < 2 * (nv : Int)) = false := decide_eq_false (by have := HN.out.2; omega)
      have ej : k = n2 := by have := HK.out; omega
      have HEJ := Aside0.mk ej
      clear hlt ej
      gi_wp2
      go_end0
      exact ⟨⟨_, rfl⟩, .inl (by have := HJ3.out; rw [HEJ.out] at this; exact this)⟩
theorem finRange_take_succ {N k : Nat} (h : k < N) : (List.finRange N).take (k + 1) = (List.finRange N).take k ++ [⟨k, h⟩] := by
  rw [List.take_succ_eq_append_getElem (by simpa using h), List.getElem_finRange]; rfl
/-- **the value that ranges over two tables in step, as a contract of its own** -/
theorem oct_both_stops (B1 B2 : Nat) (A1 A2 : Option Addr) (c1 c2 : Nat) (m1 m2 : List Int) (nv n2 : Nat) (w0 w1 : World) (hn : nv ≤ 8) (hn2 : n2 = 2 * nv) (hm1 : (m1.length : Int) = (2 * (nv : Int)) * (2 * (nv : Int))) (hm2 : (m2.length : Int) = (2 * (nv : Int)) * (2 * (nv : Int)))
    (hc1 : m1.length ≤ c1) (hc2 : m2.length ≤ c2) (hr1 : Kd.C (Kd.int .i64) w0 A1 m1.length m1) (hr2 : Kd.C (Kd.int .i64) w0 A2 m2.length m2)
    (hB : BP w0 w0.heap.size B1 B2 (2 * (nv : Int)) A1 m1.length c1 A2 m2.length c2 w1) :
    SeqStopsK Fence.wide 5 Try.prog 91 #[.pointer (some ⟨B1, 0, none⟩), .pointer (some ⟨B2, 0, none⟩)] (fun x : Fin (n2 * n2) => #[.int .i64 (pairAt n2 m1 m2 x.1).1, .agg #[.int .i64 (pairAt n2 m1 m2 x.1).2.1, .int .i64 (pairAt n2 m1 m2 x.1).2.2]])
      (KeepBoxes w0.heap.size B1 B2) (fun ys => ys = List.finRange (n2 * n2)) (fun pre => ∃ k, k ≤ n2 * n2 ∧ pre = (List.finRange (n2 * n2)).take k) (n2 * n2) w1 := fun l J Jx W hW hJ hJx hY h0 => by
  have hB' := hB.next hB.below.size hW
  refine (oct_both1_in l B1 B2 A1 A2 c1 c2 m1 m2 nv n2 w0 hn hn2 hm1 hm2 hc1 hc2 hr1 hr2 (fun k W => J ((List.finRange (n2 * n2)).take k) W) (fun k W => Jx ((List.finRange (n2 * n2)).take k) W) W (fun s => hJ _) (fun s => hJx _) ?_ hB' (by simpa using h0)).mono ?_
  · intro k W1 hk hlt
    have := hY ((List.finRange (n2 * n2)).take k) ⟨k, hlt⟩ W1 hk (by simp; omega)
    rw [← finRange_take_succ] at this
    exact this
  · rintro e W' ⟨he, h | ⟨k, hk, h⟩⟩
    · exact ⟨he, .inl ⟨_, rfl, by rw [List.take_of_length_le (by simp)] at h; exact h⟩⟩
    · exact ⟨he, .inr ⟨_, ⟨k, hk, rfl⟩, h⟩⟩
end Go.Proofs.Ytomgebmimgaojaa.QO
end
end
section
/- Plain mathematics of difference bounds: closures as greatest closed matrices below a given one. -/
namespace Go.Proofs.Ytomgebmimgaojaa.OctMath
/-- sum of bounds; 2^62 is infinity -/
def plus (a b : Int) : Int := if a = 4611686018427387904 ∨ b = 4611686018427387904 then 4611686018427387904 else a + b
/-- finite entries lie within B -/
def Fin' (B : Int) (a : Int) : Prop := a = 4611686018427387904 ∨ (-B ≤ a ∧ a ≤ B)
def Bd (n : Nat) (B : Int) (m : Nat → Nat → Int) : Prop := ∀ i j, i < n → j < n → Fin' B (m i j)
/-- closed: nothing on the diagonal, and no way over a third node is shorter -/
def Closed (n : Nat) (c : Nat → Nat → Int) : Prop := (∀ i, i < n → c i i = 0) ∧ ∀ i j k, i < n → j < n → k < n → c i j ≤ plus (c i k) (c k j)
def Le (n : Nat) (c m : Nat → Nat → Int) : Prop := ∀ i j, i < n → j < n → c i j ≤ m i j
def Top62 (n : Nat) (m : Nat → Nat → Int) : Prop := ∀ i j, i < n → j < n → m i j ≤ 4611686018427387904
/-- d is the greatest closed matrix below m; there is none, where ok is false -/
def IsClosure (n : Nat) (m : Nat → Nat → Int) (ok : Bool) (d : Nat → Nat → Int) : Prop :=
  (ok = true → Closed n d ∧ Le n d m ∧ ∀ c, Closed n c → Top62 n c → Le n c m → Le n c d) ∧ (ok = false → ∀ c, Closed n c → Top62 n c → ¬ Le n c m)
theorem plus_mono {a b c d : Int} (h : a ≤ c) (h' : b ≤ d) (hc : c ≤ 4611686018427387904) (hd : d ≤ 4611686018427387904) (hs : a + b ≤ 4611686018427387904) : plus a b ≤ plus c d := by
  unfold plus; split <;> split <;> omega
theorem plus_comm (a b : Int) : plus a b = plus b a := by unfold plus; split <;> split <;> omega
theorem plus_top (a b : Int) (h : a + b ≤ 4611686018427387904) : plus a b ≤ 4611686018427387904 := by unfold plus; split <;> omega
theorem closure_unique {n : Nat} {m d e : Nat → Nat → Int} {a b : Bool} (hd : IsClosure n m a d) (he : IsClosure n m b e)
    (td : a = true → Top62 n d) (te : b = true → Top62 n e) : a = b ∧ (a = true → ∀ i j, i < n → j < n → d i j = e i j) := by
  cases a <;> cases b
  · exact ⟨rfl, fun h => by cases h⟩
  · obtain ⟨c, l, _⟩ := he.1 rfl
    exact absurd l (hd.2 rfl e c (te rfl))
  · obtain ⟨c, l, _⟩ := hd.1 rfl
    exact absurd l (he.2 rfl d c (td rfl))
  · obtain ⟨c, l, g⟩ := hd.1 rfl
    obtain ⟨c', l', g'⟩ := he.1 rfl
    refine ⟨rfl, fun _ i j hi hj => Int.le_antisymm (g' d c (td rfl) l i j hi hj) (g e c' (te rfl) l' i j hi hj)⟩
/-! ### Floyd's way: over one node after the other -/
def over (m : Nat → Nat → Int) (k : Nat) : Nat → Nat → Int := fun i j => if plus (m i k) (m k j) < m i j then plus (m i k) (m k j) else m i j
def overs (m : Nat → Nat → Int) : Nat → Nat → Nat → Int
  | 0 => m
  | k + 1 => over (overs m k) k
theorem over_le (m : Nat → Nat → Int) (k i j : Nat) : over m k i j ≤ m i j := by unfold over; split <;> omega
theorem over_le' (m : Nat → Nat → Int) (k i j : Nat) : over m k i j ≤ plus (m i k) (m k j) := by unfold over; split <;> omega
theorem overs_le (m : Nat → Nat → Int) (k i j : Nat) : overs m k i j ≤ m i j := by
  induction k with
  | zero => exact Int.le_refl _
  | succ k ih => exact Int.le_trans (over_le _ _ _ _) ih
theorem over_low {n : Nat} {m c : Nat → Nat → Int} {k : Nat} (hk : k < n) (hc : Closed n c) (tc : Top62 n c) (hm : Top62 n m) (h : Le n c m) : Le n c (over m k) := by
  intro i j hi hj
  have h1 := hc.2 i j k hi hj hk
  have h2 := h i j hi hj
  have h3 := h i k hi hk; have h4 := h k j hk hj
  have h5 := hm i k hi hk; have h6 := hm k j hk hj
  have h7 := tc i j hi hj
  have h8 : c i j ≤ plus (m i k) (m k j) := by unfold plus at h1 ⊢; split at h1 <;> split <;> omega
  unfold over; split
  · exact h8
  · exact h2
theorem overs_low {n : Nat} {m c : Nat → Nat → Int} (hc : Closed n c) (tc : Top62 n c) (hm : Top62 n m) (h : Le n c m) : ∀ k, k ≤ n → Le n c (overs m k)
  | 0, _ => h
  | k + 1, hk => over_low (by omega) hc tc (fun i j hi hj => Int.le_trans (overs_le m k i j) (hm i j hi hj)) (overs_low hc tc hm h k (by omega))
/-- through the first k nodes nothing is shorter any more -/
def Thru (n : Nat) (k : Nat) (m : Nat → Nat → Int) : Prop := ∀ i j l, i < n → j < n → l < k → m i j ≤ plus (m i l) (m l j)
theorem fin_of_low {n : Nat} {B : Int} {m : Nat → Nat → Int} (h : Bd n B m) (hB : B < 4611686018427387904) : Top62 n m := by
  intro i j hi hj; rcases h i j hi hj with h | h <;> omega
theorem bd_over {n : Nat} {B : Int} {m : Nat → Nat → Int} (k : Nat) (hk : k < n) (h : Bd n B m) (hB : 0 ≤ B) (hB' : B + B < 4611686018427387904) : Bd n (B + B) (over m k) := by
  intro i j hi hj
  rcases h i j hi hj with h1 | h1 <;> rcases h i k hi hk with h2 | h2 <;> rcases h k j hk hj with h3 | h3 <;> unfold over plus Fin' <;> repeat' split
  all_goals omega
theorem thru_num {B ij ik kj kk il lj kl lk R oil olj : Int} (hB : 0 ≤ B) (hB' : B + B + B + B < 4611686018427387904) (bij0 : ij ≤ 4611686018427387904) (bik : Fin' B ik) (bkj : Fin' B kj) (bil : Fin' B il) (blj : Fin' B lj)
    (bkl : Fin' B kl) (blk : Fin' B lk) (dk : 0 ≤ kk) (t1 : ij ≤ plus il lj) (t2 : ik ≤ plus il lk) (t3 : kj ≤ plus kl lj) (t4 : kk ≤ plus kl lk) (o1 : R ≤ ij) (o2 : R ≤ plus ik kj)
    (b1 : oil = il ∨ oil = plus ik kl) (b2 : olj = lj ∨ olj = plus lk kj) : R ≤ plus oil olj := by
  have up : ∀ {a b c : Int}, Fin' B a → Fin' B b → c ≤ plus a b → (a = 4611686018427387904 ∨ b = 4611686018427387904) ∨ c ≤ a + b := by
    intro a b c _ _ h; unfold plus at h; split at h
    · left; assumption
    · right; exact h
  have pv : ∀ {a b : Int}, Fin' B a → Fin' B b → (plus a b = 4611686018427387904 ∧ (a = 4611686018427387904 ∨ b = 4611686018427387904)) ∨ (plus a b = a + b ∧ -B ≤ a ∧ a ≤ B ∧ -B ≤ b ∧ b ≤ B) := by
    intro a b ha hb; unfold plus; unfold Fin' at ha hb; split <;> omega
  have p1 := pv bil blj; have p2 := pv bil blk; have p3 := pv bkl blj; have p4 := pv bkl blk; have p5 := pv bik bkj; have p6 := pv bik bkl; have p7 := pv blk bkj
  have top : R ≤ 4611686018427387904 := by omega
  by_cases hx : oil = 4611686018427387904 ∨ olj = 4611686018427387904
  · unfold plus; rw [if_pos hx]; exact top
  · have e : plus oil olj = oil + olj := by unfold plus; rw [if_neg hx]
    rw [e]
    rcases b1 with b1 | b1 <;> rcases b2 with b2 | b2 <;> subst b1 <;> subst b2
    · omega
    · omega
    · omega
    · omega
theorem thru_over {n : Nat} {B : Int} {m : Nat → Nat → Int} {k : Nat} (hk : k < n) (h : Bd n B m) (hB : 0 ≤ B) (hB' : B + B + B + B < 4611686018427387904) (hd : ∀ i, i < n → 0 ≤ m i i)
    (hd' : 0 ≤ over m k k k) (ht : Thru n k m) : Thru n (k + 1) (over m k) := by
  intro i j l hi hj hl
  have bij := h i j hi hj; have bik := h i k hi hk; have bkj := h k j hk hj; have bkk := h k k hk hk
  have dk := hd k hk
  by_cases hlk : l = k
  · subst hlk
    have e1 : over m l i l = m i l := by
      unfold over; split
      · rename_i hh; unfold plus at hh; unfold Fin' at *; split at hh <;> omega
      · rfl
    have e2 : over m l l j = m l j := by
      unfold over; split
      · rename_i hh; unfold plus at hh; unfold Fin' at *; split at hh <;> omega
      · rfl
    rw [e1, e2]; exact over_le' m l i j
  · have hlk' : l < k := by omega
    have hln : l < n := by omega
    have t1 := ht i j l hi hj hlk'; have t2 := ht i k l hi hk hlk'; have t3 := ht k j l hk hj hlk'; have t4 := ht k k l hk hk hlk'
    have bil := h i l hi hln; have blj := h l j hln hj; have bkl := h k l hk hln; have blk := h l k hln hk
    have o1 := over_le m k i j; have o2 := over_le' m k i j
    have b1 : over m k i l = m i l ∨ over m k i l = plus (m i k) (m k l) := by unfold over; split <;> simp
    have b2 : over m k l j = m l j ∨ over m k l j = plus (m l k) (m k j) := by unfold over; split <;> simp
    generalize over m k i j = R at *
    generalize m i j = ij at *; generalize m i k = ik at *; generalize m k j = kj at *; generalize m k k = kk at *
    generalize m i l = il at *; generalize m l j = lj at *; generalize m k l = kl at *; generalize m l k = lk at *
    generalize over m k i l = oil at *; generalize over m k l j = olj at *
    clear hd' ht h hd
    exact thru_num hB hB' (by unfold Fin' at bij; omega) bik bkj bil blj bkl blk dk t1 t2 t3 t4 o1 o2 b1 b2
theorem fin_mono {B C a : Int} (h : Fin' B a) (hB : B ≤ C) : Fin' C a := by unfold Fin' at *; omega
theorem bd_overs {n : Nat} {B : Int} {m : Nat → Nat → Int} (h : Bd n B m) (hB : 0 ≤ B) : ∀ k, k ≤ n → B * 2 ^ k < 4611686018427387904 → Bd n (B * 2 ^ k) (overs m k)
  | 0, _, _ => by rw [Int.pow_zero, Int.mul_one]; exact h
  | k + 1, hk, hb => by
    have e : B * 2 ^ (k + 1) = B * 2 ^ k + B * 2 ^ k := by rw [Int.pow_succ, ← Int.mul_assoc]; omega
    have h0 : (0 : Int) ≤ B * 2 ^ k := Int.mul_nonneg hB (Int.pow_nonneg (by decide))
    rw [e] at hb ⊢
    exact bd_over k (by omega) (bd_overs h hB k (by omega) (by omega)) h0 hb
theorem thru_overs {n : Nat} {B : Int} {m : Nat → Nat → Int} (h : Bd n B m) (hB : 0 ≤ B) (hb : B * 2 ^ n * 4 < 4611686018427387904)
    (hd : ∀ k i, k ≤ n → i < n → 0 ≤ overs m k i i) : ∀ k, k ≤ n → Thru n k (overs m k)
  | 0, _ => fun _ _ _ _ _ hl => absurd hl (by omega)
  | k + 1, hk => by
    have ih := thru_overs h hB hb hd k (by omega)
    have hp : (2 : Int) ^ k ≤ 2 ^ n := by
      have := Nat.pow_le_pow_right (n := 2) (by decide) (show k ≤ n by omega)
      exact_mod_cast this
    have h1 : B * 2 ^ k ≤ B * 2 ^ n := Int.mul_le_mul_of_nonneg_left hp hB
    have h0 : (0 : Int) ≤ B * 2 ^ k := Int.mul_nonneg hB (Int.pow_nonneg (by decide))
    exact thru_over (by omega) (bd_overs h hB k (by omega) (by omega)) h0 (by omega) (fun i hi => hd k i (by omega) hi) (hd (k + 1) k hk (by omega)) ih
/-- Floyd's way comes to the greatest closed matrix -/
theorem overs_closure {n : Nat} {B : Int} {m : Nat → Nat → Int} (h : Bd n B m) (hB : 0 ≤ B) (hb : B * 2 ^ n * 4 < 4611686018427387904) (hm : ∀ i, i < n → m i i = 0)
    (hd : ∀ k i, k ≤ n → i < n → 0 ≤ overs m k i i) : IsClosure n m true (overs m n) := by
  have hB' : B < 4611686018427387904 := by
    have : (1 : Int) ≤ 2 ^ n := by have := Nat.one_le_two_pow (n := n); exact_mod_cast this
    have := Int.mul_le_mul_of_nonneg_left this hB; omega
  refine ⟨fun _ => ⟨⟨fun i hi => ?_, fun i j k hi hj hk => thru_overs h hB hb hd n (Nat.le_refl _) i j k hi hj hk⟩, fun i j _ _ => overs_le m n i j, fun c hc tc hl => overs_low hc tc (fin_of_low h hB') hl n (Nat.le_refl _)⟩, fun h => by cases h⟩
  have := overs_le m n i i; have := hd n i (Nat.le_refl _) hi; have := hm i hi; omega
theorem overs_none {n : Nat} {m d : Nat → Nat → Int} (ht : Top62 n m) {k i : Nat} (hk : k ≤ n) (hi : i < n) (hd : overs m k i i < 0) : IsClosure n m false d := by
  refine ⟨(fun h => by cases h), fun _ c hc tc hl => ?_⟩
  have := overs_low hc tc ht hl k hk i i hi hi
  have := hc.1 i hi; omega
/-! ### ways, doubled in length -/
/-- the least sum over the first k nodes -/
def least (a : Nat → Nat → Int) (i j : Nat) : Nat → Int
  | 0 => a i j
  | k + 1 => if plus (a i k) (a k j) < least a i j k then plus (a i k) (a k j) else least a i j k
def dbl (n : Nat) (a : Nat → Nat → Int) : Nat → Nat → Int := fun i j => least a i j n
def dbls (n : Nat) (m : Nat → Nat → Int) : Nat → Nat → Nat → Int
  | 0 => m
  | t + 1 => dbl n (dbls n m t)
theorem least_le (a : Nat → Nat → Int) (i j : Nat) : ∀ k, least a i j k ≤ a i j
  | 0 => Int.le_refl _
  | k + 1 => by have := least_le a i j k; unfold least; split <;> omega
theorem least_le' (a : Nat → Nat → Int) (i j l : Nat) : ∀ k, l < k → least a i j k ≤ plus (a i l) (a l j)
  | 0, h => by omega
  | k + 1, h => by
    unfold least
    by_cases e : l = k
    · subst e; split <;> omega
    · have := least_le' a i j l k (by omega); split <;> omega
theorem least_is (a : Nat → Nat → Int) (i j : Nat) : ∀ k, least a i j k = a i j ∨ ∃ l, l < k ∧ least a i j k = plus (a i l) (a l j)
  | 0 => .inl rfl
  | k + 1 => by
    unfold least; split
    · exact .inr ⟨k, by omega, rfl⟩
    · rcases least_is a i j k with h | ⟨l, h1, h2⟩
      · exact .inl h
      · exact .inr ⟨l, by omega, h2⟩
theorem dbl_le (n : Nat) (a : Nat → Nat → Int) (i j : Nat) : dbl n a i j ≤ a i j := least_le a i j n
theorem dbls_le (n : Nat) (m : Nat → Nat → Int) (t i j : Nat) : dbls n m t i j ≤ m i j := by
  induction t with
  | zero => exact Int.le_refl _
  | succ t ih => exact Int.le_trans (dbl_le n _ i j) ih
theorem dbl_low {n : Nat} {m c : Nat → Nat → Int} (hc : Closed n c) (tc : Top62 n c) (hm : Top62 n m) (h : Le n c m) : Le n c (dbl n m) := by
  intro i j hi hj
  unfold dbl
  rcases least_is m i j n with e | ⟨k, hk, e⟩ <;> rw [e]
  · exact h i j hi hj
  · have h1 := hc.2 i j k hi hj hk
    have h3 := h i k hi hk; have h4 := h k j hk hj
    have h5 := hm i k hi hk; have h6 := hm k j hk hj
    have h7 := tc i j hi hj
    unfold plus at h1 ⊢; split at h1 <;> split <;> omega
theorem dbls_low {n : Nat} {m c : Nat → Nat → Int} (hc : Closed n c) (tc : Top62 n c) (hm : Top62 n m) (h : Le n c m) : ∀ t, Le n c (dbls n m t)
  | 0 => h
  | t + 1 => dbl_low hc tc (fun i j hi hj => Int.le_trans (dbls_le n m t i j) (hm i j hi hj)) (dbls_low hc tc hm h t)
theorem bd_dbl {n : Nat} {B : Int} {m : Nat → Nat → Int} (h : Bd n B m) (hB : 0 ≤ B) (hB' : B + B < 4611686018427387904) : Bd n (B + B) (dbl n m) := by
  intro i j hi hj
  unfold dbl
  rcases least_is m i j n with e | ⟨k, hk, e⟩ <;> rw [e]
  · exact fin_mono (h i j hi hj) (by omega)
  · have h1 := h i k hi hk; have h2 := h k j hk hj
    unfold Fin' plus at *; split <;> omega
theorem bd_dbls {n : Nat} {B : Int} {m : Nat → Nat → Int} (h : Bd n B m) (hB : 0 ≤ B) : ∀ t, B * 2 ^ t < 4611686018427387904 → Bd n (B * 2 ^ t) (dbls n m t)
  | 0, _ => by rw [Int.pow_zero, Int.mul_one]; exact h
  | t + 1, hb => by
    have e : B * 2 ^ (t + 1) = B * 2 ^ t + B * 2 ^ t := by rw [Int.pow_succ, ← Int.mul_assoc]; omega
    have h0 : (0 : Int) ≤ B * 2 ^ t := Int.mul_nonneg hB (Int.pow_nonneg (by decide))
    rw [e] at hb ⊢
    exact bd_dbl (bd_dbls h hB t (by omega)) h0 hb
/-! ### walks over finite entries -/
/-- the plain sum along a walk -/
def fw (m : Nat → Nat → Int) : List Nat → Int
  | [] => 0
  | [_] => 0
  | x :: y :: r => m x y + fw m (y :: r)
/-- all nodes are there, all entries finite -/
def Wk (n : Nat) (m : Nat → Nat → Int) : List Nat → Prop
  | [] => True
  | [x] => x < n
  | x :: y :: r => x < n ∧ m x y ≠ 4611686018427387904 ∧ Wk n m (y :: r)
theorem fw_append (m : Nat → Nat → Int) (v : Nat) (q : List Nat) : ∀ p : List Nat, fw m (p ++ v :: q) = fw m (p ++ [v]) + fw m (v :: q)
  | [] => by simp [fw]
  | [x] => by simp [fw]
  | x :: y :: r => by
    have := fw_append m v q (y :: r)
    simp only [List.cons_append, fw] at this ⊢
    omega
theorem wk_append {n : Nat} {m : Nat → Nat → Int} {v : Nat} {q : List Nat} : ∀ {p : List Nat}, Wk n m (p ++ v :: q) ↔ Wk n m (p ++ [v]) ∧ Wk n m (v :: q)
  | [] => by
    cases q with
    | nil => simp [Wk]
    | cons a r => simp only [List.nil_append, Wk]; exact ⟨fun h => ⟨h.1, h⟩, fun h => h.2⟩
  | [x] => by
    simp only [List.cons_append, List.nil_append, Wk]
    cases q with
    | nil => simp only [Wk]; exact ⟨fun h => ⟨h, h.2.2⟩, fun h => h.1⟩
    | cons a r => simp only [Wk]; exact ⟨fun h => ⟨⟨h.1, h.2.1, h.2.2.1⟩, h.2.2⟩, fun h => ⟨h.1.1, h.1.2.1, h.2⟩⟩
  | x :: y :: r => by
    have ih := wk_append (n := n) (m := m) (v := v) (q := q) (p := y :: r)
    simp only [List.cons_append, Wk] at ih ⊢
    rw [ih]
    exact ⟨fun h => ⟨⟨h.1, h.2.1, h.2.2.1⟩, h.2.2.2⟩, fun h => ⟨h.1.1, h.1.2.1, h.1.2.2, h.2⟩⟩
theorem wk_node {n : Nat} {m : Nat → Nat → Int} : ∀ {p : List Nat}, Wk n m p → ∀ x ∈ p, x < n
  | [], _, x, h => by cases h
  | [y], hp, x, h => by simp at h; subst h; exact hp
  | y :: z :: r, hp, x, h => by
    rcases List.mem_cons.1 h with h | h
    · subst h; exact hp.1
    · exact wk_node hp.2.2 x h
theorem nodup_len : ∀ (n : Nat) (l : List Nat), l.Nodup → (∀ x ∈ l, x < n) → l.length ≤ n
  | 0, l, _, h => by
    cases l with
    | nil => simp
    | cons a r => exact absurd (h a (by simp)) (by omega)
  | n + 1, l, hd, h => by
    by_cases hm : n ∈ l
    · have h1 := nodup_len n (l.erase n) (hd.erase n) (fun x hx => by
        have h2 := (List.Nodup.mem_erase_iff hd).1 hx
        have := h x h2.2; omega)
      rw [List.length_erase_of_mem hm] at h1
      omega
    · have := nodup_len n l hd (fun x hx => by have h1 := h x hx; have : x ≠ n := fun e => hm (e ▸ hx); omega)
      omega
theorem dup_split : ∀ (l : List Nat), ¬ l.Nodup → ∃ a b c x, l = a ++ x :: (b ++ x :: c)
  | [], h => absurd List.nodup_nil h
  | y :: r, h => by
    by_cases hm : y ∈ r
    · obtain ⟨b, c, e⟩ := List.append_of_mem hm
      exact ⟨[], b, c, y, by rw [e]; rfl⟩
    · have : ¬ r.Nodup := fun hn => h (List.nodup_cons.2 ⟨hm, hn⟩)
      obtain ⟨a, b, c, x, e⟩ := dup_split r this
      exact ⟨y :: a, b, c, x, by rw [e]; rfl⟩
/-- a walk with more edges than nodes comes back somewhere -/
theorem comes_back {n : Nat} {m : Nat → Nat → Int} {p : List Nat} {j : Nat} (hw : Wk n m (p ++ [j])) (hl : n < p.length) : ∃ a b c x, p = a ++ x :: (b ++ x :: c) := by
  refine dup_split p fun hn => ?_
  have := nodup_len n p hn (fun x hx => wk_node hw x (by simp [hx]))
  omega
/-- short walks weigh no less than the doubled entries -/
theorem dbls_walk {n : Nat} {B : Int} {m : Nat → Nat → Int} (h : Bd n B m) (hB : 0 ≤ B) (hm : ∀ i, i < n → m i i = 0) : ∀ (t : Nat), B * 2 ^ t < 4611686018427387904 → ∀ (p : List Nat) (i j : Nat), Wk n m (i :: (p ++ [j])) → p.length + 1 ≤ 2 ^ t →
    dbls n m t i j ≠ 4611686018427387904 ∧ dbls n m t i j ≤ fw m (i :: (p ++ [j]))
  | 0, _, p, i, j, hw, hl => by
    have : p = [] := by cases p with
      | nil => rfl
      | cons a r => simp at hl
    subst this
    simp only [List.nil_append, Wk, fw, dbls] at hw ⊢
    exact ⟨hw.2.1, by omega⟩
  | t + 1, hb, p, i, j, hw, hl => by
    have e0 : (2 : Nat) ^ (t + 1) = 2 ^ t + 2 ^ t := by rw [Nat.pow_succ]; omega
    have h0 : (0 : Int) ≤ B * 2 ^ t := Int.mul_nonneg hB (Int.pow_nonneg (by decide))
    have eb : B * 2 ^ (t + 1) = B * 2 ^ t + B * 2 ^ t := by rw [Int.pow_succ, ← Int.mul_assoc]; omega
    have hi : i < n := wk_node hw i (by simp)
    have hj : j < n := wk_node hw j (by simp)
    have bd := bd_dbls h hB t (by omega)
    have up : ∀ k, k < n → dbls n m t i k ≠ 4611686018427387904 → dbls n m t k j ≠ 4611686018427387904 → dbls n m (t + 1) i j ≠ 4611686018427387904 ∧ dbls n m (t + 1) i j ≤ dbls n m t i k + dbls n m t k j := by
      intro k hk h1 h2
      have h3 : dbls n m (t + 1) i j ≤ plus (dbls n m t i k) (dbls n m t k j) := least_le' _ i j k n hk
      have h4 := bd i k hi hk; have h5 := bd k j hk hj
      unfold plus at h3; unfold Fin' at h4 h5
      rw [if_neg (by omega)] at h3
      exact ⟨by omega, h3⟩
    have dg : ∀ k, k < n → dbls n m t k k ≠ 4611686018427387904 ∧ dbls n m t k k ≤ 0 := by
      intro k hk
      have h1 := dbls_le n m t k k; have h2 := hm k hk
      exact ⟨by omega, by omega⟩
    by_cases hs : p.length + 1 ≤ 2 ^ t
    · have ih := dbls_walk h hB hm t (by omega) p i j hw hs
      have := up j hj ih.1 (dg j hj).1
      exact ⟨this.1, by have := (dg j hj).2; omega⟩
    · obtain ⟨q, v, r, e, hq⟩ : ∃ q v r, p = q ++ v :: r ∧ q.length + 1 = 2 ^ t := by
        refine ⟨p.take (2 ^ t - 1), p[2 ^ t - 1]'(by omega), p.drop (2 ^ t), ?_, ?_⟩
        · have h1 := List.take_append_drop (2 ^ t - 1) p
          have h2 := List.drop_eq_getElem_cons (l := p) (i := 2 ^ t - 1) (by omega)
          have h3 : 2 ^ t - 1 + 1 = 2 ^ t := by have := Nat.one_le_two_pow (n := t); omega
          rw [h3] at h2; rw [← h2]; exact h1.symm
        · rw [List.length_take]; have := Nat.one_le_two_pow (n := t); omega
      subst e
      have ew : i :: (q ++ v :: r ++ [j]) = (i :: q) ++ v :: (r ++ [j]) := by simp
      rw [ew] at hw ⊢
      have hw' := wk_append.1 hw
      rw [fw_append]
      simp only [List.length_append, List.length_cons] at hl
      have i1 := dbls_walk h hB hm t (by omega) q i v (by simpa using hw'.1) (by omega)
      have i2 := dbls_walk h hB hm t (by omega) r v j hw'.2 (by omega)
      have hv : v < n := wk_node hw'.2 v (by simp)
      have := up v hv i1.1 i2.1
      refine ⟨this.1, ?_⟩
      have e1 : i :: q ++ [v] = i :: (q ++ [v]) := rfl
      rw [e1]
      omega
/-- each finite doubled entry is the sum of a walk -/
theorem dbls_is {n : Nat} {m : Nat → Nat → Int} : ∀ (t : Nat) (i j : Nat), i < n → j < n → dbls n m t i j ≠ 4611686018427387904 → ∃ p, Wk n m (i :: (p ++ [j])) ∧ fw m (i :: (p ++ [j])) = dbls n m t i j
  | 0, i, j, hi, hj, h => ⟨[], by simp only [List.nil_append, Wk]; exact ⟨hi, h, hj⟩, by simp [fw, dbls]⟩
  | t + 1, i, j, hi, hj, h => by
    have e : dbls n m (t + 1) i j = least (dbls n m t) i j n := rfl
    rcases least_is (dbls n m t) i j n with h1 | ⟨k, hk, h1⟩
    · rw [e, h1] at h ⊢; exact dbls_is t i j hi hj h
    · rw [e, h1] at h ⊢
      unfold plus at h ⊢
      by_cases hx : dbls n m t i k = 4611686018427387904 ∨ dbls n m t k j = 4611686018427387904
      · rw [if_pos hx] at h; exact absurd rfl h
      · rw [if_neg hx]
        obtain ⟨p, hp, ep⟩ := dbls_is t i k hi hk (fun h => hx (.inl h))
        obtain ⟨q, hq, eq⟩ := dbls_is t k j hk hj (fun h => hx (.inr h))
        refine ⟨p ++ k :: q, ?_, ?_⟩
        · have : i :: (p ++ k :: q ++ [j]) = (i :: p) ++ k :: (q ++ [j]) := by simp
          rw [this, wk_append]; exact ⟨by simpa using hp, hq⟩
        · have : i :: (p ++ k :: q ++ [j]) = (i :: p) ++ k :: (q ++ [j]) := by simp
          rw [this, fw_append, ← ep, ← eq]; rfl
/-- where no doubled entry of the diagonal lies below 0, no walk back does -/
theorem back_pos {n : Nat} {B : Int} {m : Nat → Nat → Int} {t : Nat} (h : Bd n B m) (hB : 0 ≤ B) (hm : ∀ i, i < n → m i i = 0) (hb : B * 2 ^ t < 4611686018427387904) (ht : n ≤ 2 ^ t)
    (hd : ∀ i, i < n → 0 ≤ dbls n m t i i) : ∀ (N : Nat) (p : List Nat) (i : Nat), p.length ≤ N → Wk n m (i :: (p ++ [i])) → 0 ≤ fw m (i :: (p ++ [i]))
  | N, p, i, hN, hw => by
    have hi : i < n := wk_node hw i (by simp)
    by_cases hs : p.length + 1 ≤ 2 ^ t
    · have := (dbls_walk h hB hm t hb p i i hw hs).2
      have := hd i hi; omega
    · cases N with
      | zero => have := Nat.one_le_two_pow (n := t); omega
      | succ N =>
        obtain ⟨a, b, c, x, e⟩ := comes_back (p := i :: p) (j := i) hw (by simp; omega)
        have ew : i :: (p ++ [i]) = a ++ x :: (b ++ x :: (c ++ [i])) := by
          have : i :: (p ++ [i]) = (i :: p) ++ [i] := rfl
          rw [this, e]; simp
        have el : (i :: p).length = (a ++ x :: (b ++ x :: c)).length := by rw [e]
        simp only [List.length_cons, List.length_append] at el
        rw [ew] at hw ⊢
        have hw1 := wk_append.1 hw
        have hw2 := wk_append (p := x :: b).1 hw1.2
        have hx := back_pos h hB hm hb ht hd N b x (by omega) (by simpa using hw2.1)
        rw [fw_append]
        have ef : fw m (x :: (b ++ x :: (c ++ [i]))) = fw m (x :: (b ++ [x])) + fw m (x :: (c ++ [i])) := fw_append m x (c ++ [i]) (x :: b)
        rw [ef]
        have ho : 0 ≤ fw m (a ++ [x]) + fw m (x :: (c ++ [i])) := by
          rw [← fw_append]
          cases a with
          | nil =>
            simp only [List.nil_append, List.cons.injEq] at e
            rw [← e.1] at hw2 ⊢
            simp only [List.nil_append]
            exact back_pos h hB hm hb ht hd N c i (by omega) hw2.2
          | cons y a =>
            simp only [List.cons_append, List.cons.injEq] at e
            have hy := e.1
            subst hy
            have : i :: a ++ x :: (c ++ [i]) = i :: ((a ++ x :: c) ++ [i]) := by simp
            have hwo : Wk n m (i :: a ++ x :: (c ++ [i])) := wk_append.2 ⟨hw1.1, hw2.2⟩
            rw [this] at hwo ⊢
            simp only [List.length_cons] at el
            exact back_pos h hB hm hb ht hd N (a ++ x :: c) i (by simp; omega) hwo
        omega
/-- each walk weighs no less than a short one -/
theorem shorter {n : Nat} {m : Nat → Nat → Int} {L : Nat} (hL : n ≤ L) (hp : ∀ (p : List Nat) (i : Nat), Wk n m (i :: (p ++ [i])) → 0 ≤ fw m (i :: (p ++ [i]))) :
    ∀ (N : Nat) (p : List Nat) (i j : Nat), p.length ≤ N → Wk n m (i :: (p ++ [j])) → ∃ q, Wk n m (i :: (q ++ [j])) ∧ q.length + 1 ≤ L + 1 ∧ fw m (i :: (q ++ [j])) ≤ fw m (i :: (p ++ [j]))
  | N, p, i, j, hN, hw => by
    by_cases hs : p.length + 1 ≤ L + 1
    · exact ⟨p, hw, hs, Int.le_refl _⟩
    · cases N with
      | zero => omega
      | succ N =>
        have hw0 : Wk n m (i :: p ++ [j]) := hw
        have hwp : ∀ x ∈ p, x < n := fun x hx => wk_node hw x (by simp [hx])
        obtain ⟨a, b, c, x, e⟩ := dup_split p (fun hn => by have := nodup_len n p hn hwp; omega)
        subst e
        have ew : i :: ((a ++ x :: (b ++ x :: c)) ++ [j]) = (i :: a) ++ x :: (b ++ x :: (c ++ [j])) := by simp
        rw [ew] at hw ⊢
        have hw1 := wk_append.1 hw
        have hw2 := wk_append (p := x :: b).1 hw1.2
        have hx := hp b x (by simpa using hw2.1)
        have hwo : Wk n m ((i :: a) ++ x :: (c ++ [j])) := wk_append.2 ⟨hw1.1, hw2.2⟩
        have eo : (i :: a) ++ x :: (c ++ [j]) = i :: ((a ++ x :: c) ++ [j]) := by simp
        simp only [List.length_append, List.length_cons] at hN
        obtain ⟨q, h1, h2, h3⟩ := shorter hL hp N (a ++ x :: c) i j (by simp; omega) (eo ▸ hwo)
        refine ⟨q, h1, h2, Int.le_trans h3 ?_⟩
        rw [← eo, fw_append m x (c ++ [j]) (i :: a), fw_append m x (b ++ x :: (c ++ [j])) (i :: a)]
        have ef : fw m (x :: (b ++ x :: (c ++ [j]))) = fw m (x :: (b ++ [x])) + fw m (x :: (c ++ [j])) := fw_append m x (c ++ [j]) (x :: b)
        rw [ef]; omega
/-- ways doubled in length until they are longer than any simple one come to the greatest closed matrix -/
theorem dbls_closure {n : Nat} {B : Int} {m : Nat → Nat → Int} {t : Nat} (h : Bd n B m) (hB : 0 ≤ B) (hm : ∀ i, i < n → m i i = 0) (hb : B * 2 ^ t < 4611686018427387904) (ht : n + 1 ≤ 2 ^ t)
    (hd : ∀ i, i < n → 0 ≤ dbls n m t i i) : IsClosure n m true (dbls n m t) := by
  have hB' : B < 4611686018427387904 := by
    have : (1 : Int) ≤ 2 ^ t := by have := Nat.one_le_two_pow (n := t); exact_mod_cast this
    have := Int.mul_le_mul_of_nonneg_left this hB; omega
  have hp : ∀ (p : List Nat) (i : Nat), Wk n m (i :: (p ++ [i])) → 0 ≤ fw m (i :: (p ++ [i])) := fun p i hw => back_pos h hB hm hb (by omega) hd p.length p i (Nat.le_refl _) hw
  have hall : ∀ (p : List Nat) (i j : Nat), Wk n m (i :: (p ++ [j])) → dbls n m t i j ≤ fw m (i :: (p ++ [j])) := by
    intro p i j hw
    obtain ⟨q, h1, h2, h3⟩ := shorter (Nat.le_refl n) hp p.length p i j (Nat.le_refl _) hw
    exact Int.le_trans (dbls_walk h hB hm t hb q i j h1 (by omega)).2 h3
  refine ⟨fun _ => ⟨⟨fun i hi => ?_, fun i j k hi hj hk => ?_⟩, fun i j _ _ => dbls_le n m t i j, fun c hc tc hl => dbls_low hc tc (fin_of_low h hB') hl t⟩, fun h => by cases h⟩
  · have := dbls_le n m t i i; have := hd i hi; have := hm i hi; omega
  · have bd := bd_dbls h hB t hb
    unfold plus
    by_cases hx : dbls n m t i k = 4611686018427387904 ∨ dbls n m t k j = 4611686018427387904
    · rw [if_pos hx]; have := bd i j hi hj; unfold Fin' at this; omega
    · rw [if_neg hx]
      obtain ⟨p, hp1, ep⟩ := dbls_is t i k hi hk (fun h => hx (.inl h))
      obtain ⟨q, hq, eq⟩ := dbls_is t k j hk hj (fun h => hx (.inr h))
      have e : i :: (p ++ k :: q ++ [j]) = (i :: p) ++ k :: (q ++ [j]) := by simp
      have hw : Wk n m (i :: (p ++ k :: q ++ [j])) := by rw [e, wk_append]; exact ⟨by simpa using hp1, hq⟩
      have := hall _ i j hw
      rw [e, fw_append] at this
      have e1 : i :: p ++ [k] = i :: (p ++ [k]) := rfl
      rw [e1] at this
      omega
theorem dbls_none {n : Nat} {m d : Nat → Nat → Int} (ht : Top62 n m) {t i : Nat} (hi : i < n) (hd : dbls n m t i i < 0) : IsClosure n m false d := by
  refine ⟨(fun h => by cases h), fun _ c hc tc hl => ?_⟩
  have := dbls_low hc tc ht hl t i i hi hi
  have := hc.1 i hi; omega
end Go.Proofs.Ytomgebmimgaojaa.OctMath
end
