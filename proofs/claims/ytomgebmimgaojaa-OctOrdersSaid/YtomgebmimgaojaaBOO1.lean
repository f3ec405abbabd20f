/- Own texts of this claim, joined: QOx0, QOx1046, QOx1051, QOx1052, QOx1018, QOx1055, QOx1083, QOx1057, Iter, OctMath, Ways, QOx1047, QOx1014, QOx1082, QOx1056, QOx1058, CloseW, RoundR, Pair -/
import Derived.Test.YtomgebmimgaojaaBOO0
import Derived.Test.YtomgebmimgaojaaProg
import Derived.Below
import Derived.Deep.Draws
import Derived.Deep.AppendLies
import Derived.Maps.AppendAt
import Derived.OwnWalk
import Derived.Laws.BytesArg
import Derived.Laws.MakeOwn
import Derived.Laws.OwnMore
import Derived.Deep.OwnRows
import Derived.Tactics
import Derived.Lib.ConvBytes
import Derived.Laws.Slices
import Derived.WalkKit
import Derived.KernelRfl
import Derived.RowKit3
import Derived.Deep.LoopGhost
import Derived.Deep.QuietTactic
import Derived.BigQuiet
import Derived.WideLaws
import Derived.Deep.DeepCutAuto
import Derived.Deep.CutBlock
import Derived.Deep.RegionHeld3
import Derived.Laws.Rows
import Derived.Lib.AppendStr
import Derived.ArgAppend
import Derived.Laws.IdiomCopy
import Derived.OrdersHeld
import Derived.Laws.BitsLemmas
import Derived.RowKit
import Derived.Deep.Cut
import Derived.Shelf.Abstract
import Derived.Lib.SliceRun
import Derived.WalkSpells
import Derived.Laws.Externs
import Derived.StillTailTactics
import GoSem.Extern.MathBitsCarry
import Derived.RangeFuncNested
import Derived.RangeFuncBound
import Derived.RangeFuncCalls
import Derived.RangeFuncLeaves
import Derived.RangeFuncBox
import Derived.Shelf.RegionOpen
import Derived.OwnWalkIn
import Derived.TacticsInMore
import Derived.LoopNIn
import Derived.LoopIn
import Derived.Stop.RegionWithIn
import Derived.Deep.DrawnRows
import Derived.OrdersIn
section
/- Written by a program of this session out of the translation. -/
namespace Go.Proofs.Ytomgebmimgaojaa.QO
open Go.RowKit Go.Proofs.YtomgebmimgaojaaW.PrintWords Go.Proofs.YtomgebmimgaojaaW.PrintLast
set_option linter.unusedVariables false
set_option linter.unusedSimpArgs false
def errW : Option Int → Value
  | none => .nilIface
  | some c => .iface 0 (.int .i64 c)
theorem errW_none : errW none = .nilIface := rfl
theorem errW_some (c : Int) : errW (some c) = .iface 0 (.int .i64 c) := rfl
theorem info2 : (Try.prog.info? 2).map (fun i => (i.zero, i.size, i.bytes)) = some (some (.int .i64 0), 1, 8) := by kernel_rfl
theorem info3 : (Try.prog.info? 3).map (fun i => (i.zero, i.size, i.bytes)) = some (some (.int .i64 0), 1, 8) := by kernel_rfl
-- the values' own types
end Go.Proofs.Ytomgebmimgaojaa.QO
end
section
/- Written by a program of this session out of the translation. -/
namespace Go.Proofs.Ytomgebmimgaojaa.QO
open Go.RowKit Go.Proofs.YtomgebmimgaojaaW.PrintWords Go.Proofs.YtomgebmimgaojaaW.PrintLast
set_option linter.unusedVariables false
set_option linter.unusedSimpArgs false
/-! ### oct_may: function 46 -/
/-- may these be Vars? -/
def VarsOk (l : List Int) : Prop := l.length ≤ 8 ∧ ∀ i : Int, 0 ≤ i → i < l.length → 0 ≤ rd l i ∧ (0 < i → rd l (i - 1) < rd l i)
noncomputable def varsB (l : List Int) : Bool := @decide (VarsOk l) (Classical.propDecidable _)
theorem varsB_true {l : List Int} : varsB l = true ↔ VarsOk l := by unfold varsB; exact @decide_eq_true_iff _ (Classical.propDecidable _)
theorem varsB_false {l : List Int} : varsB l = false ↔ ¬ VarsOk l := by unfold varsB; exact @decide_eq_false_iff_not _ (Classical.propDecidable _)
noncomputable def oct_may.f (l0 : List Int) : Option Bool := some (varsB l0)
set_option maxHeartbeats 8000000 in
set_option maxRecDepth 100000 in
theorem oct_may.calls (A0 : Option Addr) (c0 : Nat) (l0 : List Int) (r : Bool) (w : World) (hr0 : Kd.C (Kd.int .i64) w A0 l0.length l0) (hc0 : l0.length ≤ c0) (h : oct_may.f l0 = some r) :
 Calls Try.prog 46 #[.slice A0 l0.length c0] w fun e w' => e = .returned (.bool r) ∧ Drawn0 w w' := by
 have HR0 := Aside0.mk hr0
 have HV := Aside0.mk (Option.some.inj h)
 clear hr0 hc0 h
 by_cases c1 : (8 : Int) < (l0.length : Int)
 ·
  have f1 : decide ((8 : Int) < (l0.length : Int)) = true := decide_eq_true c1
  have f2 : decide (8 < l0.length) = true := decide_eq_true (by omega)
  have HC := Aside0.mk c1
  clear c1
  go_enter Try.func46, Try.ntmps46
  go_wp2
  go_ret
  refine ⟨?_, Drawn0.refl _⟩
  rw [← HV.out, varsB_false.2 (fun h => by have := h.1; have := HC.out; omega)]
  rfl
 ·
  have f1 : decide ((8 : Int) < (l0.length : Int)) = false := decide_eq_false c1
  have f2 : decide (8 < l0.length) = false := decide_eq_false (by omega)
  have HC := Aside0.mk c1
  clear c1
  go_enter Try.func46, Try.ntmps46
  go_wp2
  go_loopg [3, 4, 10] l0.length (fun gg _ _ s10 wr => ∃ i : Int, s10 = .int .i64 i ∧ Aside0 (0 ≤ i ∧ i ≤ l0.length ∧ l0.length - i.toNat ≤ gg) ∧ Aside0 (∀ j : Int, 0 ≤ j → j < i → 0 ≤ rd l0 j ∧ (0 < j → rd l0 (j - 1) < rd l0 j)) ∧ Drawn0 w wr)
  case atStart => exact ⟨0, rfl, ⟨by omega, by omega, by omega⟩, ⟨fun j h0 h1 => absurd h1 (by omega)⟩, Drawn0.refl _⟩
  case round =>
   obtain ⟨i, rfl, HI, HA, ⟨m1, rfl⟩⟩ := hrel
   by_cases hlt : i < (l0.length : Int)
   ·
    have p0 : 0 ≤ i := HI.out.1
    have hC : Kd.C (Kd.int .i64) (w.drewN m1) A0 l0.length l0 := Kd.C_drewN HR0.out _
    obtain ⟨ad, e0, hx⟩ := Kd.at_int hC i p0 hlt
    cases e0
    clear hC
    have HL := Aside0.mk hlt
    have c6b0 : decide (i < (l0.length : Int)) = true := decide_eq_true hlt
    by_cases c3 : rd l0 i < 0
    ·
     have f3 : decide (rd l0 i < 0) = true := decide_eq_true c3
     have H3 := Aside0.mk c3
     clear c3
     replace p0 := eq_true p0
     replace hlt := eq_true hlt
     go_wp2
     go_ret
     refine ⟨?_, by repeat (first | exact Drawn0.refl _ | apply Drawn0.step)⟩
     have h1 := HI.out; have h2 := HL.out; have h3 := H3.out
     rw [← HV.out, varsB_false.2 (fun h => by have := (h.2 i h1.1 h2).1; omega)]
     rfl
    ·
     have f3 : decide (rd l0 i < 0) = false := decide_eq_false c3
     have H3 := Aside0.mk c3
     clear c3
     by_cases c4 : 0 < i
     ·
      have f4 : decide (0 < i) = true := decide_eq_true c4
      have hm1 : wrap64 (i - 1) = i - 1 := by have := HC.out; unfold wrap64; omega
      obtain ⟨j, hj⟩ : ∃ j : Int, i - 1 = j := ⟨_, rfl⟩
      have q0 : 0 ≤ j := by omega
      have q1 : j < (l0.length : Int) := by omega
      obtain ⟨ad', e0, hy⟩ := Kd.at_int (Kd.C_drewN HR0.out m1) j q0 q1
      cases e0
      rw [hj] at hm1
      have hm2 : IntKind.i64.wrap (i - 1) = j := by rw [IntKind.wrap_i64, ← hj]; unfold wrap64 at hm1; omega
      have HJ := Aside0.mk hj
      have H4 := Aside0.mk c4
      by_cases c5 : rd l0 i ≤ rd l0 j
      ·
       have f5 : decide (rd l0 i ≤ rd l0 j) = true := decide_eq_true c5
       have H5 := Aside0.mk c5
       clear c5 c4
       replace p0 := eq_true p0
       replace hlt := eq_true hlt
       replace q0 := eq_true q0
       replace q1 := eq_true q1
       go_wp2
       go_ret
       refine ⟨?_, by repeat (first | exact Drawn0.refl _ | apply Drawn0.step)⟩
       have h1 := HI.out; have h2 := HL.out; have h5 := H5.out; have h4 := H4.out
       rw [← HV.out, varsB_false.2 (fun h => by have := (h.2 i h1.1 h2).2 h4; rw [HJ.out] at this; omega)]
       rfl
      ·
       have f5 : decide (rd l0 i ≤ rd l0 j) = false := decide_eq_false c5
       have H5 := Aside0.mk c5
       clear c5 c4
       replace p0 := eq_true p0
       replace hlt := eq_true hlt
       replace q0 := eq_true q0
       replace q1 := eq_true q1
       go_wp2
       go_roundg (l0.length - (i.toNat + 1))
       case measure => have h1 := HI.out; have h2 := HL.out; omega
       case rel =>
        have h1 := HI.out; have h2 := HL.out; have h3 := H3.out; have h4 := HC.out; have h5 := H5.out; have hj := HJ.out
        have hw : wrap64 (i + 1) = i + 1 := by unfold wrap64; omega
        refine ⟨wrap64 (i + 1), rfl, ⟨by omega, by omega, by omega⟩, ⟨fun k k0 k1 => ?_⟩, by repeat (first | exact Drawn0.refl _ | apply Drawn0.step)⟩
        by_cases e : k = i
        ·
         subst e; exact ⟨by omega, fun _ => by rw [hj]; omega⟩
        ·
         exact HA.out k k0 (by omega)
     ·
      have f4 : decide (0 < i) = false := decide_eq_false c4
      have H4 := Aside0.mk c4
      clear c4
      replace p0 := eq_true p0
      replace hlt := eq_true hlt
      go_wp2
      go_roundg (l0.length - (i.toNat + 1))
      case measure => have h1 := HI.out; have h2 := HL.out; omega
      case rel =>
       have h1 := HI.out; have h2 := HL.out; have h3 := H3.out; have h4 := HC.out; have h5 := H4.out
       have hw : wrap64 (i + 1) = i + 1 := by unfold wrap64; omega
       refine ⟨wrap64 (i + 1), rfl, ⟨by omega, by omega, by omega⟩, ⟨fun k k0 k1 => ?_⟩, by repeat (first | exact Drawn0.refl _ | apply Drawn0.step)⟩
       by_cases e : k = i
       ·
        subst e; exact ⟨by omega, fun h => absurd h (by omega)⟩
       ·
        exact HA.out k k0 (by omega)
   ·
    have c6b0 : decide (i < (l0.length : Int)) = false := decide_eq_false hlt
    have HL := Aside0.mk hlt
    clear hlt
    go_wp2
    go_ret
    have h1 := HI.out; have h2 := HL.out; have h4 := HC.out
    refine ⟨?_, by repeat (first | exact Drawn0.refl _ | apply Drawn0.step)⟩
    rw [← HV.out, varsB_true.2 ⟨by omega, fun k k0 k1 => HA.out k k0 (by omega)⟩]
    rfl
end Go.Proofs.Ytomgebmimgaojaa.QO
end
section
/- Written by a program of this session out of the translation. -/
noncomputable section
namespace Go.Proofs.Ytomgebmimgaojaa.QO
open Go.RowKit Go.Proofs.YtomgebmimgaojaaW.PrintWords Go.Proofs.YtomgebmimgaojaaW.PrintLast
set_option linter.unusedVariables false
set_option linter.unusedSimpArgs false
/-! ### oct_full_at: function 51 -/
/-- an entry of a whole matrix -/
def oct_full_at.f (a0_0 : Int) (l0_1 : List Int) (a1 : Int) (a2 : Int) : Option Int :=
 if 0 ≤ a0_0 ∧ a0_0 ≤ 16 ∧ 0 ≤ a1 ∧ a1 < 16 ∧ 0 ≤ a2 ∧ a2 < 16 ∧ a1 * a0_0 + a2 < l0_1.length then some (rd l0_1 (a1 * a0_0 + a2)) else none
theorem mul_in {a b : Int} (h0 : 0 ≤ a) (h1 : a ≤ 16) (h2 : 0 ≤ b) (h3 : b ≤ 16) : 0 ≤ b * a ∧ b * a ≤ 256 :=
 ⟨Int.mul_nonneg h2 h0, Int.le_trans (Int.mul_le_mul_of_nonneg_left h1 h2) (by omega)⟩
set_option maxHeartbeats 8000000 in
set_option maxRecDepth 100000 in
theorem oct_full_at.calls (a0_0 : Int) (A0_1 : Option Addr) (c0_1 : Nat) (l0_1 : List Int) (a1 : Int) (a2 : Int) (r : Int) (w : World) (hr0_1 : Kd.C (Kd.int .i64) w A0_1 l0_1.length l0_1) (hc0_1 : l0_1.length ≤ c0_1) (h : oct_full_at.f a0_0 l0_1 a1 a2 = some r) :
 Calls Try.prog 51 #[.agg #[.int .i64 a0_0, .slice A0_1 l0_1.length c0_1], .int .i64 a1, .int .i64 a2] w fun e w' => e = .returned (.int .i64 r) ∧ Below w.heap.size w w' := by
 have hu25 := Try.underlying58
 clear hc0_1
 unfold oct_full_at.f at h
 by_cases hc : 0 ≤ a0_0 ∧ a0_0 ≤ 16 ∧ 0 ≤ a1 ∧ a1 < 16 ∧ 0 ≤ a2 ∧ a2 < 16 ∧ a1 * a0_0 + a2 < l0_1.length
 ·
  rw [if_pos hc] at h
  obtain rfl := Option.some.inj h
  clear h
  obtain ⟨h0, h1, h2, h3, h4, h5, h6⟩ := hc
  have hm := mul_in h0 h1 h2 (by omega)
  obtain ⟨p, hp⟩ : ∃ p : Int, a1 * a0_0 = p := ⟨_, rfl⟩
  rw [hp] at hm h6 ⊢
  obtain ⟨q, hq⟩ : ∃ q : Int, p + a2 = q := ⟨_, rfl⟩
  rw [hq] at h6 ⊢
  have q0 : 0 ≤ q := by omega
  obtain ⟨ad, e0, hx⟩ := Kd.at_int hr0_1 q q0 h6
  cases e0
  have e1 : IntKind.i64.wrap (a1 * a0_0) = p := by rw [hp, IntKind.wrap_i64]; omega
  have e2 : IntKind.i64.wrap (p + a2) = q := by rw [hq, IntKind.wrap_i64]; omega
  have e3 : wrap64 (a1 * a0_0) = p := by rw [hp]; unfold wrap64; omega
  have e4 : wrap64 (p + a2) = q := by rw [hq]; unfold wrap64; omega
  have hx' := pw_cell_below (below_alloc (Below.refl w.heap.size w) (.cells #[.int .i64 a0_0, .slice (some ad) l0_1.length c0_1] 58)) hx
  replace q0 := eq_true q0
  replace h6 := eq_true h6
  clear hr0_1 h0 h1 h2 h3 h4 h5 hm hp hq hx
  go_enter Try.func51, Try.ntmps51
  go_wp2
  go_ret
  exact ⟨rfl, below_alloc (Below.refl _ _) _⟩
 ·
  rw [if_neg hc] at h
  cases h
end Go.Proofs.Ytomgebmimgaojaa.QO
end
end
section
/- Written by a program of this session out of the translation. -/
noncomputable section
namespace Go.Proofs.Ytomgebmimgaojaa.QO
open Go.RowKit Go.Proofs.YtomgebmimgaojaaW.PrintWords Go.Proofs.YtomgebmimgaojaaW.PrintLast
set_option linter.unusedVariables false
set_option linter.unusedSimpArgs false
/-! ### oct_bar: function 52 -/
/-- the node with the other sign -/
def nbar (i : Int) : Int := if i % 2 = 0 then i + 1 else i - 1
theorem xor_one (i : Int) (h0 : 0 ≤ i) (h1 : i < 16) : Go.bits .xor .i64 i 1 = nbar i := by
 have h : i = 0 ∨ i = 1 ∨ i = 2 ∨ i = 3 ∨ i = 4 ∨ i = 5 ∨ i = 6 ∨ i = 7 ∨ i = 8 ∨ i = 9 ∨ i = 10 ∨ i = 11 ∨ i = 12 ∨ i = 13 ∨ i = 14 ∨ i = 15 := by omega
 rcases h with rfl | rfl | rfl | rfl | rfl | rfl | rfl | rfl | rfl | rfl | rfl | rfl | rfl | rfl | rfl | rfl <;> decide
def oct_bar.f (a0 : Int) : Option Int := if 0 ≤ a0 ∧ a0 < 16 then some (nbar a0) else none
set_option maxHeartbeats 8000000 in
set_option maxRecDepth 100000 in
theorem oct_bar.calls (a0 : Int) (r : Int) (w : World) (h : oct_bar.f a0 = some r) :
 Calls Try.prog 52 #[.int .i64 a0] w fun e w' => e = .returned (.int .i64 r) ∧ Drawn0 w w' := by
 have hr : r = Go.bits .xor .i64 a0 1 := by
  unfold oct_bar.f at h; split at h
  ·
   rename_i hc; rw [xor_one a0 hc.1 hc.2]; exact (Option.some.inj h).symm
  ·
   cases h
 subst hr
 clear h
 go_enter Try.func52, Try.ntmps52
 go_wp2
 go_ret
 exact ⟨rfl, Drawn0.refl _⟩
set_option maxHeartbeats 8000000 in
set_option maxRecDepth 100000 in
theorem oct_bar_still (a0 : Int) (r : Int) (w : World) (h : oct_bar.f a0 = some r) :
 Calls Try.prog 52 #[.int .i64 a0] w fun e w' => e = .returned (.int .i64 r) ∧ w' = w := by
 have hr : r = Go.bits .xor .i64 a0 1 := by
  unfold oct_bar.f at h; split at h
  ·
   rename_i hc; rw [xor_one a0 hc.1 hc.2]; exact (Option.some.inj h).symm
  ·
   cases h
 subst hr
 clear h
 go_enter Try.func52, Try.ntmps52
 go_wp2
 go_ret
 exact ⟨rfl, rfl⟩
end Go.Proofs.Ytomgebmimgaojaa.QO
end
end
section
/- Written by a program of this session out of the translation. -/
namespace Go.Proofs.Ytomgebmimgaojaa.QO
open Go.RowKit Go.Proofs.YtomgebmimgaojaaW.PrintWords Go.Proofs.YtomgebmimgaojaaW.PrintLast
set_option linter.unusedVariables false
set_option linter.unusedSimpArgs false
/-! ### oct_Fit: function 18 -/
/-- a sound entry -/
def EntryOk (n2 : Int) (m : List Int) (i j : Int) : Prop :=
 (rd m (i * n2 + j) = 4611686018427387904 ∨ (-1099511627776 ≤ rd m (i * n2 + j) ∧ rd m (i * n2 + j) ≤ 1099511627776)) ∧ (i = j → rd m (i * n2 + j) = 0) ∧ rd m (i * n2 + j) = rd m (nbar j * n2 + nbar i)
/-- a sound octagon -/
def OFit (vars m : List Int) (empty : Bool) : Prop :=
 VarsOk vars ∧ (empty = true → m = []) ∧ (empty = false → (m.length : Int) = (2 * (vars.length : Int)) * (2 * (vars.length : Int)) ∧ ∀ i j : Int, 0 ≤ i → i < 2 * (vars.length : Int) → 0 ≤ j → j < 2 * (vars.length : Int) → EntryOk (2 * (vars.length : Int)) m i j)
noncomputable def ofitB (vars m : List Int) (empty : Bool) : Bool := @decide (OFit vars m empty) (Classical.propDecidable _)
theorem ofitB_true {vars m : List Int} {empty : Bool} : ofitB vars m empty = true ↔ OFit vars m empty := by unfold ofitB; exact @decide_eq_true_iff _ (Classical.propDecidable _)
theorem ofitB_false {vars m : List Int} {empty : Bool} : ofitB vars m empty = false ↔ ¬ OFit vars m empty := by unfold ofitB; exact @decide_eq_false_iff_not _ (Classical.propDecidable _)
theorem nbar_in {i n : Int} (h0 : 0 ≤ i) (h1 : i < 2 * n) : 0 ≤ nbar i ∧ nbar i < 2 * n := by unfold nbar; split <;> omega
theorem place_in {i j n : Int} (h0 : 0 ≤ i) (h1 : i < n) (h2 : 0 ≤ j) (h3 : j < n) : 0 ≤ i * n + j ∧ i * n + j < n * n := by
 have h5 := Int.mul_nonneg h0 (by omega : 0 ≤ n)
 have h6 : i * n ≤ (n - 1) * n := Int.mul_le_mul_of_nonneg_right (by omega) (by omega)
 have h7 : (n - 1) * n = n * n - n := by rw [Int.sub_mul]; omega
 omega
/-- an entry's reading, as the contract asks it -/
theorem at_ok {n : Nat} {m : List Int} {i j : Int} (hn : n ≤ 8) (hm : (m.length : Int) = (2 * (n : Int)) * (2 * (n : Int))) (h0 : 0 ≤ i) (h1 : i < 2 * (n : Int)) (h2 : 0 ≤ j) (h3 : j < 2 * (n : Int)) :
 oct_full_at.f (2 * (n : Int)) m i j = some (rd m (i * (2 * (n : Int)) + j)) := by
 unfold oct_full_at.f
 have := place_in h0 h1 h2 h3
 rw [if_pos ⟨by omega, by omega, h0, by omega, h2, by omega, by omega⟩]
noncomputable def oct_Fit.f (l0_0 : List Int) (l0_1 : List Int) (a0_2 : Bool) : Option Bool := if l0_0.length ≤ 17592186044416 then some (ofitB l0_0 l0_1 a0_2) else none
/-- what holds in a round: a box that lies, and all that lay -/
structure Box1 (w : World) (g : Nat) (cs : Array Value) (t : Nat) (W : World) : Prop where
 below : Below w.heap.size w W
 box : W.heap[g]? = some (.cells cs t (0, 0))
theorem Box1.next {w W W1 : World} {g : Nat} {cs : Array Value} {t : Nat} (h : Box1 w g cs t W) (hb : Below W.heap.size W W1) : Box1 w g cs t W1 :=
 ⟨h.below.trans (hb.mono h.below.size), (hb.block _ (blk_lt h.box)).trans h.box⟩
theorem box1_new {w W : World} {g : Nat} {cs : Array Value} {t : Nat} (hB : Below w.heap.size w W) (hs : W.heap.size = g) : Box1 w g cs t (W.alloc (.cells cs t)) :=
 ⟨below_alloc hB _, by rw [← hs]; exact heap_alloc_new W _⟩
theorem Box1.two {w W : World} {g : Nat} {a b : Value} {t : Nat} (h : Box1 w g #[a, b] t W) : W.cell? ⟨g, 0, none⟩ = some a ∧ W.cell? ⟨g, 1, none⟩ = some b := ⟨(blk_cell h.box 0).trans rfl, (blk_cell h.box 1).trans rfl⟩
theorem Box1.drew {w W : World} {g : Nat} {cs : Array Value} {t : Nat} (h : Box1 w g cs t W) : Box1 w g cs t W.drew := h.next (below_drew (Below.refl _ _))
theorem Box1.drewN {w W : World} {g : Nat} {cs : Array Value} {t : Nat} (h : Box1 w g cs t W) (n : Nat) : Box1 w g cs t (W.drewN n) := h.next (pw_below_drewN (Below.refl _ _) n)
theorem Box1.alloc {w W : World} {g : Nat} {cs : Array Value} {t : Nat} (h : Box1 w g cs t W) (o : Obj) : Box1 w g cs t (W.alloc o) := h.next (below_alloc (Below.refl _ _) o)
def oct_Fit.T14 : Bool × List (List Nat × List Nat) := (true, [([], []), ([0], [0]), ([1], [1]), ([2], [2]), ([3, 2], [2, 3]), ([4, 2, 2], [2, 4]), ([5], [5]), ([6, 5], [5, 6]), ([5, 7, 2], [2, 5, 7]), ([2, 8], [2, 8]), ([9, 5], [9]), ([10], [10]), ([10], [10]), ([11, 12, 10], [10, 11, 12]), ([13, 10, 10], [10, 13]), ([14], [14]), ([15, 14], [14, 15]), ([14, 16, 10], [10, 14, 16]), ([10, 17], [10, 17]), ([18, 14], [18]), ([19], [19]), ([19], [19]), ([19], [19]), ([22, 19, 19], [19, 22]), ([19], [19]), ([24, 23, 19], [19, 24]), ([21, 23, 25, 25, 19], [19, 21, 23, 25]), ([20, 26, 19], [19, 20, 26]), ([19, 27], [19, 27])])
def oct_Fit.B14 : List Nat := [0, 1, 3, 7, 15, 31, 63, 127, 255, 511, 1023, 2047, 2047, 8191, 16383, 32767, 65535, 131071, 262143, 524287, 1048575, 1048575, 1048575, 5242879, 1048575, 30408703, 66060287, 134217727, 268435455]
def FA0 : Array Bool := (mB 29 0)
def FA1 : Array Bool := (mB 29 1)
def FA2 : Array Bool := (mB 29 3)
def FA3 : Array Bool := (mB 29 7)
def FA4 : Array Bool := (mB 29 15)
def FA5 : Array Bool := (mB 29 31)
def FA6 : Array Bool := (mB 29 63)
def FA7 : Array Bool := (mB 29 127)
def FA8 : Array Bool := (mB 29 255)
def FA9 : Array Bool := (mB 29 511)
def FA10 : Array Bool := (mB 29 1023)
def FA11 : Array Bool := (mB 29 2047)
def FA12 : Array Bool := (mB 29 4095)
def FA13 : Array Bool := (mB 29 8191)
def FA14 : Array Bool := (mB 29 16383)
def FA15 : Array Bool := (mB 29 32767)
def FA16 : Array Bool := (mB 29 65535)
def FA17 : Array Bool := (mB 29 131071)
def FA18 : Array Bool := (mB 29 262143)
def FA19 : Array Bool := (mB 29 524287)
def FA20 : Array Bool := (mB 29 1048575)
def FA21 : Array Bool := (mB 29 2097151)
def FA22 : Array Bool := (mB 29 6291455)
def FA23 : Array Bool := (mB 29 23068671)
def FA24 : Array Bool := (mB 29 25165823)
def FA25 : Array Bool := (mB 29 33554431)
def FA26 : Array Bool := (mB 29 67108863)
def FA27 : Array Bool := (mB 29 134217727)
def FA28 : Array Bool := (mB 29 268435455)
def FA29 : Array Bool := (mB 29 536870911)
theorem oct_Fit.tab14 : rtab .any (opsOf Try.f18 14) = oct_Fit.T14 := by kernel_rfl
theorem oct_Fit.bits14 : waitsOk oct_Fit.T14.2 oct_Fit.B14 = true := by kernel_rfl
set_option maxHeartbeats 8000000 in
set_option maxRecDepth 100000 in
theorem oct_Fit.calls (A0_0 : Option Addr) (c0_0 : Nat) (l0_0 : List Int) (A0_1 : Option Addr) (c0_1 : Nat) (l0_1 : List Int) (a0_2 : Bool) (r : Bool) (w : World) (hr0_0 : Kd.C (Kd.int .i64) w A0_0 l0_0.length l0_0) (hc0_0 : l0_0.length ≤ c0_0) (hr0_1 : Kd.C (Kd.int .i64) w A0_1 l0_1.length l0_1) (hc0_1 : l0_1.length ≤ c0_1) (h : oct_Fit.f l0_0 l0_1 a0_2 = some r) :
 Calls Try.prog 18 #[.agg #[.slice A0_0 l0_0.length c0_0, .slice A0_1 l0_1.length c0_1, .bool a0_2]] w fun e w' => e = .returned (.bool r) ∧ Below w.heap.size w w' := by
 have hu25 := Try.underlying25
 have hu58 := Try.underlying58
 have HR0 := Aside0.mk hr0_0
 have HR1 := Aside0.mk hr0_1
 have HC0 := Aside0.mk hc0_0
 have HC1 := Aside0.mk hc0_1
 clear hr0_0 hr0_1 hc0_0 hc0_1
 unfold oct_Fit.f at h
 by_cases hlen : l0_0.length ≤ 17592186044416
 ·
  rw [if_pos hlen] at h
  have HV := Aside0.mk (Option.some.inj h)
  clear h
  have e1 : wrap64 (2 * (l0_0.length : Int)) = 2 * (l0_0.length : Int) := by unfold wrap64; omega
  have e2 : IntKind.i64.wrap (2 * (l0_0.length : Int)) = 2 * (l0_0.length : Int) := by rw [IntKind.wrap_i64]; omega
  cases hv : varsB l0_0 with
  | false =>
   have HM := fun W (hW : Kd.C (Kd.int .i64) W A0_0 l0_0.length l0_0) => oct_may.calls A0_0 c0_0 l0_0 false W hW HC0.out (by unfold oct_may.f; rw [hv])
   replace HM := Aside0.mk HM
   have HF := Aside0.mk (varsB_false.1 hv)
   clear hv hlen
   go_enter Try.func18, Try.ntmps18
   go_wp2_with (go_at_call 46; (with_reducible refine (HM.out _ ?side1).mono ?_); (case side1 => repeat (first | exact HR0.out | (with_reducible refine Kd.C_alloc ?_ _) | (with_reducible refine Kd.C_drewN ?_ _) | (with_reducible refine Kd.C_drew ?_))); rintro e w1 ⟨rfl, ⟨nd, rfl⟩⟩)
   go_ret
   refine ⟨?_, by repeat (first | exact Below.refl _ _ | (with_reducible apply below_alloc) | (with_reducible apply pw_below_drewN) | (with_reducible apply below_drew))⟩
   rw [← HV.out, ofitB_false.2 (fun h => HF.out h.1)]
   rfl
  | true =>
   have HM := fun W (hW : Kd.C (Kd.int .i64) W A0_0 l0_0.length l0_0) => oct_may.calls A0_0 c0_0 l0_0 true W hW HC0.out (by unfold oct_may.f; rw [hv])
   replace HM := Aside0.mk HM
   have HT := Aside0.mk (varsB_true.1 hv)
   clear hv hlen
   cases a0_2 with
   | true =>
    by_cases hz : l0_1.length = 0
    ·
     have f1 : ((l0_1.length : Int) == 0) = true := by rw [hz]; rfl
     have f2 : (l0_1.length == 0) = true := by rw [hz]; rfl
     have HZ := Aside0.mk hz
     clear hz
     go_enter Try.func18, Try.ntmps18
     go_wp2_with (go_at_call 46; (with_reducible refine (HM.out _ ?side1).mono ?_); (case side1 => repeat (first | exact HR0.out | (with_reducible refine Kd.C_alloc ?_ _) | (with_reducible refine Kd.C_drewN ?_ _) | (with_reducible refine Kd.C_drew ?_))); rintro e w1 ⟨rfl, ⟨nd, rfl⟩⟩)
     go_ret
     refine ⟨?_, by repeat (first | exact Below.refl _ _ | (with_reducible apply below_alloc) | (with_reducible apply pw_below_drewN) | (with_reducible apply below_drew))⟩
     rw [← HV.out, ofitB_true.2 ⟨HT.out, fun _ => List.eq_nil_of_length_eq_zero HZ.out, fun h => by cases h⟩]
     rfl
    ·
     have f1 : ((l0_1.length : Int) == 0) = false := by simpa using (by omega : ¬ ((l0_1.length : Int) = 0))
     have f2 : (l0_1.length == 0) = false := by simpa using hz
     have HZ := Aside0.mk hz
     clear hz
     go_enter Try.func18, Try.ntmps18
     go_wp2_with (go_at_call 46; (with_reducible refine (HM.out _ ?side1).mono ?_); (case side1 => repeat (first | exact HR0.out | (with_reducible refine Kd.C_alloc ?_ _) | (with_reducible refine Kd.C_drewN ?_ _) | (with_reducible refine Kd.C_drew ?_))); rintro e w1 ⟨rfl, ⟨nd, rfl⟩⟩)
     go_ret
     refine ⟨?_, by repeat (first | exact Below.refl _ _ | (with_reducible apply below_alloc) | (with_reducible apply pw_below_drewN) | (with_reducible apply below_drew))⟩
     rw [← HV.out, ofitB_false.2 (fun h => HZ.out (by rw [h.2.1 rfl]; rfl))]
     rfl
   | false =>
    obtain ⟨n2, hn2⟩ : ∃ n2 : Int, 2 * (l0_0.length : Int) = n2 := ⟨_, rfl⟩
    replace e1 : wrap64 (2 * (l0_0.length : Int)) = n2 := e1.trans hn2
    replace e2 : IntKind.i64.wrap (2 * (l0_0.length : Int)) = n2 := e2.trans hn2
    have hl8 := HT.out.1
    obtain ⟨nn, hnn⟩ : ∃ nn : Int, n2 * n2 = nn := ⟨_, rfl⟩
    have hnn2 : 0 ≤ nn ∧ nn ≤ 256 := by rw [← hnn]; exact mul_in (a := n2) (b := n2) (by omega) (by omega) (by omega) (by omega)
    have e3 : wrap64 (n2 * n2) = nn := by rw [hnn]; unfold wrap64; omega
    have e4 : IntKind.i64.wrap (n2 * n2) = nn := by rw [hnn, IntKind.wrap_i64]; omega
    by_cases hz : (l0_1.length : Int) = nn
    ·
     have f1 : ((l0_1.length : Int) != nn) = false := by rw [hz]; simp
     have HZ := Aside0.mk hz
     have HN := Aside0.mk hn2
     have HNN := Aside0.mk hnn
     clear hz hn2 hnn hnn2 hl8
     go_enter Try.func18, Try.ntmps18
     go_wp2_with (go_at_call 46; (with_reducible refine (HM.out _ ?side1).mono ?_); (case side1 => repeat (first | exact HR0.out | (with_reducible refine Kd.C_alloc ?_ _) | (with_reducible refine Kd.C_drewN ?_ _) | (with_reducible refine Kd.C_drew ?_))); rintro e w1 ⟨rfl, ⟨nd, rfl⟩⟩)
     go_loopg [5, 6, 7, 41, 44, 45] n2.toNat (fun gg _ _ _ s41 _ _ wr => ∃ i : Int, s41 = .int .i64 i ∧ Aside0 (0 ≤ i ∧ i ≤ n2 ∧ n2.toNat - i.toNat ≤ gg) ∧ Aside0 (Box1 w (w.heap.size + 1) #[.int .i64 n2, .slice A0_1 l0_1.length c0_1] 58 wr) ∧ Aside0 (∀ a b : Int, 0 ≤ a → a < i → 0 ≤ b → b < n2 → EntryOk n2 l0_1 a b))
     case atStart => exact ⟨0, rfl, ⟨by have := HN.out; omega, by have := HN.out; omega, by omega⟩, ⟨box1_new (by repeat (first | exact Below.refl _ _ | (with_reducible apply below_alloc) | (with_reducible apply pw_below_drewN) | (with_reducible apply below_drew))) (by simp)⟩, ⟨fun a b h0 h1 => absurd h1 (by omega)⟩⟩
     case round =>
      obtain ⟨i, rfl, HI, HX, HA⟩ := hrel
      by_cases hlt : i < n2
      ·
       have f2 : decide (i < n2) = true := decide_eq_true hlt
       have HL := Aside0.mk hlt
       clear hlt
       go_wp2
       obtain ⟨wo, rfl⟩ : ∃ wo : World, wo = wr := ⟨_, rfl⟩
       go_loopg [6, 7, 45] n2.toNat (fun hh _ _ s45 wr => ∃ j : Int, s45 = .int .i64 j ∧ Aside0 (0 ≤ j ∧ j ≤ n2 ∧ n2.toNat - j.toNat ≤ hh) ∧ Aside0 (Box1 w (w.heap.size + 1) #[.int .i64 n2, .slice A0_1 l0_1.length c0_1] 58 wr) ∧ Aside0 (∀ b : Int, 0 ≤ b → b < j → EntryOk n2 l0_1 i b))
       case atStart => exact ⟨0, rfl, ⟨by have := HN.out; omega, by have := HN.out; omega, by omega⟩, ⟨HX.out⟩, ⟨fun b h0 h1 => absurd h1 (by omega)⟩⟩
       case round =>
        clear HX
        obtain ⟨j, rfl, HJ, HX, HE⟩ := hrel
        by_cases hlt : j < n2
        ·
         have f3 : decide (j < n2) = true := decide_eq_true hlt
         have HK := Aside0.mk hlt
         clear hlt
         have hi := HI.out; have hj := HJ.out; have hil := HL.out; have hjl := HK.out
         have h8 := HT.out.1
         have hm : (l0_1.length : Int) = (2 * (l0_0.length : Int)) * (2 * (l0_0.length : Int)) := by rw [HN.out, HNN.out]; exact HZ.out
         have nj := nbar_in (i := j) (n := l0_0.length) hj.1 (by rw [HN.out]; exact hjl)
         have ni := nbar_in (i := i) (n := l0_0.length) hi.1 (by rw [HN.out]; exact hil)
         have a1 := at_ok (n := l0_0.length) (m := l0_1) (i := i) (j := j) h8 hm hi.1 (by rw [HN.out]; exact hil) hj.1 (by rw [HN.out]; exact hjl)
         have a2 := at_ok (n := l0_0.length) (m := l0_1) (i := nbar j) (j := nbar i) h8 hm nj.1 nj.2 ni.1 ni.2
         rw [HN.out] at a1 a2
         have b1 : oct_bar.f j = some (nbar j) := by unfold oct_bar.f; rw [if_pos ⟨hj.1, by have := HN.out; omega⟩]
         have b2 : oct_bar.f i = some (nbar i) := by unfold oct_bar.f; rw [if_pos ⟨hi.1, by have := HN.out; omega⟩]
         obtain ⟨x, hx⟩ : ∃ x, rd l0_1 (i * n2 + j) = x := ⟨_, rfl⟩
         obtain ⟨y, hy⟩ : ∃ y, rd l0_1 (nbar j * n2 + nbar i) = y := ⟨_, rfl⟩
         obtain ⟨p, hp⟩ : ∃ p, nbar j = p := ⟨_, rfl⟩
         obtain ⟨q, hq⟩ : ∃ q, nbar i = q := ⟨_, rfl⟩
         rw [hp, hq] at hy a2
         rw [hp] at b1
         rw [hq] at b2
         rw [hx] at a1
         rw [hy] at a2
         have C1 := Aside0.mk (fun W (hW : Kd.C (Kd.int .i64) W A0_1 l0_1.length l0_1) => oct_full_at.calls n2 A0_1 c0_1 l0_1 i j x W hW HC1.out a1)
         have C2 := Aside0.mk (fun W (hW : Kd.C (Kd.int .i64) W A0_1 l0_1.length l0_1) => oct_full_at.calls n2 A0_1 c0_1 l0_1 p q y W hW HC1.out a2)
         have B1 := Aside0.mk (fun W => oct_bar.calls j p W b1)
         have B2 := Aside0.mk (fun W => oct_bar.calls i q W b2)
         have HXY : Aside0 (EntryOk n2 l0_1 i j ↔ (x = 4611686018427387904 ∨ (-1099511627776 ≤ x ∧ x ≤ 1099511627776)) ∧ (i = j → x = 0) ∧ x = y) := ⟨by unfold EntryOk; rw [hp, hq, hx, hy]⟩
         clear hi hj hil hjl h8 hm nj ni a1 a2 b1 b2 hx hy hp hq
         obtain ⟨hx0, hx1⟩ := HX.out.two
         go_upto_region 14 with (go_at_call 51; (with_reducible refine (C1.out _ ?s1).mono ?_); (case s1 => exact Kd.C_below HR1.out HX.out.below); rintro e w1 ⟨rfl, hb⟩; have hY := Box1.next HX.out (show Below _ _ _ from hb); clear HX hx0 hx1; have HX := Aside0.mk hY; obtain ⟨hx0, hx1⟩ := hY.two; clear hY hb)
         go_cut [80] (fun s80 wx => ∃ b : Bool, s80 = .bool b ∧ (b = false ↔ (x = 4611686018427387904 ∨ (-1099511627776 ≤ x ∧ x ≤ 1099511627776)) ∧ (i = j → x = 0) ∧ x = y) ∧ Box1 w (w.heap.size + 1) #[.int .i64 n2, .slice A0_1 l0_1.length c0_1] 58 wx)
         case first =>
          by_cases c1 : x = 4611686018427387904
          ·
           have f1 : (x != 4611686018427387904) = false := by rw [c1]; rfl
           by_cases c4 : i = j
           ·
            have f4 : (i == j) = true := by simpa using c4
            by_cases c5 : x = 0
            ·
             have f5 : (x != 0) = false := by rw [c5]; rfl
             have HB : Aside0 ((x != y) = false ↔ (x = 4611686018427387904 ∨ (-1099511627776 ≤ x ∧ x ≤ 1099511627776)) ∧ (i = j → x = 0) ∧ x = y) := ⟨by simp only [bne_eq_false_iff_eq]; constructor <;> intro h <;> omega⟩
             clear c1 c4 c5
             have n_ := Aside0.mk HX.out.drew
             clear HX hx0 hx1
             have HX := n_
             clear n_
             refine start_ (n := 29) (S := fun w' => w'.cell? ⟨w.heap.size + 1, 0, none⟩ = some (.int .i64 n2) ∧ w'.cell? ⟨w.heap.size + 1, 1, none⟩ = some (.slice A0_1 l0_1.length c0_1)) (ds := []) FA0 (by kernel_rfl) rfl rfl HX.out.two (fun hHeld => ?_); refine with_tabW oct_Fit.tab14 oct_Fit.bits14 (fun HT_ HW_ => ?_)
             generalize w1.drew = w2 at HX hHeld ⊢
             refine pV_ 0 52 FA1 HT_ ?_
             refine pV_ 1 53 FA2 HT_ ?_
             refine pV_ 2 54 FA3 HT_ ?_
             refine pU_ 3 55 FA4 HT_ ?_
             refine pU_ 4 56 FA5 HT_ ?_
             refine pU_ 5 57 FA6 HT_ ?_
             refine pU_ 6 58 FA7 HT_ ?_
             refine pU_ 7 59 FA8 HT_ ?_
             refine pU_ 8 60 FA9 HT_ ?_
             refine pV_ 9 61 FA10 HT_ ?_
             refine pV_ 10 62 FA11 HT_ ?_
             refine pV_ 11 63 FA12 HT_ ?_
             refine pV_ 12 64 FA13 HT_ ?_
             refine pV_ 13 65 FA14 HT_ ?_
             refine pV_ 14 66 FA15 HT_ ?_
             refine pV_ 15 67 FA16 HT_ ?_
             refine pV_ 16 68 FA17 HT_ ?_
             refine pV_ 17 69 FA18 HT_ ?_
             refine pV_ 18 70 FA19 HT_ ?_
             refine pV_ 19 71 FA20 HT_ ?_
             refine pV_ 20 72 FA21 HT_ ?_
             refine pV_ 22 74 FA22 HT_ ?_
             refine pV_ 24 76 FA23 HT_ ?_
             refine tV_ 21 73 FA24 HT_ HW_ hHeld ?_
             refine one_ (i := 23) (N := some 75) FA25 rfl rfl (one_of HT_.out (by kernel_rfl)) (by decide) (fun K hK => ?_)
             refine goes_ Try.func52 (by kernel_rfl) rfl #[.int .i64 j] (by rfl) rfl rfl vL ?_
             with_reducible refine (B1.out _).mono ?_
             rintro e w' ⟨rfl, ⟨nd, rfl⟩⟩
             refine ⟨_, rfl, ?_⟩
             have n_ := Aside0.mk (HX.out.drewN nd)
             clear HX
             have HX := n_
             clear n_
             refine hK.out _ _ HX.out.two (fun hHeld => ?_)
             clear hK K
             refine norm_ (a' := ?_) ?_ ?_
             rotate_left
             ·
              show Act.put _ (some 75) _ = _; simp only [Act.put, List.setIfInBounds_toArray, List.set_cons_zero, List.set_cons_succ, i64_w, i32_w]; rfl
             refine one_ (i := 25) (N := some 77) FA26 rfl rfl (one_of HT_.out (by kernel_rfl)) (by decide) (fun K hK => ?_)
             refine goes_ Try.func52 (by kernel_rfl) rfl #[.int .i64 i] (by rfl) rfl rfl vL ?_
             with_reducible refine (B2.out _).mono ?_
             rintro e w' ⟨rfl, ⟨nd, rfl⟩⟩
             refine ⟨_, rfl, ?_⟩
             have n_ := Aside0.mk (HX.out.drewN nd)
             clear HX
             have HX := n_
             clear n_
             refine hK.out _ _ HX.out.two (fun hHeld => ?_)
             clear hK K
             refine norm_ (a' := ?_) ?_ ?_
             rotate_left
             ·
              show Act.put _ (some 77) _ = _; simp only [Act.put, List.setIfInBounds_toArray, List.set_cons_zero, List.set_cons_succ, i64_w, i32_w]; rfl
             refine one_ (i := 26) (N := some 78) FA27 rfl rfl (one_of HT_.out (by kernel_rfl)) (by decide) (fun K hK => ?_)
             refine goes_ Try.func51 (by kernel_rfl) rfl #[.agg #[.int .i64 n2, .slice A0_1 l0_1.length c0_1], .int .i64 p, .int .i64 q] (by rfl) rfl rfl vL ?_
             with_reducible refine (C2.out _ ?s1).mono ?_
             (case s1 => exact Kd.C_below HR1.out HX.out.below)
             rintro e w3 ⟨rfl, hb⟩
             refine ⟨_, rfl, ?_⟩
             have n_ := Aside0.mk (HX.out.next hb)
             clear HX hb
             have HX := n_
             clear n_
             refine hK.out _ _ HX.out.two (fun hHeld => ?_)
             clear hK K
             refine norm_ (a' := ?_) ?_ ?_
             rotate_left
             ·
              show Act.put _ (some 78) _ = _; simp only [Act.put, List.setIfInBounds_toArray, List.set_cons_zero, List.set_cons_succ, i64_w, i32_w]; rfl
             refine pV_ 27 79 FA28 HT_ ?_
             refine pV_ 28 80 FA29 HT_ ?_
             refine done_ (done_of HT_.out (by kernel_rfl)) ?_
             try (go_wp2_with fail)
             go_meet
             exact ⟨(x != y), rfl, (by have h := HB.out; first | exact h | simpa using h), HX.out⟩
            ·
             have f5 : (x != 0) = true := by simpa using c5
             have HB : Aside0 (true = false ↔ (x = 4611686018427387904 ∨ (-1099511627776 ≤ x ∧ x ≤ 1099511627776)) ∧ (i = j → x = 0) ∧ x = y) := ⟨by constructor; (intro h; cases h); intro h; exfalso; omega⟩
             clear c1 c4 c5
             go_quiet (fail)
             go_wp2_with fail
             go_meet
             exact ⟨true, rfl, (by have h := HB.out; first | exact h | simpa using h), (by repeat (first | exact HX.out | (with_reducible apply Box1.drewN) | (with_reducible apply Box1.drew) | (with_reducible apply Box1.alloc)))⟩
           ·
            have f4 : (i == j) = false := by simpa using c4
            have HB : Aside0 ((x != y) = false ↔ (x = 4611686018427387904 ∨ (-1099511627776 ≤ x ∧ x ≤ 1099511627776)) ∧ (i = j → x = 0) ∧ x = y) := ⟨by simp only [bne_eq_false_iff_eq]; constructor <;> intro h <;> omega⟩
            clear c1 c4
            have n_ := Aside0.mk HX.out.drew
            clear HX hx0 hx1
            have HX := n_
            clear n_
            refine start_ (n := 29) (S := fun w' => w'.cell? ⟨w.heap.size + 1, 0, none⟩ = some (.int .i64 n2) ∧ w'.cell? ⟨w.heap.size + 1, 1, none⟩ = some (.slice A0_1 l0_1.length c0_1)) (ds := []) FA0 (by kernel_rfl) rfl rfl HX.out.two (fun hHeld => ?_); refine with_tabW oct_Fit.tab14 oct_Fit.bits14 (fun HT_ HW_ => ?_)
            generalize w1.drew = w2 at HX hHeld ⊢
            refine pV_ 0 52 FA1 HT_ ?_
            refine pV_ 1 53 FA2 HT_ ?_
            refine pV_ 2 54 FA3 HT_ ?_
            refine pU_ 3 55 FA4 HT_ ?_
            refine pU_ 4 56 FA5 HT_ ?_
            refine pU_ 5 57 FA6 HT_ ?_
            refine pU_ 6 58 FA7 HT_ ?_
            refine pU_ 7 59 FA8 HT_ ?_
            refine pU_ 8 60 FA9 HT_ ?_
            refine pV_ 9 61 FA10 HT_ ?_
            refine pV_ 10 62 FA11 HT_ ?_
            refine pV_ 11 63 FA12 HT_ ?_
            refine pV_ 12 64 FA13 HT_ ?_
            refine pV_ 13 65 FA14 HT_ ?_
            refine pV_ 14 66 FA15 HT_ ?_
            refine pU_ 15 67 FA16 HT_ ?_
            refine pU_ 16 68 FA17 HT_ ?_
            refine pV_ 17 69 FA18 HT_ ?_
            refine pV_ 18 70 FA19 HT_ ?_
            refine pV_ 19 71 FA20 HT_ ?_
            refine pV_ 20 72 FA21 HT_ ?_
            refine pV_ 22 74 FA22 HT_ ?_
            refine pV_ 24 76 FA23 HT_ ?_
            refine tV_ 21 73 FA24 HT_ HW_ hHeld ?_
            refine one_ (i := 23) (N := some 75) FA25 rfl rfl (one_of HT_.out (by kernel_rfl)) (by decide) (fun K hK => ?_)
            refine goes_ Try.func52 (by kernel_rfl) rfl #[.int .i64 j] (by rfl) rfl rfl vL ?_
            with_reducible refine (B1.out _).mono ?_
            rintro e w' ⟨rfl, ⟨nd, rfl⟩⟩
            refine ⟨_, rfl, ?_⟩
            have n_ := Aside0.mk (HX.out.drewN nd)
            clear HX
            have HX := n_
            clear n_
            refine hK.out _ _ HX.out.two (fun hHeld => ?_)
            clear hK K
            refine norm_ (a' := ?_) ?_ ?_
            rotate_left
            ·
             show Act.put _ (some 75) _ = _; simp only [Act.put, List.setIfInBounds_toArray, List.set_cons_zero, List.set_cons_succ, i64_w, i32_w]; rfl
            refine one_ (i := 25) (N := some 77) FA26 rfl rfl (one_of HT_.out (by kernel_rfl)) (by decide) (fun K hK => ?_)
            refine goes_ Try.func52 (by kernel_rfl) rfl #[.int .i64 i] (by rfl) rfl rfl vL ?_
            with_reducible refine (B2.out _).mono ?_
            rintro e w' ⟨rfl, ⟨nd, rfl⟩⟩
            refine ⟨_, rfl, ?_⟩
            have n_ := Aside0.mk (HX.out.drewN nd)
            clear HX
            have HX := n_
            clear n_
            refine hK.out _ _ HX.out.two (fun hHeld => ?_)
            clear hK K
            refine norm_ (a' := ?_) ?_ ?_
            rotate_left
            ·
             show Act.put _ (some 77) _ = _; simp only [Act.put, List.setIfInBounds_toArray, List.set_cons_zero, List.set_cons_succ, i64_w, i32_w]; rfl
            refine one_ (i := 26) (N := some 78) FA27 rfl rfl (one_of HT_.out (by kernel_rfl)) (by decide) (fun K hK => ?_)
            refine goes_ Try.func51 (by kernel_rfl) rfl #[.agg #[.int .i64 n2, .slice A0_1 l0_1.length c0_1], .int .i64 p, .int .i64 q] (by rfl) rfl rfl vL ?_
            with_reducible refine (C2.out _ ?s1).mono ?_
            (case s1 => exact Kd.C_below HR1.out HX.out.below)
            rintro e w3 ⟨rfl, hb⟩
            refine ⟨_, rfl, ?_⟩
            have n_ := Aside0.mk (HX.out.next hb)
            clear HX hb
            have HX := n_
            clear n_
            refine hK.out _ _ HX.out.two (fun hHeld => ?_)
            clear hK K
            refine norm_ (a' := ?_) ?_ ?_
            rotate_left
            ·
             show Act.put _ (some 78) _ = _; simp only [Act.put, List.setIfInBounds_toArray, List.set_cons_zero, List.set_cons_succ, i64_w, i32_w]; rfl
            refine pV_ 27 79 FA28 HT_ ?_
            refine pV_ 28 80 FA29 HT_ ?_
            refine done_ (done_of HT_.out (by kernel_rfl)) ?_
            try (go_wp2_with fail)
            go_meet
            exact ⟨(x != y), rfl, (by have h := HB.out; first | exact h | simpa using h), HX.out⟩
          ·
           have f1 : (x != 4611686018427387904) = true := by simpa using c1
           by_cases c2 : x < -1099511627776
           ·
            have f2 : decide (x < -1099511627776) = true := decide_eq_true c2
            have HB : Aside0 (true = false ↔ (x = 4611686018427387904 ∨ (-1099511627776 ≤ x ∧ x ≤ 1099511627776)) ∧ (i = j → x = 0) ∧ x = y) := ⟨by constructor; (intro h; cases h); intro h; exfalso; omega⟩
            clear c1 c2
            go_quiet (fail)
            go_wp2_with fail
            go_meet
            exact ⟨true, rfl, (by have h := HB.out; first | exact h | simpa using h), (by repeat (first | exact HX.out | (with_reducible apply Box1.drewN) | (with_reducible apply Box1.drew) | (with_reducible apply Box1.alloc)))⟩
           ·
            have f2 : decide (x < -1099511627776) = false := decide_eq_false c2
            by_cases c3 : 1099511627776 < x
            ·
             have f3 : decide (1099511627776 < x) = true := decide_eq_true c3
             have HB : Aside0 (true = false ↔ (x = 4611686018427387904 ∨ (-1099511627776 ≤ x ∧ x ≤ 1099511627776)) ∧ (i = j → x = 0) ∧ x = y) := ⟨by constructor; (intro h; cases h); intro h; exfalso; omega⟩
             clear c1 c2 c3
             go_quiet (fail)
             go_wp2_with fail
             go_meet
             exact ⟨true, rfl, (by have h := HB.out; first | exact h | simpa using h), (by repeat (first | exact HX.out | (with_reducible apply Box1.drewN) | (with_reducible apply Box1.drew) | (with_reducible apply Box1.alloc)))⟩
            ·
             have f3 : decide (1099511627776 < x) = false := decide_eq_false c3
             by_cases c4 : i = j
             ·
              have f4 : (i == j) = true := by simpa using c4
              by_cases c5 : x = 0
              ·
               have f5 : (x != 0) = false := by rw [c5]; rfl
               have HB : Aside0 ((x != y) = false ↔ (x = 4611686018427387904 ∨ (-1099511627776 ≤ x ∧ x ≤ 1099511627776)) ∧ (i = j → x = 0) ∧ x = y) := ⟨by simp only [bne_eq_false_iff_eq]; constructor <;> intro h <;> omega⟩
               clear c1 c2 c3 c4 c5
               have n_ := Aside0.mk HX.out.drew
               clear HX hx0 hx1
               have HX := n_
               clear n_
               refine start_ (n := 29) (S := fun w' => w'.cell? ⟨w.heap.size + 1, 0, none⟩ = some (.int .i64 n2) ∧ w'.cell? ⟨w.heap.size + 1, 1, none⟩ = some (.slice A0_1 l0_1.length c0_1)) (ds := []) FA0 (by kernel_rfl) rfl rfl HX.out.two (fun hHeld => ?_); refine with_tabW oct_Fit.tab14 oct_Fit.bits14 (fun HT_ HW_ => ?_)
               generalize w1.drew = w2 at HX hHeld ⊢
               refine pV_ 0 52 FA1 HT_ ?_
               refine pV_ 1 53 FA2 HT_ ?_
               refine pV_ 2 54 FA3 HT_ ?_
               refine pV_ 3 55 FA4 HT_ ?_
               refine pV_ 4 56 FA5 HT_ ?_
               refine pV_ 5 57 FA6 HT_ ?_
               refine pV_ 6 58 FA7 HT_ ?_
               refine pV_ 7 59 FA8 HT_ ?_
               refine pV_ 8 60 FA9 HT_ ?_
               refine pV_ 9 61 FA10 HT_ ?_
               refine pV_ 10 62 FA11 HT_ ?_
               refine pV_ 11 63 FA12 HT_ ?_
               refine pV_ 12 64 FA13 HT_ ?_
               refine pV_ 13 65 FA14 HT_ ?_
               refine pV_ 14 66 FA15 HT_ ?_
               refine pV_ 15 67 FA16 HT_ ?_
               refine pV_ 16 68 FA17 HT_ ?_
               refine pV_ 17 69 FA18 HT_ ?_
               refine pV_ 18 70 FA19 HT_ ?_
               refine pV_ 19 71 FA20 HT_ ?_
               refine pV_ 20 72 FA21 HT_ ?_
               refine pV_ 22 74 FA22 HT_ ?_
               refine pV_ 24 76 FA23 HT_ ?_
               refine tV_ 21 73 FA24 HT_ HW_ hHeld ?_
               refine one_ (i := 23) (N := some 75) FA25 rfl rfl (one_of HT_.out (by kernel_rfl)) (by decide) (fun K hK => ?_)
               refine goes_ Try.func52 (by kernel_rfl) rfl #[.int .i64 j] (by rfl) rfl rfl vL ?_
               with_reducible refine (B1.out _).mono ?_
               rintro e w' ⟨rfl, ⟨nd, rfl⟩⟩
               refine ⟨_, rfl, ?_⟩
               have n_ := Aside0.mk (HX.out.drewN nd)
               clear HX
               have HX := n_
               clear n_
               refine hK.out _ _ HX.out.two (fun hHeld => ?_)
               clear hK K
               refine norm_ (a' := ?_) ?_ ?_
               rotate_left
               ·
                show Act.put _ (some 75) _ = _; simp only [Act.put, List.setIfInBounds_toArray, List.set_cons_zero, List.set_cons_succ, i64_w, i32_w]; rfl
               refine one_ (i := 25) (N := some 77) FA26 rfl rfl (one_of HT_.out (by kernel_rfl)) (by decide) (fun K hK => ?_)
               refine goes_ Try.func52 (by kernel_rfl) rfl #[.int .i64 i] (by rfl) rfl rfl vL ?_
               with_reducible refine (B2.out _).mono ?_
               rintro e w' ⟨rfl, ⟨nd, rfl⟩⟩
               refine ⟨_, rfl, ?_⟩
               have n_ := Aside0.mk (HX.out.drewN nd)
               clear HX
               have HX := n_
               clear n_
               refine hK.out _ _ HX.out.two (fun hHeld => ?_)
               clear hK K
               refine norm_ (a' := ?_) ?_ ?_
               rotate_left
               ·
                show Act.put _ (some 77) _ = _; simp only [Act.put, List.setIfInBounds_toArray, List.set_cons_zero, List.set_cons_succ, i64_w, i32_w]; rfl
               refine one_ (i := 26) (N := some 78) FA27 rfl rfl (one_of HT_.out (by kernel_rfl)) (by decide) (fun K hK => ?_)
               refine goes_ Try.func51 (by kernel_rfl) rfl #[.agg #[.int .i64 n2, .slice A0_1 l0_1.length c0_1], .int .i64 p, .int .i64 q] (by rfl) rfl rfl vL ?_
               with_reducible refine (C2.out _ ?s1).mono ?_
               (case s1 => exact Kd.C_below HR1.out HX.out.below)
               rintro e w3 ⟨rfl, hb⟩
               refine ⟨_, rfl, ?_⟩
               have n_ := Aside0.mk (HX.out.next hb)
               clear HX hb
               have HX := n_
               clear n_
               refine hK.out _ _ HX.out.two (fun hHeld => ?_)
               clear hK K
               refine norm_ (a' := ?_) ?_ ?_
               rotate_left
               ·
                show Act.put _ (some 78) _ = _; simp only [Act.put, List.setIfInBounds_toArray, List.set_cons_zero, List.set_cons_succ, i64_w, i32_w]; rfl
               refine pV_ 27 79 FA28 HT_ ?_
               refine pV_ 28 80 FA29 HT_ ?_
               refine done_ (done_of HT_.out (by kernel_rfl)) ?_
               try (go_wp2_with fail)
               go_meet
               exact ⟨(x != y), rfl, (by have h := HB.out; first | exact h | simpa using h), HX.out⟩
              ·
               have f5 : (x != 0) = true := by simpa using c5
               have HB : Aside0 (true = false ↔ (x = 4611686018427387904 ∨ (-1099511627776 ≤ x ∧ x ≤ 1099511627776)) ∧ (i = j → x = 0) ∧ x = y) := ⟨by constructor; (intro h; cases h); intro h; exfalso; omega⟩
               clear c1 c2 c3 c4 c5
               go_quiet (fail)
               go_wp2_with fail
               go_meet
               exact ⟨true, rfl, (by have h := HB.out; first | exact h | simpa using h), (by repeat (first | exact HX.out | (with_reducible apply Box1.drewN) | (with_reducible apply Box1.drew) | (with_reducible apply Box1.alloc)))⟩
             ·
              have f4 : (i == j) = false := by simpa using c4
              have HB : Aside0 ((x != y) = false ↔ (x = 4611686018427387904 ∨ (-1099511627776 ≤ x ∧ x ≤ 1099511627776)) ∧ (i = j → x = 0) ∧ x = y) := ⟨by simp only [bne_eq_false_iff_eq]; constructor <;> intro h <;> omega⟩
              clear c1 c2 c3 c4
              have n_ := Aside0.mk HX.out.drew
              clear HX hx0 hx1
              have HX := n_
              clear n_
              refine start_ (n := 29) (S := fun w' => w'.cell? ⟨w.heap.size + 1, 0, none⟩ = some (.int .i64 n2) ∧ w'.cell? ⟨w.heap.size + 1, 1, none⟩ = some (.slice A0_1 l0_1.length c0_1)) (ds := []) FA0 (by kernel_rfl) rfl rfl HX.out.two (fun hHeld => ?_); refine with_tabW oct_Fit.tab14 oct_Fit.bits14 (fun HT_ HW_ => ?_)
              generalize w1.drew = w2 at HX hHeld ⊢
              refine pV_ 0 52 FA1 HT_ ?_
              refine pV_ 1 53 FA2 HT_ ?_
              refine pV_ 2 54 FA3 HT_ ?_
              refine pV_ 3 55 FA4 HT_ ?_
              refine pV_ 4 56 FA5 HT_ ?_
              refine pV_ 5 57 FA6 HT_ ?_
              refine pV_ 6 58 FA7 HT_ ?_
              refine pV_ 7 59 FA8 HT_ ?_
              refine pV_ 8 60 FA9 HT_ ?_
              refine pV_ 9 61 FA10 HT_ ?_
              refine pV_ 10 62 FA11 HT_ ?_
              refine pV_ 11 63 FA12 HT_ ?_
              refine pV_ 12 64 FA13 HT_ ?_
              refine pV_ 13 65 FA14 HT_ ?_
              refine pV_ 14 66 FA15 HT_ ?_
              refine pU_ 15 67 FA16 HT_ ?_
              refine pU_ 16 68 FA17 HT_ ?_
              refine pV_ 17 69 FA18 HT_ ?_
              refine pV_ 18 70 FA19 HT_ ?_
              refine pV_ 19 71 FA20 HT_ ?_
              refine pV_ 20 72 FA21 HT_ ?_
              refine pV_ 22 74 FA22 HT_ ?_
              refine pV_ 24 76 FA23 HT_ ?_
              refine tV_ 21 73 FA24 HT_ HW_ hHeld ?_
              refine one_ (i := 23) (N := some 75) FA25 rfl rfl (one_of HT_.out (by kernel_rfl)) (by decide) (fun K hK => ?_)
              refine goes_ Try.func52 (by kernel_rfl) rfl #[.int .i64 j] (by rfl) rfl rfl vL ?_
              with_reducible refine (B1.out _).mono ?_
              rintro e w' ⟨rfl, ⟨nd, rfl⟩⟩
              refine ⟨_, rfl, ?_⟩
              have n_ := Aside0.mk (HX.out.drewN nd)
              clear HX
              have HX := n_
              clear n_
              refine hK.out _ _ HX.out.two (fun hHeld => ?_)
              clear hK K
              refine norm_ (a' := ?_) ?_ ?_
              rotate_left
              ·
               show Act.put _ (some 75) _ = _; simp only [Act.put, List.setIfInBounds_toArray, List.set_cons_zero, List.set_cons_succ, i64_w, i32_w]; rfl
              refine one_ (i := 25) (N := some 77) FA26 rfl rfl (one_of HT_.out (by kernel_rfl)) (by decide) (fun K hK => ?_)
              refine goes_ Try.func52 (by kernel_rfl) rfl #[.int .i64 i] (by rfl) rfl rfl vL ?_
              with_reducible refine (B2.out _).mono ?_
              rintro e w' ⟨rfl, ⟨nd, rfl⟩⟩
              refine ⟨_, rfl, ?_⟩
              have n_ := Aside0.mk (HX.out.drewN nd)
              clear HX
              have HX := n_
              clear n_
              refine hK.out _ _ HX.out.two (fun hHeld => ?_)
              clear hK K
              refine norm_ (a' := ?_) ?_ ?_
              rotate_left
              ·
               show Act.put _ (some 77) _ = _; simp only [Act.put, List.setIfInBounds_toArray, List.set_cons_zero, List.set_cons_succ, i64_w, i32_w]; rfl
              refine one_ (i := 26) (N := some 78) FA27 rfl rfl (one_of HT_.out (by kernel_rfl)) (by decide) (fun K hK => ?_)
              refine goes_ Try.func51 (by kernel_rfl) rfl #[.agg #[.int .i64 n2, .slice A0_1 l0_1.length c0_1], .int .i64 p, .int .i64 q] (by rfl) rfl rfl vL ?_
              with_reducible refine (C2.out _ ?s1).mono ?_
              (case s1 => exact Kd.C_below HR1.out HX.out.below)
              rintro e w3 ⟨rfl, hb⟩
              refine ⟨_, rfl, ?_⟩
              have n_ := Aside0.mk (HX.out.next hb)
              clear HX hb
              have HX := n_
              clear n_
              refine hK.out _ _ HX.out.two (fun hHeld => ?_)
              clear hK K
              refine norm_ (a' := ?_) ?_ ?_
              rotate_left
              ·
               show Act.put _ (some 78) _ = _; simp only [Act.put, List.setIfInBounds_toArray, List.set_cons_zero, List.set_cons_succ, i64_w, i32_w]; rfl
              refine pV_ 27 79 FA28 HT_ ?_
              refine pV_ 28 80 FA29 HT_ ?_
              refine done_ (done_of HT_.out (by kernel_rfl)) ?_
              try (go_wp2_with fail)
              go_meet
              exact ⟨(x != y), rfl, (by have h := HB.out; first | exact h | simpa using h), HX.out⟩
         case rest =>
          obtain ⟨b, rfl, hb, hX⟩ := hcut
          clear HX hx0 hx1 C1 C2 B1 B2
          have HX := Aside0.mk hX
          have HB := Aside0.mk (hb.trans HXY.out.symm)
          clear hX hb HXY
          cases b with
          | true =>
           go_wp2
           go_ret
           refine ⟨?_, HX.out.below⟩
           have h1 := HI.out; have h2 := HL.out; have h3 := HJ.out; have h4 := HK.out
           rw [← HV.out, ofitB_false.2 (fun h => by have := (h.2.2 rfl).2 i j h1.1 (by rw [HN.out]; exact h2) h3.1 (by rw [HN.out]; exact h4); rw [HN.out] at this; exact absurd (HB.out.2 this) (by simp))]
           rfl
          | false =>
           go_wp2
           go_roundg (n2.toNat - (j.toNat + 1))
           case measure => have h1 := HJ.out; have h2 := HK.out; omega
           case rel =>
            have h1 := HJ.out; have h2 := HK.out; have h3 := HT.out.1; have h4 := HN.out
            have hw : wrap64 (j + 1) = j + 1 := by unfold wrap64; omega
            refine ⟨wrap64 (j + 1), rfl, ⟨by omega, by omega, by omega⟩, ⟨HX.out⟩, ⟨fun b b0 b1 => ?_⟩⟩
            by_cases e : b = j
            ·
             subst e; exact HB.out.1 (by first | rfl | trivial)
            ·
             exact HE.out b b0 (by omega)
        ·
         have f3 : decide (j < n2) = false := decide_eq_false hlt
         have HK := Aside0.mk hlt
         clear hlt
         go_wp2
         go_roundg (n2.toNat - (i.toNat + 1))
         case measure => have h1 := HI.out; have h2 := HL.out; omega
         case rel =>
          have h1 := HI.out; have h2 := HL.out; have h3 := HT.out.1; have h4 := HN.out; have h5 := HK.out; have h6 := HJ.out
          have hw : wrap64 (i + 1) = i + 1 := by unfold wrap64; omega
          refine ⟨wrap64 (i + 1), rfl, ⟨by omega, by omega, by omega⟩, ⟨HX.out⟩, ⟨fun a b a0 a1 b0 b1 => ?_⟩⟩
          by_cases e : a = i
          ·
           subst e; exact HE.out b b0 (by omega)
          ·
           exact HA.out a b a0 (by omega) b0 b1
      ·
       have f2 : decide (i < n2) = false := decide_eq_false hlt
       have HL := Aside0.mk hlt
       clear hlt
       go_wp2
       go_ret
       have h1 := HI.out; have h2 := HL.out
       refine ⟨?_, HX.out.below⟩
       rw [← HV.out, ofitB_true.2 ⟨HT.out, fun h => (by cases h), fun _ => ⟨by rw [HN.out, HNN.out]; exact HZ.out, fun a b a0 a1 b0 b1 => by rw [HN.out] at a1 b1 ⊢; exact HA.out a b a0 (by omega) b0 b1⟩⟩]
       rfl
    ·
     have f1 : ((l0_1.length : Int) != nn) = true := by simpa using hz
     have HZ := Aside0.mk hz
     have HN := Aside0.mk hn2
     have HNN := Aside0.mk hnn
     clear hz hn2 hnn hnn2 hl8
     go_enter Try.func18, Try.ntmps18
     go_wp2_with (go_at_call 46; (with_reducible refine (HM.out _ ?side1).mono ?_); (case side1 => repeat (first | exact HR0.out | (with_reducible refine Kd.C_alloc ?_ _) | (with_reducible refine Kd.C_drewN ?_ _) | (with_reducible refine Kd.C_drew ?_))); rintro e w1 ⟨rfl, ⟨nd, rfl⟩⟩)
     go_ret
     refine ⟨?_, by repeat (first | exact Below.refl _ _ | (with_reducible apply below_alloc) | (with_reducible apply pw_below_drewN) | (with_reducible apply below_drew))⟩
     rw [← HV.out, ofitB_false.2 (fun h => HZ.out (by rw [(h.2.2 rfl).1, HN.out, HNN.out]))]
     rfl
 ·
  rw [if_neg hlen] at h
  cases h
end Go.Proofs.Ytomgebmimgaojaa.QO
end
section
/- Written by a program of this session out of the translation. -/
noncomputable section
namespace Go.Proofs.Ytomgebmimgaojaa.QO
open Go.RowKit Go.Proofs.YtomgebmimgaojaaW.PrintWords Go.Proofs.YtomgebmimgaojaaW.PrintLast
set_option linter.unusedVariables false
set_option linter.unusedSimpArgs false
/-! ### oct_of: function 55 -/
/-- the value that stands for an octagon's table -/
def tableV (n : Int) (A : Option Addr) (len cap : Nat) : Value := .iface 85 (.agg #[.int .i64 n, .slice A len cap])
set_option maxHeartbeats 8000000 in
set_option maxRecDepth 100000 in
theorem oct_of_any (A0 : Option Addr) (n0 c0 : Nat) (A1 : Option Addr) (n1 c1 : Nat) (b : Bool) (w : World) (hn : n0 ≤ 17592186044416) :
 Calls Try.prog 55 #[.agg #[.slice A0 n0 c0, .slice A1 n1 c1, .bool b]] w fun e w' => e = .returned (tableV (2 * (n0 : Int)) A1 n1 c1) ∧ Below w.heap.size w w' := by
 have hu25 := Try.underlying25
 have hw : wrap64 (2 * (n0 : Int)) = 2 * (n0 : Int) := by unfold wrap64; omega
 have hw2 : IntKind.i64.wrap (2 * (n0 : Int)) = 2 * (n0 : Int) := by rw [IntKind.wrap_i64]; omega
 clear hn
 go_enter Try.func55, Try.ntmps55
 go_wp2
 go_ret
 exact ⟨rfl, below_alloc (Below.refl _ _) _⟩
/-- the two methods of a table, found at its type -/
theorem meth_size (m : Int) (A : Option Addr) (n c : Nat) (w : World) : (method 213 85 (.agg #[.int .i64 m, .slice A n c]) "gimbal/oct.size").run Try.prog w = .ok (110, .agg #[.int .i64 m, .slice A n c]) w := by kernel_rfl
theorem meth_at (m : Int) (A : Option Addr) (n c : Nat) (w : World) : (method 213 85 (.agg #[.int .i64 m, .slice A n c]) "gimbal/oct.at").run Try.prog w = .ok (111, .agg #[.int .i64 m, .slice A n c]) w := by kernel_rfl
set_option maxHeartbeats 8000000 in
set_option maxRecDepth 100000 in
theorem oct_size_any (m : Int) (A : Option Addr) (n c : Nat) (w : World) :
 Calls Try.prog 110 #[.agg #[.int .i64 m, .slice A n c]] w fun e w' => e = .returned (.int .i64 m) ∧ Below w.heap.size w w' := by
 have hu58 := Try.underlying58
 go_enter Try.func110, Try.ntmps110
 go_wp2
 go_ret
 exact ⟨rfl, below_alloc (Below.refl _ _) _⟩
/-- an entry by way of the half that is not mirrored -/
def lowAt (n2 : Int) (m : List Int) (i j : Int) : Int := if j / 2 > i / 2 then rd m (nbar j * n2 + nbar i) else rd m (i * n2 + j)
set_option maxHeartbeats 8000000 in
set_option maxRecDepth 100000 in
theorem oct_lower_at_any (n : Nat) (A : Option Addr) (c : Nat) (m : List Int) (i j : Int) (w : World) (hr : Kd.C (Kd.int .i64) w A m.length m) (hc : m.length ≤ c) (hn : n ≤ 8) (hm : (m.length : Int) = (2 * (n : Int)) * (2 * (n : Int)))
 (h0 : 0 ≤ i) (h1 : i < 2 * (n : Int)) (h2 : 0 ≤ j) (h3 : j < 2 * (n : Int)) :
 Calls Try.prog 111 #[.agg #[.int .i64 (2 * (n : Int)), .slice A m.length c], .int .i64 i, .int .i64 j] w fun e w' => e = .returned (.int .i64 (lowAt (2 * (n : Int)) m i j)) ∧ Below w.heap.size w w' := by
 have hu58 := Try.underlying58
 have hu85 := Try.underlying85
 have nj := nbar_in (i := j) (n := n) h2 h3
 have ni := nbar_in (i := i) (n := n) h0 h1
 have a1 := at_ok (n := n) (m := m) (i := i) (j := j) hn hm h0 h1 h2 h3
 have a2 := at_ok (n := n) (m := m) (i := nbar j) (j := nbar i) hn hm nj.1 nj.2 ni.1 ni.2
 have b1 : oct_bar.f j = some (nbar j) := by unfold oct_bar.f; rw [if_pos ⟨h2, by omega⟩]
 have b2 : oct_bar.f i = some (nbar i) := by unfold oct_bar.f; rw [if_pos ⟨h0, by omega⟩]
 have HR := Aside0.mk hr
 obtain ⟨i2, hi2⟩ : ∃ i2 : Int, i / 2 = i2 := ⟨_, rfl⟩
 obtain ⟨j2, hj2⟩ : ∃ j2 : Int, j / 2 = j2 := ⟨_, rfl⟩
 have d1 : i.tdiv 2 = i2 := by rw [Int.tdiv_eq_ediv_of_nonneg h0]; exact hi2
 have d2 : j.tdiv 2 = j2 := by rw [Int.tdiv_eq_ediv_of_nonneg h2]; exact hj2
 have d3 : wrap64 i2 = i2 := by unfold wrap64; omega
 have d4 : wrap64 j2 = j2 := by unfold wrap64; omega
 by_cases hlt : j / 2 > i / 2
 ·
  have e : lowAt (2 * (n : Int)) m i j = rd m (nbar j * (2 * (n : Int)) + nbar i) := by unfold lowAt; rw [if_pos hlt]
  rw [e]
  obtain ⟨n2, hn2⟩ : ∃ n2 : Int, 2 * (n : Int) = n2 := ⟨_, rfl⟩
  rw [hn2] at a2 ⊢
  obtain ⟨p, hp⟩ : ∃ p, nbar j = p := ⟨_, rfl⟩
  obtain ⟨q, hq⟩ : ∃ q, nbar i = q := ⟨_, rfl⟩
  rw [hp, hq] at a2 ⊢
  rw [hp] at b1
  rw [hq] at b2
  obtain ⟨y, hy⟩ : ∃ y, rd m (p * n2 + q) = y := ⟨_, rfl⟩
  rw [hy] at a2 ⊢
  have C2 := Aside0.mk (fun W (hW : Kd.C (Kd.int .i64) W A m.length m) => oct_full_at.calls n2 A c m p q y W hW hc a2)
  have B1 := Aside0.mk (fun W => oct_bar_still j p W b1)
  have B2 := Aside0.mk (fun W => oct_bar_still i q W b2)
  have f1 : decide (i2 < j2) = true := decide_eq_true (by omega)
  clear nj ni a1 a2 b1 b2 hr hlt hi2 hj2 e hy hp hq hm hn hn2 h1 h3 h0 h2 hc
  go_enter Try.func111, Try.ntmps111
  go_wp2_with (first | (go_at_call 52; (with_reducible refine (B1.out _).mono ?_); rintro e w' ⟨rfl, rfl⟩) | (go_at_call 52; (with_reducible refine (B2.out _).mono ?_); rintro e w' ⟨rfl, rfl⟩) | (go_at_call 51; (with_reducible refine (C2.out _ ?s1).mono ?_); (case s1 => exact Kd.C_alloc HR.out _); rintro e w1 ⟨rfl, hb⟩))
  go_ret
  exact ⟨rfl, (below_alloc (Below.refl _ _) _).trans (hb.mono (by simp))⟩
 ·
  have e : lowAt (2 * (n : Int)) m i j = rd m (i * (2 * (n : Int)) + j) := by unfold lowAt; rw [if_neg hlt]
  rw [e]
  obtain ⟨n2, hn2⟩ : ∃ n2 : Int, 2 * (n : Int) = n2 := ⟨_, rfl⟩
  rw [hn2] at a1 ⊢
  obtain ⟨y, hy⟩ : ∃ y, rd m (i * n2 + j) = y := ⟨_, rfl⟩
  rw [hy] at a1 ⊢
  have C1 := Aside0.mk (fun W (hW : Kd.C (Kd.int .i64) W A m.length m) => oct_full_at.calls n2 A c m i j y W hW hc a1)
  have f1 : decide (i2 < j2) = false := decide_eq_false (by omega)
  clear nj ni a1 a2 b1 b2 hr hlt hi2 hj2 e hy hm hn hn2 h1 h3 h0 h2 hc
  go_enter Try.func111, Try.ntmps111
  go_wp2_with (go_at_call 51; (with_reducible refine (C1.out _ ?s1).mono ?_); (case s1 => exact Kd.C_alloc HR.out _); rintro e w1 ⟨rfl, hb⟩)
  go_ret
  exact ⟨rfl, (below_alloc (Below.refl _ _) _).trans (hb.mono (by simp))⟩
end Go.Proofs.Ytomgebmimgaojaa.QO
end
end
section
/- Written by a program of this session out of the translation. -/
noncomputable section
namespace Go.Proofs.Ytomgebmimgaojaa.QO
open Go.RowKit Go.Proofs.YtomgebmimgaojaaW.PrintWords Go.Proofs.YtomgebmimgaojaaW.PrintLast
set_option linter.unusedVariables false
set_option linter.unusedSimpArgs false
/-! ### bound_Fit: function 83 -/
def bfit (a : Int) : Int := if a < -4611686018427387904 then -4611686018427387904 else if a > 4611686018427387904 then 4611686018427387904 else a
theorem bfit_in (a : Int) : -4611686018427387904 ≤ bfit a ∧ bfit a ≤ 4611686018427387904 := by unfold bfit; split <;> (try split) <;> omega
theorem bfit_id {a : Int} (h : -4611686018427387904 ≤ a) (h' : a ≤ 4611686018427387904) : bfit a = a := by unfold bfit; rw [if_neg (by omega), if_neg (by omega)]
theorem w64 {x : Int} (h : -9223372036854775808 ≤ x) (h' : x ≤ 9223372036854775807) : wrap64 x = x := by unfold wrap64; omega
theorem bcell {W w1 : World} (hb : Below W.heap.size W w1) : (∀ b o, b < W.heap.size → w1.cell? ⟨b, o, none⟩ = W.cell? ⟨b, o, none⟩) ∧ (∀ b o, b < W.heap.size → w1.frozen? ⟨b, o, none⟩ = W.frozen? ⟨b, o, none⟩) :=
 ⟨fun b o h => hb.cell (p := ⟨b, o, none⟩) h, fun b o h => hb.frozen (p := ⟨b, o, none⟩) h⟩
def bound_Fit.f (a0 : Int) : Option (Int) := some (bfit a0)
set_option maxHeartbeats 8000000 in
set_option maxRecDepth 100000 in
theorem bound_Fit.calls (a0 : Int) (r : Int) (w : World) (h : bound_Fit.f a0 = some r) :
 Calls Try.prog 83 #[.int .i64 a0] w fun e w' => e = .returned (.int .i64 r) ∧ Drawn0 w w' := by
 obtain rfl := Option.some.inj h
 clear h
 go_enter Try.func83, Try.ntmps83
 go_wp2
 all_goals
  go_ret
  refine ⟨?_, Drawn0.refl _⟩
  first
   | (rw [show bfit a0 = 4611686018427387904 by unfold bfit; (repeat' split) <;> omega]; rfl)
   | (rw [show bfit a0 = -4611686018427387904 by unfold bfit; (repeat' split) <;> omega]; rfl)
   | (rw [show bfit a0 = a0 by unfold bfit; (repeat' split) <;> omega]; rfl)
end Go.Proofs.Ytomgebmimgaojaa.QO
end
end
section
/- Written by a program of this session out of the translation. -/
noncomputable section
namespace Go.Proofs.Ytomgebmimgaojaa.QO
open Go.RowKit Go.Proofs.YtomgebmimgaojaaW.PrintWords Go.Proofs.YtomgebmimgaojaaW.PrintLast
set_option linter.unusedVariables false
set_option linter.unusedSimpArgs false
/-! ### bound_Up: function 57 -/
def bound_Up.f (a0 : Int) (a1 : Int) : Option (Int) := (bound_Fit.f a0).bind fun t227 => ((bound_Fit.f a1).bind fun t228 => (if t227 = 4611686018427387904 then (some 4611686018427387904) else (if t228 = 4611686018427387904 then (some 4611686018427387904) else (some (mn (mx (wrap64 (t227 + t228)) (-4611686018427387903)) 4611686018427387904)))))
set_option maxHeartbeats 8000000 in
set_option maxRecDepth 100000 in
theorem bound_Up.calls (a0 : Int) (a1 : Int) (r : Int) (w : World) (h : bound_Up.f a0 a1 = some r) :
 Calls Try.prog 57 #[.int .i64 a0, .int .i64 a1] w fun e w' => e = .returned (.int .i64 r) ∧ Below w.heap.size w w' := by
 have HB := Aside0.mk (Below.refl w.heap.size w)
 have H : ((bound_Fit.f a0).bind fun t227 => ((bound_Fit.f a1).bind fun t228 => (if t227 = 4611686018427387904 then (some 4611686018427387904) else (if t228 = 4611686018427387904 then (some 4611686018427387904) else (some (mn (mx (wrap64 (t227 + t228)) (-4611686018427387903)) 4611686018427387904)))))) = some r := h
 clear h
 replace H := Option.bind_eq_some_iff.mp H
 obtain ⟨t227, A30, H⟩ := H
 replace H : ((bound_Fit.f a1).bind fun t228 => (if t227 = 4611686018427387904 then (some 4611686018427387904) else (if t228 = 4611686018427387904 then (some 4611686018427387904) else (some (mn (mx (wrap64 (t227 + t228)) (-4611686018427387903)) 4611686018427387904))))) = some r := H
 have A3 := Aside0.mk A30
 clear A30
 replace H := Option.bind_eq_some_iff.mp H
 obtain ⟨t228, A40, H⟩ := H
 replace H : (if t227 = 4611686018427387904 then (some 4611686018427387904) else (if t228 = 4611686018427387904 then (some 4611686018427387904) else (some (mn (mx (wrap64 (t227 + t228)) (-4611686018427387903)) 4611686018427387904)))) = some r := H
 have A4 := Aside0.mk A40
 clear A40
 by_cases c5 : t227 = 4611686018427387904
 ·
  rw [if_pos c5] at H
  have c5b0 : (t227 == 4611686018427387904) = true := beq_iff_eq.mpr c5
  have c5b1 : (t227 != 4611686018427387904) = false := bne_eq_false_iff_eq.mpr c5
  clear c5
  obtain rfl := Option.some.inj H
  go_enter Try.func57, Try.ntmps57
  go_wp2_with (first | ((with_reducible refine gate_callee (f := 83) rfl ?_); refine goesL_ (some 6) rfl rfl Try.func83 (by kernel_rfl) rfl #[.int .i64 a0] rfl (by (try simp only [List.map_toArray, List.map_cons, List.map_nil]); first | done | rfl | (simp only [List.length_drop, List.length_take]; rfl)) ?_; (with_reducible refine (bound_Fit.calls a0 t227 _ A3.out).mono ?_); rintro e w' ⟨rfl, ⟨nd, rfl⟩⟩; refine ⟨_, rfl, ?_⟩) | ((with_reducible refine gate_callee (f := 83) rfl ?_); refine goesL_ (some 8) rfl rfl Try.func83 (by kernel_rfl) rfl #[.int .i64 a1] rfl (by (try simp only [List.map_toArray, List.map_cons, List.map_nil]); first | done | rfl | (simp only [List.length_drop, List.length_take]; rfl)) ?_; (with_reducible refine (bound_Fit.calls a1 t228 _ A4.out).mono ?_); rintro e w' ⟨rfl, ⟨nd, rfl⟩⟩; refine ⟨_, rfl, ?_⟩))
  go_ret
  exact ⟨by first | rfl | (simp [errW_none, errW_some] <;> rfl) | (simp [*, errW_none, errW_some] <;> rfl) | (simp [wrap64]; done), by repeat (first | (with_reducible first | exact HB.out | apply below_alloc | apply pw_below_drewN | apply below_drew1) | exact HB.out)⟩
 ·
  rw [if_neg c5] at H
  have c5b0 : (t227 == 4611686018427387904) = false := beq_eq_false_iff_ne.mpr c5
  have c5b1 : (t227 != 4611686018427387904) = true := bne_iff_ne.mpr c5
  by_cases c6 : t228 = 4611686018427387904
  ·
   rw [if_pos c6] at H
   have c6b0 : (t228 == 4611686018427387904) = true := beq_iff_eq.mpr c6
   have c6b1 : (t228 != 4611686018427387904) = false := bne_eq_false_iff_eq.mpr c6
   clear c6
   obtain rfl := Option.some.inj H
   go_enter Try.func57, Try.ntmps57
   go_wp2_with (first | ((with_reducible refine gate_callee (f := 83) rfl ?_); refine goesL_ (some 6) rfl rfl Try.func83 (by kernel_rfl) rfl #[.int .i64 a0] rfl (by (try simp only [List.map_toArray, List.map_cons, List.map_nil]); first | done | rfl | (simp only [List.length_drop, List.length_take]; rfl)) ?_; (with_reducible refine (bound_Fit.calls a0 t227 _ A3.out).mono ?_); rintro e w' ⟨rfl, ⟨nd, rfl⟩⟩; refine ⟨_, rfl, ?_⟩) | ((with_reducible refine gate_callee (f := 83) rfl ?_); refine goesL_ (some 8) rfl rfl Try.func83 (by kernel_rfl) rfl #[.int .i64 a1] rfl (by (try simp only [List.map_toArray, List.map_cons, List.map_nil]); first | done | rfl | (simp only [List.length_drop, List.length_take]; rfl)) ?_; (with_reducible refine (bound_Fit.calls a1 t228 _ A4.out).mono ?_); rintro e w' ⟨rfl, ⟨nd, rfl⟩⟩; refine ⟨_, rfl, ?_⟩))
   go_ret
   exact ⟨by first | rfl | (simp [errW_none, errW_some] <;> rfl) | (simp [*, errW_none, errW_some] <;> rfl) | (simp [wrap64]; done), by repeat (first | (with_reducible first | exact HB.out | apply below_alloc | apply pw_below_drewN | apply below_drew1) | exact HB.out)⟩
  ·
   rw [if_neg c6] at H
   have c6b0 : (t228 == 4611686018427387904) = false := beq_eq_false_iff_ne.mpr c6
   have c6b1 : (t228 != 4611686018427387904) = true := bne_iff_ne.mpr c6
   obtain ⟨ji7, hji7⟩ : ∃ j_ : Int, (mx (wrap64 (t227 + t228)) (-4611686018427387903)) = j_ := ⟨_, rfl⟩
   replace H : (some (mn (ji7) 4611686018427387904)) = some r := by first | (rw [hji7] at H; exact H) | (simp only [hji7] at H ⊢; exact H)
   (try rw [hji7] at A3)
   (try rw [hji7] at A4)
   have hji7_ : (if (wrap64 (t227 + t228)) < (-4611686018427387903) then (-4611686018427387903) else (wrap64 (t227 + t228))) = ji7 := hji7
   obtain ⟨ji8, hji8⟩ : ∃ j_ : Int, (mn (ji7) 4611686018427387904) = j_ := ⟨_, rfl⟩
   replace H : (some ji8) = some r := by first | (rw [hji8] at H; exact H) | (simp only [hji8] at H ⊢; exact H)
   (try rw [hji8] at A3)
   (try rw [hji8] at A4)
   have hji8_ : (if 4611686018427387904 < (ji7) then 4611686018427387904 else (ji7)) = ji8 := hji8
   obtain rfl := Option.some.inj H
   go_enter Try.func57, Try.ntmps57
   go_wp2_with (first | ((with_reducible refine gate_callee (f := 83) rfl ?_); refine goesL_ (some 6) rfl rfl Try.func83 (by kernel_rfl) rfl #[.int .i64 a0] rfl (by (try simp only [List.map_toArray, List.map_cons, List.map_nil]); first | done | rfl | (simp only [List.length_drop, List.length_take]; rfl)) ?_; (with_reducible refine (bound_Fit.calls a0 t227 _ A3.out).mono ?_); rintro e w' ⟨rfl, ⟨nd, rfl⟩⟩; refine ⟨_, rfl, ?_⟩) | ((with_reducible refine gate_callee (f := 83) rfl ?_); refine goesL_ (some 8) rfl rfl Try.func83 (by kernel_rfl) rfl #[.int .i64 a1] rfl (by (try simp only [List.map_toArray, List.map_cons, List.map_nil]); first | done | rfl | (simp only [List.length_drop, List.length_take]; rfl)) ?_; (with_reducible refine (bound_Fit.calls a1 t228 _ A4.out).mono ?_); rintro e w' ⟨rfl, ⟨nd, rfl⟩⟩; refine ⟨_, rfl, ?_⟩))
   go_ret
   exact ⟨by first | rfl | (simp [errW_none, errW_some] <;> rfl) | (simp only [← hji7, ← hji8]; first | rfl | (simp [errW_none, errW_some] <;> rfl)) | (simp [*, errW_none, errW_some] <;> rfl) | (simp [wrap64]; done), by repeat (first | (with_reducible first | exact HB.out | apply below_alloc | apply pw_below_drewN | apply below_drew1) | exact HB.out)⟩
end Go.Proofs.Ytomgebmimgaojaa.QO
end
end
section
/- The iterator over two tables, walked once for every loop body. -/
noncomputable section
namespace Go.Proofs.Ytomgebmimgaojaa.QO
open Go.RowKit Go.Shelf Go.Proofs.YtomgebmimgaojaaW.PrintWords Go.Proofs.YtomgebmimgaojaaW.PrintLast Go.Proofs.YtomgebmimgaojaaW.PrintMore
attribute [local go_sem] Oper.semAt_some
set_option linter.unusedVariables false
set_option linter.unusedSimpArgs false
/-- what an iterator's invariant abides: new blocks -/
theorem abides_below {β : Type} {B : Nat} {J : β → World → Prop} (hJ : AbidesFrom B J) {s : β} {W W' : World} (h : J s W) (hb : Below W.heap.size W W') : J s W' :=
  hJ s W W' none h ⟨hb.os, hb.tape, hb.output, hb.size, fun k hk _ => hb.block k hk⟩ (fun r e => by cases e)
/-- what lay ahead of the caller, and the two boxes, lie as they lay -/
structure KeepBoxes (n₀ B1 B2 : Nat) (W W' : World) : Prop where
  below : Below n₀ W W'
  box1 : W'.heap[B1]? = W.heap[B1]?
  box2 : W'.heap[B2]? = W.heap[B2]?
theorem KeepBoxes.trans {n₀ B1 B2 : Nat} {A B C : World} (h : KeepBoxes n₀ B1 B2 A B) (k : KeepBoxes n₀ B1 B2 B C) : KeepBoxes n₀ B1 B2 A C :=
  ⟨h.below.trans k.below, k.box1.trans h.box1, k.box2.trans h.box2⟩
theorem KeepBoxes.refl (n₀ B1 B2 : Nat) (A : World) : KeepBoxes n₀ B1 B2 A A := ⟨Below.refl _ _, rfl, rfl⟩
theorem keepBoxes_b {n₀ B1 B2 : Nat} {w : World} (hn : n₀ ≤ w.heap.size) (h1 : B1 < w.heap.size) (h2 : B2 < w.heap.size) (W : World) (l : Nat) (o o' : Obj) (hl : w.heap.size ≤ l) (h : W.heap[l]? = some o) (hc : o.isCells = false) (hw : o.isWalk = false) :
    KeepBoxes n₀ B1 B2 W (W.putObj l o') :=
  ⟨belowK_b hn W l o o' hl h hc hw, World.putObj_heap_other (by omega), World.putObj_heap_other (by omega)⟩
/-- one box with a table -/
def TBox (W : World) (B : Nat) (n : Int) (A : Option Addr) (len cap : Nat) : Prop := W.heap[B]? = some (.cells #[tableV n A len cap] 64 (0, 0))
theorem TBox.cell {W : World} {B : Nat} {n : Int} {A : Option Addr} {len cap : Nat} (h : TBox W B n A len cap) : W.cell? ⟨B, 0, none⟩ = some (.iface 85 (.agg #[.int .i64 n, .slice A len cap])) := by
  unfold TBox at h; simp [World.cell?, h, tableV]
set_option maxHeartbeats 8000000 in
set_option maxRecDepth 100000 in
theorem oct_both_in (n1 n2 : Int) (A1 A2 : Option Addr) (l1 c1 l2 c2 : Nat) (w : World) :
    CallsIn Fence.wide 5 Try.prog 73 #[tableV n1 A1 l1 c1, tableV n2 A2 l2 c2] w fun e w' => e = .returned (.func (.func 91) #[] #[.pointer (some ⟨w.heap.size, 0, none⟩), .pointer (some ⟨w.heap.size + 1, 0, none⟩)]) ∧
      w' = (w.alloc (.cells #[tableV n1 A1 l1 c1] 64)).alloc (.cells #[tableV n2 A2 l2 c2] 64) := by
  unfold tableV
  refine callsIn_of_wp Try.func73 rfl trivial ?_ rfl
  simp only [Try.ntmps73, List.size_toArray, List.length_cons, List.length_nil, Nat.reduceAdd, Nat.reduceSub, Array.replicate_succ, Array.replicate_zero, List.push_toArray, List.append_toArray, List.nil_append, List.cons_append]
  gi_wp2
  go_ret
  exact ⟨rfl, rfl⟩
/-- the rounds' pairs -/
def pairAt (n2 : Nat) (m1 m2 : List Int) (k : Nat) : Int × Int × Int := ((k : Int), lowAt (n2 : Int) m1 ((k / n2 : Nat) : Int) ((k % n2 : Nat) : Int), lowAt (n2 : Int) m2 ((k / n2 : Nat) : Int) ((k % n2 : Nat) : Int))
theorem pairAt_ij {n2 i j : Nat} {m1 m2 : List Int} (hj : j < n2) : pairAt n2 m1 m2 (i * n2 + j) = (((i * n2 + j : Nat) : Int), lowAt (n2 : Int) m1 (i : Int) (j : Int), lowAt (n2 : Int) m2 (i : Int) (j : Int)) := by
  have h1 : (i * n2 + j) / n2 = i := by rw [Nat.mul_comm, Nat.mul_add_div (by omega), Nat.div_eq_of_lt hj, Nat.add_zero]
  have h2 : (i * n2 + j) % n2 = j := by rw [Nat.mul_comm, Nat.mul_add_mod, Nat.mod_eq_of_lt hj]
  unfold pairAt; rw [h1, h2]
/-- what the iterator knows of a world -/
structure BP (w0 : World) (n₀ B1 B2 : Nat) (n : Int) (A1 : Option Addr) (l1 c1 : Nat) (A2 : Option Addr) (l2 c2 : Nat) (W : World) : Prop where
  below : Below n₀ w0 W
  box1 : TBox W B1 n A1 l1 c1
  box2 : TBox W B2 n A2 l2 c2
theorem BP.next {w0 : World} {n₀ B1 B2 : Nat} {n : Int} {A1 : Option Addr} {l1 c1 : Nat} {A2 : Option Addr} {l2 c2 : Nat} {W W' : World} (h : BP w0 n₀ B1 B2 n A1 l1 c1 A2 l2 c2 W) (hn : n₀ ≤ W.heap.size) (hb : Below W.heap.size W W') : BP w0 n₀ B1 B2 n A1 l1 c1 A2 l2 c2 W' :=
  ⟨h.below.trans (hb.mono hn), (hb.block _ (Array.getElem?_eq_some_iff.1 h.box1).1).trans h.box1, (hb.block _ (Array.getElem?_eq_some_iff.1 h.box2).1).trans h.box2⟩
theorem BP.keep {w0 : World} {n₀ B1 B2 : Nat} {n : Int} {A1 : Option Addr} {l1 c1 : Nat} {A2 : Option Addr} {l2 c2 : Nat} {W W' : World} (h : BP w0 n₀ B1 B2 n A1 l1 c1 A2 l2 c2 W) (hb : KeepBoxes n₀ B1 B2 W W') : BP w0 n₀ B1 B2 n A1 l1 c1 A2 l2 c2 W' :=
  ⟨h.below.trans hb.below, hb.box1.trans h.box1, hb.box2.trans h.box2⟩
set_option maxHeartbeats 16000000 in
set_option maxRecDepth 100000 in
/-- **the iterator's own function, for every loop body that keeps what lay ahead and the two boxes** -/
theorem oct_both1_in (l B1 B2 : Nat) (A1 A2 : Option Addr) (c1 c2 : Nat) (m1 m2 : List Int) (nv n2 : Nat) (w0 : World) (hn : nv ≤ 8) (hn2 : n2 = 2 * nv) (hm1 : (m1.length : Int) = (2 * (nv : Int)) * (2 * (nv : Int))) (hm2 : (m2.length : Int) = (2 * (nv : Int)) * (2 * (nv : Int)))
    (hc1 : m1.length ≤ c1) (hc2 : m2.length ≤ c2) (hr1 : Kd.C (Kd.int .i64) w0 A1 m1.length m1) (hr2 : Kd.C (Kd.int .i64) w0 A2 m2.length m2)
    (J Jx : Nat → World → Prop) (W : World) (hJ : AbidesFrom W.heap.size J) (hJx : AbidesFrom W.heap.size Jx)
    (hY : ∀ k W1, J k W1 → k < n2 * n2 → YieldAt Fence.wide 4 Try.prog l #[.int .i64 (pairAt n2 m1 m2 k).1, .agg #[.int .i64 (pairAt n2 m1 m2 k).2.1, .int .i64 (pairAt n2 m1 m2 k).2.2]] W1 fun e W' =>
      (e = .returned (.bool true) ∧ J (k + 1) W' ∧ KeepBoxes w0.heap.size B1 B2 W1 W') ∨ (e = .returned (.bool false) ∧ Jx (k + 1) W'))
    (hB : BP w0 w0.heap.size B1 B2 (2 * (nv : Int)) A1 m1.length c1 A2 m2.length c2 W) (h0 : J 0 W) :
    CallsIn Fence.wide 5 Try.prog 91 #[.func (.yield l) #[] #[], .pointer (some ⟨B1, 0, none⟩), .pointer (some ⟨B2, 0, none⟩)] W fun e W' => (∃ v, e = .returned v) ∧
      (J (n2 * n2) W' ∨ (∃ k, k ≤ n2 * n2 ∧ Jx k W')) := by
  have hms := meth_size
  have hma := meth_at
  have AT1 := Aside0.mk (fun (W : World) (i j : Int) (hW : Below w0.heap.size w0 W) (h0 : 0 ≤ i) (h1 : i < 2 * (nv : Int)) (h2 : 0 ≤ j) (h3 : j < 2 * (nv : Int)) => oct_lower_at_any nv A1 c1 m1 i j W (Kd.C_below hr1 hW) hc1 hn hm1 h0 h1 h2 h3)
  have AT2 := Aside0.mk (fun (W : World) (i j : Int) (hW : Below w0.heap.size w0 W) (h0 : 0 ≤ i) (h1 : i < 2 * (nv : Int)) (h2 : 0 ≤ j) (h3 : j < 2 * (nv : Int)) => oct_lower_at_any nv A2 c2 m2 i j W (Kd.C_below hr2 hW) hc2 hn hm2 h0 h1 h2 h3)
  have HJ := Aside0.mk hJ
  have HY := Aside0.mk hY
  have HB := Aside0.mk hB
  have H0 := Aside0.mk h0
  have HN := Aside0.mk (And.intro hn hn2)
  clear hr1 hr2 hJ hJx hY h0 hc1 hc2 hn hn2 hm1 hm2
  have hb1 := HB.out.box1.cell
  clear hB
  refine callsIn_of_wp Try.func91 rfl trivial ?_ rfl
  simp only [Try.ntmps91, List.size_toArray, List.length_cons, List.length_nil, Nat.reduceAdd, Nat.reduceSub, Array.replicate_succ, Array.replicate_zero, List.push_toArray, List.append_toArray, List.nil_append, List.cons_append]
  gi_wp2_with (refine ⟨trivial, ?_⟩; gi_at_call 110; (with_reducible refine (callsIn_wide.2 (oct_size_any _ _ _ _ _)).mono ?_); rintro e w1 ⟨rfl, hb⟩; have HB2 : Aside0 (BP w0 w0.heap.size B1 B2 (2 * (nv : Int)) A1 m1.length c1 A2 m2.length c2 w1) := ⟨BP.next HB.out HB.out.below.size hb⟩; have HJ2 : Aside0 (J 0 w1) := ⟨abides_below HJ.out H0.out hb⟩; clear HB H0 hb hb1)
  gi_loopw [10] (fun i wr => ∃ k : Nat, i = .int .i64 (k : Int) ∧ Aside0 (k ≤ n2) ∧ Aside0 (J ((k * n2)) wr) ∧ Aside0 (BP w0 w0.heap.size B1 B2 (2 * (nv : Int)) A1 m1.length c1 A2 m2.length c2 wr))
    (fun i _ => n2 - (intOf i).toNat)
  case atStart => exact ⟨0, rfl, ⟨Nat.zero_le _⟩, ⟨by rw [Nat.zero_mul]; exact HJ2.out⟩, HB2⟩
  case round =>
    clear HJ2 HB2
    obtain ⟨k, rfl, HK, HJ3, HB3⟩ := hrel
    by_cases hlt : k < n2
    · have f3 : decide ((k : Int) < 2 * (nv : Int)) = true := decide_eq_true (by have := HN.out.2; omega)
      have HKL := Aside0.mk hlt
      clear hlt
      gi_wp2
      gi_loopw [14] (fun i wr => ∃ j : Nat, i = .int .i64 (j : Int) ∧ Aside0 (j ≤ n2) ∧ Aside0 (J ((k * n2 + j)) wr) ∧ Aside0 (BP w0 w0.heap.size B1 B2 (2 * (nv : Int)) A1 m1.length c1 A2 m2.length c2 wr))
        (fun i _ => n2 - (intOf i).toNat)
      case atStart => exact ⟨0, rfl, ⟨Nat.zero_le _⟩, ⟨HJ3.out⟩, HB3⟩
      case round =>
        clear HJ3 HB3
        obtain ⟨j, rfl, HJJ, HJ4, HB4⟩ := hrel
        by_cases hlt : j < n2
        · have f4 : decide ((j : Int) < 2 * (nv : Int)) = true := decide_eq_true (by have := HN.out.2; omega)
          have HJL := Aside0.mk hlt
          clear hlt
          have HX : Aside0 (pairAt n2 m1 m2 (k * n2 + j) = (((k * n2 + j : Nat) : Int), lowAt (2 * (nv : Int)) m1 (k : Int) (j : Int), lowAt (2 * (nv : Int)) m2 (k : Int) (j : Int))) := ⟨by
            have e : ((n2 : Nat) : Int) = 2 * (nv : Int) := by have := HN.out.2; omega
            rw [pairAt_ij HJL.out, e]⟩
          obtain ⟨p, hp⟩ : ∃ p, IntKind.i64.wrap ((k : Int) * (2 * (nv : Int))) = p := ⟨_, rfl⟩
          obtain ⟨q, hq⟩ : ∃ q, IntKind.i64.wrap (p + (j : Int)) = q := ⟨_, rfl⟩
          have HQ : Aside0 (q = ((k * n2 + j : Nat) : Int)) := ⟨by
            have h1 := HN.out.1; have h2 := HN.out.2; have h3 := HKL.out; have h4 := HJL.out
            have h5 : k * n2 ≤ 15 * 16 := Nat.mul_le_mul (by omega) (by omega)
            have h6 : (k : Int) * (2 * (nv : Int)) = ((k * n2 : Nat) : Int) := by rw [h2]; push_cast; rfl
            rw [h6, IntKind.wrap_i64] at hp
            have h7 : p = ((k * n2 : Nat) : Int) := by rw [← hp]; omega
            rw [h7, IntKind.wrap_i64] at hq; rw [← hq]; omega⟩
          have IJ : Aside0 (0 ≤ (k : Int) ∧ (k : Int) < 2 * (nv : Int) ∧ 0 ≤ (j : Int) ∧ (j : Int) < 2 * (nv : Int)) := ⟨by have h2 := HN.out.2; have h3 := HKL.out; have h4 := HJL.out; omega⟩
          have HYX : Aside0 (∀ W1, J ((k * n2 + j)) W1 → YieldAt Fence.wide 4 Try.prog l #[.int .i64 q, .agg #[.int .i64 (lowAt (2 * (nv : Int)) m1 (k : Int) (j : Int)), .int .i64 (lowAt (2 * (nv : Int)) m2 (k : Int) (j : Int))]] W1 fun e W' =>
              ∃ b, e = .returned (.bool b) ∧ ((b = true ∧ J ((k * n2 + (j + 1))) W' ∧ KeepBoxes w0.heap.size B1 B2 W1 W') ∨ (b = false ∧ Jx ((k * n2 + (j + 1))) W'))) := ⟨fun W1 h => by
            have hlen : k * n2 + j < n2 * n2 := by
              have h3 := HKL.out; have h4 := HJL.out
              have : (k + 1) * n2 ≤ n2 * n2 := Nat.mul_le_mul_right _ h3
              rw [Nat.add_mul, Nat.one_mul] at this; omega
            have := HY.out _ W1 h hlen
            rw [HX.out, ← HQ.out] at this
            obtain ⟨fn, tmps, assign, body, hy, hR⟩ := this
            refine ⟨fn, tmps, assign, body, hy, hR.mono ?_⟩
            rintro e W' (⟨rfl, h1, h2⟩ | ⟨rfl, h1⟩)
            · exact ⟨true, rfl, .inl ⟨rfl, h1, h2⟩⟩
            · exact ⟨false, rfl, .inr ⟨rfl, h1⟩⟩⟩
          obtain ⟨y1, hy1⟩ : ∃ y, lowAt (2 * (nv : Int)) m1 (k : Int) (j : Int) = y := ⟨_, rfl⟩
          obtain ⟨y2, hy2⟩ : ∃ y, lowAt (2 * (nv : Int)) m2 (k : Int) (j : Int) = y := ⟨_, rfl⟩
          have C1 : Aside0 (∀ W, Below w0.heap.size w0 W → Calls Try.prog 111 #[.agg #[.int .i64 (2 * (nv : Int)), .slice A1 m1.length c1], .int .i64 (k : Int), .int .i64 (j : Int)] W fun e w' => e = .returned (.int .i64 y1) ∧ Below W.heap.size W w') := ⟨fun W hW => by rw [← hy1]; exact AT1.out W k j hW IJ.out.1 IJ.out.2.1 IJ.out.2.2.1 IJ.out.2.2.2⟩
          have C2 : Aside0 (∀ W, Below w0.heap.size w0 W → Calls Try.prog 111 #[.agg #[.int .i64 (2 * (nv : Int)), .slice A2 m2.length c2], .int .i64 (k : Int), .int .i64 (j : Int)] W fun e w' => e = .returned (.int .i64 y2) ∧ Below W.heap.size W w') := ⟨fun W hW => by rw [← hy2]; exact AT2.out W k j hW IJ.out.1 IJ.out.2.1 IJ.out.2.2.1 IJ.out.2.2.2⟩
          rw [hy1, hy2] at HYX
          have HBd : Aside0 (BP w0 w0.heap.size B1 B2 (2 * (nv : Int)) A1 m1.length c1 A2 m2.length c2 wr.drew) := ⟨BP.next HB4.out HB4.out.below.size (below_drew (Below.refl _ _))⟩
          have HJd : Aside0 (J ((k * n2 + j)) wr.drew) := ⟨abides_below HJ.out HJ4.out (below_drew (Below.refl _ _))⟩
          have hb1 := HB4.out.box1.cell
          have hb2 := HB4.out.box2.cell
          clear AT1 AT2 HX hy1 hy2 HY
          gi_wp2
          gi_region_with (first
            | (refine ⟨trivial, ?_⟩; gi_at_call 111; (with_reducible refine (callsIn_wide.2 (C1.out _ ?s1)).mono ?_); (case s1 => exact HBd.out.below); rintro e w1 ⟨rfl, hb⟩; have HB5 : Aside0 (BP w0 w0.heap.size B1 B2 (2 * (nv : Int)) A1 m1.length c1 A2 m2.length c2 w1) := ⟨BP.next HBd.out HBd.out.below.size hb⟩; have HJ5 : Aside0 (J ((k * n2 + j)) w1) := ⟨abides_below HJ.out HJd.out hb⟩; have hb4 := HB5.out.box2.cell; clear C1 hb HBd HJd)
            | (refine ⟨trivial, ?_⟩; gi_at_call 111; (with_reducible refine (callsIn_wide.2 (C2.out _ ?s1)).mono ?_); (case s1 => exact HB5.out.below); rintro e w2 ⟨rfl, hb⟩; have HB6 : Aside0 (BP w0 w0.heap.size B1 B2 (2 * (nv : Int)) A1 m1.length c1 A2 m2.length c2 w2) := ⟨BP.next HB5.out HB5.out.below.size hb⟩; have HJ6 : Aside0 (J ((k * n2 + j)) w2) := ⟨abides_below HJ.out HJ5.out hb⟩; obtain ⟨fn, tmps, assign, body, hy, hR⟩ := HYX.out w2 HJ6.out; clear C2 hb HB5 HJ5 hb4)
            | (refine hR.mono ?_; rintro e W3 ⟨b, rfl, h3⟩; have H3 := Aside0.mk h3; clear h3 hR hy))
          all_goals (
            obtain ⟨rfl, h1, h2⟩ | ⟨rfl, h1⟩ := H3.out
            · have H1 := Aside0.mk h1
              have HB7 : Aside0 (BP w0 w0.heap.size B1 B2 (2 * (nv : Int)) A1 m1.length c1 A2 m2.length c2 W3) := ⟨BP.keep HB6.out h2⟩
              clear h1 h2 H3 HB6 HJ6 HYX
              gi_wp2
              go_roundw
              case rel =>
                have h3 := HJL.out; have h4 := HN.out
                have hw : wrap64 ((j : Int) + 1) = ((j + 1 : Nat) : Int) := by unfold wrap64; omega
                exact ⟨j + 1, by rw [hw], ⟨h3⟩, H1, HB7⟩
              case measure =>
                have h3 := HJL.out; have h4 := HN.out
                have hw : wrap64 ((j : Int) + 1) = ((j + 1 : Nat) : Int) := by unfold wrap64; omega
                rw [hw]; simp only [intOf]; omega
            · have H1 := Aside0.mk h1
              clear h1 H3 HB6 HJ6 HYX
              gi_wp2
              refine bodyPost_ret (results_none rfl _ _ _) rfl ?_
              refine ⟨⟨_, rfl⟩, .inr ⟨k * n2 + (j + 1), ?_, H1.out⟩⟩
              have h3 := HKL.out; have h4 := HJL.out
              have : (k + 1) * n2 ≤ n2 * n2 := Nat.mul_le_mul_right _ h3
              rw [Nat.add_mul, Nat.one_mul] at this; omega)
        · have f4 : decide ((j : Int) < 2 * (nv : Int)) = false := decide_eq_false (by have := HN.out.2; omega)
          have ej : j = n2 := by have := HJJ.out; omega
          have HEJ := Aside0.mk ej
          clear hlt ej
          gi_wp2
          have h3 := HKL.out; have h4 := HN.out
          have hw : wrap64 ((k : Int) + 1) = ((k + 1 : Nat) : Int) := by unfold wrap64; omega
          have hj := HJ4.out
          rw [HEJ.out] at hj
          have e : (k + 1) * n2 = k * n2 + n2 := by rw [Nat.add_mul, Nat.one_mul]
          refine ⟨⟨k + 1, by rw [hw], ⟨h3⟩, ⟨by rw [e]; exact hj⟩, HB4⟩, ?_⟩
          rw [hw]; simp only [intOf]; omega
    · have f3 : decide ((k : Int) < 2 * (nv : Int)) = false := decide_eq_false (by have := HN.out.2; omega)
      have ej : k = n2 := by have := HK.out; omega
      have HEJ := Aside0.mk ej
      clear hlt ej
      gi_wp2
      go_end0
      exact ⟨⟨_, rfl⟩, .inl (by have := HJ3.out; rw [HEJ.out] at this; exact this)⟩
theorem finRange_take_succ {N k : Nat} (h : k < N) : (List.finRange N).take (k + 1) = (List.finRange N).take k ++ [⟨k, h⟩] := by
  rw [List.take_succ_eq_append_getElem (by simpa using h), List.getElem_finRange]; rfl
/-- **the value that ranges over two tables in step, as a contract of its own** -/
theorem oct_both_stops (B1 B2 : Nat) (A1 A2 : Option Addr) (c1 c2 : Nat) (m1 m2 : List Int) (nv n2 : Nat) (w0 w1 : World) (hn : nv ≤ 8) (hn2 : n2 = 2 * nv) (hm1 : (m1.length : Int) = (2 * (nv : Int)) * (2 * (nv : Int))) (hm2 : (m2.length : Int) = (2 * (nv : Int)) * (2 * (nv : Int)))
    (hc1 : m1.length ≤ c1) (hc2 : m2.length ≤ c2) (hr1 : Kd.C (Kd.int .i64) w0 A1 m1.length m1) (hr2 : Kd.C (Kd.int .i64) w0 A2 m2.length m2)
    (hB : BP w0 w0.heap.size B1 B2 (2 * (nv : Int)) A1 m1.length c1 A2 m2.length c2 w1) :
    SeqStopsK Fence.wide 5 Try.prog 91 #[.pointer (some ⟨B1, 0, none⟩), .pointer (some ⟨B2, 0, none⟩)] (fun x : Fin (n2 * n2) => #[.int .i64 (pairAt n2 m1 m2 x.1).1, .agg #[.int .i64 (pairAt n2 m1 m2 x.1).2.1, .int .i64 (pairAt n2 m1 m2 x.1).2.2]])
      (KeepBoxes w0.heap.size B1 B2) (fun ys => ys = List.finRange (n2 * n2)) (fun pre => ∃ k, k ≤ n2 * n2 ∧ pre = (List.finRange (n2 * n2)).take k) (n2 * n2) w1 := fun l J Jx W hW hJ hJx hY h0 => by
  have hB' := hB.next hB.below.size hW
  refine (oct_both1_in l B1 B2 A1 A2 c1 c2 m1 m2 nv n2 w0 hn hn2 hm1 hm2 hc1 hc2 hr1 hr2 (fun k W => J ((List.finRange (n2 * n2)).take k) W) (fun k W => Jx ((List.finRange (n2 * n2)).take k) W) W (fun s => hJ _) (fun s => hJx _) ?_ hB' (by simpa using h0)).mono ?_
  · intro k W1 hk hlt
    have := hY ((List.finRange (n2 * n2)).take k) ⟨k, hlt⟩ W1 hk (by simp; omega)
    rw [← finRange_take_succ] at this
    exact this
  · rintro e W' ⟨he, h | ⟨k, hk, h⟩⟩
    · exact ⟨he, .inl ⟨_, rfl, by rw [List.take_of_length_le (by simp)] at h; exact h⟩⟩
    · exact ⟨he, .inr ⟨_, ⟨k, hk, rfl⟩, h⟩⟩
end Go.Proofs.Ytomgebmimgaojaa.QO
end
end
section
/- Plain mathematics of difference bounds: closures as greatest closed matrices below a given one. -/
namespace Go.Proofs.Ytomgebmimgaojaa.OctMath
/-- sum of bounds; 2^62 is infinity -/
def plus (a b : Int) : Int := if a = 4611686018427387904 ∨ b = 4611686018427387904 then 4611686018427387904 else a + b
/-- finite entries lie within B -/
def Fin' (B : Int) (a : Int) : Prop := a = 4611686018427387904 ∨ (-B ≤ a ∧ a ≤ B)
def Bd (n : Nat) (B : Int) (m : Nat → Nat → Int) : Prop := ∀ i j, i < n → j < n → Fin' B (m i j)
/-- closed: nothing on the diagonal, and no way over a third node is shorter -/
def Closed (n : Nat) (c : Nat → Nat → Int) : Prop := (∀ i, i < n → c i i = 0) ∧ ∀ i j k, i < n → j < n → k < n → c i j ≤ plus (c i k) (c k j)
def Le (n : Nat) (c m : Nat → Nat → Int) : Prop := ∀ i j, i < n → j < n → c i j ≤ m i j
def Top62 (n : Nat) (m : Nat → Nat → Int) : Prop := ∀ i j, i < n → j < n → m i j ≤ 4611686018427387904
/-- d is the greatest closed matrix below m; there is none, where ok is false -/
def IsClosure (n : Nat) (m : Nat → Nat → Int) (ok : Bool) (d : Nat → Nat → Int) : Prop :=
  (ok = true → Closed n d ∧ Le n d m ∧ ∀ c, Closed n c → Top62 n c → Le n c m → Le n c d) ∧ (ok = false → ∀ c, Closed n c → Top62 n c → ¬ Le n c m)
theorem plus_mono {a b c d : Int} (h : a ≤ c) (h' : b ≤ d) (hc : c ≤ 4611686018427387904) (hd : d ≤ 4611686018427387904) (hs : a + b ≤ 4611686018427387904) : plus a b ≤ plus c d := by
  unfold plus; split <;> split <;> omega
theorem plus_comm (a b : Int) : plus a b = plus b a := by unfold plus; split <;> split <;> omega
theorem plus_top (a b : Int) (h : a + b ≤ 4611686018427387904) : plus a b ≤ 4611686018427387904 := by unfold plus; split <;> omega
theorem closure_unique {n : Nat} {m d e : Nat → Nat → Int} {a b : Bool} (hd : IsClosure n m a d) (he : IsClosure n m b e)
    (td : a = true → Top62 n d) (te : b = true → Top62 n e) : a = b ∧ (a = true → ∀ i j, i < n → j < n → d i j = e i j) := by
  cases a <;> cases b
  · exact ⟨rfl, fun h => by cases h⟩
  · obtain ⟨c, l, _⟩ := he.1 rfl
    exact absurd l (hd.2 rfl e c (te rfl))
  · obtain ⟨c, l, _⟩ := hd.1 rfl
    exact absurd l (he.2 rfl d c (td rfl))
  · obtain ⟨c, l, g⟩ := hd.1 rfl
    obtain ⟨c', l', g'⟩ := he.1 rfl
    refine ⟨rfl, fun _ i j hi hj => Int.le_antisymm (g' d c (td rfl) l i j hi hj) (g e c' (te rfl) l' i j hi hj)⟩
/-! ### Floyd's way: over one node after the other -/
def over (m : Nat → Nat → Int) (k : Nat) : Nat → Nat → Int := fun i j => if plus (m i k) (m k j) < m i j then plus (m i k) (m k j) else m i j
def overs (m : Nat → Nat → Int) : Nat → Nat → Nat → Int
  | 0 => m
  | k + 1 => over (overs m k) k
theorem over_le (m : Nat → Nat → Int) (k i j : Nat) : over m k i j ≤ m i j := by unfold over; split <;> omega
theorem over_le' (m : Nat → Nat → Int) (k i j : Nat) : over m k i j ≤ plus (m i k) (m k j) := by unfold over; split <;> omega
theorem overs_le (m : Nat → Nat → Int) (k i j : Nat) : overs m k i j ≤ m i j := by
  induction k with
  | zero => exact Int.le_refl _
  | succ k ih => exact Int.le_trans (over_le _ _ _ _) ih
theorem over_low {n : Nat} {m c : Nat → Nat → Int} {k : Nat} (hk : k < n) (hc : Closed n c) (tc : Top62 n c) (hm : Top62 n m) (h : Le n c m) : Le n c (over m k) := by
  intro i j hi hj
  have h1 := hc.2 i j k hi hj hk
  have h2 := h i j hi hj
  have h3 := h i k hi hk; have h4 := h k j hk hj
  have h5 := hm i k hi hk; have h6 := hm k j hk hj
  have h7 := tc i j hi hj
  have h8 : c i j ≤ plus (m i k) (m k j) := by unfold plus at h1 ⊢; split at h1 <;> split <;> omega
  unfold over; split
  · exact h8
  · exact h2
theorem overs_low {n : Nat} {m c : Nat → Nat → Int} (hc : Closed n c) (tc : Top62 n c) (hm : Top62 n m) (h : Le n c m) : ∀ k, k ≤ n → Le n c (overs m k)
  | 0, _ => h
  | k + 1, hk => over_low (by omega) hc tc (fun i j hi hj => Int.le_trans (overs_le m k i j) (hm i j hi hj)) (overs_low hc tc hm h k (by omega))
/-- through the first k nodes nothing is shorter any more -/
def Thru (n : Nat) (k : Nat) (m : Nat → Nat → Int) : Prop := ∀ i j l, i < n → j < n → l < k → m i j ≤ plus (m i l) (m l j)
theorem fin_of_low {n : Nat} {B : Int} {m : Nat → Nat → Int} (h : Bd n B m) (hB : B < 4611686018427387904) : Top62 n m := by
  intro i j hi hj; rcases h i j hi hj with h | h <;> omega
theorem bd_over {n : Nat} {B : Int} {m : Nat → Nat → Int} (k : Nat) (hk : k < n) (h : Bd n B m) (hB : 0 ≤ B) (hB' : B + B < 4611686018427387904) : Bd n (B + B) (over m k) := by
  intro i j hi hj
  rcases h i j hi hj with h1 | h1 <;> rcases h i k hi hk with h2 | h2 <;> rcases h k j hk hj with h3 | h3 <;> unfold over plus Fin' <;> repeat' split
  all_goals omega
theorem thru_num {B ij ik kj kk il lj kl lk R oil olj : Int} (hB : 0 ≤ B) (hB' : B + B + B + B < 4611686018427387904) (bij0 : ij ≤ 4611686018427387904) (bik : Fin' B ik) (bkj : Fin' B kj) (bil : Fin' B il) (blj : Fin' B lj)
    (bkl : Fin' B kl) (blk : Fin' B lk) (dk : 0 ≤ kk) (t1 : ij ≤ plus il lj) (t2 : ik ≤ plus il lk) (t3 : kj ≤ plus kl lj) (t4 : kk ≤ plus kl lk) (o1 : R ≤ ij) (o2 : R ≤ plus ik kj)
    (b1 : oil = il ∨ oil = plus ik kl) (b2 : olj = lj ∨ olj = plus lk kj) : R ≤ plus oil olj := by
  have up : ∀ {a b c : Int}, Fin' B a → Fin' B b → c ≤ plus a b → (a = 4611686018427387904 ∨ b = 4611686018427387904) ∨ c ≤ a + b := by
    intro a b c _ _ h; unfold plus at h; split at h
    · left; assumption
    · right; exact h
  have pv : ∀ {a b : Int}, Fin' B a → Fin' B b → (plus a b = 4611686018427387904 ∧ (a = 4611686018427387904 ∨ b = 4611686018427387904)) ∨ (plus a b = a + b ∧ -B ≤ a ∧ a ≤ B ∧ -B ≤ b ∧ b ≤ B) := by
    intro a b ha hb; unfold plus; unfold Fin' at ha hb; split <;> omega
  have p1 := pv bil blj; have p2 := pv bil blk; have p3 := pv bkl blj; have p4 := pv bkl blk; have p5 := pv bik bkj; have p6 := pv bik bkl; have p7 := pv blk bkj
  have top : R ≤ 4611686018427387904 := by omega
  by_cases hx : oil = 4611686018427387904 ∨ olj = 4611686018427387904
  · unfold plus; rw [if_pos hx]; exact top
  · have e : plus oil olj = oil + olj := by unfold plus; rw [if_neg hx]
    rw [e]
    rcases b1 with b1 | b1 <;> rcases b2 with b2 | b2 <;> subst b1 <;> subst b2
    · omega
    · omega
    · omega
    · omega
theorem thru_over {n : Nat} {B : Int} {m : Nat → Nat → Int} {k : Nat} (hk : k < n) (h : Bd n B m) (hB : 0 ≤ B) (hB' : B + B + B + B < 4611686018427387904) (hd : ∀ i, i < n → 0 ≤ m i i)
    (hd' : 0 ≤ over m k k k) (ht : Thru n k m) : Thru n (k + 1) (over m k) := by
  intro i j l hi hj hl
  have bij := h i j hi hj; have bik := h i k hi hk; have bkj := h k j hk hj; have bkk := h k k hk hk
  have dk := hd k hk
  by_cases hlk : l = k
  · subst hlk
    have e1 : over m l i l = m i l := by
      unfold over; split
      · rename_i hh; unfold plus at hh; unfold Fin' at *; split at hh <;> omega
      · rfl
    have e2 : over m l l j = m l j := by
      unfold over; split
      · rename_i hh; unfold plus at hh; unfold Fin' at *; split at hh <;> omega
      · rfl
    rw [e1, e2]; exact over_le' m l i j
  · have hlk' : l < k := by omega
    have hln : l < n := by omega
    have t1 := ht i j l hi hj hlk'; have t2 := ht i k l hi hk hlk'; have t3 := ht k j l hk hj hlk'; have t4 := ht k k l hk hk hlk'
    have bil := h i l hi hln; have blj := h l j hln hj; have bkl := h k l hk hln; have blk := h l k hln hk
    have o1 := over_le m k i j; have o2 := over_le' m k i j
    have b1 : over m k i l = m i l ∨ over m k i l = plus (m i k) (m k l) := by unfold over; split <;> simp
    have b2 : over m k l j = m l j ∨ over m k l j = plus (m l k) (m k j) := by unfold over; split <;> simp
    generalize over m k i j = R at *
    generalize m i j = ij at *; generalize m i k = ik at *; generalize m k j = kj at *; generalize m k k = kk at *
    generalize m i l = il at *; generalize m l j = lj at *; generalize m k l = kl at *; generalize m l k = lk at *
    generalize over m k i l = oil at *; generalize over m k l j = olj at *
    clear hd' ht h hd
    exact thru_num hB hB' (by unfold Fin' at bij; omega) bik bkj bil blj bkl blk dk t1 t2 t3 t4 o1 o2 b1 b2
theorem fin_mono {B C a : Int} (h : Fin' B a) (hB : B ≤ C) : Fin' C a := by unfold Fin' at *; omega
theorem bd_overs {n : Nat} {B : Int} {m : Nat → Nat → Int} (h : Bd n B m) (hB : 0 ≤ B) : ∀ k, k ≤ n → B * 2 ^ k < 4611686018427387904 → Bd n (B * 2 ^ k) (overs m k)
  | 0, _, _ => by rw [Int.pow_zero, Int.mul_one]; exact h
  | k + 1, hk, hb => by
    have e : B * 2 ^ (k + 1) = B * 2 ^ k + B * 2 ^ k := by rw [Int.pow_succ, ← Int.mul_assoc]; omega
    have h0 : (0 : Int) ≤ B * 2 ^ k := Int.mul_nonneg hB (Int.pow_nonneg (by decide))
    rw [e] at hb ⊢
    exact bd_over k (by omega) (bd_overs h hB k (by omega) (by omega)) h0 hb
theorem thru_overs {n : Nat} {B : Int} {m : Nat → Nat → Int} (h : Bd n B m) (hB : 0 ≤ B) (hb : B * 2 ^ n * 4 < 4611686018427387904)
    (hd : ∀ k i, k ≤ n → i < n → 0 ≤ overs m k i i) : ∀ k, k ≤ n → Thru n k (overs m k)
  | 0, _ => fun _ _ _ _ _ hl => absurd hl (by omega)
  | k + 1, hk => by
    have ih := thru_overs h hB hb hd k (by omega)
    have hp : (2 : Int) ^ k ≤ 2 ^ n := by
      have := Nat.pow_le_pow_right (n := 2) (by decide) (show k ≤ n by omega)
      exact_mod_cast this
    have h1 : B * 2 ^ k ≤ B * 2 ^ n := Int.mul_le_mul_of_nonneg_left hp hB
    have h0 : (0 : Int) ≤ B * 2 ^ k := Int.mul_nonneg hB (Int.pow_nonneg (by decide))
    exact thru_over (by omega) (bd_overs h hB k (by omega) (by omega)) h0 (by omega) (fun i hi => hd k i (by omega) hi) (hd (k + 1) k hk (by omega)) ih
/-- Floyd's way comes to the greatest closed matrix -/
theorem overs_closure {n : Nat} {B : Int} {m : Nat → Nat → Int} (h : Bd n B m) (hB : 0 ≤ B) (hb : B * 2 ^ n * 4 < 4611686018427387904) (hm : ∀ i, i < n → m i i = 0)
    (hd : ∀ k i, k ≤ n → i < n → 0 ≤ overs m k i i) : IsClosure n m true (overs m n) := by
  have hB' : B < 4611686018427387904 := by
    have : (1 : Int) ≤ 2 ^ n := by have := Nat.one_le_two_pow (n := n); exact_mod_cast this
    have := Int.mul_le_mul_of_nonneg_left this hB; omega
  refine ⟨fun _ => ⟨⟨fun i hi => ?_, fun i j k hi hj hk => thru_overs h hB hb hd n (Nat.le_refl _) i j k hi hj hk⟩, fun i j _ _ => overs_le m n i j, fun c hc tc hl => overs_low hc tc (fin_of_low h hB') hl n (Nat.le_refl _)⟩, fun h => by cases h⟩
  have := overs_le m n i i; have := hd n i (Nat.le_refl _) hi; have := hm i hi; omega
theorem overs_none {n : Nat} {m d : Nat → Nat → Int} (ht : Top62 n m) {k i : Nat} (hk : k ≤ n) (hi : i < n) (hd : overs m k i i < 0) : IsClosure n m false d := by
  refine ⟨(fun h => by cases h), fun _ c hc tc hl => ?_⟩
  have := overs_low hc tc ht hl k hk i i hi hi
  have := hc.1 i hi; omega
/-! ### ways, doubled in length -/
/-- the least sum over the first k nodes -/
def least (a : Nat → Nat → Int) (i j : Nat) : Nat → Int
  | 0 => a i j
  | k + 1 => if plus (a i k) (a k j) < least a i j k then plus (a i k) (a k j) else least a i j k
def dbl (n : Nat) (a : Nat → Nat → Int) : Nat → Nat → Int := fun i j => least a i j n
def dbls (n : Nat) (m : Nat → Nat → Int) : Nat → Nat → Nat → Int
  | 0 => m
  | t + 1 => dbl n (dbls n m t)
theorem least_le (a : Nat → Nat → Int) (i j : Nat) : ∀ k, least a i j k ≤ a i j
  | 0 => Int.le_refl _
  | k + 1 => by have := least_le a i j k; unfold least; split <;> omega
theorem least_le' (a : Nat → Nat → Int) (i j l : Nat) : ∀ k, l < k → least a i j k ≤ plus (a i l) (a l j)
  | 0, h => by omega
  | k + 1, h => by
    unfold least
    by_cases e : l = k
    · subst e; split <;> omega
    · have := least_le' a i j l k (by omega); split <;> omega
theorem least_is (a : Nat → Nat → Int) (i j : Nat) : ∀ k, least a i j k = a i j ∨ ∃ l, l < k ∧ least a i j k = plus (a i l) (a l j)
  | 0 => .inl rfl
  | k + 1 => by
    unfold least; split
    · exact .inr ⟨k, by omega, rfl⟩
    · rcases least_is a i j k with h | ⟨l, h1, h2⟩
      · exact .inl h
      · exact .inr ⟨l, by omega, h2⟩
theorem dbl_le (n : Nat) (a : Nat → Nat → Int) (i j : Nat) : dbl n a i j ≤ a i j := least_le a i j n
theorem dbls_le (n : Nat) (m : Nat → Nat → Int) (t i j : Nat) : dbls n m t i j ≤ m i j := by
  induction t with
  | zero => exact Int.le_refl _
  | succ t ih => exact Int.le_trans (dbl_le n _ i j) ih
theorem dbl_low {n : Nat} {m c : Nat → Nat → Int} (hc : Closed n c) (tc : Top62 n c) (hm : Top62 n m) (h : Le n c m) : Le n c (dbl n m) := by
  intro i j hi hj
  unfold dbl
  rcases least_is m i j n with e | ⟨k, hk, e⟩ <;> rw [e]
  · exact h i j hi hj
  · have h1 := hc.2 i j k hi hj hk
    have h3 := h i k hi hk; have h4 := h k j hk hj
    have h5 := hm i k hi hk; have h6 := hm k j hk hj
    have h7 := tc i j hi hj
    unfold plus at h1 ⊢; split at h1 <;> split <;> omega
theorem dbls_low {n : Nat} {m c : Nat → Nat → Int} (hc : Closed n c) (tc : Top62 n c) (hm : Top62 n m) (h : Le n c m) : ∀ t, Le n c (dbls n m t)
  | 0 => h
  | t + 1 => dbl_low hc tc (fun i j hi hj => Int.le_trans (dbls_le n m t i j) (hm i j hi hj)) (dbls_low hc tc hm h t)
theorem bd_dbl {n : Nat} {B : Int} {m : Nat → Nat → Int} (h : Bd n B m) (hB : 0 ≤ B) (hB' : B + B < 4611686018427387904) : Bd n (B + B) (dbl n m) := by
  intro i j hi hj
  unfold dbl
  rcases least_is m i j n with e | ⟨k, hk, e⟩ <;> rw [e]
  · exact fin_mono (h i j hi hj) (by omega)
  · have h1 := h i k hi hk; have h2 := h k j hk hj
    unfold Fin' plus at *; split <;> omega
theorem bd_dbls {n : Nat} {B : Int} {m : Nat → Nat → Int} (h : Bd n B m) (hB : 0 ≤ B) : ∀ t, B * 2 ^ t < 4611686018427387904 → Bd n (B * 2 ^ t) (dbls n m t)
  | 0, _ => by rw [Int.pow_zero, Int.mul_one]; exact h
  | t + 1, hb => by
    have e : B * 2 ^ (t + 1) = B * 2 ^ t + B * 2 ^ t := by rw [Int.pow_succ, ← Int.mul_assoc]; omega
    have h0 : (0 : Int) ≤ B * 2 ^ t := Int.mul_nonneg hB (Int.pow_nonneg (by decide))
    rw [e] at hb ⊢
    exact bd_dbl (bd_dbls h hB t (by omega)) h0 hb
/-! ### walks over finite entries -/
/-- the plain sum along a walk -/
def fw (m : Nat → Nat → Int) : List Nat → Int
  | [] => 0
  | [_] => 0
  | x :: y :: r => m x y + fw m (y :: r)
/-- all nodes are there, all entries finite -/
def Wk (n : Nat) (m : Nat → Nat → Int) : List Nat → Prop
  | [] => True
  | [x] => x < n
  | x :: y :: r => x < n ∧ m x y ≠ 4611686018427387904 ∧ Wk n m (y :: r)
theorem fw_append (m : Nat → Nat → Int) (v : Nat) (q : List Nat) : ∀ p : List Nat, fw m (p ++ v :: q) = fw m (p ++ [v]) + fw m (v :: q)
  | [] => by simp [fw]
  | [x] => by simp [fw]
  | x :: y :: r => by
    have := fw_append m v q (y :: r)
    simp only [List.cons_append, fw] at this ⊢
    omega
theorem wk_append {n : Nat} {m : Nat → Nat → Int} {v : Nat} {q : List Nat} : ∀ {p : List Nat}, Wk n m (p ++ v :: q) ↔ Wk n m (p ++ [v]) ∧ Wk n m (v :: q)
  | [] => by
    cases q with
    | nil => simp [Wk]
    | cons a r => simp only [List.nil_append, Wk]; exact ⟨fun h => ⟨h.1, h⟩, fun h => h.2⟩
  | [x] => by
    simp only [List.cons_append, List.nil_append, Wk]
    cases q with
    | nil => simp only [Wk]; exact ⟨fun h => ⟨h, h.2.2⟩, fun h => h.1⟩
    | cons a r => simp only [Wk]; exact ⟨fun h => ⟨⟨h.1, h.2.1, h.2.2.1⟩, h.2.2⟩, fun h => ⟨h.1.1, h.1.2.1, h.2⟩⟩
  | x :: y :: r => by
    have ih := wk_append (n := n) (m := m) (v := v) (q := q) (p := y :: r)
    simp only [List.cons_append, Wk] at ih ⊢
    rw [ih]
    exact ⟨fun h => ⟨⟨h.1, h.2.1, h.2.2.1⟩, h.2.2.2⟩, fun h => ⟨h.1.1, h.1.2.1, h.1.2.2, h.2⟩⟩
theorem wk_node {n : Nat} {m : Nat → Nat → Int} : ∀ {p : List Nat}, Wk n m p → ∀ x ∈ p, x < n
  | [], _, x, h => by cases h
  | [y], hp, x, h => by simp at h; subst h; exact hp
  | y :: z :: r, hp, x, h => by
    rcases List.mem_cons.1 h with h | h
    · subst h; exact hp.1
    · exact wk_node hp.2.2 x h
theorem nodup_len : ∀ (n : Nat) (l : List Nat), l.Nodup → (∀ x ∈ l, x < n) → l.length ≤ n
  | 0, l, _, h => by
    cases l with
    | nil => simp
    | cons a r => exact absurd (h a (by simp)) (by omega)
  | n + 1, l, hd, h => by
    by_cases hm : n ∈ l
    · have h1 := nodup_len n (l.erase n) (hd.erase n) (fun x hx => by
        have h2 := (List.Nodup.mem_erase_iff hd).1 hx
        have := h x h2.2; omega)
      rw [List.length_erase_of_mem hm] at h1
      omega
    · have := nodup_len n l hd (fun x hx => by have h1 := h x hx; have : x ≠ n := fun e => hm (e ▸ hx); omega)
      omega
theorem dup_split : ∀ (l : List Nat), ¬ l.Nodup → ∃ a b c x, l = a ++ x :: (b ++ x :: c)
  | [], h => absurd List.nodup_nil h
  | y :: r, h => by
    by_cases hm : y ∈ r
    · obtain ⟨b, c, e⟩ := List.append_of_mem hm
      exact ⟨[], b, c, y, by rw [e]; rfl⟩
    · have : ¬ r.Nodup := fun hn => h (List.nodup_cons.2 ⟨hm, hn⟩)
      obtain ⟨a, b, c, x, e⟩ := dup_split r this
      exact ⟨y :: a, b, c, x, by rw [e]; rfl⟩
/-- a walk with more edges than nodes comes back somewhere -/
theorem comes_back {n : Nat} {m : Nat → Nat → Int} {p : List Nat} {j : Nat} (hw : Wk n m (p ++ [j])) (hl : n < p.length) : ∃ a b c x, p = a ++ x :: (b ++ x :: c) := by
  refine dup_split p fun hn => ?_
  have := nodup_len n p hn (fun x hx => wk_node hw x (by simp [hx]))
  omega
/-- short walks weigh no less than the doubled entries -/
theorem dbls_walk {n : Nat} {B : Int} {m : Nat → Nat → Int} (h : Bd n B m) (hB : 0 ≤ B) (hm : ∀ i, i < n → m i i = 0) : ∀ (t : Nat), B * 2 ^ t < 4611686018427387904 → ∀ (p : List Nat) (i j : Nat), Wk n m (i :: (p ++ [j])) → p.length + 1 ≤ 2 ^ t →
    dbls n m t i j ≠ 4611686018427387904 ∧ dbls n m t i j ≤ fw m (i :: (p ++ [j]))
  | 0, _, p, i, j, hw, hl => by
    have : p = [] := by cases p with
      | nil => rfl
      | cons a r => simp at hl
    subst this
    simp only [List.nil_append, Wk, fw, dbls] at hw ⊢
    exact ⟨hw.2.1, by omega⟩
  | t + 1, hb, p, i, j, hw, hl => by
    have e0 : (2 : Nat) ^ (t + 1) = 2 ^ t + 2 ^ t := by rw [Nat.pow_succ]; omega
    have h0 : (0 : Int) ≤ B * 2 ^ t := Int.mul_nonneg hB (Int.pow_nonneg (by decide))
    have eb : B * 2 ^ (t + 1) = B * 2 ^ t + B * 2 ^ t := by rw [Int.pow_succ, ← Int.mul_assoc]; omega
    have hi : i < n := wk_node hw i (by simp)
    have hj : j < n := wk_node hw j (by simp)
    have bd := bd_dbls h hB t (by omega)
    have up : ∀ k, k < n → dbls n m t i k ≠ 4611686018427387904 → dbls n m t k j ≠ 4611686018427387904 → dbls n m (t + 1) i j ≠ 4611686018427387904 ∧ dbls n m (t + 1) i j ≤ dbls n m t i k + dbls n m t k j := by
      intro k hk h1 h2
      have h3 : dbls n m (t + 1) i j ≤ plus (dbls n m t i k) (dbls n m t k j) := least_le' _ i j k n hk
      have h4 := bd i k hi hk; have h5 := bd k j hk hj
      unfold plus at h3; unfold Fin' at h4 h5
      rw [if_neg (by omega)] at h3
      exact ⟨by omega, h3⟩
    have dg : ∀ k, k < n → dbls n m t k k ≠ 4611686018427387904 ∧ dbls n m t k k ≤ 0 := by
      intro k hk
      have h1 := dbls_le n m t k k; have h2 := hm k hk
      exact ⟨by omega, by omega⟩
    by_cases hs : p.length + 1 ≤ 2 ^ t
    · have ih := dbls_walk h hB hm t (by omega) p i j hw hs
      have := up j hj ih.1 (dg j hj).1
      exact ⟨this.1, by have := (dg j hj).2; omega⟩
    · obtain ⟨q, v, r, e, hq⟩ : ∃ q v r, p = q ++ v :: r ∧ q.length + 1 = 2 ^ t := by
        refine ⟨p.take (2 ^ t - 1), p[2 ^ t - 1]'(by omega), p.drop (2 ^ t), ?_, ?_⟩
        · have h1 := List.take_append_drop (2 ^ t - 1) p
          have h2 := List.drop_eq_getElem_cons (l := p) (i := 2 ^ t - 1) (by omega)
          have h3 : 2 ^ t - 1 + 1 = 2 ^ t := by have := Nat.one_le_two_pow (n := t); omega
          rw [h3] at h2; rw [← h2]; exact h1.symm
        · rw [List.length_take]; have := Nat.one_le_two_pow (n := t); omega
      subst e
      have ew : i :: (q ++ v :: r ++ [j]) = (i :: q) ++ v :: (r ++ [j]) := by simp
      rw [ew] at hw ⊢
      have hw' := wk_append.1 hw
      rw [fw_append]
      simp only [List.length_append, List.length_cons] at hl
      have i1 := dbls_walk h hB hm t (by omega) q i v (by simpa using hw'.1) (by omega)
      have i2 := dbls_walk h hB hm t (by omega) r v j hw'.2 (by omega)
      have hv : v < n := wk_node hw'.2 v (by simp)
      have := up v hv i1.1 i2.1
      refine ⟨this.1, ?_⟩
      have e1 : i :: q ++ [v] = i :: (q ++ [v]) := rfl
      rw [e1]
      omega
/-- each finite doubled entry is the sum of a walk -/
theorem dbls_is {n : Nat} {m : Nat → Nat → Int} : ∀ (t : Nat) (i j : Nat), i < n → j < n → dbls n m t i j ≠ 4611686018427387904 → ∃ p, Wk n m (i :: (p ++ [j])) ∧ fw m (i :: (p ++ [j])) = dbls n m t i j
  | 0, i, j, hi, hj, h => ⟨[], by simp only [List.nil_append, Wk]; exact ⟨hi, h, hj⟩, by simp [fw, dbls]⟩
  | t + 1, i, j, hi, hj, h => by
    have e : dbls n m (t + 1) i j = least (dbls n m t) i j n := rfl
    rcases least_is (dbls n m t) i j n with h1 | ⟨k, hk, h1⟩
    · rw [e, h1] at h ⊢; exact dbls_is t i j hi hj h
    · rw [e, h1] at h ⊢
      unfold plus at h ⊢
      by_cases hx : dbls n m t i k = 4611686018427387904 ∨ dbls n m t k j = 4611686018427387904
      · rw [if_pos hx] at h; exact absurd rfl h
      · rw [if_neg hx]
        obtain ⟨p, hp, ep⟩ := dbls_is t i k hi hk (fun h => hx (.inl h))
        obtain ⟨q, hq, eq⟩ := dbls_is t k j hk hj (fun h => hx (.inr h))
        refine ⟨p ++ k :: q, ?_, ?_⟩
        · have : i :: (p ++ k :: q ++ [j]) = (i :: p) ++ k :: (q ++ [j]) := by simp
          rw [this, wk_append]; exact ⟨by simpa using hp, hq⟩
        · have : i :: (p ++ k :: q ++ [j]) = (i :: p) ++ k :: (q ++ [j]) := by simp
          rw [this, fw_append, ← ep, ← eq]; rfl
/-- where no doubled entry of the diagonal lies below 0, no walk back does -/
theorem back_pos {n : Nat} {B : Int} {m : Nat → Nat → Int} {t : Nat} (h : Bd n B m) (hB : 0 ≤ B) (hm : ∀ i, i < n → m i i = 0) (hb : B * 2 ^ t < 4611686018427387904) (ht : n ≤ 2 ^ t)
    (hd : ∀ i, i < n → 0 ≤ dbls n m t i i) : ∀ (N : Nat) (p : List Nat) (i : Nat), p.length ≤ N → Wk n m (i :: (p ++ [i])) → 0 ≤ fw m (i :: (p ++ [i]))
  | N, p, i, hN, hw => by
    have hi : i < n := wk_node hw i (by simp)
    by_cases hs : p.length + 1 ≤ 2 ^ t
    · have := (dbls_walk h hB hm t hb p i i hw hs).2
      have := hd i hi; omega
    · cases N with
      | zero => have := Nat.one_le_two_pow (n := t); omega
      | succ N =>
        obtain ⟨a, b, c, x, e⟩ := comes_back (p := i :: p) (j := i) hw (by simp; omega)
        have ew : i :: (p ++ [i]) = a ++ x :: (b ++ x :: (c ++ [i])) := by
          have : i :: (p ++ [i]) = (i :: p) ++ [i] := rfl
          rw [this, e]; simp
        have el : (i :: p).length = (a ++ x :: (b ++ x :: c)).length := by rw [e]
        simp only [List.length_cons, List.length_append] at el
        rw [ew] at hw ⊢
        have hw1 := wk_append.1 hw
        have hw2 := wk_append (p := x :: b).1 hw1.2
        have hx := back_pos h hB hm hb ht hd N b x (by omega) (by simpa using hw2.1)
        rw [fw_append]
        have ef : fw m (x :: (b ++ x :: (c ++ [i]))) = fw m (x :: (b ++ [x])) + fw m (x :: (c ++ [i])) := fw_append m x (c ++ [i]) (x :: b)
        rw [ef]
        have ho : 0 ≤ fw m (a ++ [x]) + fw m (x :: (c ++ [i])) := by
          rw [← fw_append]
          cases a with
          | nil =>
            simp only [List.nil_append, List.cons.injEq] at e
            rw [← e.1] at hw2 ⊢
            simp only [List.nil_append]
            exact back_pos h hB hm hb ht hd N c i (by omega) hw2.2
          | cons y a =>
            simp only [List.cons_append, List.cons.injEq] at e
            have hy := e.1
            subst hy
            have : i :: a ++ x :: (c ++ [i]) = i :: ((a ++ x :: c) ++ [i]) := by simp
            have hwo : Wk n m (i :: a ++ x :: (c ++ [i])) := wk_append.2 ⟨hw1.1, hw2.2⟩
            rw [this] at hwo ⊢
            simp only [List.length_cons] at el
            exact back_pos h hB hm hb ht hd N (a ++ x :: c) i (by simp; omega) hwo
        omega
/-- each walk weighs no less than a short one -/
theorem shorter {n : Nat} {m : Nat → Nat → Int} {L : Nat} (hL : n ≤ L) (hp : ∀ (p : List Nat) (i : Nat), Wk n m (i :: (p ++ [i])) → 0 ≤ fw m (i :: (p ++ [i]))) :
    ∀ (N : Nat) (p : List Nat) (i j : Nat), p.length ≤ N → Wk n m (i :: (p ++ [j])) → ∃ q, Wk n m (i :: (q ++ [j])) ∧ q.length + 1 ≤ L + 1 ∧ fw m (i :: (q ++ [j])) ≤ fw m (i :: (p ++ [j]))
  | N, p, i, j, hN, hw => by
    by_cases hs : p.length + 1 ≤ L + 1
    · exact ⟨p, hw, hs, Int.le_refl _⟩
    · cases N with
      | zero => omega
      | succ N =>
        have hw0 : Wk n m (i :: p ++ [j]) := hw
        have hwp : ∀ x ∈ p, x < n := fun x hx => wk_node hw x (by simp [hx])
        obtain ⟨a, b, c, x, e⟩ := dup_split p (fun hn => by have := nodup_len n p hn hwp; omega)
        subst e
        have ew : i :: ((a ++ x :: (b ++ x :: c)) ++ [j]) = (i :: a) ++ x :: (b ++ x :: (c ++ [j])) := by simp
        rw [ew] at hw ⊢
        have hw1 := wk_append.1 hw
        have hw2 := wk_append (p := x :: b).1 hw1.2
        have hx := hp b x (by simpa using hw2.1)
        have hwo : Wk n m ((i :: a) ++ x :: (c ++ [j])) := wk_append.2 ⟨hw1.1, hw2.2⟩
        have eo : (i :: a) ++ x :: (c ++ [j]) = i :: ((a ++ x :: c) ++ [j]) := by simp
        simp only [List.length_append, List.length_cons] at hN
        obtain ⟨q, h1, h2, h3⟩ := shorter hL hp N (a ++ x :: c) i j (by simp; omega) (eo ▸ hwo)
        refine ⟨q, h1, h2, Int.le_trans h3 ?_⟩
        rw [← eo, fw_append m x (c ++ [j]) (i :: a), fw_append m x (b ++ x :: (c ++ [j])) (i :: a)]
        have ef : fw m (x :: (b ++ x :: (c ++ [j]))) = fw m (x :: (b ++ [x])) + fw m (x :: (c ++ [j])) := fw_append m x (c ++ [j]) (x :: b)
        rw [ef]; omega
/-- ways doubled in length until they are longer than any simple one come to the greatest closed matrix -/
theorem dbls_closure {n : Nat} {B : Int} {m : Nat → Nat → Int} {t : Nat} (h : Bd n B m) (hB : 0 ≤ B) (hm : ∀ i, i < n → m i i = 0) (hb : B * 2 ^ t < 4611686018427387904) (ht : n + 1 ≤ 2 ^ t)
    (hd : ∀ i, i < n → 0 ≤ dbls n m t i i) : IsClosure n m true (dbls n m t) := by
  have hB' : B < 4611686018427387904 := by
    have : (1 : Int) ≤ 2 ^ t := by have := Nat.one_le_two_pow (n := t); exact_mod_cast this
    have := Int.mul_le_mul_of_nonneg_left this hB; omega
  have hp : ∀ (p : List Nat) (i : Nat), Wk n m (i :: (p ++ [i])) → 0 ≤ fw m (i :: (p ++ [i])) := fun p i hw => back_pos h hB hm hb (by omega) hd p.length p i (Nat.le_refl _) hw
  have hall : ∀ (p : List Nat) (i j : Nat), Wk n m (i :: (p ++ [j])) → dbls n m t i j ≤ fw m (i :: (p ++ [j])) := by
    intro p i j hw
    obtain ⟨q, h1, h2, h3⟩ := shorter (Nat.le_refl n) hp p.length p i j (Nat.le_refl _) hw
    exact Int.le_trans (dbls_walk h hB hm t hb q i j h1 (by omega)).2 h3
  refine ⟨fun _ => ⟨⟨fun i hi => ?_, fun i j k hi hj hk => ?_⟩, fun i j _ _ => dbls_le n m t i j, fun c hc tc hl => dbls_low hc tc (fin_of_low h hB') hl t⟩, fun h => by cases h⟩
  · have := dbls_le n m t i i; have := hd i hi; have := hm i hi; omega
  · have bd := bd_dbls h hB t hb
    unfold plus
    by_cases hx : dbls n m t i k = 4611686018427387904 ∨ dbls n m t k j = 4611686018427387904
    · rw [if_pos hx]; have := bd i j hi hj; unfold Fin' at this; omega
    · rw [if_neg hx]
      obtain ⟨p, hp1, ep⟩ := dbls_is t i k hi hk (fun h => hx (.inl h))
      obtain ⟨q, hq, eq⟩ := dbls_is t k j hk hj (fun h => hx (.inr h))
      have e : i :: (p ++ k :: q ++ [j]) = (i :: p) ++ k :: (q ++ [j]) := by simp
      have hw : Wk n m (i :: (p ++ k :: q ++ [j])) := by rw [e, wk_append]; exact ⟨by simpa using hp1, hq⟩
      have := hall _ i j hw
      rw [e, fw_append] at this
      have e1 : i :: p ++ [k] = i :: (p ++ [k]) := rfl
      rw [e1] at this
      omega
theorem dbls_none {n : Nat} {m d : Nat → Nat → Int} (ht : Top62 n m) {t i : Nat} (hi : i < n) (hd : dbls n m t i i < 0) : IsClosure n m false d := by
  refine ⟨(fun h => by cases h), fun _ c hc tc hl => ?_⟩
  have := dbls_low hc tc ht hl t i i hi hi
  have := hc.1 i hi; omega
end Go.Proofs.Ytomgebmimgaojaa.OctMath
end
section
/- The least sums along ways over a table: the entries are gathered by way of the iterator, then it goes over one node after the other. -/
noncomputable section
namespace Go.Proofs.Ytomgebmimgaojaa.QO
open Go.RowKit Go.Shelf Go.Proofs.YtomgebmimgaojaaW.PrintWords Go.Proofs.YtomgebmimgaojaaW.PrintLast Go.Proofs.YtomgebmimgaojaaW.PrintMore
attribute [local go_sem] Oper.semAt_some
set_option linter.unusedVariables false
set_option linter.unusedSimpArgs false
/-- what has been put by some rounds -/
def putAll (f : Nat → Int) {N : Nat} (l : List (Fin N)) (d : List Int) : List Int := l.foldl (fun d k => d.set k.1 (f k.1)) d
theorem putAll_snoc (f : Nat → Int) {N : Nat} (l : List (Fin N)) (x : Fin N) (d : List Int) : putAll f (l ++ [x]) d = (putAll f l d).set x.1 (f x.1) := by simp [putAll]
theorem putAll_length (f : Nat → Int) {N : Nat} (l : List (Fin N)) (d : List Int) : (putAll f l d).length = d.length := by
  induction l generalizing d with
  | nil => rfl
  | cons x l ih => simp only [putAll, List.foldl_cons] at ih ⊢; rw [ih]; simp
theorem putAll_take (f : Nat → Int) (N : Nat) : ∀ k, k ≤ N → putAll f ((List.finRange N).take k) (List.replicate N 0) = (List.range k).map f ++ List.replicate (N - k) 0
  | 0, _ => by simp [putAll]
  | k + 1, h => by
    rw [finRange_take_succ (by omega), putAll_snoc, putAll_take f N k (by omega)]
    apply List.ext_getElem
    · simp; omega
    · intro i h1 h2
      simp only [List.length_set, List.length_append, List.length_map, List.length_range, List.length_replicate] at h1
      rw [List.getElem_set]
      by_cases e : k = i
      · subst e; rw [if_pos rfl, List.getElem_append_left (by simp)]; simp
      · rw [if_neg e]
        by_cases hi : i < k
        · rw [List.getElem_append_left (by simpa using hi), List.getElem_append_left (by simp; omega)]; simp
        · rw [List.getElem_append_right (by simp; omega), List.getElem_append_right (by simp; omega)]; simp
theorem putAll_all (f : Nat → Int) (N : Nat) : putAll f (List.finRange N) (List.replicate N 0) = (List.range N).map f := by
  have := putAll_take f N N (Nat.le_refl _)
  rw [List.take_of_length_le (by simp)] at this
  rw [this]; simp
open OctMath (over overs plus Bd Fin' Top62)
/-- a matrix, row by row -/
def lst (n : Nat) (d : Nat → Nat → Int) : List Int := (List.range (n * n)).map (fun t => d (t / n) (t % n))
theorem lst_length (n : Nat) (d : Nat → Nat → Int) : (lst n d).length = n * n := by simp [lst]
theorem ij_lt {n i j : Nat} (hi : i < n) (hj : j < n) : i * n + j < n * n := by
  have : (i + 1) * n ≤ n * n := Nat.mul_le_mul_right _ hi
  rw [Nat.add_mul, Nat.one_mul] at this; omega
theorem ij_div {n i j : Nat} (hj : j < n) : (i * n + j) / n = i := by rw [Nat.mul_comm, Nat.mul_add_div (by omega), Nat.div_eq_of_lt hj, Nat.add_zero]
theorem ij_mod {n i j : Nat} (hj : j < n) : (i * n + j) % n = j := by rw [Nat.mul_comm, Nat.mul_add_mod, Nat.mod_eq_of_lt hj]
theorem lst_rd {n : Nat} {d : Nat → Nat → Int} {i j : Nat} {q : Int} (hi : i < n) (hj : j < n) (hq : q = ((i * n + j : Nat) : Int)) : rd (lst n d) q = d i j := by
  have h := ij_lt hi hj
  subst hq
  unfold rd
  rw [Int.toNat_natCast]
  simp [lst, h, ij_div hj, ij_mod hj]
theorem lst_set {n : Nat} {d : Nat → Nat → Int} {i j : Nat} {q v : Int} (hi : i < n) (hj : j < n) (hq : q = ((i * n + j : Nat) : Int)) : (lst n d).set q.toNat v = lst n (fun a b => if a = i ∧ b = j then v else d a b) := by
  subst hq
  apply List.ext_getElem
  · simp [lst]
  · intro t h1 h2
    simp only [lst, List.length_set, List.length_map, List.length_range] at h1
    rw [List.getElem_set]
    simp only [lst, List.getElem_map, List.getElem_range, Int.toNat_natCast]
    by_cases e : i * n + j = t
    · rw [if_pos e, if_pos]; subst e; exact ⟨ij_div hj, ij_mod hj⟩
    · rw [if_neg e, if_neg]
      rintro ⟨h3, h4⟩
      apply e; have := Nat.div_add_mod t n; rw [h3, h4, Nat.mul_comm] at this; exact this
theorem lst_congr {n : Nat} {d e : Nat → Nat → Int} (h : ∀ i j, i < n → j < n → d i j = e i j) : lst n d = lst n e := by
  unfold lst
  apply List.map_congr_left
  intro t ht
  have h1 : t < n * n := by simpa using ht
  have h0 : 0 < n := by by_cases e : n = 0; · subst e; omega
                        · omega
  exact h _ _ (Nat.div_lt_of_lt_mul h1) (Nat.mod_lt _ h0)
theorem up_plus {B x y : Int} (hB : 0 ≤ B) (hB' : B + B < 4611686018427387900) (hx : Fin' B x) (hy : Fin' B y) : bound_Up.f x y = some (plus x y) := by
  have h : ∀ {a}, Fin' B a → bfit a = a := by
    intro a ha; unfold Fin' at ha; unfold bfit; repeat' split
    all_goals omega
  unfold bound_Up.f bound_Fit.f
  rw [h hx, h hy]
  simp only [Option.bind_some]
  unfold plus
  by_cases e1 : x = 4611686018427387904
  · rw [if_pos e1, if_pos (.inl e1)]
  · rw [if_neg e1]
    by_cases e2 : y = 4611686018427387904
    · rw [if_pos e2, if_pos (.inr e2)]
    · rw [if_neg e2, if_neg (by rintro (h | h) <;> contradiction)]
      unfold Fin' at hx hy
      have : wrap64 (x + y) = x + y := by unfold wrap64; omega
      rw [this]; congr 1; unfold mn mx; split <;> split <;> omega
/-- the rows ahead of i, and of row i what is ahead of j, have gone over node k -/
def mix (d : Nat → Nat → Int) (k i j : Nat) : Nat → Nat → Int := fun a b => if a < i ∨ (a = i ∧ b < j) then over d k a b else d a b
theorem over_at_k {B : Int} {d : Nat → Nat → Int} {k a : Nat} (hB : 0 ≤ B) (hB' : B < 4611686018427387904) (hk : 0 ≤ d k k) (hk' : Fin' B (d k k)) (ha : Fin' B (d a k)) (ha' : Fin' B (d k a)) : over d k a k = d a k ∧ over d k k a = d k a := by
  unfold over plus Fin' at *
  constructor <;> split <;> split at * <;> omega
theorem mix_reads {B : Int} {d : Nat → Nat → Int} {k i j n : Nat} (hB : 0 ≤ B) (hB' : B < 4611686018427387904) (hd : Bd n B d) (hk : k < n) (hi : i < n) (hj : j < n) (hkk : 0 ≤ d k k) :
    mix d k i j i k = d i k ∧ mix d k i j k j = d k j ∧ mix d k i j i j = d i j := by
  have h1 := over_at_k hB hB' hkk (hd k k hk hk) (hd i k hi hk) (hd k i hk hi)
  have h2 := over_at_k hB hB' hkk (hd k k hk hk) (hd j k hj hk) (hd k j hk hj)
  refine ⟨?_, ?_, ?_⟩
  · unfold mix; split
    · exact h1.1
    · rfl
  · unfold mix; split
    · exact h2.2
    · rfl
  · unfold mix; rw [if_neg (by omega)]
/-- the entry at (i, j) goes over k -/
theorem mix_step {d : Nat → Nat → Int} {k i j : Nat} (a b : Nat) : mix d k i (j + 1) a b = if a = i ∧ b = j then over d k i j else mix d k i j a b := by
  unfold mix
  by_cases e : a = i ∧ b = j
  · rw [if_pos e, if_pos (by omega), e.1, e.2]
  · rw [if_neg e]
    by_cases h : a < i ∨ (a = i ∧ b < j)
    · rw [if_pos h, if_pos (by omega)]
    · rw [if_neg h, if_neg (by omega)]
theorem mix_row {d : Nat → Nat → Int} {k i n : Nat} (a b : Nat) (hb : b < n) : mix d k i n a b = mix d k (i + 1) 0 a b := by
  unfold mix
  by_cases h : a < i ∨ (a = i ∧ b < n)
  · rw [if_pos h, if_pos (by omega)]
  · rw [if_neg h, if_neg (by omega)]
theorem mix_zero {d : Nat → Nat → Int} {k : Nat} (a b : Nat) : mix d k 0 0 a b = d a b := by unfold mix; rw [if_neg (by omega)]
theorem mix_all {d : Nat → Nat → Int} {k n : Nat} (a b : Nat) (ha : a < n) : mix d k n 0 a b = over d k a b := by unfold mix; rw [if_pos (.inl ha)]
theorem over_le_of {d : Nat → Nat → Int} {k i j : Nat} (h : plus (d i k) (d k j) < d i j) : over d k i j = plus (d i k) (d k j) := by unfold over; rw [if_pos h]
theorem over_ge_of {d : Nat → Nat → Int} {k i j : Nat} (h : ¬ plus (d i k) (d k j) < d i j) : over d k i j = d i j := by unfold over; rw [if_neg h]
/-- the matrix of an octagon's table -/
def lowM (nv : Nat) (m : List Int) : Nat → Nat → Int := fun i j => lowAt (2 * (nv : Int)) m (i : Int) (j : Int)
/-- does nothing come back below 0? -/
def FloydOk (n : Nat) (d : Nat → Nat → Int) : Prop := ∀ t i, t ≤ n → i < n → 0 ≤ overs d t i i
noncomputable def floydB (n : Nat) (d : Nat → Nat → Int) : Bool := @decide (FloydOk n d) (Classical.propDecidable _)
theorem floydB_true {n : Nat} {d : Nat → Nat → Int} : floydB n d = true ↔ FloydOk n d := by unfold floydB; exact @decide_eq_true_iff _ (Classical.propDecidable _)
theorem floydB_false {n : Nat} {d : Nat → Nat → Int} : floydB n d = false ↔ ¬ FloydOk n d := by unfold floydB; exact @decide_eq_false_iff_not _ (Classical.propDecidable _)
noncomputable def floydL (n : Nat) (d : Nat → Nat → Int) : List Int := if floydB n d = true then lst n (overs d n) else []
/-- what the loops over the nodes know of a world -/
structure FS (w : World) (s : Nat) (A : Option Addr) (len cap D : Nat) (W : World) (row : List Int) : Prop where
  row : Kd.R (Kd.int .i64) 2 W w.heap.size (fun k => k < s) (.slice A len cap) row
  box : Boxed W s 23 (.slice A len cap)
  below : Below w.heap.size w W
  dfr : W.heap[D]? = some (.deferred (some []))
theorem FS.next {w : World} {s : Nat} {A : Option Addr} {len cap D : Nat} {W W' : World} {row : List Int} (h : FS w s A len cap D W row) (hb : Below W.heap.size W W') : FS w s A len cap D W' row :=
  ⟨Kd.R_below h.row hb, (hb.block _ h.box.lt).trans h.box, h.below.trans (hb.mono h.below.size), (hb.block _ (Array.getElem?_eq_some_iff.1 h.dfr).1).trans h.dfr⟩
theorem FS.put {w : World} {s g len cap D : Nat} {W : World} {row : List Int} (h : FS w s (some ⟨g, 0, none⟩) len cap D W row) (h1 : w.heap.size ≤ g) (h2 : g < s) (h3 : s ≤ D) (i v : Int) :
    FS w s (some ⟨g, 0, none⟩) len cap D (W.setCell ⟨g, i.toNat, none⟩ (.int .i64 v)) (row.set i.toNat v) := by
  have hp := Kd.R_putg h.row i v
  exact ⟨hp.1, h.box.kept hp.2 (by simp; omega), h.below.setCell (p := ⟨g, i.toNat, none⟩) h1 _, (hp.2.block D (Array.getElem?_eq_some_iff.1 h.dfr).1 (by simp; omega)).trans h.dfr⟩
theorem keepBoxes_of {n₀ B1 B2 : Nat} {W W' : World} (h : Below W.heap.size W W') (hn : n₀ ≤ W.heap.size) (h1 : B1 < W.heap.size) (h2 : B2 < W.heap.size) : KeepBoxes n₀ B1 B2 W W' :=
  ⟨h.mono hn, h.block _ h1, h.block _ h2⟩
set_option maxHeartbeats 16000000 in
set_option maxRecDepth 100000 in
theorem oct_ways_any (nv : Nat) (A : Option Addr) (c : Nat) (m : List Int) (w : World) (hr : Kd.C (Kd.int .i64) w A m.length m) (hc : m.length ≤ c) (hn : nv ≤ 8) (hm : (m.length : Int) = (2 * (nv : Int)) * (2 * (nv : Int)))
    (hbd : Bd (2 * nv) 1099511627776 (lowM nv m)) (hdg : ∀ i, i < 2 * nv → 0 ≤ lowM nv m i i) :
    Calls Try.prog 54 #[tableV (2 * (nv : Int)) A m.length c] w fun e w' => ∃ v0_ : Value, e = .returned (.tuple #[v0_, .bool (floydB (2 * nv) (lowM nv m))]) ∧ Kd.R (Kd.int .i64) 2 w' w.heap.size (fun _ => True) v0_ (floydL (2 * nv) (lowM nv m)) ∧ Below w.heap.size w w' := by
  unfold tableV
  have hms := meth_size
  have HR := Aside0.mk hr
  have HN := Aside0.mk hn
  obtain ⟨n2, hn2⟩ : ∃ n2, n2 = 2 * nv := ⟨_, rfl⟩
  rw [← hn2] at hbd hdg ⊢
  obtain ⟨M0, hM0⟩ : ∃ M0, lowM nv m = M0 := ⟨_, rfl⟩
  rw [hM0] at hbd hdg ⊢
  have HBD := Aside0.mk hbd
  have HDG := Aside0.mk hdg
  have HM0' := Aside0.mk hM0
  have HN2 := Aside0.mk hn2
  have h5 : n2 * n2 ≤ 256 := Nat.le_trans (Nat.mul_le_mul (show n2 ≤ 16 by omega) (show n2 ≤ 16 by omega)) (by omega)
  have h6 : (2 * (nv : Int)) * (2 * (nv : Int)) = ((n2 * n2 : Nat) : Int) := by rw [hn2]; push_cast; rfl
  obtain ⟨NN, hNN⟩ : ∃ NN, n2 * n2 = NN := ⟨_, rfl⟩
  rw [hNN] at h5 h6
  have hw2 : wrap64 ((2 * (nv : Int)) * (2 * (nv : Int))) = (NN : Int) := by rw [h6]; unfold wrap64; omega
  have hw3 : IntKind.i64.wrap ((2 * (nv : Int)) * (2 * (nv : Int))) = (NN : Int) := by rw [IntKind.wrap_i64, h6]; omega
  have HL := Aside0.mk h5
  have HNN := Aside0.mk hNN
  have H6 := Aside0.mk h6
  have HM := Aside0.mk hm
  have HC := Aside0.mk hc
  have OB := oct_both_in (2 * (nv : Int)) (2 * (nv : Int)) A A m.length c m.length c
  unfold tableV at OB
  have HOB := Aside0.mk OB
  clear hr hn hn2 hm OB hc h5 hNN h6 hbd hdg hM0
  refine (callsIn_wide (n := 6)).1 ?_
  refine callsIn_of_wp_marks Try.func54 rfl trivial ?_ rfl
  simp only [Try.ntmps54, List.size_toArray, List.length_cons, List.length_nil, Nat.reduceAdd, Nat.reduceSub, Array.replicate_succ, Array.replicate_zero, List.push_toArray, List.append_toArray, List.nil_append, List.cons_append]
  refine wpIn_wide.2 ?_
  go_wp2_with (first
    | (go_at_call 110; (with_reducible refine (oct_size_any _ _ _ _ _).mono ?_); rintro e w1 ⟨rfl, hb⟩; have HB1 := Aside0.mk hb; clear hb)
    | ((with_reducible refine gate_dst (N := 17) rfl ?_); refine Kd.R_make (Kd.int .i64) _ 2 rfl (N := 17) rfl 23 _ _ rfl (NN : Int) rfl rfl Try.underlying23 (.int .i64 0) 8 info2 rfl (by decide) (by omega) 0 (ok := fun _ => True) (okp := fun _ => True) rfl (fun _ hk => hk) trivial (by omega) (by have := HL.out; omega) (Below.refl _ _) (Nat.le_refl _) ?_; intro v102 w9 ho10 hb hg_ hnew_; have HO := Aside0.mk ho10; have HB2 := Aside0.mk hb; have HNEW := Aside0.mk hnew_; clear ho10 hb hg_ hnew_; obtain ⟨Ao, co, eo⟩ := Kd.R_slice HO.out; subst eo)
    | (go_at_call 73; (with_reducible refine (callsIn_wide.1 (HOB.out _)).mono ?_); rintro e w' ⟨rfl, rfl⟩))
  obtain ⟨s, hs⟩ : ∃ s, w9.heap.size = s := ⟨_, rfl⟩
  rw [hs]
  obtain ⟨W0, hW0⟩ : ∃ W0, (((w9.alloc (.cells #[.slice Ao NN co] 23)).alloc (.cells #[.iface 85 (.agg #[.int .i64 (2 * (nv : Int)), .slice A m.length c])] 64)).alloc (.cells #[.iface 85 (.agg #[.int .i64 (2 * (nv : Int)), .slice A m.length c])] 64)) = W0 := ⟨_, rfl⟩
  rw [hW0]
  have hNN : (List.replicate ((NN : Int)).toNat (0 : Int)).length = NN := by simp
  have hNi : ((NN : Int)).toNat = NN := by simp
  have hws : w.heap.size ≤ s := by have := HB1.out.size; have := HB2.out.size; omega
  have hS0 : Aside0 (W0.heap.size = s + 3) := ⟨by rw [← hW0]; simp [hs]⟩
  have hD0 : Boxed W0 s 23 (.slice Ao NN co) := by rw [← hW0, ← hs]; exact ((Boxed.new _ _ _).alloc _).alloc _
  have hT1 : TBox W0 (s + 1) (2 * (nv : Int)) A m.length c := by
    have := (Boxed.new (w9.alloc (.cells #[.slice Ao NN co] 23)) 64 (tableV (2 * (nv : Int)) A m.length c)).alloc (.cells #[tableV (2 * (nv : Int)) A m.length c] 64)
    rw [World.size_alloc, hs] at this; rw [← hW0]; exact this
  have hT2 : TBox W0 (s + 1 + 1) (2 * (nv : Int)) A m.length c := by
    have := Boxed.new ((w9.alloc (.cells #[.slice Ao NN co] 23)).alloc (.cells #[tableV (2 * (nv : Int)) A m.length c] 64)) 64 (tableV (2 * (nv : Int)) A m.length c)
    rw [World.size_alloc, World.size_alloc, hs] at this; rw [← hW0]; exact this
  have hBw : Below w.heap.size w W0 := by
    rw [← hW0]
    have h1 : Below w.heap.size w w9 := HB1.out.trans (HB2.out.mono HB1.out.size)
    exact ((h1.alloc (by omega) _).alloc (by simp; omega) _).alloc (by simp; omega) _
  have hBP : Aside0 (BP w w.heap.size (s + 1) (s + 1 + 1) (2 * (nv : Int)) A m.length c A m.length c W0) := ⟨⟨hBw, hT1, hT2⟩⟩
  have hR0 : Aside0 (Kd.R (Kd.int .i64) 2 W0 w.heap.size (fun k => k < s) (.slice Ao NN co) (putAll (fun k => (pairAt n2 m m k).2.1) (N := NN) [] (List.replicate NN 0))) := ⟨by
    have := Kd.R_lower (Kd.R_mono (Kd.R_bound HO.out) (fun k hk => (by have := hk.2.2.1; omega : k < s))) HB1.out.size
    rw [hNN, hNi] at this
    rw [← hW0]
    exact Kd.R_alloc (Kd.R_alloc (Kd.R_alloc this _) _) _⟩
  have hG : Aside0 (0 < NN → ∃ g, Ao = some ⟨g, 0, none⟩ ∧ w.heap.size ≤ g ∧ g < s) := ⟨fun hN0 => by
    obtain ⟨g, cap, e, h1, h2, _⟩ := Kd.R_form HO.out (by simpa using hN0)
    injection e with e1 e2 e3
    subst e1
    exact ⟨g, rfl, Nat.le_trans HB1.out.size h1, by omega⟩⟩
  clear hW0 HO HNEW HOB
  have ST := oct_both_stops (s + 1) (s + 1 + 1) A A c c m m nv n2 w W0 HN.out HN2.out HM.out HM.out HC.out HC.out HR.out HR.out hBP.out
  rw [HNN.out] at ST
  refine (wpIn_wide (n := 6)).1 ?_
  refine wpIn_rangeFunc_ownH rfl (by omega) (gf := 91) (lb := #[.pointer (some ⟨s + 1, 0, none⟩), .pointer (some ⟨s + 1 + 1, 0, none⟩)]) rfl trivial (enters_of Try.func91 (by kernel_rfl) rfl)
    ST KeepBoxes.trans (keepBoxes_b (w := W0) (by have := hS0.out; omega) (by have := hS0.out; omega) (by have := hS0.out; omega)) (Below.refl _ _) (fun _ => rfl)
    (fun pre W => Kd.R (Kd.int .i64) 2 W w.heap.size (fun k => k < s) (.slice Ao NN co) (putAll (fun k => (pairAt n2 m m k).2.1) pre (List.replicate NN 0)) ∧ Boxed W s 23 (.slice Ao NN co) ∧ BP w w.heap.size (s + 1) (s + 1 + 1) (2 * (nv : Int)) A m.length c A m.length c W)
    (fun _ _ _ => False)
    (fun pre X Y row hs' hg hr' => ⟨Kd.R_grown hs'.1 hg (fun k hk e => by have := (hr' k e.symm).1; have := hS0.out; omega), hs'.2.1.kept hg (fun e => by have := (hr' _ e.symm).1; have := hS0.out; omega),
      ⟨hs'.2.2.below.grown hg (by have := hs'.2.2.below.size; omega) (fun k e => by have := (hr' k e).1; have := hS0.out; omega), Boxed.kept hs'.2.2.box1 hg (fun e => by have := (hr' _ e.symm).1; have := hS0.out; omega), Boxed.kept hs'.2.2.box2 hg (fun e => by have := (hr' _ e.symm).1; have := hS0.out; omega)⟩⟩)
    (fun _ _ _ _ _ hs' _ _ => hs')
    ⟨hR0.out, hD0, hBP.out⟩
    (fun x a' W => ∃ Bx, s + 3 ≤ Bx ∧ W.heap[Bx]? = some (.cells #[.int .i64 (pairAt n2 m m x.1).2.1, .int .i64 (pairAt n2 m m x.1).2.2] 76 (0, 0)) ∧ a' = { tmps := #[(.iface 85 (.agg #[.int .i64 (2 * (nv : Int)), .slice A m.length c]) : Value), undef, .slice none 0 0, .bool false, .int .i64 (2 * (nv : Int)), .pointer (some ⟨s, 0, none⟩), .int .i64 (pairAt n2 m m x.1).1, .pointer (some ⟨Bx, 0, none⟩), undef, undef, undef, undef, (.iface 85 (.agg #[.int .i64 (2 * (nv : Int)), .slice A m.length c]) : Value), .int .i64 (2 * (nv : Int)), .int .i64 (2 * (nv : Int)), .int .i64 (2 * (nv : Int)), .int .i64 (NN : Int), .slice Ao NN co, (.iface 85 (.agg #[.int .i64 (2 * (nv : Int)), .slice A m.length c]) : Value), (.iface 85 (.agg #[.int .i64 (2 * (nv : Int)), .slice A m.length c]) : Value), .func (.func 91) #[] #[.pointer (some ⟨s + 1, 0, none⟩), .pointer (some ⟨s + 1 + 1, 0, none⟩)], .int .i64 (pairAt n2 m m x.1).1, .agg #[.int .i64 (pairAt n2 m m x.1).2.1, .int .i64 (pairAt n2 m m x.1).2.2], undef, undef, undef, undef, undef, undef, undef, undef, undef, undef, undef, undef, undef, undef, undef, undef, undef, undef, undef, undef, undef, undef, undef, undef, undef, undef, undef, undef, undef, undef, undef, undef, undef, undef, undef, undef, undef, undef, undef, undef, undef, undef, undef, undef, undef, undef, undef, undef, undef, undef, undef, undef, undef, undef, undef, undef, undef, undef, undef, undef, undef, undef, undef, undef, undef], defers := [] })
    (fun x a' _ X Y row hs' hg hr' => by obtain ⟨Bx, h1, h2, h3⟩ := hs'; exact ⟨Bx, h1, (hg.block Bx (Array.getElem?_eq_some_iff.1 h2).1 (fun e => by obtain ⟨_, o, ho, hc⟩ := hr' Bx e.symm; rw [h2] at ho; cases ho; cases hc)).trans h2, h3⟩)
    ?assign ?body ?done ?stop
  case assign =>
    rintro l pre x W K ⟨hI1, hI2, hI3⟩ hK
    have hu76 := Try.underlying76
    gi_wp2
    have hsz := hI3.below.size
    have l1 := Boxed.lt hI3.box1
    have l2 := Boxed.lt hI3.box2
    exact hK _ _ ((KeepsOthers.alloc _ _).from _) (keepBoxes_of (Below.refl _ _ |>.alloc (Nat.le_refl _) _) hsz l1 l2) ⟨Kd.R_alloc hI1 _, hI2.alloc _, hI3.next hsz ((Below.refl _ _).alloc (Nat.le_refl _) _)⟩ ⟨W.heap.size, by omega, World.alloc_heap_new W _, rfl⟩
  case body =>
    rintro l pre x a' W hl ⟨r, hr⟩ ⟨hI1, hI2, hI3⟩ ⟨Bx, hBx, bX, rfl⟩ hlt
    have hN0 : 0 < NN := by have := x.2; omega
    obtain ⟨g, rfl, hg1, hg2⟩ := hG.out hN0
    obtain ⟨i, hi⟩ : ∃ i : Int, (pairAt n2 m m x.1).1 = i := ⟨_, rfl⟩
    have hi' : i = (x.1 : Int) := hi.symm
    obtain ⟨y, hy⟩ : ∃ y : Int, (pairAt n2 m m x.1).2.1 = y := ⟨_, rfl⟩
    obtain ⟨z, hz⟩ : ∃ y : Int, (pairAt n2 m m x.1).2.2 = y := ⟨_, rfl⟩
    have p0 : 0 ≤ i := by omega
    have q0 : i < (NN : Int) := by have := x.2; omega
    obtain ⟨hc0, hf0⟩ := Kd.R_celln 0 hI1 i p0 q0
    have HP := Kd.R_putg hI1 i y
    have cD := hI2.cell
    rw [hy, hz] at bX
    have cX : W.cell? ⟨Bx, 0, none⟩ = some (.int .i64 y) := by simp [World.cell?, bX]
    have HI1 := Aside0.mk hI1
    have HI3 := Aside0.mk hI3
    have HPP := Aside0.mk HP
    have HX := Aside0.mk hi'
    have HBX := Aside0.mk hBx
    rw [hi, hy, hz]
    have HY := Aside0.mk hy
    clear hI1 hI3 HP hi' hi hy hz hBx bX hr
    replace p0 := eq_true p0
    replace q0 := eq_true q0
    gi_wp2
    have hsz := HI3.out.below.size
    have l1 := Boxed.lt HI3.out.box1
    refine ⟨(KeepsOthers.setCell _ _ _).from _, ⟨(Below.refl w.heap.size W).setCell (p := ⟨g, i.toNat, none⟩) hg1 _, Below.heap_setCell _ _ _ _ (by simp; omega), Below.heap_setCell _ _ _ _ (by simp; omega)⟩, ?_, ?_, ?_⟩
    · have h1 := HPP.out.1
      rw [putAll_snoc, HY.out, show x.1 = i.toNat by have := HX.out; omega]
      exact h1
    · exact hI2.kept HPP.out.2 (by simp; omega)
    · exact ⟨HI3.out.below.setCell (p := ⟨g, i.toNat, none⟩) hg1 _, Boxed.kept HI3.out.box1 HPP.out.2 (by simp; omega), Boxed.kept HI3.out.box2 HPP.out.2 (by simp; omega)⟩
  case done =>
    rintro D ys W hD rfl ⟨hI1, hI2, hI3⟩ hK
    rw [putAll_all] at hI1
    have HI1 := Aside0.mk hI1
    have HI3 := Aside0.mk hI3
    have HK := Aside0.mk hK
    have HD := Aside0.mk hD
    clear hI1 hI3 hK hD HR HM HC ST hT1 hT2 hD0 hBw hBP hR0 hms HB1 HB2 hNi
    have HM0 : Aside0 ((List.range NN).map (fun k => (pairAt n2 m m k).2.1) = lst n2 M0) := ⟨by
      have e : ((n2 : Nat) : Int) = 2 * (nv : Int) := by have := HN2.out; omega
      rw [← HNN.out, ← HM0'.out]; unfold lst lowM pairAt; rw [e]⟩
    have HF : Aside0 (FS w s Ao NN co D W (lst n2 M0)) := ⟨⟨by rw [← HM0.out]; exact HI1.out, hI2, HI3.out.below, HK.out⟩⟩
    obtain ⟨nn, hnn⟩ : ∃ nn : Int, 2 * (nv : Int) = nn := ⟨_, rfl⟩
    rw [hnn]
    have HNV := Aside0.mk hnn
    clear HI1 HI3 HK hI2 hnn HM0 hw2 hw3
    gi_wp2
    go_wp2
    go_loopg [29] n2 (fun gg s29 wr => ∃ (k : Nat) (kk : Int), s29 = .int .i64 kk ∧ Aside0 (kk = (k : Int) ∧ k ≤ n2 ∧ n2 - k ≤ gg) ∧ Aside0 (FS w s Ao NN co D wr (lst n2 (overs M0 k))) ∧ Aside0 (∀ t i, t ≤ k → i < n2 → 0 ≤ overs M0 t i i))
    case atStart => exact ⟨0, 0, rfl, ⟨rfl, Nat.zero_le _, by omega⟩, HF, ⟨fun t i ht hi => (Nat.le_zero.1 ht) ▸ HDG.out i hi⟩⟩
    case round =>
      clear HF
      obtain ⟨k, kk, rfl, HKK, HF, HPOS⟩ := hrel
      by_cases hlt : k < n2
      · have f3 : decide (kk < nn) = true := decide_eq_true (by have := HN2.out; have := HKK.out; have := HNV.out; omega)
        have HKL := Aside0.mk hlt
        clear hlt
        have HB : Aside0 (Bd n2 (1099511627776 * 2 ^ k) (overs M0 k) ∧ (1099511627776 : Int) * 2 ^ k ≤ 72057594037927936 ∧ 0 ≤ (1099511627776 : Int) * 2 ^ k) := ⟨by
          have h1 := HKK.out; have h2 := HN2.out; have h3 := HN.out
          have hp : (2 : Int) ^ k ≤ 2 ^ 16 := by
            have := Nat.pow_le_pow_right (n := 2) (by decide) (show k ≤ 16 by omega)
            exact_mod_cast this
          have h4 : (1099511627776 : Int) * 2 ^ k ≤ 1099511627776 * 2 ^ 16 := Int.mul_le_mul_of_nonneg_left hp (by decide)
          exact ⟨OctMath.bd_overs HBD.out (by decide) k h1.2.1 (by omega), by omega, Int.mul_nonneg (by decide) (Int.pow_nonneg (by decide))⟩⟩
        go_wp2
        go_loopg [33] n2 (fun hh s33 wr => ∃ (i : Nat) (ii : Int), s33 = .int .i64 ii ∧ Aside0 (ii = (i : Int) ∧ i ≤ n2 ∧ n2 - i ≤ hh) ∧ Aside0 (FS w s Ao NN co D wr (lst n2 (mix (overs M0 k) k i 0))) ∧ Aside0 (∀ a, a < i → 0 ≤ over (overs M0 k) k a a))
        case atStart => exact ⟨0, 0, rfl, ⟨rfl, Nat.zero_le _, by omega⟩, ⟨by rw [lst_congr (fun a b _ _ => mix_zero a b)]; exact HF.out⟩, ⟨fun a ha => absurd ha (by omega)⟩⟩
        case round =>
          clear HF
          obtain ⟨i, ii, rfl, HII, HF, HPI⟩ := hrel
          by_cases hlt : i < n2
          · have f4 : decide (ii < nn) = true := decide_eq_true (by have := HN2.out; have := HII.out; have := HNV.out; omega)
            have HIL := Aside0.mk hlt
            have hN0 : 0 < NN := by rw [← HNN.out]; exact Nat.mul_pos (by omega) (by omega)
            obtain ⟨g, eg, hg1, hg2⟩ := hG.out hN0
            subst eg
            have HGG := Aside0.mk (And.intro hg1 hg2)
            clear hlt hG hg1 hg2 hN0
            go_wp2
            go_loopg [37] n2 (fun hh s37 wr => ∃ (j : Nat) (jj : Int), s37 = .int .i64 jj ∧ Aside0 (jj = (j : Int) ∧ j ≤ n2 ∧ n2 - j ≤ hh) ∧ Aside0 (FS w s (some ⟨g, 0, none⟩) NN co D wr (lst n2 (mix (overs M0 k) k i j))))
            case atStart => exact ⟨0, 0, rfl, ⟨rfl, Nat.zero_le _, by omega⟩, HF⟩
            case round =>
              clear HF
              obtain ⟨j, jj, rfl, HJJ, HF⟩ := hrel
              by_cases hlt : j < n2
              · have f5 : decide (jj < nn) = true := decide_eq_true (by have := HN2.out; have := HJJ.out; have := HNV.out; omega)
                have HJL := Aside0.mk hlt
                clear hlt
                obtain ⟨q1, hq1⟩ : ∃ q, IntKind.i64.wrap (ii * nn) = q := ⟨_, rfl⟩
                obtain ⟨p1, hp1⟩ : ∃ q, IntKind.i64.wrap (q1 + kk) = q := ⟨_, rfl⟩
                obtain ⟨q2, hq2⟩ : ∃ q, IntKind.i64.wrap (kk * nn) = q := ⟨_, rfl⟩
                obtain ⟨p2, hp2⟩ : ∃ q, IntKind.i64.wrap (q2 + jj) = q := ⟨_, rfl⟩
                obtain ⟨p3, hp3⟩ : ∃ q, IntKind.i64.wrap (q1 + jj) = q := ⟨_, rfl⟩
                have hq1w := (i64_w _).symm.trans hq1
                have hp3w := (i64_w _).symm.trans hp3
                have HP : Aside0 (p1 = ((i * n2 + k : Nat) : Int) ∧ p2 = ((k * n2 + j : Nat) : Int) ∧ p3 = ((i * n2 + j : Nat) : Int)) := ⟨by
                  have h1 := HKK.out.1; have h2 := HII.out.1; have h3 := HJJ.out.1; have h4 := HNV.out; have h5 := HN2.out; have h6 := HN.out
                  have l1 := HIL.out; have l2 := HKL.out; have l3 := HJL.out
                  have e1 : ii * nn = ((i * n2 : Nat) : Int) := by rw [h2, ← h4, h5]; push_cast; rfl
                  have e2 : kk * nn = ((k * n2 : Nat) : Int) := by rw [h1, ← h4, h5]; push_cast; rfl
                  have m1 : i * n2 ≤ 16 * 16 := Nat.mul_le_mul (by omega) (by omega)
                  have m2 : k * n2 ≤ 16 * 16 := Nat.mul_le_mul (by omega) (by omega)
                  rw [e1, IntKind.wrap_i64] at hq1
                  rw [e2, IntKind.wrap_i64] at hq2
                  rw [IntKind.wrap_i64] at hp1 hp2 hp3
                  have r1 : q1 = ((i * n2 : Nat) : Int) := by omega
                  have r2 : q2 = ((k * n2 : Nat) : Int) := by omega
                  clear e1 e2 hq1 hq2
                  subst r1 r2
                  refine ⟨?_, ?_, ?_⟩ <;> omega⟩
                have HPB : Aside0 ((0 ≤ p1 ∧ p1 < (NN : Int)) ∧ (0 ≤ p2 ∧ p2 < (NN : Int)) ∧ (0 ≤ p3 ∧ p3 < (NN : Int))) := ⟨by
                  have h := HP.out
                  have b1 := ij_lt HIL.out HKL.out; have b2 := ij_lt HKL.out HJL.out; have b3 := ij_lt HIL.out HJL.out
                  rw [HNN.out] at b1 b2 b3
                  omega⟩
                obtain ⟨x, hx⟩ : ∃ x, overs M0 k i k = x := ⟨_, rfl⟩
                obtain ⟨y, hy⟩ : ∃ y, overs M0 k k j = y := ⟨_, rfl⟩
                obtain ⟨z, hz⟩ : ∃ z, overs M0 k i j = z := ⟨_, rfl⟩
                obtain ⟨sm, hsm⟩ : ∃ sm, plus x y = sm := ⟨_, rfl⟩
                have HV : Aside0 (rd (lst n2 (mix (overs M0 k) k i j)) p1 = x ∧ rd (lst n2 (mix (overs M0 k) k i j)) p2 = y ∧ rd (lst n2 (mix (overs M0 k) k i j)) p3 = z) := ⟨by
                  have h := mix_reads HB.out.2.2 (by have := HB.out.2.1; omega) HB.out.1 HKL.out HIL.out HJL.out (HPOS.out k k (Nat.le_refl _) HKL.out)
                  rw [lst_rd HIL.out HKL.out HP.out.1, lst_rd HKL.out HJL.out HP.out.2.1, lst_rd HIL.out HJL.out HP.out.2.2, h.1, h.2.1, h.2.2]
                  exact ⟨hx, hy, hz⟩⟩
                have UP : Aside0 (∀ W, Calls Try.prog 57 #[.int .i64 x, .int .i64 y] W fun e w' => e = .returned (.int .i64 sm) ∧ Below W.heap.size W w') := ⟨fun W => bound_Up.calls x y sm W (by
                  rw [← hsm]; exact up_plus HB.out.2.2 (by have := HB.out.2.1; omega) (hx ▸ HB.out.1 i k HIL.out HKL.out) (hy ▸ HB.out.1 k j HKL.out HJL.out))⟩
                have HS : Aside0 (plus (overs M0 k i k) (overs M0 k k j) = sm ∧ overs M0 k i j = z) := ⟨by rw [hx, hy]; exact ⟨hsm, hz⟩⟩
                have hx1 : wr.cell? ⟨g, p1.toNat, none⟩ = some (.int .i64 x) := (Kd.R_celln 0 HF.out.row p1 HPB.out.1.1 HPB.out.1.2).1.trans (congrArg (fun v => some (Value.int .i64 v)) HV.out.1)
                have hy1 : wr.cell? ⟨g, p2.toNat, none⟩ = some (.int .i64 y) := (Kd.R_celln 0 HF.out.row p2 HPB.out.2.1.1 HPB.out.2.1.2).1.trans (congrArg (fun v => some (Value.int .i64 v)) HV.out.2.1)
                have cD := HF.out.box.cell
                have r10 := eq_true HPB.out.1.1
                have r11 := eq_true HPB.out.1.2
                have r20 := eq_true HPB.out.2.1.1
                have r21 := eq_true HPB.out.2.1.2
                have r30 := eq_true HPB.out.2.2.1
                have r31 := eq_true HPB.out.2.2.2
                clear hx hy hz hsm
                go_wp2
                go_region_held3 (fun w' => w'.cell? ⟨s, 0, none⟩ = some (.slice (some ⟨g, 0, none⟩) NN co) ∧ w'.cell? ⟨g, p1.toNat, none⟩ = some (.int .i64 x) ∧ w'.cell? ⟨g, p2.toNat, none⟩ = some (.int .i64 y)) (first | go_keep | exact KS)
                  (first | (go_at_call 57; (with_reducible refine (UP.out _).mono ?_); rintro e w1 ⟨rfl, hb⟩; have HF1 : Aside0 (FS w s (some ⟨g, 0, none⟩) NN co D w1 (lst n2 (mix (overs M0 k) k i j))) := ⟨(FS.next HF.out (below_drew (Below.refl _ _))).next hb⟩; have KS : w1.cell? ⟨s, 0, none⟩ = some (.slice (some ⟨g, 0, none⟩) NN co) ∧ w1.cell? ⟨g, p1.toNat, none⟩ = some (.int .i64 x) ∧ w1.cell? ⟨g, p2.toNat, none⟩ = some (.int .i64 y) := ⟨HF1.out.box.cell, (Kd.R_celln 0 HF1.out.row p1 HPB.out.1.1 HPB.out.1.2).1.trans (congrArg (fun v => some (Value.int .i64 v)) HV.out.1), (Kd.R_celln 0 HF1.out.row p2 HPB.out.2.1.1 HPB.out.2.1.2).1.trans (congrArg (fun v => some (Value.int .i64 v)) HV.out.2.1)⟩))
                have cD1 := HF1.out.box.cell
                obtain ⟨hz1, hf1⟩ := Kd.R_celln 0 HF1.out.row p3 HPB.out.2.2.1 HPB.out.2.2.2
                replace hz1 : w1.cell? ⟨g, p3.toNat, none⟩ = some (.int .i64 z) := hz1.trans (congrArg (fun v => some (Value.int .i64 v)) HV.out.2.2)
                clear KS hx1 hy1 cD UP
                have HW : Aside0 (wrap64 (jj + 1) = ((j + 1 : Nat) : Int)) := ⟨by have := HJJ.out; have := HN2.out; have := HN.out; unfold wrap64; omega⟩
                by_cases hlt : sm < z
                · have f6 : decide (sm < z) = true := decide_eq_true hlt
                  have HLT := Aside0.mk hlt
                  clear hlt
                  go_wp2
                  go_roundg (n2 - (j + 1))
                  case measure => have := HJJ.out; have := HJL.out; omega
                  case rel =>
                    refine ⟨j + 1, wrap64 (jj + 1), rfl, ⟨by have := HW.out; have := HJL.out; omega⟩, ⟨?_⟩⟩
                    have h1 := FS.put HF1.out HGG.out.1 HGG.out.2 (by have := HD.out; have := hS0.out; omega) p3 sm
                    have e : over (overs M0 k) k i j = sm := by have := HS.out; have h := HLT.out; rw [over_le_of (by rw [this.1, this.2]; exact h)]; exact this.1
                    rw [lst_set HIL.out HJL.out HP.out.2.2, ← e, lst_congr (fun a b _ _ => (mix_step a b).symm)] at h1
                    rw [e] at h1
                    exact h1
                · have f6 : decide (sm < z) = false := decide_eq_false hlt
                  have HLT := Aside0.mk hlt
                  clear hlt
                  go_wp2
                  go_roundg (n2 - (j + 1))
                  case measure => have := HJJ.out; have := HJL.out; omega
                  case rel =>
                    refine ⟨j + 1, wrap64 (jj + 1), rfl, ⟨by have := HW.out; have := HJL.out; omega⟩, ⟨?_⟩⟩
                    have h1 := HF1.out
                    have e : over (overs M0 k) k i j = overs M0 k i j := by have := HS.out; have h := HLT.out; exact over_ge_of (by rw [this.1, this.2]; omega)
                    rw [lst_congr (e := mix (overs M0 k) k i (j + 1)) (fun a b _ _ => by
                      rw [mix_step a b]
                      by_cases h : a = i ∧ b = j
                      · rw [if_pos h, e, h.1, h.2]; unfold mix; rw [if_neg (by omega)]
                      · rw [if_neg h])] at h1
                    exact h1
              · have f5 : decide (jj < nn) = false := decide_eq_false (by have := HN2.out; have := HJJ.out; have := HNV.out; omega)
                have ej : j = n2 := by have := HJJ.out; omega
                have HEJ := Aside0.mk ej
                clear hlt ej
                obtain ⟨q1, hq1⟩ : ∃ q, IntKind.i64.wrap (ii * nn) = q := ⟨_, rfl⟩
                obtain ⟨p4, hp4⟩ : ∃ q, IntKind.i64.wrap (q1 + ii) = q := ⟨_, rfl⟩
                have hq1w := (i64_w _).symm.trans hq1
                have hp4w := (i64_w _).symm.trans hp4
                have HP : Aside0 (p4 = ((i * n2 + i : Nat) : Int)) := ⟨by
                  have h2 := HII.out.1; have h4 := HNV.out; have h5 := HN2.out; have h6 := HN.out
                  have l1 := HIL.out
                  have e1 : ii * nn = ((i * n2 : Nat) : Int) := by rw [h2, ← h4, h5]; push_cast; rfl
                  have m1 : i * n2 ≤ 16 * 16 := Nat.mul_le_mul (by omega) (by omega)
                  rw [e1, IntKind.wrap_i64] at hq1
                  rw [IntKind.wrap_i64] at hp4
                  have r1 : q1 = ((i * n2 : Nat) : Int) := by omega
                  clear e1 hq1
                  subst r1
                  omega⟩
                have HPB : Aside0 (0 ≤ p4 ∧ p4 < (NN : Int)) := ⟨by
                  have h := HP.out
                  have b1 := ij_lt HIL.out HIL.out
                  rw [HNN.out] at b1
                  omega⟩
                obtain ⟨x, hx⟩ : ∃ x, over (overs M0 k) k i i = x := ⟨_, rfl⟩
                have HV : Aside0 (rd (lst n2 (mix (overs M0 k) k i j)) p4 = x) := ⟨by
                  rw [lst_rd HIL.out HIL.out HP.out, ← hx, HEJ.out]; unfold mix; rw [if_pos (.inr ⟨rfl, HIL.out⟩)]⟩
                have hx1 : wr.cell? ⟨g, p4.toNat, none⟩ = some (.int .i64 x) := (Kd.R_celln 0 HF.out.row p4 HPB.out.1 HPB.out.2).1.trans (congrArg (fun v => some (Value.int .i64 v)) HV.out)
                have cD := HF.out.box.cell
                have r10 := eq_true HPB.out.1
                have r11 := eq_true HPB.out.2
                have HX := Aside0.mk hx
                clear hx
                by_cases hlt : x < 0
                · have f6 : decide (x < 0) = true := decide_eq_true hlt
                  have HLT := Aside0.mk hlt
                  clear hlt
                  go_wp2
                  refine ⟨by simp, .inl ⟨_, _, rfl, run_takeDeferred HF.out.dfr, ?_⟩⟩
                  have hbad : floydB n2 M0 = false := floydB_false.2 (fun h => by
                    have h1 := h (k + 1) i HKL.out HIL.out
                    have h2 := HX.out
                    have h3 := HLT.out
                    have h4 : overs M0 (k + 1) i i = over (overs M0 k) k i i := rfl
                    omega)
                  refine ⟨_, results_tmp2 rfl _ _ _, .slice none 0 0, ?_, ?_, ?_⟩
                  · rw [hbad]; rfl
                  · unfold floydL; rw [hbad]; exact Kd.R_nil _ _ _ _ _
                  · exact HF.out.below.trans (belowK_b (w := w) (Nat.le_refl _) _ D _ _ (by have := HD.out; have := hS0.out; have := HGG.out; omega) HF.out.dfr rfl rfl)
                · have f6 : decide (x < 0) = false := decide_eq_false hlt
                  have HLT := Aside0.mk hlt
                  clear hlt
                  go_wp2
                  go_roundg (n2 - (i + 1))
                  case measure => have := HII.out; have := HIL.out; omega
                  case rel =>
                    have hw : wrap64 (ii + 1) = ii + 1 := by have := HII.out; have := HN2.out; have := HN.out; unfold wrap64; omega
                    refine ⟨i + 1, wrap64 (ii + 1), rfl, ⟨by have := HII.out; have := HIL.out; omega⟩, ⟨?_⟩, ⟨?_⟩⟩
                    · have h1 := HF.out
                      rw [HEJ.out, lst_congr (fun a b _ hb => mix_row a b hb)] at h1
                      exact h1
                    · intro a ha
                      by_cases e : a = i
                      · subst e; have := HX.out; have := HLT.out; omega
                      · exact HPI.out a (by omega)
          · have f4 : decide (ii < nn) = false := decide_eq_false (by have := HN2.out; have := HII.out; have := HNV.out; omega)
            have ei : i = n2 := by have := HII.out; omega
            have HEI := Aside0.mk ei
            clear hlt ei
            go_wp2
            have hkw : wrap64 (kk + 1) = kk + 1 := by have := HKK.out; have := HN2.out; have := HN.out; unfold wrap64; omega
            go_roundg (n2 - (k + 1))
            case measure => have := HKK.out; have := HKL.out; omega
            case rel =>
              refine ⟨k + 1, wrap64 (kk + 1), rfl, ⟨by have := HKK.out; have := HKL.out; omega⟩, ⟨?_⟩, ⟨?_⟩⟩
              · have := HF.out
                rw [HEI.out, lst_congr (fun a b ha _ => mix_all a b ha)] at this
                exact this
              · intro t a ht ha
                by_cases e : t ≤ k
                · exact HPOS.out t a e ha
                · obtain rfl : t = k + 1 := by omega
                  exact HPI.out a (by have := HEI.out; omega)
      · have f3 : decide (kk < nn) = false := decide_eq_false (by have := HN2.out; have := HKK.out; have := HNV.out; omega)
        have ek : k = n2 := by have := HKK.out; omega
        have HEK := Aside0.mk ek
        clear hlt ek
        have cD := HF.out.box.cell
        go_wp2
        refine ⟨by simp, .inl ⟨_, _, rfl, run_takeDeferred HF.out.dfr, ?_⟩⟩
        have hgood : floydB n2 M0 = true := floydB_true.2 (fun t i ht hi => HPOS.out t i (by have := HEK.out; omega) hi)
        refine ⟨_, results_tmp2 rfl _ _ _, .slice Ao NN co, ?_, ?_, ?_⟩
        · rw [hgood]; rfl
        · unfold floydL; rw [if_pos hgood]
          have h1 := HF.out.row
          rw [HEK.out] at h1
          exact Kd.R_mono (Kd.R_grown h1 (grownBy_putObj' _ D (.deferred none)) (fun k hk e => by cases e; have := HD.out; have := hS0.out; omega)) (fun _ _ => trivial)
        · exact HF.out.below.trans (belowK_b (w := w) (Nat.le_refl _) _ D _ _ (by have := HD.out; have := hS0.out; omega) HF.out.dfr rfl rfl)
  case stop =>
    rintro D c' pre W _ _ h _
    exact h.elim
end Go.Proofs.Ytomgebmimgaojaa.QO
end
end
section
/- Written by a program of this session out of the translation. -/
noncomputable section
namespace Go.Proofs.Ytomgebmimgaojaa.QO
open Go.RowKit Go.Proofs.YtomgebmimgaojaaW.PrintWords Go.Proofs.YtomgebmimgaojaaW.PrintLast
set_option linter.unusedVariables false
set_option linter.unusedSimpArgs false
/-! ### slices_Clone_int_int: function 47 -/
def slices_Clone_int_int.f (l0 : List Int) : Option (List Int) := if l0.length < 17592186044416 then some l0 else none
theorem R_lit_nil (W : World) (e : Nat) : Kd.R (Kd.int .i64) e (W.alloc (.cells #[] e)) W.heap.size (fun _ => True) (.slice (some ⟨W.heap.size, 0, none⟩) 0 0) [] := by
 have h := own_lit_of (enc := Value.int .i64) W W.heap.size e [] (Nat.le_refl _) (by simp)
 exact Kd.R_of_own (h1 := fun _ => rfl) h (fun _ _ => trivial)
set_option maxHeartbeats 8000000 in
set_option maxRecDepth 100000 in
theorem slices_Clone_int_int.calls (A0 : Option Addr) (c0 : Nat) (l0 : List Int) (r : List Int) (w : World) (hr0 : Kd.C (Kd.int .i64) w A0 l0.length l0) (hc0 : l0.length ≤ c0) (h : slices_Clone_int_int.f l0 = some r) :
 Calls Try.prog 47 #[.slice A0 l0.length c0] w fun e w' => ∃ v0_ : Value, e = .returned (v0_) ∧ Kd.R (Kd.int .i64) 3 w' w.heap.size (fun _ => True) v0_ r ∧ Below w.heap.size w w' := by
 have HR0 := Aside0.mk hr0
 have HB := Aside0.mk (Below.refl w.heap.size w)
 clear hc0
 unfold slices_Clone_int_int.f at h
 by_cases c2 : l0.length < 17592186044416
 ·
  rw [if_pos c2] at h
  obtain rfl := Option.some.inj h
  have LM := Aside0.mk c2
  clear h c2
  have qT : ∀ (w : World) (a : Option Addr) (n c n' c' : Nat), (binOp .eql 22 (.slice a n c) (.slice none n' c')).run Try.prog w = .ok (.bool a.isNone) w := fun w a n c n' c' => Lib.run_eql_slice_nil w _ _ a n c n' c' Try.underlying22
  cases A0 with
  | none =>
   have hl : l0 = [] := by
    obtain ⟨h1, _, h2⟩ := hr0
    by_cases hz : 0 < l0.length
    ·
     obtain ⟨ad, e, _⟩ := h2 hz; cases e
    ·
     exact List.eq_nil_of_length_eq_zero (by omega)
   subst hl
   clear hr0
   go_enter Try.func47, Try.ntmps47
   go_wp2
   go_ret
   exact ⟨_, rfl, Kd.R_nil _ _ _ _ _, HB.out⟩
  | some ad =>
   clear hr0
   go_enter Try.func47, Try.ntmps47
   go_wp2_with (first | ((with_reducible refine gate_builtin (b := .append) (xs := #[.tmp 5, .tmp 6]) rfl ?_); at_builtin; refine Kd.R_append_rows (Kd.int .i64) (w0 := w) w.heap.size rfl (.tmp 5) (.tmp 6) 22 3 (.int .i64 0) 8 rfl Try.underlying22 info3 rfl (by decide) (by omega) (.slice (some ⟨w.heap.size, 0, none⟩) 0 0) ([] : List Int) l0 _ _ _ (fun _ => True) (fun _ => False) rfl rfl ?aO ?aR (fun _ _ h => h) (fun _ h => h.elim) ?aF ?aB ?aS ?aL ?_; (case aR => exact Kd.C_alloc HR0.out _); (case aB => exact (by repeat (first | (with_reducible first | exact HB.out | apply below_alloc | apply pw_below_drewN | apply below_drew1) | exact HB.out))); (case aF => exact (fun _ _ => trivial)); (case aO => exact R_lit_nil _ _); (case aS => exact (below_size (by repeat (first | (with_reducible first | exact HB.out | apply below_alloc | apply pw_below_drewN | apply below_drew1) | exact HB.out)))); (case aL => have := LM.out; rw [List.length_nil]; omega); intro v174 w3 ho hb hg hat; have n0_ := Aside0.mk (hb); have n1_ := Aside0.mk (ho); clear HB; have HB := n0_; have HO := n1_; clear n0_ n1_; clear ho hb hg hat))
   go_ret
   exact ⟨_, rfl, HO.out, HB.out⟩
 ·
  rw [if_neg c2] at h
  exact absurd h (by simp)
end Go.Proofs.Ytomgebmimgaojaa.QO
end
end
section
/- Written by a program of this session out of the translation. -/
noncomputable section
namespace Go.Proofs.Ytomgebmimgaojaa.QO
open Go.RowKit Go.Proofs.YtomgebmimgaojaaW.PrintWords Go.Proofs.YtomgebmimgaojaaW.PrintLast
set_option linter.unusedVariables false
set_option linter.unusedSimpArgs false
/-! ### oct_Bottom: function 14 -/
def oct_Bottom.f (l0 : List Int) : Option (List Int × List Int × Bool) := (oct_may.f l0).bind fun t115 => (if t115 = true then ((slices_Clone_int_int.f l0).bind fun t116 => (some (t116, ([] : List Int), true))) else (some (([] : List Int), ([] : List Int), false)))
set_option maxHeartbeats 8000000 in
set_option maxRecDepth 100000 in
theorem oct_Bottom.calls (A0 : Option Addr) (c0 : Nat) (l0 : List Int) (r1 : List Int) (r2 : List Int) (r3 : Bool) (w : World) (hr0 : Kd.C (Kd.int .i64) w A0 l0.length l0) (hc0 : l0.length ≤ c0) (h : oct_Bottom.f l0 = some (r1, r2, r3)) :
 Calls Try.prog 14 #[.slice A0 l0.length c0] w fun e w' => ∃ v0_ v1_ : Value, e = .returned (.agg #[v0_, v1_, .bool r3]) ∧ Kd.R (Kd.int .i64) 3 w' w.heap.size (fun _ => True) v0_ r1 ∧ Kd.R (Kd.int .i64) 2 w' w.heap.size (fun _ => True) v1_ r2 ∧ Below w.heap.size w w' := by
 have hu25 := Try.underlying25
 have HR0 := Aside0.mk hr0
 have HC0 := Aside0.mk hc0
 clear hr0 hc0
 have HB := Aside0.mk (Below.refl w.heap.size w)
 have H : ((oct_may.f l0).bind fun t115 => (if t115 = true then ((slices_Clone_int_int.f l0).bind fun t116 => (some (t116, ([] : List Int), true))) else (some (([] : List Int), ([] : List Int), false)))) = some (r1, r2, r3) := h
 clear h
 replace H := Option.bind_eq_some_iff.mp H
 obtain ⟨t115, A20, H⟩ := H
 replace H : (if t115 = true then ((slices_Clone_int_int.f l0).bind fun t116 => (some (t116, ([] : List Int), true))) else (some (([] : List Int), ([] : List Int), false))) = some (r1, r2, r3) := H
 have A2 := Aside0.mk A20
 clear A20
 by_cases c3 : t115 = true
 ·
  subst c3
  have H1 : ((slices_Clone_int_int.f l0).bind fun t116 => (some (t116, ([] : List Int), true))) = some (r1, r2, r3) := by rw [if_pos rfl] at H; exact H
  clear H
  have H := H1
  clear H1
  replace H := Option.bind_eq_some_iff.mp H
  obtain ⟨t116, A40, H⟩ := H
  replace H : (some (t116, ([] : List Int), true)) = some (r1, r2, r3) := H
  have A4 := Aside0.mk A40
  clear A40
  simp only [Option.some.injEq, Prod.mk.injEq] at H
  obtain ⟨rfl, rfl, rfl⟩ := H
  go_enter Try.func14, Try.ntmps14
  go_wp2_with (first | ((with_reducible refine gate_dst (N := 2) rfl ?_); refine box_event ?hg (N := 2) ?hd (cs := #[.slice none 0 0, .slice none 0 0, .bool false]) (t := 25) ?hr ?_; (case hd => rfl); (case hg => rfl); (case hr => first | (go_simp; done) | (go_simp; rfl)); intro gb114 hg w5 hbox hb; have BK114 := Aside0.mk (hbox); have GW114 := vS hg HB; have GE114 := vS hg HB; replace HB := vWs HB hb; clear hb hbox hg) | ((with_reducible refine gate_callee (f := 46) rfl ?_); refine goesL_ (some 4) rfl rfl Try.func46 (by kernel_rfl) rfl #[.slice A0 l0.length c0] rfl vL ?_; (with_reducible refine (oct_may.calls _ _ l0 true _ ?side1 ?side2 A2.out).mono ?_); (case side1 => exact vC (Kd.C_below HR0.out HB.out)); (case side2 => exact HC0.out); rintro e w' ⟨rfl, ⟨nd, rfl⟩⟩; refine ⟨_, rfl, ?_⟩; (try (rw [drewN_self w5]; generalize hq_ : World.drewN w5 _ = w5; have n0_ : Aside0 (w5.heap[gb114]? = some (.cells #[.slice none 0 0, .slice none 0 0, .bool false] 25 (0, 0))) := ⟨by rw [← hq_]; exact (vB BK114.out)⟩; have n1_ : Aside0 (Below w.heap.size w w5) := ⟨by rw [← hq_]; exact (vW HB.out)⟩; clear BK114 HB hq_; have BK114 := n0_; have HB := n1_; clear n0_ n1_))) | ((with_reducible refine gate_callee (f := 47) rfl ?_); refine goesL_ (some 8) rfl rfl Try.func47 (by kernel_rfl) rfl #[.slice A0 l0.length c0] rfl vL ?_; (with_reducible refine (slices_Clone_int_int.calls _ _ l0 t116 _ ?side1 ?side2 A4.out).mono ?_); (case side1 => exact vC (Kd.C_below HR0.out HB.out)); (case side2 => exact HC0.out); rintro e w6 ⟨v117, rfl, ho0, hb⟩; refine ⟨_, rfl, ?_⟩; have HO118 := Aside0.mk (Kd.R_lower ho0 (below_size (vW HB.out))); replace BK114 := vBb BK114 hb; replace HB := vWs HB hb; (try clear hb); (try clear hb2); (try clear hk); (try clear hi); (try clear ho0); obtain ⟨Ao7, co7, eo7⟩ := Kd.R_slice HO118.out; subst eo7; obtain ⟨hcz8_0, hcz8_1, hcz8_2, hfz8_0, hfz8_1, hfz8_2⟩ := vF3 BK114.out))
  refine bodyPost_ret (results_cell_row rfl _ _ gb114 25 #[.slice Ao7 t116.length co7, .slice none 0 0, .bool true] (0, 0) _ rfl (by (with_reducible repeat (first | refine blk_drewN ?_ _ | refine blk_drew ?_ | refine blk_alloc ?_ _)); refine blk_put (cs := #[.slice Ao7 t116.length co7, .slice none 0 0, .bool false]) ?_ 2 _ rfl; (with_reducible repeat (first | refine blk_drewN ?_ _ | refine blk_drew ?_ | refine blk_alloc ?_ _)); refine blk_put (cs := #[.slice Ao7 t116.length co7, .slice none 0 0, .bool false]) ?_ 1 _ rfl; (with_reducible repeat (first | refine blk_drewN ?_ _ | refine blk_drew ?_ | refine blk_alloc ?_ _)); refine blk_put (cs := #[.slice none 0 0, .slice none 0 0, .bool false]) ?_ 0 _ rfl; (with_reducible repeat (first | refine blk_drewN ?_ _ | refine blk_drew ?_ | refine blk_alloc ?_ _)); exact BK114.out) Try.underlying25 rfl (by kernel_rfl)) rfl ?_
  exact ⟨_, _, by first | rfl | (simp [errW_none, errW_some] <;> rfl) | (simp [*, errW_none, errW_some] <;> rfl) | (simp [wrap64]; done), by (with_reducible repeat (first | apply Kd.R_alloc | apply Kd.R_drewN | apply Kd.R_drew)); exact Kd.R_mono (Kd.R_far (p := ⟨gb114, 2, none⟩) (Kd.R_far (p := ⟨gb114, 1, none⟩) (Kd.R_far (p := ⟨gb114, 0, none⟩) (Kd.R_types HO118.out BK114.out (by decide)) (fun _ hk => hk.2) (.slice Ao7 t116.length co7)) (fun _ hk => hk.2) (.slice none 0 0)) (fun _ hk => hk.2) (.bool true)) (fun _ hk => trivial), by first | exact Kd.R_nil _ _ _ _ _ | exact Kd.N_nil _ _ _ _ _ | exact Kd.V_nil _ _ _ _ _ | exact Kd.Q_nil _ _ _ _ _ | exact Kd.S_nil _ _ _ _ _, vW HB.out⟩
 ·
  replace c3 := Bool.eq_false_iff.mpr c3
  subst c3
  have H1 : (some (([] : List Int), ([] : List Int), false)) = some (r1, r2, r3) := by rw [if_neg (show ¬ (false = true) by decide)] at H; exact H
  clear H
  have H := H1
  clear H1
  simp only [Option.some.injEq, Prod.mk.injEq] at H
  obtain ⟨rfl, rfl, rfl⟩ := H
  go_enter Try.func14, Try.ntmps14
  go_wp2_with (first | ((with_reducible refine gate_dst (N := 2) rfl ?_); refine box_event ?hg (N := 2) ?hd (cs := #[.slice none 0 0, .slice none 0 0, .bool false]) (t := 25) ?hr ?_; (case hd => rfl); (case hg => rfl); (case hr => first | (go_simp; done) | (go_simp; rfl)); intro gb114 hg w9 hbox hb; have BK114 := Aside0.mk (hbox); have GW114 := vS hg HB; have GE114 := vS hg HB; replace HB := vWs HB hb; clear hb hbox hg) | ((with_reducible refine gate_callee (f := 46) rfl ?_); refine goesL_ (some 4) rfl rfl Try.func46 (by kernel_rfl) rfl #[.slice A0 l0.length c0] rfl vL ?_; (with_reducible refine (oct_may.calls _ _ l0 false _ ?side1 ?side2 A2.out).mono ?_); (case side1 => exact vC (Kd.C_below HR0.out HB.out)); (case side2 => exact HC0.out); rintro e w' ⟨rfl, ⟨nd, rfl⟩⟩; refine ⟨_, rfl, ?_⟩; (try (rw [drewN_self w9]; generalize hq_ : World.drewN w9 _ = w9; have n0_ : Aside0 (w9.heap[gb114]? = some (.cells #[.slice none 0 0, .slice none 0 0, .bool false] 25 (0, 0))) := ⟨by rw [← hq_]; exact (vB BK114.out)⟩; have n1_ : Aside0 (Below w.heap.size w w9) := ⟨by rw [← hq_]; exact (vW HB.out)⟩; clear BK114 HB hq_; have BK114 := n0_; have HB := n1_; clear n0_ n1_)); obtain ⟨hcz10_0, hcz10_1, hcz10_2, hfz10_0, hfz10_1, hfz10_2⟩ := vF3 BK114.out))
  refine bodyPost_ret (results_cell_row rfl _ _ gb114 25 #[.slice none 0 0, .slice none 0 0, .bool false] (0, 0) _ rfl (by (with_reducible repeat (first | refine blk_drewN ?_ _ | refine blk_drew ?_ | refine blk_alloc ?_ _)); refine blk_put (cs := #[.slice none 0 0, .slice none 0 0, .bool false]) ?_ 2 _ rfl; (with_reducible repeat (first | refine blk_drewN ?_ _ | refine blk_drew ?_ | refine blk_alloc ?_ _)); refine blk_put (cs := #[.slice none 0 0, .slice none 0 0, .bool false]) ?_ 1 _ rfl; (with_reducible repeat (first | refine blk_drewN ?_ _ | refine blk_drew ?_ | refine blk_alloc ?_ _)); refine blk_put (cs := #[.slice none 0 0, .slice none 0 0, .bool false]) ?_ 0 _ rfl; (with_reducible repeat (first | refine blk_drewN ?_ _ | refine blk_drew ?_ | refine blk_alloc ?_ _)); exact BK114.out) Try.underlying25 rfl (by kernel_rfl)) rfl ?_
  exact ⟨_, _, by first | rfl | (simp [errW_none, errW_some] <;> rfl) | (simp [*, errW_none, errW_some] <;> rfl) | (simp [wrap64]; done), by first | exact Kd.R_nil _ _ _ _ _ | exact Kd.N_nil _ _ _ _ _ | exact Kd.V_nil _ _ _ _ _ | exact Kd.Q_nil _ _ _ _ _ | exact Kd.S_nil _ _ _ _ _, by first | exact Kd.R_nil _ _ _ _ _ | exact Kd.N_nil _ _ _ _ _ | exact Kd.V_nil _ _ _ _ _ | exact Kd.Q_nil _ _ _ _ _ | exact Kd.S_nil _ _ _ _ _, vW HB.out⟩
end Go.Proofs.Ytomgebmimgaojaa.QO
end
end
section
/- Written by a program of this session out of the translation. -/
noncomputable section
namespace Go.Proofs.Ytomgebmimgaojaa.QO
open Go.RowKit Go.Proofs.YtomgebmimgaojaaW.PrintWords Go.Proofs.YtomgebmimgaojaaW.PrintLast
set_option linter.unusedVariables false
set_option linter.unusedSimpArgs false
/-! ### bound_kind: function 82 -/
def bound_kind.f (a0 : Int) : Option (Int) := if a0 ≥ 4611686018427387904 then (some 1) else (if a0 ≤ (-4611686018427387904) then (some (-1)) else (some 0))
set_option maxHeartbeats 8000000 in
set_option maxRecDepth 100000 in
theorem bound_kind.calls (a0 : Int) (r : Int) (w : World) (h : bound_kind.f a0 = some r) :
 Calls Try.prog 82 #[.int .i64 a0] w fun e w' => e = .returned (.int .i64 r) ∧ Drawn0 w w' := by
 have H : (if a0 ≥ 4611686018427387904 then (some 1) else (if a0 ≤ (-4611686018427387904) then (some (-1)) else (some 0))) = some r := h
 clear h
 by_cases c2 : a0 ≥ 4611686018427387904
 ·
  rw [if_pos c2] at H
  have c2b0 : decide (4611686018427387904 ≤ a0) = true := decide_eq_true c2
  clear c2
  obtain rfl := Option.some.inj H
  go_enter Try.func82, Try.ntmps82
  go_wp2
  go_ret
  exact ⟨by first | rfl | (simp; done) | (simp [*]; done), by repeat (first | exact Drawn0.refl _ | apply Drawn0.step)⟩
 ·
  rw [if_neg c2] at H
  have c2b0 : decide (4611686018427387904 ≤ a0) = false := decide_eq_false c2
  clear c2
  by_cases c3 : a0 ≤ (-4611686018427387904)
  ·
   rw [if_pos c3] at H
   have c3b0 : decide (a0 ≤ (-4611686018427387904)) = true := decide_eq_true c3
   clear c3
   obtain rfl := Option.some.inj H
   go_enter Try.func82, Try.ntmps82
   go_wp2
   go_ret
   exact ⟨by first | rfl | (simp; done) | (simp [*]; done), by repeat (first | exact Drawn0.refl _ | apply Drawn0.step)⟩
  ·
   rw [if_neg c3] at H
   have c3b0 : decide (a0 ≤ (-4611686018427387904)) = false := decide_eq_false c3
   clear c3
   obtain rfl := Option.some.inj H
   go_enter Try.func82, Try.ntmps82
   go_wp2
   go_ret
   exact ⟨by first | rfl | (simp; done) | (simp [*]; done), by repeat (first | exact Drawn0.refl _ | apply Drawn0.step)⟩
end Go.Proofs.Ytomgebmimgaojaa.QO
end
end
section
/- Written by a program of this session out of the translation. -/
noncomputable section
namespace Go.Proofs.Ytomgebmimgaojaa.QO
open Go.RowKit Go.Proofs.YtomgebmimgaojaaW.PrintWords Go.Proofs.YtomgebmimgaojaaW.PrintLast
set_option linter.unusedVariables false
set_option linter.unusedSimpArgs false
/-! ### bound_Half: function 56 -/
def bound_Half.f (a0 : Int) : Option (Int) := (bound_kind.f a0).bind fun t229 => (if t229 = 0 then (some (a0 / 2)) else ((bound_Fit.f a0).bind fun t230 => (some t230)))
set_option maxHeartbeats 8000000 in
set_option maxRecDepth 100000 in
theorem bound_Half.calls (a0 : Int) (r : Int) (w : World) (h : bound_Half.f a0 = some r) :
 Calls Try.prog 56 #[.int .i64 a0] w fun e w' => e = .returned (.int .i64 r) ∧ Drawn0 w w' := by
 have H : ((bound_kind.f a0).bind fun t229 => (if t229 = 0 then (some (a0 / 2)) else ((bound_Fit.f a0).bind fun t230 => (some t230)))) = some r := h
 clear h
 replace H := Option.bind_eq_some_iff.mp H
 obtain ⟨t229, A20, H⟩ := H
 replace H : (if t229 = 0 then (some (a0 / 2)) else ((bound_Fit.f a0).bind fun t230 => (some t230))) = some r := H
 have A2 := Aside0.mk A20
 clear A20
 by_cases c3 : t229 = 0
 ·
  rw [if_pos c3] at H
  have c3b0 : (t229 == 0) = true := beq_iff_eq.mpr c3
  have c3b1 : (t229 != 0) = false := bne_eq_false_iff_eq.mpr c3
  clear c3
  obtain rfl := Option.some.inj H
  go_enter Try.func56, Try.ntmps56
  go_wp2_with (first | ((with_reducible refine gate_callee (f := 82) rfl ?_); refine goesL_ (some 4) rfl rfl Try.func82 (by kernel_rfl) rfl #[.int .i64 a0] rfl (by (try simp only [List.map_toArray, List.map_cons, List.map_nil]); first | done | rfl | (simp only [List.length_drop, List.length_take]; rfl)) ?_; (with_reducible refine (bound_kind.calls a0 t229 _ A2.out).mono ?_); rintro e w' ⟨rfl, ⟨nd, rfl⟩⟩; refine ⟨_, rfl, ?_⟩))
  go_ret
  exact ⟨by first | rfl | (simp; done) | (simp [*]; done), by repeat (first | exact Drawn0.refl _ | apply Drawn0.step)⟩
 ·
  rw [if_neg c3] at H
  have c3b0 : (t229 == 0) = false := beq_eq_false_iff_ne.mpr c3
  have c3b1 : (t229 != 0) = true := bne_iff_ne.mpr c3
  replace H := Option.bind_eq_some_iff.mp H
  obtain ⟨t230, A40, H⟩ := H
  replace H : (some t230) = some r := H
  have A4 := Aside0.mk A40
  clear A40
  obtain rfl := Option.some.inj H
  go_enter Try.func56, Try.ntmps56
  go_wp2_with (first | ((with_reducible refine gate_callee (f := 82) rfl ?_); refine goesL_ (some 4) rfl rfl Try.func82 (by kernel_rfl) rfl #[.int .i64 a0] rfl (by (try simp only [List.map_toArray, List.map_cons, List.map_nil]); first | done | rfl | (simp only [List.length_drop, List.length_take]; rfl)) ?_; (with_reducible refine (bound_kind.calls a0 t229 _ A2.out).mono ?_); rintro e w' ⟨rfl, ⟨nd, rfl⟩⟩; refine ⟨_, rfl, ?_⟩) | ((with_reducible refine gate_callee (f := 83) rfl ?_); refine goesL_ (some 7) rfl rfl Try.func83 (by kernel_rfl) rfl #[.int .i64 a0] rfl (by (try simp only [List.map_toArray, List.map_cons, List.map_nil]); first | done | rfl | (simp only [List.length_drop, List.length_take]; rfl)) ?_; (with_reducible refine (bound_Fit.calls a0 t230 _ A4.out).mono ?_); rintro e w' ⟨rfl, ⟨nd, rfl⟩⟩; refine ⟨_, rfl, ?_⟩))
  go_ret
  exact ⟨by first | rfl | (simp; done) | (simp [*]; done), by repeat (first | exact Drawn0.refl _ | apply Drawn0.step)⟩
end Go.Proofs.Ytomgebmimgaojaa.QO
end
end
section
/- Written by a program of this session out of the translation. -/
noncomputable section
namespace Go.Proofs.Ytomgebmimgaojaa.QO
open Go.RowKit Go.Proofs.YtomgebmimgaojaaW.PrintWords Go.Proofs.YtomgebmimgaojaaW.PrintLast
set_option linter.unusedVariables false
set_option linter.unusedSimpArgs false
/-! ### oct_clip: function 58 -/
def oct_clip.f (a0 : Int) : Option (Int) := if a0 > 1099511627776 then (some 4611686018427387904) else (some (mx a0 (-1099511627776)))
set_option maxHeartbeats 8000000 in
set_option maxRecDepth 100000 in
theorem oct_clip.calls (a0 : Int) (r : Int) (w : World) (h : oct_clip.f a0 = some r) :
 Calls Try.prog 58 #[.int .i64 a0] w fun e w' => e = .returned (.int .i64 r) ∧ Below w.heap.size w w' := by
 have HB := Aside0.mk (Below.refl w.heap.size w)
 have H : (if a0 > 1099511627776 then (some 4611686018427387904) else (some (mx a0 (-1099511627776)))) = some r := h
 clear h
 by_cases c2 : a0 > 1099511627776
 ·
  rw [if_pos c2] at H
  have c2b0 : decide (1099511627776 < a0) = true := decide_eq_true c2
  clear c2
  obtain rfl := Option.some.inj H
  go_enter Try.func58, Try.ntmps58
  go_wp2
  go_ret
  exact ⟨by first | rfl | (simp [errW_none, errW_some] <;> rfl) | (simp [*, errW_none, errW_some] <;> rfl) | (simp [wrap64]; done), by repeat (first | (with_reducible first | exact HB.out | apply below_alloc | apply pw_below_drewN | apply below_drew1) | exact HB.out)⟩
 ·
  rw [if_neg c2] at H
  have c2b0 : decide (1099511627776 < a0) = false := decide_eq_false c2
  clear c2
  obtain ⟨ji3, hji3⟩ : ∃ j_ : Int, (mx a0 (-1099511627776)) = j_ := ⟨_, rfl⟩
  replace H : (some ji3) = some r := by first | (rw [hji3] at H; exact H) | (simp only [hji3] at H ⊢; exact H)
  have hji3_ : (if a0 < (-1099511627776) then (-1099511627776) else a0) = ji3 := hji3
  obtain rfl := Option.some.inj H
  go_enter Try.func58, Try.ntmps58
  go_wp2
  go_ret
  exact ⟨by first | rfl | (simp [errW_none, errW_some] <;> rfl) | (simp only [← hji3]; first | rfl | (simp [errW_none, errW_some] <;> rfl)) | (simp [*, errW_none, errW_some] <;> rfl) | (simp [wrap64]; done), by repeat (first | (with_reducible first | exact HB.out | apply below_alloc | apply pw_below_drewN | apply below_drew1) | exact HB.out)⟩
end Go.Proofs.Ytomgebmimgaojaa.QO
end
end
section
/- oct.Close: what it computes, in functions of two numbers, and the walk through it. -/
noncomputable section
namespace Go.Proofs.Ytomgebmimgaojaa.QO
open Go.RowKit Go.Shelf Go.Proofs.YtomgebmimgaojaaW.PrintWords Go.Proofs.YtomgebmimgaojaaW.PrintLast Go.Proofs.YtomgebmimgaojaaW.PrintMore
open OctMath (over overs plus Bd Fin' Top62)
attribute [local go_sem] max2_int min2_int max_two min_two max_three min_three max_four min_four
attribute [local go_sem ↓] Go.wp_at_zero Go.wp_at_succ
set_option linter.unusedVariables false
set_option linter.unusedSimpArgs false
/-- the node with the other sign -/
def nb (i : Nat) : Nat := if i % 2 = 0 then i + 1 else i - 1
theorem nb_lt {i n : Nat} (h : i < 2 * n) : nb i < 2 * n := by unfold nb; split <;> omega
theorem nbar_nb (i : Nat) : nbar (i : Int) = ((nb i : Nat) : Int) := by unfold nbar nb; split <;> split <;> omega
theorem nb_nb (i : Nat) : nb (nb i) = i := by
  unfold nb; by_cases h : i % 2 = 0
  · rw [if_pos h, if_neg (by omega)]; omega
  · rw [if_neg h, if_pos (by omega)]; omega
theorem nb_ne (i : Nat) : nb i ≠ i := by unfold nb; split <;> omega
/-- half of a bound, rounded down -/
def half (a : Int) : Int := if a = 4611686018427387904 then a else a / 2
theorem half_half {a : Int} (h : Fin' 1152921504606846976 a) : bound_Half.f a = some (half a) := by
  unfold bound_Half.f bound_kind.f bound_Fit.f half
  unfold Fin' at h
  by_cases e : a = 4611686018427387904
  · subst e; rfl
  · rw [if_neg (by omega), if_neg (by omega), if_neg e]; rfl
/-- an entry brought into its bounds -/
def clipV (x : Int) : Int := if x > 1099511627776 then 4611686018427387904 else if x < -1099511627776 then -1099511627776 else x
theorem clip_clip (x : Int) : oct_clip.f x = some (clipV x) := by
  unfold oct_clip.f clipV mx
  by_cases e : x > 1099511627776
  · rw [if_pos e, if_pos e]
  · rw [if_neg e, if_neg e]
/-- the bounds of a scalar alone are even -/
def tig (d : Nat → Nat → Int) : Nat → Nat → Int := fun i j => if j = nb i then (if d i j = 4611686018427387904 then 4611686018427387904 else 2 * (d i j / 2)) else d i j
/-- by way of the scalars' own bounds -/
def strg (t : Nat → Nat → Int) : Nat → Nat → Int := fun i j => mn (t i j) (half (plus (t i (nb i)) (t (nb j) j)))
def StrOk (n : Nat) (t : Nat → Nat → Int) : Prop := ∀ i, i < n → 0 ≤ plus (t i (nb i)) (t (nb i) i)
/-- is there a value? -/
def CloseOk (n : Nat) (d : Nat → Nat → Int) : Prop := FloydOk n d ∧ StrOk n (tig (overs d n))
noncomputable def closeB (n : Nat) (d : Nat → Nat → Int) : Bool := @decide (CloseOk n d) (Classical.propDecidable _)
theorem closeB_true {n : Nat} {d : Nat → Nat → Int} : closeB n d = true ↔ CloseOk n d := by unfold closeB; exact @decide_eq_true_iff _ (Classical.propDecidable _)
theorem closeB_false {n : Nat} {d : Nat → Nat → Int} : closeB n d = false ↔ ¬ CloseOk n d := by unfold closeB; exact @decide_eq_false_iff_not _ (Classical.propDecidable _)
/-- the closed entries -/
def closeM (n : Nat) (d : Nat → Nat → Int) : Nat → Nat → Int := fun i j => clipV (strg (tig (overs d n)) i j)
noncomputable def closeL (n : Nat) (d : Nat → Nat → Int) : List Int := if closeB n d = true then lst n (closeM n d) else []
/-- what is put in the first loop: the rows ahead of i are even there -/
def tigTo (d : Nat → Nat → Int) (i : Nat) : Nat → Nat → Int := fun a b => if a < i then tig d a b else d a b
theorem tigTo_zero {d : Nat → Nat → Int} (a b : Nat) : tigTo d 0 a b = d a b := by unfold tigTo; rw [if_neg (by omega)]
theorem tigTo_all {d : Nat → Nat → Int} {n : Nat} (a b : Nat) (h : a < n) : tigTo d n a b = tig d a b := by unfold tigTo; rw [if_pos h]
theorem tigTo_step {d : Nat → Nat → Int} {i : Nat} (a b : Nat) : tigTo d (i + 1) a b = if a = i ∧ b = nb i then tig d i (nb i) else tigTo d i a b := by
  unfold tigTo
  by_cases e : a = i ∧ b = nb i
  · rw [if_pos e, if_pos (by omega), e.1, e.2]
  · rw [if_neg e]
    by_cases h : a < i
    · rw [if_pos h, if_pos (by omega)]
    · rw [if_neg h]
      by_cases h2 : a < i + 1
      · obtain rfl : a = i := by omega
        rw [if_pos h2]; unfold tig; rw [if_neg (fun h3 => e ⟨rfl, h3⟩)]
      · rw [if_neg h2]
/-- entries put one behind the other -/
def upTo (c : Nat → Nat → Int) (i j : Nat) : Nat → Nat → Int := fun a b => if a < i ∨ (a = i ∧ b < j) then c a b else 0
theorem upTo_step {c : Nat → Nat → Int} {i j : Nat} (a b : Nat) : upTo c i (j + 1) a b = if a = i ∧ b = j then c i j else upTo c i j a b := by
  unfold upTo
  by_cases e : a = i ∧ b = j
  · rw [if_pos e, if_pos (by omega), e.1, e.2]
  · rw [if_neg e]
    by_cases h : a < i ∨ (a = i ∧ b < j)
    · rw [if_pos h, if_pos (by omega)]
    · rw [if_neg h, if_neg (by omega)]
theorem upTo_row {c : Nat → Nat → Int} {i n : Nat} (a b : Nat) (hb : b < n) : upTo c i n a b = upTo c (i + 1) 0 a b := by
  unfold upTo
  by_cases h : a < i ∨ (a = i ∧ b < n)
  · rw [if_pos h, if_pos (by omega)]
  · rw [if_neg h, if_neg (by omega)]
theorem upTo_all {c : Nat → Nat → Int} {n : Nat} (a b : Nat) (h : a < n) : upTo c n 0 a b = c a b := by unfold upTo; rw [if_pos (.inl h)]
theorem lst_zero (n : Nat) (c : Nat → Nat → Int) : List.replicate (n * n) (0 : Int) = lst n (upTo c 0 0) := by
  apply List.ext_getElem
  · simp [lst]
  · intro t h1 h2; simp [lst, upTo]
/-- what Close answers to a sound octagon -/
noncomputable def closeF (vars m : List Int) (empty : Bool) : List Int × List Int × Bool := if empty = true then (vars, [], true) else (vars, closeL (2 * vars.length) (lowM vars.length m), !closeB (2 * vars.length) (lowM vars.length m))
theorem bottom_f {vars : List Int} (h : VarsOk vars) : oct_Bottom.f vars = some (vars, [], true) := by
  unfold oct_Bottom.f oct_may.f
  rw [varsB_true.2 h]
  have := h.1
  simp [slices_Clone_int_int.f, show vars.length < 17592186044416 by omega]
/-- three cells of one block are stored: the block, and all others -/
theorem store3 {W : World} {g t : Nat} {x y z : Value} (h : W.heap[g]? = some (.cells #[x, y, z] t (0, 0))) (a b c : Value) :
    (((W.setCell ⟨g, 0, none⟩ a).setCell ⟨g, 1, none⟩ b).setCell ⟨g, 2, none⟩ c).heap[g]? = some (.cells #[a, b, c] t (0, 0)) ∧ ∀ k, k ≠ g → (((W.setCell ⟨g, 0, none⟩ a).setCell ⟨g, 1, none⟩ b).setCell ⟨g, 2, none⟩ c).heap[k]? = W.heap[k]? :=
  ⟨blk_put (blk_put (blk_put h 0 a rfl) 1 b rfl) 2 c rfl, fun k hk => (Below.heap_setCell _ ⟨g, 2, none⟩ c k hk).trans ((Below.heap_setCell _ ⟨g, 1, none⟩ b k hk).trans (Below.heap_setCell W ⟨g, 0, none⟩ a k hk))⟩
theorem row_store3 {W : World} {g e base : Nat} {x y z : Value} {v : Value} {xs : List Int} {ok : Nat → Prop} (h : W.heap[g]? = some (.cells #[x, y, z] 25 (0, 0))) (hr : Kd.R (Kd.int .i64) e W base ok v xs) (he : e ≠ 25) (a b c : Value) :
    Kd.R (Kd.int .i64) e (((W.setCell ⟨g, 0, none⟩ a).setCell ⟨g, 1, none⟩ b).setCell ⟨g, 2, none⟩ c) base ok v xs :=
  Kd.R_mono (Kd.R_step (Kd.R_types hr h (fun q hq => by
    rcases List.mem_cons.1 hq with rfl | hq
    · exact he
    · cases hq)) (fun k hk _ => (store3 h a b c).2 k hk.2)) (fun _ hk => hk.1)
/-- the argument's box and the result's -/
structure OB (w : World) (bo br : Nat) (ov : Array Value) (W : World) : Prop where
  o : W.heap[bo]? = some (.cells ov 25 (0, 0))
  r : W.heap[br]? = some (.cells #[.slice none 0 0, .slice none 0 0, .bool false] 25 (0, 0))
  below : Below w.heap.size w W
  ob : w.heap.size ≤ bo
  rb : w.heap.size ≤ br
  ne : bo ≠ br
theorem OB.next {w : World} {bo br : Nat} {ov : Array Value} {W W' : World} (h : OB w bo br ov W) (hb : Below W.heap.size W W') : OB w bo br ov W' :=
  ⟨blk_below h.o hb, blk_below h.r hb, h.below.trans (hb.mono h.below.size), h.ob, h.rb, h.ne⟩
theorem OB.cells {w : World} {bo br : Nat} {x y z : Value} {W : World} (h : OB w bo br #[x, y, z] W) : (W.cell? ⟨bo, 0, none⟩ = some x ∧ W.cell? ⟨bo, 1, none⟩ = some y ∧ W.cell? ⟨bo, 2, none⟩ = some z) :=
  ⟨blk_cell h.o 0, blk_cell h.o 1, blk_cell h.o 2⟩
theorem OB.res {w : World} {bo br : Nat} {ov : Array Value} {W : World} (h : OB w bo br ov W) : (W.cell? ⟨br, 0, none⟩ = some (.slice none 0 0) ∧ W.cell? ⟨br, 1, none⟩ = some (.slice none 0 0) ∧ W.cell? ⟨br, 2, none⟩ = some (.bool false)) ∧ W.frozen? ⟨br, 0, none⟩ = false ∧ W.frozen? ⟨br, 1, none⟩ = false ∧ W.frozen? ⟨br, 2, none⟩ = false :=
  ⟨⟨blk_cell h.r 0, blk_cell h.r 1, blk_cell h.r 2⟩, blk_frozen h.r 0, blk_frozen h.r 1, blk_frozen h.r 2⟩
/-- what is answered lies in the result's box -/
theorem OB.answer {w : World} {bo br : Nat} {ov : Array Value} {W1 : World} (h : OB w bo br ov W1) {v0 v1 : Value} {r1 r2 : List Int} {base : Nat} (hw : w.heap.size ≤ base) (h0 : Kd.R (Kd.int .i64) 3 W1 base (fun _ => True) v0 r1) (h1 : Kd.R (Kd.int .i64) 2 W1 base (fun _ => True) v1 r2) (b : Value) :
    Kd.R (Kd.int .i64) 3 (((W1.setCell ⟨br, 0, none⟩ v0).setCell ⟨br, 1, none⟩ v1).setCell ⟨br, 2, none⟩ b) w.heap.size (fun _ => True) v0 r1 ∧ Kd.R (Kd.int .i64) 2 (((W1.setCell ⟨br, 0, none⟩ v0).setCell ⟨br, 1, none⟩ v1).setCell ⟨br, 2, none⟩ b) w.heap.size (fun _ => True) v1 r2 ∧
      Below w.heap.size w (((W1.setCell ⟨br, 0, none⟩ v0).setCell ⟨br, 1, none⟩ v1).setCell ⟨br, 2, none⟩ b) :=
  ⟨Kd.R_lower (row_store3 h.r h0 (by decide) _ _ _) hw, Kd.R_lower (row_store3 h.r h1 (by decide) _ _ _) hw, below_set (below_set (below_set h.below h.rb) h.rb) h.rb⟩
/-- .. and the table's box, and the row that it looks at -/
structure TS (w : World) (bo br bt : Nat) (ov tv : Array Value) (vd : Value) (W : World) (row : List Int) : Prop where
  ob : OB w bo br ov W
  t : W.heap[bt]? = some (.cells tv 58 (0, 0))
  tb : w.heap.size ≤ bt
  row : Kd.R (Kd.int .i64) 2 W w.heap.size (fun k => k < bt) vd row
theorem TS.next {w : World} {bo br bt : Nat} {ov tv : Array Value} {vd : Value} {W W' : World} {row : List Int} (h : TS w bo br bt ov tv vd W row) (hb : Below W.heap.size W W') : TS w bo br bt ov tv vd W' row :=
  ⟨h.ob.next hb, blk_below h.t hb, h.tb, Kd.R_below h.row hb⟩
theorem row_block {W : World} {base g len cap : Nat} {row : List Int} {ok : Nat → Prop} (h : Kd.R (Kd.int .i64) 2 W base ok (.slice (some ⟨g, 0, none⟩) len cap) row) (hp : 0 < row.length) : base ≤ g ∧ ∃ cells, W.heap[g]? = some (.cells cells 2 (0, 0)) := by
  obtain ⟨g', cap', e, h1, _, h3⟩ := Kd.R_form h hp
  injection e with e1 e2 e3
  injection e1 with e1
  injection e1 with e1
  subst e1
  exact ⟨h1, h3⟩
theorem typed_ne {W : World} {a b : Nat} {x y : Array Value} {s t : Nat} (h : W.heap[a]? = some (.cells x s (0, 0))) (h' : W.heap[b]? = some (.cells y t (0, 0))) (hst : s ≠ t) : a ≠ b := by
  rintro rfl; rw [h] at h'; injection h' with h'; injection h' with _ h'; exact hst h'
theorem TS.put {w : World} {bo br bt g len cap : Nat} {ov tv : Array Value} {W : World} {row : List Int} (h : TS w bo br bt ov tv (.slice (some ⟨g, 0, none⟩) len cap) W row) (hp : 0 < row.length) (i v : Int) :
    TS w bo br bt ov tv (.slice (some ⟨g, 0, none⟩) len cap) (W.setCell ⟨g, i.toNat, none⟩ (.int .i64 v)) (row.set i.toNat v) := by
  obtain ⟨hg, cells, hc⟩ := row_block h.row hp
  have n1 := typed_ne h.ob.o hc (by decide)
  have n2 := typed_ne h.ob.r hc (by decide)
  have n3 := typed_ne h.t hc (by decide)
  exact ⟨⟨blk_far h.ob.o n1 _, blk_far h.ob.r n2 _, below_set h.ob.below hg, h.ob.ob, h.ob.rb, h.ob.ne⟩, blk_far h.t n3 _, h.tb, (Kd.R_putg h.row i v).1⟩
theorem TS.tcells {w : World} {bo br bt : Nat} {ov : Array Value} {x y vd : Value} {W : World} {row : List Int} (h : TS w bo br bt ov #[x, y] vd W row) : W.cell? ⟨bt, 0, none⟩ = some x ∧ W.cell? ⟨bt, 1, none⟩ = some y :=
  ⟨blk_cell h.t 0, blk_cell h.t 1⟩
/-- .. and the answer under way: its box, its scalars, its entries -/
structure US (w : World) (bo br bt bc : Nat) (ov tv : Array Value) (vd vv vc : Value) (vars : List Int) (W : World) (rowd rowc : List Int) : Prop where
  ts : TS w bo br bt ov tv vd W rowd
  c : W.heap[bc]? = some (.cells #[vv, vc, .bool false] 25 (0, 0))
  rv : Kd.R (Kd.int .i64) 3 W w.heap.size (fun _ => True) vv vars
  rc : Kd.R (Kd.int .i64) 2 W bt (fun _ => True) vc rowc
theorem US.next {w : World} {bo br bt bc : Nat} {ov tv : Array Value} {vd vv vc : Value} {vars : List Int} {W W' : World} {rowd rowc : List Int} (h : US w bo br bt bc ov tv vd vv vc vars W rowd rowc) (hb : Below W.heap.size W W') : US w bo br bt bc ov tv vd vv vc vars W' rowd rowc :=
  ⟨h.ts.next hb, blk_below h.c hb, Kd.R_below h.rv hb, Kd.R_below h.rc hb⟩
theorem US.put {w : World} {bo br bt bc g len cap : Nat} {ov tv : Array Value} {vd vv : Value} {vars : List Int} {W : World} {rowd rowc : List Int} (h : US w bo br bt bc ov tv vd vv (.slice (some ⟨g, 0, none⟩) len cap) vars W rowd rowc) (hp : 0 < rowc.length) (i v : Int) :
    US w bo br bt bc ov tv vd vv (.slice (some ⟨g, 0, none⟩) len cap) vars (W.setCell ⟨g, i.toNat, none⟩ (.int .i64 v)) rowd (rowc.set i.toNat v) := by
  obtain ⟨hg, cells, hc⟩ := row_block h.rc hp
  have n1 := typed_ne h.ts.ob.o hc (by decide)
  have n2 := typed_ne h.ts.ob.r hc (by decide)
  have n3 := typed_ne h.ts.t hc (by decide)
  have n4 := typed_ne h.c hc (by decide)
  have hw : w.heap.size ≤ g := Nat.le_trans h.ts.tb hg
  refine ⟨⟨⟨blk_far h.ts.ob.o n1 _, blk_far h.ts.ob.r n2 _, below_set h.ts.ob.below hw, h.ts.ob.ob, h.ts.ob.rb, h.ts.ob.ne⟩, blk_far h.ts.t n3 _, h.ts.tb, ?_⟩, blk_far h.c n4 _, ?_, (Kd.R_putg h.rc i v).1⟩
  · exact Kd.R_far (p := ⟨g, i.toNat, none⟩) h.ts.row (fun k hk e => by subst e; exact absurd hk (by simp; omega)) _
  · exact Kd.R_set h.rv hc (fun q hq => by
      rcases List.mem_cons.1 hq with rfl | hq
      · decide
      · cases hq) _ _
/-- .. whose box has just been made -/
theorem US.made {w : World} {bo br bt : Nat} {ov tv : Array Value} {vd vv vc : Value} {vars : List Int} {W : World} {rowd rowc : List Int} (ts : TS w bo br bt ov tv vd W rowd) (rv : Kd.R (Kd.int .i64) 3 W w.heap.size (fun _ => True) vv vars) (rc : Kd.R (Kd.int .i64) 2 W bt (fun _ => True) vc rowc) :
    US w bo br bt W.heap.size ov tv vd vv vc vars (W.alloc (.cells #[vv, vc, .bool false] 25)) rowd rowc :=
  ⟨ts.next (below_alloc (Below.refl _ _) _), blk_new _ _, Kd.R_alloc rv _, Kd.R_alloc rc _⟩
/-- .. whose box was made before -/
theorem US.filled {w : World} {bo br bt bc : Nat} {ov tv : Array Value} {vd vv vc : Value} {vars : List Int} {W : World} {rowd rowc : List Int} (ts : TS w bo br bt ov tv vd W rowd) (rv : Kd.R (Kd.int .i64) 3 W w.heap.size (fun _ => True) vv vars) (rc : Kd.R (Kd.int .i64) 2 W bt (fun _ => True) vc rowc)
    (hb : W.heap[bc]? = some (.cells #[.slice none 0 0, .slice none 0 0, .bool false] 25 (0, 0))) (h1 : bo ≠ bc) (h2 : br ≠ bc) (h3 : w.heap.size ≤ bc) :
    US w bo br bt bc ov tv vd vv vc vars (((W.setCell ⟨bc, 0, none⟩ vv).setCell ⟨bc, 1, none⟩ vc).setCell ⟨bc, 2, none⟩ (.bool false)) rowd rowc :=
  ⟨⟨⟨((store3 hb _ _ _).2 _ h1).trans ts.ob.o, ((store3 hb _ _ _).2 _ h2).trans ts.ob.r, below_set (below_set (below_set ts.ob.below h3) h3) h3, ts.ob.ob, ts.ob.rb, ts.ob.ne⟩, ((store3 hb _ _ _).2 _ (typed_ne ts.t hb (by decide))).trans ts.t, ts.tb, row_store3 hb ts.row (by decide) _ _ _⟩,
    (store3 hb _ _ _).1, row_store3 hb rv (by decide) _ _ _, row_store3 hb rc (by decide) _ _ _⟩
/-- a new row of zeros -/
theorem make64 (n : Nat) (hn : n ≤ 256) : ∃ mc : Array Value, (∀ W, (Instr.makeSlice 23 (.int .i64 (n : Int)) (.int .i64 (n : Int))).run Try.prog W = .ok (.slice (some ⟨W.heap.size, 0, none⟩) n n) (W.alloc (.cells mc 2))) ∧
    ∀ (W : World) (base : Nat), base ≤ W.heap.size → Kd.R (Kd.int .i64) 2 (W.alloc (.cells mc 2)) base (fun _ => True) (.slice (some ⟨W.heap.size, 0, none⟩) n n) (List.replicate n 0) := by
  obtain ⟨i0, hi, hzz⟩ := Option.map_eq_some_iff.1 info2
  simp only [Prod.mk.injEq] at hzz
  obtain ⟨hz0, hz1, hz2⟩ := hzz
  refine ⟨madeCells (Value.int .i64 0).cells (n * 1), fun W => ?_, fun W base hb => ?_⟩
  · have hr := run_make (P := Try.prog) W 23 2 i0 (.int .i64 0) Try.underlying23 hi hz0 .i64 .i64 (n : Int) (n : Int) (by omega) (by omega) (by rw [hz2]; omega) (by omega)
    simp only [Int.toNat_natCast] at hr
    rw [hz1] at hr
    exact hr
  · have hrep : Reps ((Kd.int .i64).M W base (fun _ => True)) 1 (List.replicate n (0 : Int)) (madeCells (Value.int .i64 0).cells (n * 1)).toList := Kd.reps_made (R := (Kd.int .i64).M W base (fun _ => True)) (z := .int .i64 0) (size := 1) rfl (by decide) rfl n
    refine ⟨fun _ _ => trivial, (madeCells (Value.int .i64 0).cells (n * 1)).toList, ?_, ?_⟩
    · have h2 := World.ownsRow_lit (base := base) (e := 2) (size := 1) W (madeCells (Value.int .i64 0).cells (n * 1)) n hb (by simp [maxLen]; omega) (by simpa using hrep.1)
      show World.ownsRow _ base 2 1 _ _ _
      simpa using h2
    · refine hrep.imp_ (fun p c hp => (Kd.int .i64).M_mono (fun k hk => ⟨trivial, fun he => ?_⟩) (Kd.M_below ((Kd.int .i64).M_bound hp) (below_alloc (Below.refl _ _) _)))
      have h3 : k = W.heap.size := by simpa [Value.ownBlock] using he
      have := hk.2.2.1
      omega
theorem lowAt_same {vars m : List Int} (h : OFit vars m false) {i j : Int} (h0 : 0 ≤ i) (h1 : i < 2 * (vars.length : Int)) (h2 : 0 ≤ j) (h3 : j < 2 * (vars.length : Int)) : lowAt (2 * (vars.length : Int)) m i j = rd m (i * (2 * (vars.length : Int)) + j) := by
  unfold lowAt; split
  · exact (((h.2.2 rfl).2 i j h0 h1 h2 h3).2.2).symm
  · rfl
theorem lowM_ok {vars m : List Int} (h : OFit vars m false) : Bd (2 * vars.length) 1099511627776 (lowM vars.length m) ∧ ∀ i, i < 2 * vars.length → lowM vars.length m i i = 0 := by
  constructor
  · intro i j hi hj
    have e := (h.2.2 rfl).2 (i : Int) (j : Int) (by omega) (by omega) (by omega) (by omega)
    unfold lowM; rw [lowAt_same h (by omega) (by omega) (by omega) (by omega)]
    exact e.1
  · intro i hi
    have e := (h.2.2 rfl).2 (i : Int) (i : Int) (by omega) (by omega) (by omega) (by omega)
    unfold lowM; rw [lowAt_same h (by omega) (by omega) (by omega) (by omega)]
    exact e.2.1 rfl
theorem overs_bd {n : Nat} {d : Nat → Nat → Int} (h : Bd n 1099511627776 d) (hn : n ≤ 16) : Bd n 72057594037927936 (overs d n) := by
  have hp : (2 : Int) ^ n ≤ 2 ^ 16 := by
    have := Nat.pow_le_pow_right (n := 2) (by decide) (show n ≤ 16 by omega)
    exact_mod_cast this
  have h4 : (1099511627776 : Int) * 2 ^ n ≤ 1099511627776 * 2 ^ 16 := Int.mul_le_mul_of_nonneg_left hp (by decide)
  intro i j hi hj
  exact OctMath.fin_mono (OctMath.bd_overs h (by decide) n (Nat.le_refl _) (by omega) i j hi hj) (by omega)
theorem tig_bd {n : Nat} {d : Nat → Nat → Int} {B : Int} (h : Bd n B d) (hB : 0 ≤ B) : Bd n (B + 2) (tig d) := by
  intro i j hi hj
  have := h i j hi hj
  unfold tig Fin' at *
  split
  · split <;> omega
  · omega
set_option maxHeartbeats 16000000 in
set_option maxRecDepth 100000 in
theorem oct_Close_any (A0 : Option Addr) (c0 : Nat) (vars : List Int) (A1 : Option Addr) (c1 : Nat) (m : List Int) (empty : Bool) (w : World) (hr0 : Kd.C (Kd.int .i64) w A0 vars.length vars) (hc0 : vars.length ≤ c0)
    (hr1 : Kd.C (Kd.int .i64) w A1 m.length m) (hc1 : m.length ≤ c1) (hfit : OFit vars m empty) :
    Calls Try.prog 22 #[.agg #[.slice A0 vars.length c0, .slice A1 m.length c1, .bool empty]] w fun e w' => ∃ v0_ v1_ : Value, e = .returned (.agg #[v0_, v1_, .bool (closeF vars m empty).2.2]) ∧
      Kd.R (Kd.int .i64) 3 w' w.heap.size (fun _ => True) v0_ (closeF vars m empty).1 ∧ Kd.R (Kd.int .i64) 2 w' w.heap.size (fun _ => True) v1_ (closeF vars m empty).2.1 ∧ Below w.heap.size w w' := by
  have hu25 := Try.underlying25
  have hu58 := Try.underlying58
  have HR0 := Aside0.mk hr0
  have HR1 := Aside0.mk hr1
  have HC0 := Aside0.mk hc0
  have HC1 := Aside0.mk hc1
  have HFIT := Aside0.mk hfit
  have BOT := Aside0.mk (fun (W : World) (hW : Below w.heap.size w W) => oct_Bottom.calls A0 c0 vars vars [] true W (Kd.C_below hr0 hW) hc0 (bottom_f hfit.1))
  clear hr0 hr1 hc0 hc1 hfit
  cases empty with
  | true =>
    go_enter Try.func22, Try.ntmps22
    go_wp2_with (first
      | ((with_reducible refine gate_dst (N := 1) rfl ?_); refine box_event ?hg (N := 1) ?hd (cs := #[.slice A0 vars.length c0, .slice A1 m.length c1, .bool true]) (t := 25) ?hr ?_; (case hd => rfl); (case hg => rfl); (case hr => first | (go_simp; done) | (go_simp; rfl)); intro bo hgo wa hbo hba; have HBO := Aside0.mk (And.intro hgo (And.intro hbo hba)); clear hgo hbo hba)
      | ((with_reducible refine gate_dst (N := 2) rfl ?_); refine box_event ?hg (N := 2) ?hd (cs := #[.slice none 0 0, .slice none 0 0, .bool false]) (t := 25) ?hr ?_; (case hd => rfl); (case hg => rfl); (case hr => first | (go_simp; done) | (go_simp; rfl)); intro br hgr wb hbr hbb; have HOB : Aside0 (OB w bo br #[.slice A0 vars.length c0, .slice A1 m.length c1, .bool true] wb) := ⟨⟨blk_below HBO.out.2.1 hbb, hbr, HBO.out.2.2.trans (hbb.mono HBO.out.2.2.size), by rw [HBO.out.1]; exact Nat.le_refl _, by rw [hgr]; exact HBO.out.2.2.size, by rw [hgr]; exact Nat.ne_of_lt (blk_lt HBO.out.2.1)⟩⟩; obtain ⟨ho0, ho1, ho2⟩ := HOB.out.cells; clear hgr hbr hbb HBO)
      | (go_at_call 14; (with_reducible refine (BOT.out _ ?s1).mono ?_); (case s1 => exact HOB.out.below); rintro e w1 ⟨v0, v1, rfl, h0, h1, hb⟩; obtain ⟨Ao, co, eo⟩ := Kd.R_slice h0; subst eo; obtain ⟨Ap, cp, ep⟩ := Kd.R_slice h1; subst ep; have H0 := Aside0.mk h0; have H1 := Aside0.mk h1; have HO1 := Aside0.mk (OB.next HOB.out hb); have HBW := Aside0.mk HOB.out.below.size; obtain ⟨⟨hr0, hr1, hr2⟩, hr3, hr4, hr5⟩ := HO1.out.res; clear h0 h1 hb HOB ho0 ho1 ho2))
    refine bodyPost_ret (results_cell_row rfl _ _ br 25 #[.slice Ao vars.length co, .slice Ap 0 cp, .bool true] (0, 0) _ rfl (store3 HO1.out.r _ _ _).1 Try.underlying25 rfl (by kernel_rfl)) rfl ?_
    exact ⟨_, _, rfl, OB.answer HO1.out HBW.out H0.out H1.out _⟩
  | false =>
    have hfit := HFIT.out
    obtain ⟨n2, hn2⟩ : ∃ n2, n2 = 2 * vars.length := ⟨_, rfl⟩
    obtain ⟨NN, hNN⟩ : ∃ NN, n2 * n2 = NN := ⟨_, rfl⟩
    have h8 := hfit.1.1
    have HM := Aside0.mk ((hfit.2.2 rfl).1)
    have HL := Aside0.mk h8
    have HN2 := Aside0.mk hn2
    have HNN := Aside0.mk hNN
    have LM := lowM_ok hfit
    have WAYS := Aside0.mk (fun (W : World) (hW : Below w.heap.size w W) => oct_ways_any vars.length A1 c1 m W (Kd.C_below HR1.out hW) HC1.out h8 HM.out LM.1 (fun i hi => by rw [LM.2 i hi]; exact Int.le_refl _))
    unfold tableV at WAYS
    rw [← hn2] at WAYS LM
    have HFI := Aside0.mk (fun (W : World) (hW : Below w.heap.size w W) => oct_Fit.calls A0 c0 vars A1 c1 m false true W (Kd.C_below HR0.out hW) HC0.out (Kd.C_below HR1.out hW) HC1.out (by unfold oct_Fit.f; rw [if_pos (show vars.length ≤ 17592186044416 by omega), ofitB_true.2 hfit]))
    obtain ⟨M0, hM0⟩ : ∃ M0, lowM vars.length m = M0 := ⟨_, rfl⟩
    rw [hM0] at WAYS LM
    have HLM := Aside0.mk LM
    have HM0 := Aside0.mk hM0
    clear hfit hn2 hNN h8 LM hM0
    have HANS : Aside0 (closeF vars m false = (vars, closeL n2 M0, !closeB n2 M0)) := ⟨by unfold closeF; rw [if_neg (by decide), ← HN2.out, HM0.out]⟩
    rw [HANS.out]
    cases hfb : floydB n2 M0 with
    | false =>
      have hcb : closeB n2 M0 = false := closeB_false.2 (fun h => floydB_false.1 hfb h.1)
      have hcl : closeL n2 M0 = [] := by unfold closeL; rw [hcb]; rfl
      rw [hcb, hcl]
      rw [hfb] at WAYS
      clear hcb hcl
      go_enter Try.func22, Try.ntmps22
      go_wp2_with (first
      | ((with_reducible refine gate_dst (N := 1) rfl ?_); refine box_event ?hg (N := 1) ?hd (cs := #[.slice A0 vars.length c0, .slice A1 m.length c1, .bool false]) (t := 25) ?hr ?_; (case hd => rfl); (case hg => rfl); (case hr => first | (go_simp; done) | (go_simp; rfl)); intro bo hgo wa hbo hba; have HBO := Aside0.mk (And.intro hgo (And.intro hbo hba)); clear hgo hbo hba)
      | ((with_reducible refine gate_dst (N := 2) rfl ?_); refine box_event ?hg (N := 2) ?hd (cs := #[.slice none 0 0, .slice none 0 0, .bool false]) (t := 25) ?hr ?_; (case hd => rfl); (case hg => rfl); (case hr => first | (go_simp; done) | (go_simp; rfl)); intro br hgr wb hbr hbb; have HOB : Aside0 (OB w bo br #[.slice A0 vars.length c0, .slice A1 m.length c1, .bool false] wb) := ⟨⟨blk_below HBO.out.2.1 hbb, hbr, HBO.out.2.2.trans (hbb.mono HBO.out.2.2.size), by rw [HBO.out.1]; exact Nat.le_refl _, by rw [hgr]; exact HBO.out.2.2.size, by rw [hgr]; exact Nat.ne_of_lt (blk_lt HBO.out.2.1)⟩⟩; obtain ⟨ho0, ho1, ho2⟩ := HOB.out.cells; clear hgr hbr hbb HBO)
      | (go_at_call 18; (with_reducible refine (HFI.out _ ?s1).mono ?_); (case s1 => exact HOB.out.below); rintro e w2 ⟨rfl, hb⟩; have HOB2 := Aside0.mk (HOB.out.next hb); clear HOB ho0 ho1 ho2 hb; obtain ⟨ho0, ho1, ho2⟩ := HOB2.out.cells)
      | (go_at_call 55; (with_reducible refine (oct_of_any _ _ _ _ _ _ _ _ (Nat.le_trans HL.out (by decide))).mono ?_); rintro e w3 ⟨rfl, hb⟩; unfold tableV; have HOB3 := Aside0.mk (HOB2.out.next hb); clear HOB2 ho0 ho1 ho2 hb)
      | (go_at_call 54; (with_reducible refine (WAYS.out _ ?s1).mono ?_); (case s1 => exact HOB3.out.below); rintro e w4 ⟨vd, rfl, hrow, hb⟩; have HOB4 := Aside0.mk (HOB3.out.next hb); clear HOB3 hb hrow; obtain ⟨ho0, ho1, ho2⟩ := HOB4.out.cells)
      | (go_at_call 14; (with_reducible refine (BOT.out _ ?s1).mono ?_); (case s1 => exact HOB4.out.below); rintro e w1 ⟨v0, v1, rfl, h0, h1, hb⟩; obtain ⟨Ao, co, eo⟩ := Kd.R_slice h0; subst eo; obtain ⟨Ap, cp, ep⟩ := Kd.R_slice h1; subst ep; have H0 := Aside0.mk h0; have H1 := Aside0.mk h1; have HO1 := Aside0.mk (OB.next HOB4.out hb); have HBW := Aside0.mk (HOB4.out).below.size; obtain ⟨⟨hr0, hr1, hr2⟩, hr3, hr4, hr5⟩ := HO1.out.res; clear h0 h1 hb HOB4 ho0 ho1 ho2))
      refine bodyPost_ret (results_cell_row rfl _ _ br 25 #[.slice Ao vars.length co, .slice Ap 0 cp, .bool true] (0, 0) _ rfl (store3 HO1.out.r _ _ _).1 Try.underlying25 rfl (by kernel_rfl)) rfl ?_
      exact ⟨_, _, rfl, OB.answer HO1.out HBW.out H0.out H1.out _⟩
    | true =>
      have hfok := Aside0.mk (floydB_true.1 hfb)
      have hdl : floydL n2 M0 = lst n2 (overs M0 n2) := by unfold floydL; rw [if_pos hfb]
      rw [hfb, hdl] at WAYS
      clear hfb hdl
      obtain ⟨D0, hD0⟩ : ∃ D0, overs M0 n2 = D0 := ⟨_, rfl⟩
      rw [hD0] at WAYS
      have HD0 := Aside0.mk hD0
      clear hD0
      go_enter Try.func22, Try.ntmps22
      go_wp2_with (first
      | ((with_reducible refine gate_dst (N := 1) rfl ?_); refine box_event ?hg (N := 1) ?hd (cs := #[.slice A0 vars.length c0, .slice A1 m.length c1, .bool false]) (t := 25) ?hr ?_; (case hd => rfl); (case hg => rfl); (case hr => first | (go_simp; done) | (go_simp; rfl)); intro bo hgo wa hbo hba; have HBO := Aside0.mk (And.intro hgo (And.intro hbo hba)); clear hgo hbo hba)
      | ((with_reducible refine gate_dst (N := 2) rfl ?_); refine box_event ?hg (N := 2) ?hd (cs := #[.slice none 0 0, .slice none 0 0, .bool false]) (t := 25) ?hr ?_; (case hd => rfl); (case hg => rfl); (case hr => first | (go_simp; done) | (go_simp; rfl)); intro br hgr wb hbr hbb; have HOB : Aside0 (OB w bo br #[.slice A0 vars.length c0, .slice A1 m.length c1, .bool false] wb) := ⟨⟨blk_below HBO.out.2.1 hbb, hbr, HBO.out.2.2.trans (hbb.mono HBO.out.2.2.size), by rw [HBO.out.1]; exact Nat.le_refl _, by rw [hgr]; exact HBO.out.2.2.size, by rw [hgr]; exact Nat.ne_of_lt (blk_lt HBO.out.2.1)⟩⟩; obtain ⟨ho0, ho1, ho2⟩ := HOB.out.cells; clear hgr hbr hbb HBO)
      | (go_at_call 18; (with_reducible refine (HFI.out _ ?s1).mono ?_); (case s1 => exact HOB.out.below); rintro e w2 ⟨rfl, hb⟩; have HOB2 := Aside0.mk (HOB.out.next hb); clear HOB ho0 ho1 ho2 hb; obtain ⟨ho0, ho1, ho2⟩ := HOB2.out.cells)
      | (go_at_call 55; (with_reducible refine (oct_of_any _ _ _ _ _ _ _ _ (Nat.le_trans HL.out (by decide))).mono ?_); rintro e w3 ⟨rfl, hb⟩; unfold tableV; have HOB3 := Aside0.mk (HOB2.out.next hb); clear HOB2 ho0 ho1 ho2 hb)
      | (go_at_call 54; (with_reducible refine (WAYS.out _ ?s1).mono ?_); (case s1 => exact HOB3.out.below); rintro e w4 ⟨vd, rfl, hrow, hb⟩; have HOB4 := Aside0.mk (HOB3.out.next hb); have HROW := Aside0.mk (Kd.R_lower hrow HOB3.out.below.size); clear HOB3 hb hrow; obtain ⟨Ad, cd, ed⟩ := Kd.R_slice HROW.out; subst ed; obtain ⟨ho0, ho1, ho2⟩ := HOB4.out.cells))
      have hw : wrap64 (2 * (vars.length : Int)) = 2 * (vars.length : Int) := by have := HL.out; unfold wrap64; omega
      obtain ⟨nn, hnn⟩ : ∃ nn : Int, 2 * (vars.length : Int) = nn := ⟨_, rfl⟩
      have hll : (lst n2 D0).length = NN := by rw [lst_length, HNN.out]
      rw [hw, hnn, hll]
      obtain ⟨bt, hbt⟩ : ∃ bt, w4.heap.size = bt := ⟨_, rfl⟩
      rw [hbt]
      obtain ⟨W5, hW5⟩ : ∃ W5, w4.alloc (.cells #[.int .i64 nn, .slice Ad NN cd] 58) = W5 := ⟨_, rfl⟩
      rw [hW5]
      have HT : Aside0 (TS w bo br bt #[.slice A0 vars.length c0, .slice A1 m.length c1, .bool false] #[.int .i64 nn, .slice Ad NN cd] (.slice Ad NN cd) W5 (lst n2 (tigTo D0 0))) := ⟨by
        have h1 := HROW.out
        rw [hll] at h1
        rw [lst_congr (d := tigTo D0 0) (e := D0) (fun a b _ _ => tigTo_zero a b), ← hW5, ← hbt]
        exact ⟨HOB4.out.next (below_alloc (Below.refl _ _) _), blk_new _ _, HOB4.out.below.size, Kd.R_alloc (Kd.R_mono (Kd.R_bound h1) (fun k hk => hk.2.2.1)) _⟩⟩
      have HNV := Aside0.mk hnn
      clear hW5 hbt hw hnn hll HROW HOB4 ho0 ho1 ho2 WAYS HFI
      have HDB : Aside0 (Bd n2 72057594037927936 D0) := ⟨by rw [← HD0.out]; exact overs_bd HLM.out.1 (by have := HL.out; have := HN2.out; omega)⟩
      go_loopg [41] n2 (fun gg s41 wr => ∃ (i : Nat) (ii : Int), s41 = .int .i64 ii ∧ Aside0 (ii = (i : Int) ∧ i ≤ n2 ∧ n2 - i ≤ gg) ∧ Aside0 (TS w bo br bt #[.slice A0 vars.length c0, .slice A1 m.length c1, .bool false] #[.int .i64 nn, .slice Ad NN cd] (.slice Ad NN cd) wr (lst n2 (tigTo D0 i))))
      case atStart => exact ⟨0, 0, rfl, ⟨rfl, Nat.zero_le _, by omega⟩, HT⟩
      case round =>
        clear HT
        obtain ⟨i, ii, rfl, HII, HT⟩ := hrel
        by_cases hlt : i < n2
        · have f3 : decide (ii < nn) = true := decide_eq_true (by have := HN2.out; have := HII.out; have := HNV.out; omega)
          have HIL := Aside0.mk hlt
          have hN0 : 0 < (lst n2 (tigTo D0 i)).length := by rw [lst_length]; exact Nat.mul_pos (by omega) (by omega)
          obtain ⟨g, cap, eg, hg1, hg2, cells, hg3⟩ := Kd.R_form HT.out.row hN0
          injection eg with e1 e2 e3
          subst e1
          have HP0 := Aside0.mk hN0
          have n3 : bt ≠ g := typed_ne HT.out.t hg3 (by decide)
          have n4 : g ≠ bt := fun e => n3 e.symm
          clear hlt hN0 e2 e3 hg1 hg2 hg3 cells cap
          obtain ⟨bi, hbi⟩ : ∃ b, nbar ii = b := ⟨_, rfl⟩
          have HBI : Aside0 (bi = ((nb i : Nat) : Int) ∧ nb i < n2) := ⟨by have h := HII.out.1; rw [h, nbar_nb] at hbi; have h2 := HIL.out; have h3 := HN2.out; rw [h3] at h2 ⊢; exact ⟨hbi.symm, nb_lt h2⟩⟩
          have BAR : Aside0 (∀ W, Calls Try.prog 52 #[.int .i64 ii] W fun e w' => e = .returned (.int .i64 bi) ∧ w' = W) := ⟨fun W => oct_bar_still ii bi W (by unfold oct_bar.f; rw [if_pos (by have := HII.out; have := HIL.out; have := HN2.out; have := HL.out; omega), hbi])⟩
          obtain ⟨x, hx⟩ : ∃ x, D0 i (nb i) = x := ⟨_, rfl⟩
          have HX := Aside0.mk hx
          have HV : Aside0 (∀ p : Int, p = ((i * n2 + nb i : Nat) : Int) → rd (lst n2 (tigTo D0 i)) p = x) := ⟨fun p hp => by rw [lst_rd HIL.out HBI.out.2 hp, ← hx]; unfold tigTo; rw [if_neg (by omega)]⟩
          have HPI : Aside0 (ii * nn + bi = ((i * n2 + nb i : Nat) : Int) ∧ ii * nn = ((i * n2 : Nat) : Int) ∧ i * n2 ≤ 256) := ⟨by
            have h2 := HII.out.1; have h4 := HNV.out; have h5 := HN2.out; have h6 := HL.out
            have e1 : ii * nn = ((i * n2 : Nat) : Int) := by rw [h2, ← h4, h5]; push_cast; rfl
            have e2 := HBI.out.1
            exact ⟨by rw [e1, e2]; push_cast; rfl, e1, Nat.le_trans (Nat.mul_le_mul (show i ≤ 16 by have := HIL.out; omega) (show n2 ≤ 16 by omega)) (by omega)⟩⟩
          have AT : Aside0 (∀ W, TS w bo br bt #[.slice A0 vars.length c0, .slice A1 m.length c1, .bool false] #[.int .i64 nn, .slice (some ⟨g, 0, none⟩) NN cd] (.slice (some ⟨g, 0, none⟩) NN cd) W (lst n2 (tigTo D0 i)) → Calls Try.prog 51 #[.agg #[.int .i64 nn, .slice (some ⟨g, 0, none⟩) NN cd], .int .i64 ii, .int .i64 bi] W fun e w' => e = .returned (.int .i64 x) ∧ Below W.heap.size W w') := ⟨fun W hW => by
            have hl := HII.out; have hl2 := HIL.out; have hl3 := HBI.out; have hl4 := HN2.out
            have hrr := Kd.R_reads' hW.row
            have h := oct_full_at.calls (2 * (vars.length : Int)) (some ⟨g, 0, none⟩) cd (lst n2 (tigTo D0 i)) ii bi x W hrr.2.2 (by rw [← hrr.1]; exact hrr.2.1) (by
              rw [at_ok HL.out (by rw [lst_length, hl4]; push_cast; rfl) (by omega) (by omega) (by omega) (by omega), HNV.out, HV.out _ HPI.out.1])
            rw [← hrr.1, HNV.out] at h
            exact h⟩
          obtain ⟨ht0, ht1⟩ := HT.out.tcells
          clear hbi hx
          go_wp2
          go_region_held3 (fun w' => w'.cell? ⟨bt, 0, none⟩ = some (.int .i64 nn) ∧ w'.cell? ⟨bt, 1, none⟩ = some (.slice (some ⟨g, 0, none⟩) NN cd)) (first | go_keep | exact KS)
            (first | (go_at_call 52; (with_reducible refine (BAR.out _).mono ?_); rintro e w' ⟨rfl, rfl⟩)
                   | (go_at_call 51; (with_reducible refine (AT.out _ (TS.next HT.out (below_drew (Below.refl _ _)))).mono ?_); rintro e w1 ⟨rfl, hb⟩; have HT1 := Aside0.mk (TS.next (TS.next HT.out (below_drew (Below.refl _ _))) hb); have KS := HT1.out.tcells; clear hb))
          clear KS ht0 ht1 HT AT
          obtain ⟨ht0, ht1⟩ := HT1.out.tcells
          have HW : Aside0 (wrap64 (ii + 1) = ((i + 1 : Nat) : Int)) := ⟨by have := HII.out; have := HN2.out; have := HL.out; have := HIL.out; unfold wrap64; omega⟩
          by_cases he : x = 4611686018427387904
          · have fb : (x != 4611686018427387904) = false := by rw [he]; rfl
            have fc : decide (x = 4611686018427387904) = true := decide_eq_true he
            have HE := Aside0.mk he
            clear he
            go_wp2
            go_roundg (n2 - (i + 1))
            case measure => have := HII.out; have := HIL.out; omega
            case rel =>
              refine ⟨i + 1, wrap64 (ii + 1), rfl, ⟨by have := HW.out; have := HIL.out; omega⟩, ⟨?_⟩⟩
              have h1 := HT1.out
              rw [lst_congr (e := tigTo D0 (i + 1)) (fun a b _ _ => by
                rw [tigTo_step a b]
                by_cases h : a = i ∧ b = nb i
                · rw [if_pos h, h.1, h.2]; unfold tigTo tig; rw [if_neg (by omega), if_pos rfl]; rw [HX.out, HE.out]; rfl
                · rw [if_neg h])] at h1
              exact h1
          · have fb : (x != 4611686018427387904) = true := by simpa using he
            have fc : decide (x = 4611686018427387904) = false := decide_eq_false he
            have HE := Aside0.mk he
            have hxb := HX.out ▸ HDB.out i (nb i) HIL.out HBI.out.2
            have HXB := Aside0.mk hxb
            have HALF : Aside0 (∀ W, Calls Try.prog 56 #[.int .i64 x] W fun e w' => e = .returned (.int .i64 (x / 2)) ∧ Drawn0 W w') := ⟨fun W => by
              have h := bound_Half.calls x (half x) W (half_half (OctMath.fin_mono hxb (by decide)))
              have e : half x = x / 2 := by unfold half; rw [if_neg he]
              rw [e] at h; exact h⟩
            obtain ⟨hx2, hhx⟩ : ∃ h, x / 2 = h := ⟨_, rfl⟩
            rw [hhx] at HALF
            obtain ⟨v, hv⟩ : ∃ v, IntKind.i64.wrap (2 * hx2) = v := ⟨_, rfl⟩
            obtain ⟨q1, hq1⟩ : ∃ q, IntKind.i64.wrap (ii * nn) = q := ⟨_, rfl⟩
            obtain ⟨p, hp⟩ : ∃ q, IntKind.i64.wrap (q1 + bi) = q := ⟨_, rfl⟩
            have HVV : Aside0 (v = 2 * (x / 2)) := ⟨by rw [IntKind.wrap_i64] at hv; unfold Fin' at hxb; rw [hhx]; omega⟩
            have HPP : Aside0 (p = ((i * n2 + nb i : Nat) : Int)) := ⟨by
              have h := HPI.out; have h2 := HBI.out; have h7 := h.2.2
              rw [h.2.1, IntKind.wrap_i64] at hq1
              rw [IntKind.wrap_i64] at hp
              have r1 : q1 = ((i * n2 : Nat) : Int) := by omega
              have h5 := HL.out; have h6 := HN2.out
              clear hq1 hv h
              subst r1
              omega⟩
            have HPB : Aside0 (0 ≤ p ∧ p < (NN : Int)) := ⟨by have := ij_lt HIL.out HBI.out.2; rw [HNN.out] at this; have := HPP.out; omega⟩
            have r10 := eq_true HPB.out.1
            have r11 := eq_true HPB.out.2
            clear he hxb hhx
            go_wp2
            go_region_held3 (fun w' => w'.cell? ⟨bt, 0, none⟩ = some (.int .i64 nn)) (first | go_keep | exact KS)
              (first | (go_at_call 52; (with_reducible refine (BAR.out _).mono ?_); rintro e w' ⟨rfl, rfl⟩)
                     | (go_at_call 56; (with_reducible refine (HALF.out _).mono ?_); rintro e w2 ⟨rfl, hb⟩; have HT2 := Aside0.mk (TS.next (TS.next HT1.out (below_drew (Below.refl _ _))) hb.below); have KS := HT2.out.tcells.1; obtain ⟨hz1, hz2⟩ := Kd.R_celln 0 HT2.out.row p HPB.out.1 HPB.out.2; clear hb))
            go_wp2
            go_roundg (n2 - (i + 1))
            case measure => have := HII.out; have := HIL.out; omega
            case rel =>
              refine ⟨i + 1, wrap64 (ii + 1), rfl, ⟨by have := HW.out; have := HIL.out; omega⟩, ⟨?_⟩⟩
              have h1 := TS.put HT2.out HP0.out p v
              rw [lst_set HIL.out HBI.out.2 HPP.out, lst_congr (e := tigTo D0 (i + 1)) (fun a b _ _ => by
                rw [tigTo_step a b]
                by_cases h : a = i ∧ b = nb i
                · rw [if_pos h, if_pos h]; unfold tig; rw [if_pos rfl, HX.out, if_neg HE.out, HVV.out]
                · rw [if_neg h, if_neg h])] at h1
              exact h1
        · have f3 : decide (ii < nn) = false := decide_eq_false (by have := HN2.out; have := HII.out; have := HNV.out; omega)
          have ei : i = n2 := by have := HII.out; omega
          obtain ⟨T0, hT0⟩ : ∃ T0, tig D0 = T0 := ⟨_, rfl⟩
          have HT1 : Aside0 (TS w bo br bt #[.slice A0 vars.length c0, .slice A1 m.length c1, .bool false] #[.int .i64 nn, .slice Ad NN cd] (.slice Ad NN cd) wr (lst n2 T0)) := ⟨by
            have h := HT.out
            rw [ei, lst_congr (fun a b ha _ => tigTo_all a b ha), hT0] at h; exact h⟩
          have HT0 := Aside0.mk hT0
          have HTD : Aside0 (Bd n2 72057594037927938 T0) := ⟨by rw [← hT0]; exact tig_bd HDB.out (by decide)⟩
          clear hlt ei hT0 HT HII
          obtain ⟨ht0, ht1⟩ := HT1.out.tcells
          go_wp2
          clear ht0 ht1
          go_loopg [66] n2 (fun gg s66 wr => ∃ (i : Nat) (ii : Int), s66 = .int .i64 ii ∧ Aside0 (ii = (i : Int) ∧ i ≤ n2 ∧ n2 - i ≤ gg) ∧ Aside0 (TS w bo br bt #[.slice A0 vars.length c0, .slice A1 m.length c1, .bool false] #[.int .i64 nn, .slice Ad NN cd] (.slice Ad NN cd) wr (lst n2 T0)) ∧ Aside0 (∀ a, a < i → 0 ≤ plus (T0 a (nb a)) (T0 (nb a) a)))
          case atStart => exact ⟨0, 0, rfl, ⟨rfl, Nat.zero_le _, by omega⟩, HT1, ⟨fun a ha => absurd ha (by omega)⟩⟩
          case round =>
            clear HT1
            obtain ⟨i, ii, rfl, HII, HT, HST⟩ := hrel
            by_cases hlt : i < n2
            · have f3 : decide (ii < nn) = true := decide_eq_true (by have := HN2.out; have := HII.out; have := HNV.out; omega)
              have HIL := Aside0.mk hlt
              obtain ⟨bi, hbi⟩ : ∃ b, nbar ii = b := ⟨_, rfl⟩
              have HBI : Aside0 (bi = ((nb i : Nat) : Int) ∧ nb i < n2) := ⟨by have h := HII.out.1; rw [h, nbar_nb] at hbi; have h2 := HIL.out; have h3 := HN2.out; rw [h3] at h2 ⊢; exact ⟨hbi.symm, nb_lt h2⟩⟩
              have BAR : Aside0 (∀ W, Calls Try.prog 52 #[.int .i64 ii] W fun e w' => e = .returned (.int .i64 bi) ∧ w' = W) := ⟨fun W => oct_bar_still ii bi W (by unfold oct_bar.f; rw [if_pos (by have := HII.out; have := HIL.out; have := HN2.out; have := HL.out; omega), hbi])⟩
              obtain ⟨x, hx⟩ : ∃ x, T0 i (nb i) = x := ⟨_, rfl⟩
              obtain ⟨y, hy⟩ : ∃ y, T0 (nb i) i = y := ⟨_, rfl⟩
              obtain ⟨sm, hsm⟩ : ∃ sm, plus x y = sm := ⟨_, rfl⟩
              have ATT : Aside0 (∀ (a b : Nat) (aa bb : Int) (W : World), a < n2 → b < n2 → aa = (a : Int) → bb = (b : Int) → TS w bo br bt #[.slice A0 vars.length c0, .slice A1 m.length c1, .bool false] #[.int .i64 nn, .slice Ad NN cd] (.slice Ad NN cd) W (lst n2 T0) → Calls Try.prog 51 #[.agg #[.int .i64 nn, .slice Ad NN cd], .int .i64 aa, .int .i64 bb] W fun e w' => e = .returned (.int .i64 (T0 a b)) ∧ Below W.heap.size W w') := ⟨fun a b aa bb W ha hb haa hbb hW => by
                have hl4 := HN2.out
                have hrr := Kd.R_reads' hW.row
                have e1 : aa * (2 * (vars.length : Int)) + bb = ((a * n2 + b : Nat) : Int) := by rw [haa, hbb, hl4]; push_cast; rfl
                have h := oct_full_at.calls (2 * (vars.length : Int)) Ad cd (lst n2 T0) aa bb (T0 a b) W hrr.2.2 (by rw [← hrr.1]; exact hrr.2.1) (by
                  rw [at_ok HL.out (by rw [lst_length, hl4]; push_cast; rfl) (by omega) (by omega) (by omega) (by omega), lst_rd ha hb e1])
                rw [← hrr.1, HNV.out] at h
                exact h⟩
              have AT1 : Aside0 (∀ W, TS w bo br bt #[.slice A0 vars.length c0, .slice A1 m.length c1, .bool false] #[.int .i64 nn, .slice Ad NN cd] (.slice Ad NN cd) W (lst n2 T0) → Calls Try.prog 51 #[.agg #[.int .i64 nn, .slice Ad NN cd], .int .i64 ii, .int .i64 bi] W fun e w' => e = .returned (.int .i64 x) ∧ Below W.heap.size W w') := ⟨fun W hW => by rw [← hx]; exact ATT.out i (nb i) ii bi W HIL.out HBI.out.2 HII.out.1 HBI.out.1 hW⟩
              have AT2 : Aside0 (∀ W, TS w bo br bt #[.slice A0 vars.length c0, .slice A1 m.length c1, .bool false] #[.int .i64 nn, .slice Ad NN cd] (.slice Ad NN cd) W (lst n2 T0) → Calls Try.prog 51 #[.agg #[.int .i64 nn, .slice Ad NN cd], .int .i64 bi, .int .i64 ii] W fun e w' => e = .returned (.int .i64 y) ∧ Below W.heap.size W w') := ⟨fun W hW => by rw [← hy]; exact ATT.out (nb i) i bi ii W HBI.out.2 HIL.out HBI.out.1 HII.out.1 hW⟩
              have UP : Aside0 (∀ W, Calls Try.prog 57 #[.int .i64 x, .int .i64 y] W fun e w' => e = .returned (.int .i64 sm) ∧ Below W.heap.size W w') := ⟨fun W => bound_Up.calls x y sm W (by
                  rw [← hsm]; exact up_plus (B := 72057594037927938) (by decide) (by decide) (hx ▸ HTD.out i (nb i) HIL.out HBI.out.2) (hy ▸ HTD.out (nb i) i HBI.out.2 HIL.out))⟩
              have HS : Aside0 (plus (T0 i (nb i)) (T0 (nb i) i) = sm) := ⟨by rw [hx, hy]; exact hsm⟩
              obtain ⟨ht0, ht1⟩ := HT.out.tcells
              clear hlt hbi hx hy hsm ATT
              go_wp2
              go_region_held3 (fun w' => w'.cell? ⟨bt, 0, none⟩ = some (.int .i64 nn) ∧ w'.cell? ⟨bt, 1, none⟩ = some (.slice Ad NN cd)) (first | go_keep | exact KS)
                (first
                   | (go_at_call 52; (with_reducible refine (BAR.out _).mono ?_); rintro e w' ⟨rfl, rfl⟩)
                   | (go_at_call 51; (with_reducible refine (AT1.out _ (TS.next HT.out (below_drew (Below.refl _ _)))).mono ?_); rintro e w1 ⟨rfl, hb⟩; have HT1 := Aside0.mk (TS.next (TS.next HT.out (below_drew (Below.refl _ _))) hb); have KS := HT1.out.tcells; clear hb AT1)
                   | (go_at_call 51; (with_reducible refine (AT2.out _ HT1.out).mono ?_); rintro e w2 ⟨rfl, hb⟩; have HT2 := Aside0.mk (TS.next HT1.out hb); clear KS; have KS := HT2.out.tcells; clear hb AT2)
                   | (go_at_call 57; (with_reducible refine (UP.out _).mono ?_); rintro e w3 ⟨rfl, hb⟩; have HTB := Aside0.mk (TS.next HT2.out hb); clear KS; have KS := HTB.out.tcells; clear hb UP))
              clear KS HT HT1 HT2
              by_cases hs : sm < 0
              · have f4 : decide (sm < 0) = true := decide_eq_true hs
                have HSN := Aside0.mk hs
                obtain ⟨ho0, ho1, ho2⟩ := HTB.out.ob.cells
                clear hs
                rw [f4]
                go_wp2_with (go_at_call 14; (with_reducible refine (BOT.out _ ?s1).mono ?_); (case s1 => exact HTB.out.ob.below); rintro e w1 ⟨v0, v1, rfl, h0, h1, hb⟩; obtain ⟨Ao, co, eo⟩ := Kd.R_slice h0; subst eo; obtain ⟨Ap, cp, ep⟩ := Kd.R_slice h1; subst ep; have H0 := Aside0.mk h0; have H1 := Aside0.mk h1; have HO1 := Aside0.mk (OB.next HTB.out.ob hb); have HBW := Aside0.mk (HTB.out.ob).below.size; obtain ⟨⟨hr0, hr1, hr2⟩, hr3, hr4, hr5⟩ := HO1.out.res; clear h0 h1 hb ho0 ho1 ho2 ht0 ht1)
                refine bodyPost_ret (results_cell_row rfl _ _ br 25 #[.slice Ao vars.length co, .slice Ap 0 cp, .bool true] (0, 0) _ rfl (store3 HO1.out.r _ _ _).1 Try.underlying25 rfl (by kernel_rfl)) rfl ?_
                have hcb : closeB n2 M0 = false := closeB_false.2 (fun h => by
                  have h1 := h.2 i HIL.out
                  rw [HD0.out, HT0.out, HS.out] at h1
                  have := HSN.out; omega)
                have hcl : closeL n2 M0 = [] := by unfold closeL; rw [hcb]; rfl
                rw [hcb, hcl]
                exact ⟨_, _, rfl, OB.answer HO1.out HBW.out H0.out H1.out _⟩
              · have f4 : decide (sm < 0) = false := decide_eq_false hs
                have HSN := Aside0.mk hs
                clear hs
                rw [f4]
                go_wp2
                go_roundg (n2 - (i + 1))
                case measure => have := HII.out; have := HIL.out; omega
                case rel =>
                  have hw : wrap64 (ii + 1) = ii + 1 := by have := HII.out; have := HN2.out; have := HL.out; have := HIL.out; unfold wrap64; omega
                  refine ⟨i + 1, wrap64 (ii + 1), rfl, ⟨by have := HII.out; have := HIL.out; omega⟩, HTB, ⟨fun a ha => ?_⟩⟩
                  by_cases e : a = i
                  · subst e; have := HS.out; have := HSN.out; omega
                  · exact HST.out a (by omega)
            · have f3 : decide (ii < nn) = false := decide_eq_false (by have := HN2.out; have := HII.out; have := HNV.out; omega)
              have HCB : Aside0 (closeB n2 M0 = true) := ⟨closeB_true.2 ⟨hfok.out, fun a ha => by rw [HD0.out, HT0.out]; exact HST.out a (by have := HII.out; omega)⟩⟩
              clear hlt HII HST
              obtain ⟨ho0, ho1, ho2⟩ := HT.out.ob.cells
              obtain ⟨ht0, ht1⟩ := HT.out.tcells
              have CLN : Aside0 (∀ W, Below w.heap.size w W → Calls Try.prog 47 #[.slice A0 vars.length c0] W fun e w' => ∃ v0_ : Value, e = .returned (v0_) ∧ Kd.R (Kd.int .i64) 3 w' W.heap.size (fun _ => True) v0_ vars ∧ Below W.heap.size W w') := ⟨fun W hW => slices_Clone_int_int.calls A0 c0 vars vars W (Kd.C_below HR0.out hW) HC0.out (by have := HL.out; unfold slices_Clone_int_int.f; rw [if_pos (by omega)])⟩
              go_wp2
              obtain ⟨mc, mk1, mk2⟩ := make64 NN (by rw [← HNN.out]; have := HN2.out; have := HL.out; exact Nat.le_trans (Nat.mul_le_mul (show n2 ≤ 16 by omega) (show n2 ≤ 16 by omega)) (by omega))
              have HMK := Aside0.mk mk2
              clear mk2
              go_cut [9] (fun v9 wc => ∃ (bc : Nat) (Av Ac : Option Addr) (cv cc : Nat), v9 = .pointer (some ⟨bc, 0, none⟩) ∧ Aside0 (US w bo br bt bc #[.slice A0 vars.length c0, .slice A1 m.length c1, .bool false] #[.int .i64 nn, .slice Ad NN cd] (.slice Ad NN cd) (.slice Av vars.length cv) (.slice Ac NN cc) vars wc (lst n2 T0) (lst n2 (upTo (closeM n2 M0) 0 0))))
              case first =>
                have BD : Below wr.heap.size wr wr.drew := below_drew (Below.refl _ _)
                have BT : bt ≤ wr.heap.size := Nat.le_of_lt (blk_lt HT.out.t)
                have WS : w.heap.size ≤ wr.heap.size := HT.out.ob.below.size
                have BA : ∀ (W : World) (o : Obj), Below W.heap.size W (W.alloc o) := fun W o => below_alloc (Below.refl _ _) o
                have HZ : Aside0 (List.replicate NN (0 : Int) = lst n2 (upTo (closeM n2 M0) 0 0)) := ⟨by rw [← HNN.out]; exact lst_zero _ _⟩
                have bo1 := blk_lt HT.out.ob.o
                have br1 := blk_lt HT.out.ob.r
                have kb1 : bo ≠ wr.heap.size := Nat.ne_of_lt bo1
                have kb2 : bo ≠ wr.heap.size + 1 := by omega
                have kb3 : wr.heap.size ≠ bo := fun e => kb1 e.symm
                have kb4 : wr.heap.size + 1 ≠ bo := fun e => kb2 e.symm
                have HBB := Aside0.mk (And.intro BD (And.intro BT (And.intro WS (And.intro BA (And.intro bo1 br1)))))
                clear BD BT WS BA bo1 br1
                go_region_held3 (fun w' => w'.cell? ⟨bo, 0, none⟩ = some (.slice A0 vars.length c0)) (first | go_keep | exact KX)
                  (first
                   | (go_at_call 47; (with_reducible refine (CLN.out _ ?s1).mono ?_); (case s1 => first | exact (HT.out.next HBB.out.1).ob.below | exact ((HT.out.next HBB.out.1).next (HBB.out.2.2.2.1 _ _)).ob.below | exact (((HT.out.next HBB.out.1).next (HBB.out.2.2.2.1 _ _)).next (HBB.out.2.2.2.1 _ _)).ob.below); rintro e w1 ⟨v0, rfl, h0, hb⟩; obtain ⟨Av, cv, ev⟩ := Kd.R_slice h0; subst ev; have KX : w1.cell? ⟨bo, 0, none⟩ = some (.slice A0 vars.length c0) := (by first | exact ((HT.out.next HBB.out.1).next hb).ob.cells.1 | exact (((HT.out.next HBB.out.1).next (HBB.out.2.2.2.1 _ _)).next hb).ob.cells.1 | exact ((((HT.out.next HBB.out.1).next (HBB.out.2.2.2.1 _ _)).next (HBB.out.2.2.2.1 _ _)).next hb).ob.cells.1); have KN := World.new_ne _ _ KX; have H0 := Aside0.mk h0; have HB := Aside0.mk hb; clear h0; (first | (have hbx := blk_below (blk_new wr.drew (.cells #[.slice none 0 0, .slice none 0 0, .bool false] 25)) hb) | (have hbx := blk_below (blk_new (wr.drew.alloc (.cells mc 2)) (.cells #[.slice none 0 0, .slice none 0 0, .bool false] 25)) hb) | (have hbx := blk_below (blk_alloc (blk_new wr.drew (.cells #[.slice none 0 0, .slice none 0 0, .bool false] 25)) (.cells mc 2)) hb) | skip); (try (have hcx0 := blk_cell hbx 0; have hcx1 := blk_cell hbx 1; have hcx2 := blk_cell hbx 2; have hfx0 := blk_frozen hbx 0; have hfx1 := blk_frozen hbx 1; have hfx2 := blk_frozen hbx 2; have HBX := Aside0.mk hbx; have hcy0 := fun o => blk_cell (blk_alloc hbx o) 0; have hcy1 := fun o => blk_cell (blk_alloc hbx o) 1; have hcy2 := fun o => blk_cell (blk_alloc hbx o) 2; have hfy0 := fun o => blk_frozen (blk_alloc hbx o) 0; have hfy1 := fun o => blk_frozen (blk_alloc hbx o) 1; have hfy2 := fun o => blk_frozen (blk_alloc hbx o) 2; clear hbx; simp at hcx0 hcx1 hcx2 hfx0 hfx1 hfx2 hcy0 hcy1 hcy2 hfy0 hfy1 hfy2)); clear hb))
                all_goals go_wp2
                all_goals go_meet
                all_goals obtain ⟨BD, BT, WS, BA, bo1, br1⟩ := HBB.out
                all_goals try (case measure => exact 0)
                · have rc := HMK.out w1 bt (Nat.le_trans BT HB.out.size)
                  rw [HZ.out] at rc
                  have h := US.made (((HT.out.next BD).next HB.out).next (BA _ (.cells mc 2))) (Kd.R_alloc (Kd.R_lower H0.out WS) _) rc
                  rw [World.size_alloc] at h
                  exact ⟨_, _, _, _, _, rfl, ⟨h⟩⟩
                · exact ⟨_, _, _, _, _, rfl, ⟨⟨(((HT.out.next BD).next HB.out).next (BA _ _)).next (BA _ _), blk_alloc (blk_new _ _) _, Kd.R_alloc (Kd.R_alloc (Kd.R_lower H0.out WS) _) _, by rw [← HZ.out]; have := HMK.out (w1.alloc (.cells #[.slice Av vars.length cv, .slice (some ⟨w1.heap.size + 1, 0, none⟩) NN NN, .bool false] 25)) bt (by simp; have := Nat.le_trans BT HB.out.size; omega); simpa using this⟩⟩⟩
                · exact ⟨_, _, _, _, _, rfl, ⟨US.made (((HT.out.next BD).next (BA _ _)).next HB.out) (Kd.R_lower H0.out (Nat.le_trans WS (BA _ _).size)) (by rw [← HZ.out]; exact Kd.R_below (Kd.R_drew (HMK.out wr bt BT)) HB.out)⟩⟩
                · exact ⟨_, _, _, _, _, rfl, ⟨US.filled ((((HT.out.next BD).next (BA _ _)).next (BA _ _)).next HB.out) (Kd.R_lower H0.out (Nat.le_trans WS (Nat.le_trans (BA _ _).size (BA _ _).size))) (by rw [← HZ.out]; exact Kd.R_below (Kd.R_drew (Kd.R_alloc (HMK.out wr bt BT) _)) HB.out) (by simpa using HBX.out) (by omega) (by omega) (by omega)⟩⟩
                · exact ⟨_, _, _, _, _, rfl, ⟨US.filled ((((HT.out.next BD).next (BA _ _)).next HB.out).next (BA _ _)) (Kd.R_alloc (Kd.R_lower H0.out (Nat.le_trans WS (BA _ _).size)) _) (by rw [← HZ.out]; exact HMK.out _ _ (Nat.le_trans BT (Nat.le_trans (BA _ _).size HB.out.size))) (blk_alloc (by simpa using HBX.out) _) (by omega) (by omega) (by omega)⟩⟩
                · exact ⟨_, _, _, _, _, rfl, ⟨US.filled ((((HT.out.next BD).next (BA _ _)).next (BA _ _)).next HB.out) (Kd.R_lower H0.out (Nat.le_trans WS (Nat.le_trans (BA _ _).size (BA _ _).size))) (by rw [← HZ.out]; have := HMK.out (wr.alloc (.cells #[.slice none 0 0, .slice none 0 0, .bool false] 25)) bt (by simp; omega); exact Kd.R_below (Kd.R_drew (by simpa using this)) HB.out) (by simpa using HBX.out) (by omega) (by omega) (by omega)⟩⟩
              case rest =>
                clear HT HMK mk1 CLN ho0 ho1 ho2 ht0 ht1 BOT
                obtain ⟨bc, Av, Ac, cv, cc, rfl, HU⟩ := hcut
                obtain ⟨C0, hC0⟩ : ∃ C0, closeM n2 M0 = C0 := ⟨_, rfl⟩
                rw [hC0] at HU
                have HC := Aside0.mk hC0
                clear hC0
                obtain ⟨ht0, ht1⟩ := HU.out.ts.tcells
                go_wp2
                clear ht0 ht1
                go_loopg [94] n2 (fun gg s94 wr => ∃ (i : Nat) (ii : Int), s94 = .int .i64 ii ∧ Aside0 (ii = (i : Int) ∧ i ≤ n2 ∧ n2 - i ≤ gg) ∧ Aside0 (US w bo br bt bc #[.slice A0 vars.length c0, .slice A1 m.length c1, .bool false] #[.int .i64 nn, .slice Ad NN cd] (.slice Ad NN cd) (.slice Av vars.length cv) (.slice Ac NN cc) vars wr (lst n2 T0) (lst n2 (upTo C0 i 0))))
                case atStart => exact ⟨0, 0, rfl, ⟨rfl, Nat.zero_le _, by omega⟩, HU⟩
                case round =>
                  clear HU
                  obtain ⟨i, ii, rfl, HII, HU⟩ := hrel
                  by_cases hlt : i < n2
                  · have f3 : decide (ii < nn) = true := decide_eq_true (by have := HN2.out; have := HII.out; have := HNV.out; omega)
                    have HIL := Aside0.mk hlt
                    have hN0 : 0 < (lst n2 (upTo C0 i 0)).length := by rw [lst_length]; exact Nat.mul_pos (by omega) (by omega)
                    obtain ⟨g, cap, eg, hg1, hg2, cells, hg3⟩ := Kd.R_form HU.out.rc hN0
                    injection eg with e1 e2 e3
                    subst e1
                    have HP0 : Aside0 (∀ d, 0 < (lst n2 d).length) := ⟨fun d => by rw [lst_length]; exact Nat.mul_pos (by have := HIL.out; omega) (by have := HIL.out; omega)⟩
                    have n3 : bt ≠ g := typed_ne HU.out.ts.t hg3 (by decide)
                    have n4 : g ≠ bt := fun e => n3 e.symm
                    have n5 : bc ≠ g := typed_ne HU.out.c hg3 (by decide)
                    have n6 : g ≠ bc := fun e => n5 e.symm
                    clear hlt hN0 e2 e3 hg1 hg2 hg3 cells cap
                    obtain ⟨ht0, ht1⟩ := HU.out.ts.tcells
                    go_wp2
                    clear ht0 ht1
                    go_loopg [99] n2 (fun gg s99 wr => ∃ (j : Nat) (jj : Int), s99 = .int .i64 jj ∧ Aside0 (jj = (j : Int) ∧ j ≤ n2 ∧ n2 - j ≤ gg) ∧ Aside0 (US w bo br bt bc #[.slice A0 vars.length c0, .slice A1 m.length c1, .bool false] #[.int .i64 nn, .slice Ad NN cd] (.slice Ad NN cd) (.slice Av vars.length cv) (.slice (some ⟨g, 0, none⟩) NN cc) vars wr (lst n2 T0) (lst n2 (upTo C0 i j))))
                    case atStart => exact ⟨0, 0, rfl, ⟨rfl, Nat.zero_le _, by omega⟩, HU⟩
                    case round =>
                      clear HU
                      obtain ⟨j, jj, rfl, HJJ, HU⟩ := hrel
                      by_cases hlt : j < n2
                      · have f4 : decide (jj < nn) = true := decide_eq_true (by have := HN2.out; have := HJJ.out; have := HNV.out; omega)
                        have HJL := Aside0.mk hlt
                        obtain ⟨bi, hbi⟩ : ∃ b, nbar ii = b := ⟨_, rfl⟩
                        obtain ⟨bj, hbj⟩ : ∃ b, nbar jj = b := ⟨_, rfl⟩
                        have HBI : Aside0 (bi = ((nb i : Nat) : Int) ∧ nb i < n2) := ⟨by have h := HII.out.1; rw [h, nbar_nb] at hbi; have h2 := HIL.out; have h3 := HN2.out; rw [h3] at h2 ⊢; exact ⟨hbi.symm, nb_lt h2⟩⟩
                        have HBJ : Aside0 (bj = ((nb j : Nat) : Int) ∧ nb j < n2) := ⟨by have h := HJJ.out.1; rw [h, nbar_nb] at hbj; have h2 := HJL.out; have h3 := HN2.out; rw [h3] at h2 ⊢; exact ⟨hbj.symm, nb_lt h2⟩⟩
                        have BAR1 : Aside0 (∀ W, Calls Try.prog 52 #[.int .i64 ii] W fun e w' => e = .returned (.int .i64 bi) ∧ w' = W) := ⟨fun W => oct_bar_still ii bi W (by unfold oct_bar.f; rw [if_pos (by have := HII.out; have := HIL.out; have := HN2.out; have := HL.out; omega), hbi])⟩
                        have BAR2 : Aside0 (∀ W, Calls Try.prog 52 #[.int .i64 jj] W fun e w' => e = .returned (.int .i64 bj) ∧ w' = W) := ⟨fun W => oct_bar_still jj bj W (by unfold oct_bar.f; rw [if_pos (by have := HJJ.out; have := HJL.out; have := HN2.out; have := HL.out; omega), hbj])⟩
                        obtain ⟨x, hx⟩ : ∃ x, T0 i j = x := ⟨_, rfl⟩
                        obtain ⟨y, hy⟩ : ∃ y, T0 i (nb i) = y := ⟨_, rfl⟩
                        obtain ⟨z, hz⟩ : ∃ z, T0 (nb j) j = z := ⟨_, rfl⟩
                        obtain ⟨sm, hsm⟩ : ∃ sm, plus y z = sm := ⟨_, rfl⟩
                        obtain ⟨hf, hhf⟩ : ∃ hf, half sm = hf := ⟨_, rfl⟩
                        obtain ⟨cl, hcl⟩ : ∃ cl, clipV (mn x hf) = cl := ⟨_, rfl⟩
                        have ATT : Aside0 (∀ (a b : Nat) (aa bb : Int) (W : World), a < n2 → b < n2 → aa = (a : Int) → bb = (b : Int) → US w bo br bt bc #[.slice A0 vars.length c0, .slice A1 m.length c1, .bool false] #[.int .i64 nn, .slice Ad NN cd] (.slice Ad NN cd) (.slice Av vars.length cv) (.slice (some ⟨g, 0, none⟩) NN cc) vars W (lst n2 T0) (lst n2 (upTo C0 i j)) → Calls Try.prog 51 #[.agg #[.int .i64 nn, .slice Ad NN cd], .int .i64 aa, .int .i64 bb] W fun e w' => e = .returned (.int .i64 (T0 a b)) ∧ Below W.heap.size W w') := ⟨fun a b aa bb W ha hb haa hbb hW => by
                          have hl4 := HN2.out
                          have hrr := Kd.R_reads' hW.ts.row
                          have e1 : aa * (2 * (vars.length : Int)) + bb = ((a * n2 + b : Nat) : Int) := by rw [haa, hbb, hl4]; push_cast; rfl
                          have h := oct_full_at.calls (2 * (vars.length : Int)) Ad cd (lst n2 T0) aa bb (T0 a b) W hrr.2.2 (by rw [← hrr.1]; exact hrr.2.1) (by
                            rw [at_ok HL.out (by rw [lst_length, hl4]; push_cast; rfl) (by omega) (by omega) (by omega) (by omega), lst_rd ha hb e1])
                          rw [← hrr.1, HNV.out] at h
                          exact h⟩
                        have AT1 : Aside0 (∀ W, US w bo br bt bc #[.slice A0 vars.length c0, .slice A1 m.length c1, .bool false] #[.int .i64 nn, .slice Ad NN cd] (.slice Ad NN cd) (.slice Av vars.length cv) (.slice (some ⟨g, 0, none⟩) NN cc) vars W (lst n2 T0) (lst n2 (upTo C0 i j)) → Calls Try.prog 51 #[.agg #[.int .i64 nn, .slice Ad NN cd], .int .i64 ii, .int .i64 jj] W fun e w' => e = .returned (.int .i64 x) ∧ Below W.heap.size W w') := ⟨fun W hW => by rw [← hx]; exact ATT.out i j ii jj W HIL.out HJL.out HII.out.1 HJJ.out.1 hW⟩
                        have AT2 : Aside0 (∀ W, US w bo br bt bc #[.slice A0 vars.length c0, .slice A1 m.length c1, .bool false] #[.int .i64 nn, .slice Ad NN cd] (.slice Ad NN cd) (.slice Av vars.length cv) (.slice (some ⟨g, 0, none⟩) NN cc) vars W (lst n2 T0) (lst n2 (upTo C0 i j)) → Calls Try.prog 51 #[.agg #[.int .i64 nn, .slice Ad NN cd], .int .i64 ii, .int .i64 bi] W fun e w' => e = .returned (.int .i64 y) ∧ Below W.heap.size W w') := ⟨fun W hW => by rw [← hy]; exact ATT.out i (nb i) ii bi W HIL.out HBI.out.2 HII.out.1 HBI.out.1 hW⟩
                        have AT3 : Aside0 (∀ W, US w bo br bt bc #[.slice A0 vars.length c0, .slice A1 m.length c1, .bool false] #[.int .i64 nn, .slice Ad NN cd] (.slice Ad NN cd) (.slice Av vars.length cv) (.slice (some ⟨g, 0, none⟩) NN cc) vars W (lst n2 T0) (lst n2 (upTo C0 i j)) → Calls Try.prog 51 #[.agg #[.int .i64 nn, .slice Ad NN cd], .int .i64 bj, .int .i64 jj] W fun e w' => e = .returned (.int .i64 z) ∧ Below W.heap.size W w') := ⟨fun W hW => by rw [← hz]; exact ATT.out (nb j) j bj jj W HBJ.out.2 HJL.out HBJ.out.1 HJJ.out.1 hW⟩
                        have UP : Aside0 (∀ W, Calls Try.prog 57 #[.int .i64 y, .int .i64 z] W fun e w' => e = .returned (.int .i64 sm) ∧ Below W.heap.size W w') := ⟨fun W => bound_Up.calls y z sm W (by
                          rw [← hsm]; exact up_plus (B := 72057594037927938) (by decide) (by decide) (hy ▸ HTD.out i (nb i) HIL.out HBI.out.2) (hz ▸ HTD.out (nb j) j HBJ.out.2 HJL.out))⟩
                        have HALF : Aside0 (∀ W, Calls Try.prog 56 #[.int .i64 sm] W fun e w' => e = .returned (.int .i64 hf) ∧ Drawn0 W w') := ⟨fun W => bound_Half.calls sm hf W (by
                          rw [← hhf]; refine half_half ?_
                          have b1 := hy ▸ HTD.out i (nb i) HIL.out HBI.out.2; have b2 := hz ▸ HTD.out (nb j) j HBJ.out.2 HJL.out
                          rw [← hsm]; unfold Fin' plus at *; split <;> omega)⟩
                        obtain ⟨mv, hmv⟩ : ∃ mv, (if hf < x then hf else x) = mv := ⟨_, rfl⟩
                        have CLIP : Aside0 (∀ W, Calls Try.prog 58 #[.int .i64 mv] W fun e w' => e = .returned (.int .i64 cl) ∧ Below W.heap.size W w') := ⟨fun W => oct_clip.calls mv cl W (by rw [← hcl, ← hmv]; exact clip_clip _)⟩
                        have HS : Aside0 (C0 i j = cl) := ⟨by rw [← HC.out]; unfold closeM strg; rw [HD0.out, HT0.out, hx, hy, hz, hsm, hhf]; exact hcl⟩
                        obtain ⟨q1, hq1⟩ : ∃ q, IntKind.i64.wrap (ii * nn) = q := ⟨_, rfl⟩
                        obtain ⟨p, hp⟩ : ∃ q, IntKind.i64.wrap (q1 + jj) = q := ⟨_, rfl⟩
                        have HPP : Aside0 (p = ((i * n2 + j : Nat) : Int)) := ⟨by
                          have h2 := HII.out.1; have h3 := HJJ.out.1; have h4 := HNV.out; have h5 := HN2.out; have h6 := HL.out; have h7 := HIL.out; have h8 := HJL.out
                          have e1 : ii * nn = ((i * n2 : Nat) : Int) := by rw [h2, ← h4, h5]; push_cast; rfl
                          have m1 : i * n2 ≤ 16 * 16 := Nat.mul_le_mul (by omega) (by omega)
                          rw [e1, IntKind.wrap_i64] at hq1
                          rw [IntKind.wrap_i64] at hp
                          have r1 : q1 = ((i * n2 : Nat) : Int) := by omega
                          clear e1 hq1 hx hy hz hsm hhf hcl hbi hbj hmv
                          subst r1
                          omega⟩
                        have HPB : Aside0 (0 ≤ p ∧ p < (NN : Int)) := ⟨by have := ij_lt HIL.out HJL.out; rw [HNN.out] at this; have := HPP.out; omega⟩
                        have r10 := eq_true HPB.out.1
                        have r11 := eq_true HPB.out.2
                        obtain ⟨ht0, ht1⟩ := HU.out.ts.tcells
                        have hc1' := blk_cell HU.out.c 1
                        simp only [List.getElem?_toArray, List.getElem?_cons_succ, List.getElem?_cons_zero] at hc1'
                        clear hlt hbi hbj hx hy hz hsm hhf hcl ATT
                        go_wp2
                        go_region_held3 (fun w' => w'.cell? ⟨bt, 0, none⟩ = some (.int .i64 nn) ∧ w'.cell? ⟨bt, 1, none⟩ = some (.slice Ad NN cd) ∧ w'.cell? ⟨bc, 1, none⟩ = some (.slice (some ⟨g, 0, none⟩) NN cc)) (first | go_keep | exact ⟨KS.1, KS.2, KC⟩)
                          (first
                           | (go_at_call 52; (with_reducible refine (BAR1.out _).mono ?_); rintro e w' ⟨rfl, rfl⟩)
                           | (go_at_call 52; (with_reducible refine (BAR2.out _).mono ?_); rintro e w' ⟨rfl, rfl⟩)
                           | (go_at_call 51; (with_reducible refine (AT1.out _ (US.next HU.out (below_drew (Below.refl _ _)))).mono ?_); rintro e w1 ⟨rfl, hb⟩; have HU1 := Aside0.mk (US.next (US.next HU.out (below_drew (Below.refl _ _))) hb); have KS := HU1.out.ts.tcells; have KC : w1.cell? ⟨bc, 1, none⟩ = some (.slice (some ⟨g, 0, none⟩) NN cc) := (blk_cell HU1.out.c 1).trans rfl; clear hb AT1 HU)
                           | (go_at_call 51; (with_reducible refine (AT2.out _ HU1.out).mono ?_); rintro e w2 ⟨rfl, hb⟩; have HU2 := Aside0.mk (US.next HU1.out hb); clear KS KC; have KS := HU2.out.ts.tcells; have KC : w2.cell? ⟨bc, 1, none⟩ = some (.slice (some ⟨g, 0, none⟩) NN cc) := (blk_cell HU2.out.c 1).trans rfl; clear hb AT2 HU1)
                           | (go_at_call 51; (with_reducible refine (AT3.out _ HU2.out).mono ?_); rintro e w3 ⟨rfl, hb⟩; have HU3 := Aside0.mk (US.next HU2.out hb); clear KS KC; have KS := HU3.out.ts.tcells; have KC : w3.cell? ⟨bc, 1, none⟩ = some (.slice (some ⟨g, 0, none⟩) NN cc) := (blk_cell HU3.out.c 1).trans rfl; clear hb AT3 HU2)
                           | (go_at_call 57; (with_reducible refine (UP.out _).mono ?_); rintro e w4 ⟨rfl, hb⟩; have HU4 := Aside0.mk (US.next HU3.out hb); clear KS KC; have KS := HU4.out.ts.tcells; have KC : w4.cell? ⟨bc, 1, none⟩ = some (.slice (some ⟨g, 0, none⟩) NN cc) := (blk_cell HU4.out.c 1).trans rfl; clear hb UP HU3)
                           | (go_at_call 56; (with_reducible refine (HALF.out _).mono ?_); rintro e w5 ⟨rfl, hb⟩; have HU5 := Aside0.mk (US.next HU4.out hb.below); clear KS KC; have KS := HU5.out.ts.tcells; have KC : w5.cell? ⟨bc, 1, none⟩ = some (.slice (some ⟨g, 0, none⟩) NN cc) := (blk_cell HU5.out.c 1).trans rfl; clear hb HALF HU4)
                           | (go_at_call 58; (with_reducible refine (CLIP.out _).mono ?_); rintro e w6 ⟨rfl, hb⟩; have HU6 := Aside0.mk (US.next HU5.out hb); clear KS KC; have KS := HU6.out.ts.tcells; have KC : w6.cell? ⟨bc, 1, none⟩ = some (.slice (some ⟨g, 0, none⟩) NN cc) := (blk_cell HU6.out.c 1).trans rfl; obtain ⟨hz1, hz2⟩ := Kd.R_celln 0 HU6.out.rc p HPB.out.1 HPB.out.2; clear hb CLIP HU5))
                        go_wp2
                        go_roundg (n2 - (j + 1))
                        case measure => have := HJJ.out; have := HJL.out; omega
                        case rel =>
                          have hw : wrap64 (jj + 1) = jj + 1 := by have := HJJ.out; have := HN2.out; have := HL.out; have := HJL.out; unfold wrap64; omega
                          refine ⟨j + 1, wrap64 (jj + 1), rfl, ⟨by have := HJJ.out; have := HJL.out; omega⟩, ⟨?_⟩⟩
                          have h1 := US.put HU6.out (HP0.out _) p cl
                          rw [lst_set HIL.out HJL.out HPP.out, ← HS.out, lst_congr (fun a b _ _ => (upTo_step a b).symm)] at h1
                          rw [HS.out] at h1
                          exact h1
                      · have f4 : decide (jj < nn) = false := decide_eq_false (by have := HN2.out; have := HJJ.out; have := HNV.out; omega)
                        have ej : j = n2 := by have := HJJ.out; omega
                        have HEJ := Aside0.mk ej
                        clear hlt ej
                        go_wp2
                        go_roundg (n2 - (i + 1))
                        case measure => have := HII.out; have := HIL.out; omega
                        case rel =>
                          have hw : wrap64 (ii + 1) = ii + 1 := by have := HII.out; have := HN2.out; have := HL.out; have := HIL.out; unfold wrap64; omega
                          refine ⟨i + 1, wrap64 (ii + 1), rfl, ⟨by have := HII.out; have := HIL.out; omega⟩, ⟨?_⟩⟩
                          have h1 := HU.out
                          rw [HEJ.out, lst_congr (fun a b _ hb => upTo_row a b hb)] at h1
                          exact h1
                  · have f3 : decide (ii < nn) = false := decide_eq_false (by have := HN2.out; have := HII.out; have := HNV.out; omega)
                    have ei : i = n2 := by have := HII.out; omega
                    have HEI := Aside0.mk ei
                    clear hlt ei
                    have hc0' := blk_cell HU.out.c 0
                    have hc1' := blk_cell HU.out.c 1
                    have hc2' := blk_cell HU.out.c 2
                    simp only [List.getElem?_toArray, List.getElem?_cons_succ, List.getElem?_cons_zero] at hc0' hc1' hc2'
                    obtain ⟨⟨hr0, hr1, hr2⟩, hr3, hr4, hr5⟩ := HU.out.ts.ob.res
                    go_wp2
                    refine bodyPost_ret (results_cell_row rfl _ _ br 25 #[.slice Av vars.length cv, .slice Ac NN cc, .bool false] (0, 0) _ rfl (store3 HU.out.ts.ob.r _ _ _).1 Try.underlying25 rfl (by kernel_rfl)) rfl ?_
                    have hcl : closeL n2 M0 = lst n2 C0 := by unfold closeL; rw [if_pos HCB.out, HC.out]
                    rw [HCB.out, hcl]
                    have h1 := HU.out.rc
                    rw [HEI.out, lst_congr (fun a b ha _ => upTo_all a b ha)] at h1
                    exact ⟨_, _, rfl, OB.answer HU.out.ts.ob (Nat.le_refl _) HU.out.rv (Kd.R_lower h1 HU.out.ts.tb) _⟩
end Go.Proofs.Ytomgebmimgaojaa.QO
end
end
section
/- A region that draws its order inside a round of a range over a function is walked as any other: its steps ask nothing of the round. -/
noncomputable section
namespace Go.Proofs.YtomgebmimgaojaaW.PrintLast
open Go.RowKit Go.Proofs.YtomgebmimgaojaaW.PrintWords
/-- the post, for a normal end alone -/
def OnlyN (Q : Exit → Act → World → Prop) : Exit → Act → World → Prop
  | .normal, a, w => Q .normal a w
  | _, _, _ => False
theorem OnlyN.imp {Q : Exit → Act → World → Prop} : ∀ e a w, OnlyN Q e a w → Q e a w := fun e a w h => by
  cases e <;> first | exact h | exact (h : False).elim
theorem OnlyN.shut {Q : Exit → Act → World → Prop} : ¬ LetsOut (OnlyN Q) := fun h => by
  obtain ⟨_, _, h⟩ := h
  exact h
variable {P : Program} {ops : Array Oper} {Q : Exit → Act → World → Prop}
theorem wpOp_round {l n i : Nat} {K : Act → World → Prop} {a : Act} {w : World} (hd : ∀ (i : Nat) (o : Oper), ops[i]? = some o → ∀ c, o.op ≠ .defer c) (hL : ¬ LetsOut Q) (h : wpOp P ops Q i K a w) : wpOpIn (Fence.wide.inRound l) n P ops Q i K a w := by
  unfold wpOp at h
  unfold wpOpIn
  cases ho : ops[i]? with
  | none => rw [ho] at h; exact h
  | some o =>
    rw [ho] at h
    simp only at h ⊢
    split
    · rename_i hw
      rw [if_pos hw] at h
      rcases h with h | h
      · refine ⟨fun _ _ => trivial, ?_⟩
        rw [Oper.semAt_eq _ _ _ (hd i o ho)]
        unfold Oper.wp at h
        generalize (execOp a.eval o).run P w = r at *
        cases r with
        | ok x w' =>
          cases x <;> simp only [Oper.upon, Oper.uponIn] at h ⊢
          all_goals first
            | exact h
            | exact ⟨fun h => (by cases h), (callsIn_wide.2 h).inRound l⟩
            | exact h.elim
            | exact ⟨fun h => (by cases h), fun c cs _ => let ⟨v, w', r, s⟩ := h c cs; ⟨v, w', r, stepsIn_wide.2 s⟩⟩
        | halt x w' => cases x <;> simp only [Oper.upon, Oper.uponIn] at h ⊢ <;> exact h
      · exact absurd h.2 hL
    · rename_i hw
      rw [if_neg hw] at h
      exact ⟨fun _ _ => trivial, h⟩
theorem wpAny_round {md : Region.Mode} {l n : Nat} (hd : ∀ (i : Nat) (o : Oper), ops[i]? = some o → ∀ c, o.op ≠ .defer c) (hL : ¬ LetsOut Q) : ∀ (fuel : Nat) (listed : Array Bool) (a : Act) (w : World), wpAny P md ops Q fuel listed a w → wpAnyIn (Fence.wide.inRound l) n P md ops Q fuel listed a w
  | 0, _, _, _, h => h
  | fuel + 1, _, _, _, h => ⟨h.1, fun i hi => wpOpIn_mono (fun a' w' h' => wpAny_round hd hL fuel _ a' w' h') (wpOp_round hd hL (h.2 i hi))⟩
def noDefer (ops : Array Oper) : Bool := ops.all fun o => match o.op with
  | .defer _ => false
  | _ => true
theorem noDefer_of (h : noDefer ops = true) (i : Nat) (o : Oper) (ho : ops[i]? = some o) (c : Call) : o.op ≠ .defer c := by
  intro e
  obtain ⟨hi, ho⟩ := Array.getElem?_eq_some_iff.1 ho
  unfold noDefer at h
  have := Array.all_eq_true.1 h i hi
  rw [ho, e] at this
  cases this
/-- a region that draws its order, in a round of a range over a function: it is walked as any other -/
theorem startR_ {S : World → Prop} {ds : List Nat} {id n k r : Nat} {a : Act} {w : World} (l : Array Bool) (hm : P.follows .mixedOrders = true) (hn : ops.size = n) (hl : Array.replicate n false = l) (hd : noDefer ops = true) (hS : S w.drew)
    (h : S w.drew → wpAnyLast P .any ops (OnlyN Q) S ds n l a w.drew) : (Code.region id ops true).wpIn (Fence.wide.inRound r) k P Q a w := by
  subst hn
  subst hl
  exact Code.wpIn_mono OnlyN.imp (wpIn_region_any hm (wpAny_round (noDefer_of hd) OnlyN.shut _ _ _ _ (wpAny_of_last _ _ _ _ (h hS))))
/-- a region that does not panic, under a post that hangs on the frame elsewhere -/
theorem startN_ {S : World → Prop} {ds : List Nat} {id n : Nat} {a : Act} {w : World} (l : Array Bool) (hm : P.follows .mixedOrders = true) (hn : ops.size = n) (hl : Array.replicate n false = l) (hS : S w.drew)
    (h : S w.drew → wpAnyLast P .any ops (OnlyN Q) S ds n l a w.drew) : (Code.region id ops true).wp P Q a w :=
  Code.wp_mono OnlyN.imp (start_ l hm hn hl hS h)
section
variable {md : Region.Mode} {S : World → Prop} {ds : List Nat} {fuel : Nat} {l : Array Bool} {a a' : Act} {w : World} {v : Value}
/-- the frame written out behind an event -/
theorem nO_ (n : Nat) (h : wpAnyLast P md ops Q S ds fuel l a' w) (ha : a.put (some n) v = a' := by simp only [Act.put, List.setIfInBounds_toArray, List.set_cons_zero, List.set_cons_succ, i64_w, i32_w]; rfl) : wpAnyLast P md ops Q S ds fuel l (a.put (some n) v) w := norm_ ha h
/-- the frames meet -/
theorem nP_ (h : wpAnyLast P md ops Q S ds fuel l a' w) (ha : a = a' := by first | (simp only [Go.Proofs.YtomgebmimgaojaaW.PrintLast.putAll, Act.put, List.setIfInBounds_toArray, List.set_cons_zero, List.set_cons_succ]; done) | (simp only [Go.Proofs.YtomgebmimgaojaaW.PrintLast.putAll, Act.put, List.setIfInBounds_toArray, List.set_cons_zero, List.set_cons_succ]; rfl)) : wpAnyLast P md ops Q S ds fuel l a w := norm_ ha h
theorem nS_ (h : wpAnyLast P md ops Q S ds fuel l a' w) (ha : a = a' := by simp only [Go.Proofs.YtomgebmimgaojaaW.PrintLast.putAll, Act.put, List.setIfInBounds_toArray, List.set_cons_zero, List.set_cons_succ]; rfl) : wpAnyLast P md ops Q S ds fuel l a w := norm_ ha h
end
end Go.Proofs.YtomgebmimgaojaaW.PrintLast
end
end
section
/- 'x, y := F(a), F(b)' of two octagons: what is known, in whatever order the calls and the two new variables come up. -/
noncomputable section
namespace Go.Proofs.Ytomgebmimgaojaa.QO
open Go.RowKit Go.Shelf Go.Proofs.YtomgebmimgaojaaW.PrintWords Go.Proofs.YtomgebmimgaojaaW.PrintLast Go.Proofs.YtomgebmimgaojaaW.PrintMore
set_option linter.unusedVariables false
abbrev zero25 : Obj := .cells #[.slice none 0 0, .slice none 0 0, .bool false] 25 (0, 0)
/-- the two octagons' boxes, the result's; what the calls gave, the new variables, each where it has come up -/
structure PX (w : World) (ba bb br : Nat) (xa xb : Array Value) (ro : Obj) (v1 v2 v3 v4 : Value) (t1 t2 t3 t4 : List Int) (b5 b6 s : Nat) (m1 m3 m4 m5 : Bool) (W : World) : Prop where
  below : Below w.heap.size w W
  a : W.heap[ba]? = some (.cells xa 25 (0, 0))
  b : W.heap[bb]? = some (.cells xb 25 (0, 0))
  r : W.heap[br]? = some ro
  r1 : m1 = true → Kd.R (Kd.int .i64) 3 W w.heap.size (fun k => k < s) v1 t1 ∧ Kd.R (Kd.int .i64) 2 W w.heap.size (fun k => k < s) v2 t2 ∧ s ≤ W.heap.size ∧ w.heap.size ≤ s
  r3 : m3 = true → Kd.R (Kd.int .i64) 3 W s (fun _ => True) v3 t3 ∧ Kd.R (Kd.int .i64) 2 W s (fun _ => True) v4 t4
  x5 : m4 = true → W.heap[b5]? = some zero25 ∧ w.heap.size ≤ b5 ∧ ba < b5 ∧ bb < b5 ∧ br < b5
  x6 : m5 = true → W.heap[b6]? = some zero25 ∧ w.heap.size ≤ b6 ∧ ba < b6 ∧ bb < b6 ∧ br < b6
  ne : m4 = true → m5 = true → b5 ≠ b6
section
variable {w : World} {ba bb br : Nat} {xa xb : Array Value} {ro : Obj} {v1 v2 v3 v4 : Value} {t1 t2 t3 t4 : List Int} {b5 b6 s : Nat} {m1 m3 m4 m5 : Bool} {W W' : World}
theorem PX.next (h : PX w ba bb br xa xb ro v1 v2 v3 v4 t1 t2 t3 t4 b5 b6 s m1 m3 m4 m5 W) (hb : Below W.heap.size W W') : PX w ba bb br xa xb ro v1 v2 v3 v4 t1 t2 t3 t4 b5 b6 s m1 m3 m4 m5 W' :=
  ⟨h.below.trans (hb.mono h.below.size), blk_below h.a hb, blk_below h.b hb, blk_below h.r hb, fun e => ⟨Kd.R_below (h.r1 e).1 hb, Kd.R_below (h.r1 e).2.1 hb, Nat.le_trans (h.r1 e).2.2.1 hb.size, (h.r1 e).2.2.2⟩,
    fun e => ⟨Kd.R_below (h.r3 e).1 hb, Kd.R_below (h.r3 e).2 hb⟩, fun e => ⟨blk_below (h.x5 e).1 hb, (h.x5 e).2⟩, fun e => ⟨blk_below (h.x6 e).1 hb, (h.x6 e).2⟩, h.ne⟩
theorem PX.c1 (h : PX w ba bb br xa xb ro v1 v2 v3 v4 t1 t2 t3 t4 b5 b6 s false false m4 m5 W) {u1 u2 : Value} (h1 : Kd.R (Kd.int .i64) 3 W' W.heap.size (fun _ => True) u1 t1) (h2 : Kd.R (Kd.int .i64) 2 W' W.heap.size (fun _ => True) u2 t2) (hb : Below W.heap.size W W') :
    PX w ba bb br xa xb ro u1 u2 v3 v4 t1 t2 t3 t4 b5 b6 W'.heap.size true false m4 m5 W' :=
  have g := h.next hb
  ⟨g.below, g.a, g.b, g.r, fun _ => ⟨Kd.R_mono (Kd.R_bound (Kd.R_lower h1 h.below.size)) (fun k hk => hk.2.2.1), Kd.R_mono (Kd.R_bound (Kd.R_lower h2 h.below.size)) (fun k hk => hk.2.2.1), Nat.le_refl _, g.below.size⟩, fun e => (by cases e), g.x5, g.x6, g.ne⟩
theorem PX.c3 (h : PX w ba bb br xa xb ro v1 v2 v3 v4 t1 t2 t3 t4 b5 b6 s true false m4 m5 W) {u3 u4 : Value} (h3 : Kd.R (Kd.int .i64) 3 W' W.heap.size (fun _ => True) u3 t3) (h4 : Kd.R (Kd.int .i64) 2 W' W.heap.size (fun _ => True) u4 t4) (hb : Below W.heap.size W W') :
    PX w ba bb br xa xb ro v1 v2 u3 u4 t1 t2 t3 t4 b5 b6 s true true m4 m5 W' :=
  have g := h.next hb
  ⟨g.below, g.a, g.b, g.r, g.r1, fun _ => ⟨Kd.R_lower h3 (h.r1 rfl).2.2.1, Kd.R_lower h4 (h.r1 rfl).2.2.1⟩, g.x5, g.x6, g.ne⟩
theorem PX.a4 (h : PX w ba bb br xa xb ro v1 v2 v3 v4 t1 t2 t3 t4 b5 b6 s m1 m3 false m5 W) {g : Nat} (hg : g = W.heap.size) (hx : W'.heap[g]? = some zero25) (hb : Below W.heap.size W W') :
    PX w ba bb br xa xb ro v1 v2 v3 v4 t1 t2 t3 t4 g b6 s m1 m3 true m5 W' :=
  have q := h.next hb
  ⟨q.below, q.a, q.b, q.r, q.r1, q.r3, fun _ => ⟨hx, hg ▸ h.below.size, hg ▸ blk_lt h.a, hg ▸ blk_lt h.b, hg ▸ blk_lt h.r⟩, q.x6, fun _ e => hg ▸ Nat.ne_of_gt (blk_lt (h.x6 e).1)⟩
theorem PX.a5 (h : PX w ba bb br xa xb ro v1 v2 v3 v4 t1 t2 t3 t4 b5 b6 s m1 m3 m4 false W) {g : Nat} (hg : g = W.heap.size) (hx : W'.heap[g]? = some zero25) (hb : Below W.heap.size W W') :
    PX w ba bb br xa xb ro v1 v2 v3 v4 t1 t2 t3 t4 b5 g s m1 m3 m4 true W' :=
  have q := h.next hb
  ⟨q.below, q.a, q.b, q.r, q.r1, q.r3, q.x5, fun _ => ⟨hx, hg ▸ h.below.size, hg ▸ blk_lt h.a, hg ▸ blk_lt h.b, hg ▸ blk_lt h.r⟩, fun e _ => hg ▸ Nat.ne_of_lt (blk_lt (h.x5 e).1)⟩
theorem PX.held {a0 a1 a2 c0 c1 c2 : Value} (h : PX w ba bb br #[a0, a1, a2] #[c0, c1, c2] ro v1 v2 v3 v4 t1 t2 t3 t4 b5 b6 s m1 m3 m4 m5 W) : W.cell? ⟨ba, 0, none⟩ = some a0 ∧ W.cell? ⟨ba, 1, none⟩ = some a1 ∧ W.cell? ⟨ba, 2, none⟩ = some a2 ∧ W.cell? ⟨bb, 0, none⟩ = some c0 ∧ W.cell? ⟨bb, 1, none⟩ = some c1 ∧ W.cell? ⟨bb, 2, none⟩ = some c2 :=
  ⟨blk_cell h.a 0, blk_cell h.a 1, blk_cell h.a 2, blk_cell h.b 0, blk_cell h.b 1, blk_cell h.b 2⟩
/-- .. both stored -/
structure PZ (w : World) (b5 b6 br : Nat) (ro : Obj) (v1 v2 v3 v4 : Value) (e1 e2 : Bool) (t1 t2 t3 t4 : List Int) (s : Nat) (W : World) : Prop where
  below : Below w.heap.size w W
  x : W.heap[b5]? = some (.cells #[v1, v2, .bool e1] 25 (0, 0))
  y : W.heap[b6]? = some (.cells #[v3, v4, .bool e2] 25 (0, 0))
  r : W.heap[br]? = some ro
  r1 : Kd.R (Kd.int .i64) 3 W w.heap.size (fun k => k < s) v1 t1
  r2 : Kd.R (Kd.int .i64) 2 W w.heap.size (fun k => k < s) v2 t2
  r3 : Kd.R (Kd.int .i64) 3 W s (fun _ => True) v3 t3
  r4 : Kd.R (Kd.int .i64) 2 W s (fun _ => True) v4 t4
  lo : w.heap.size ≤ b5 ∧ w.heap.size ≤ b6 ∧ w.heap.size ≤ s
  ne : b5 ≠ b6 ∧ br ≠ b5 ∧ br ≠ b6
theorem PZ.next {e1 e2 : Bool} (h : PZ w b5 b6 br ro v1 v2 v3 v4 e1 e2 t1 t2 t3 t4 s W) (hb : Below W.heap.size W W') : PZ w b5 b6 br ro v1 v2 v3 v4 e1 e2 t1 t2 t3 t4 s W' :=
  ⟨h.below.trans (hb.mono h.below.size), blk_below h.x hb, blk_below h.y hb, blk_below h.r hb, Kd.R_below h.r1 hb, Kd.R_below h.r2 hb, Kd.R_below h.r3 hb, Kd.R_below h.r4 hb, h.lo, h.ne⟩
theorem PX.stored (h : PX w ba bb br xa xb ro v1 v2 v3 v4 t1 t2 t3 t4 b5 b6 s true true true true W) (e1 e2 : Bool) :
    PZ w b5 b6 br ro v1 v2 v3 v4 e1 e2 t1 t2 t3 t4 s ((((((W.setCell ⟨b5, 0, none⟩ v1).setCell ⟨b5, 1, none⟩ v2).setCell ⟨b5, 2, none⟩ (.bool e1)).setCell ⟨b6, 0, none⟩ v3).setCell ⟨b6, 1, none⟩ v4).setCell ⟨b6, 2, none⟩ (.bool e2)) := by
  obtain ⟨x5, l5, n5a, n5b, n5r⟩ := h.x5 rfl
  obtain ⟨x6, l6, n6a, n6b, n6r⟩ := h.x6 rfl
  have hne := h.ne rfl rfl
  have q1 := store3 x5 v1 v2 (.bool e1)
  have y6 := (q1.2 b6 (fun e => hne e.symm)).trans x6
  have q2 := store3 y6 v3 v4 (.bool e2)
  obtain ⟨r1, r2, r3, r4⟩ := h.r1 rfl
  obtain ⟨r5, r6⟩ := h.r3 rfl
  have f : ∀ {e base : Nat} {v : Value} {xs : List Int} {ok : Nat → Prop}, e ≠ 25 → Kd.R (Kd.int .i64) e W base ok v xs → Kd.R (Kd.int .i64) e ((((((W.setCell ⟨b5, 0, none⟩ v1).setCell ⟨b5, 1, none⟩ v2).setCell ⟨b5, 2, none⟩ (.bool e1)).setCell ⟨b6, 0, none⟩ v3).setCell ⟨b6, 1, none⟩ v4).setCell ⟨b6, 2, none⟩ (.bool e2)) base ok v xs :=
    fun he hr => row_store3 y6 (row_store3 x5 hr he _ _ _) he _ _ _
  exact ⟨below_set (below_set (below_set (below_set (below_set (below_set h.below l5) l5) l5) l6) l6) l6, (q2.2 b5 hne).trans q1.1, q2.1, (q2.2 br (by omega)).trans ((q1.2 br (by omega)).trans h.r), f (by decide) r1, f (by decide) r2, f (by decide) r5, f (by decide) r6, ⟨l5, l6, r4⟩, ⟨hne, by omega, by omega⟩⟩
end
end Go.Proofs.Ytomgebmimgaojaa.QO
end
end
