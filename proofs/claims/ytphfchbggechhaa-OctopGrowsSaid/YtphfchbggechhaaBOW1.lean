/- Own texts of this claim, joined: QOx0, QOx1093, QOx1094, QOx1100, QOx1078, QOx1080, QOx1104, QOx1060, QOx1096, QOx1058, QOx1123, QOx1095, QOx1097, QOx1052, QOx1028, QOx1125, QOx1112, QOx1107, QOx1113, QOx1061, QOx1046, QOx1083, QOx1065, QOx1047, QOx1118, QOx1119, QOx1082, QOx1084, QOx1038, QOx1114 -/
import Derived.Test.YtphfchbggechhaaBOW0
import Derived.Test.YtphfchbggechhaaProg
import Derived.Below
import Derived.Deep.Draws
import Derived.Deep.AppendLies
import Derived.Maps.AppendAt
import Derived.OwnWalk
import Derived.Laws.BytesArg
import Derived.Laws.MakeOwn
import Derived.Laws.OwnMore
import Derived.Deep.OwnRows
import Derived.Tactics
import Derived.Lib.ConvBytes
import Derived.Laws.Slices
import Derived.WalkKit
import Derived.KernelRfl
import Derived.RowKit3
import Derived.Deep.LoopGhost
import Derived.Deep.QuietTactic
import Derived.BigQuiet
import Derived.WideLaws
import Derived.Deep.DeepCutAuto
import Derived.Deep.CutBlock
import Derived.Deep.RegionHeld3
import Derived.Laws.Rows
import Derived.Lib.AppendStr
import Derived.ArgAppend
import Derived.Laws.IdiomCopy
import Derived.OrdersHeld
import Derived.Laws.BitsLemmas
import Derived.RowKit
import Derived.Deep.Cut
import Derived.Shelf.Abstract
import Derived.Lib.SliceRun
import Derived.WalkSpells
import Derived.Laws.Externs
import Derived.StillTailTactics
import GoSem.Extern.MathBitsCarry
set_option maxRecDepth 100000
set_option maxHeartbeats 16000000
section
namespace Go.Proofs.Ytphfchbggechhaa.QO
open Go.RowKit YtphfchbggechhaaW.PrintWords YtphfchbggechhaaW.PrintLast
set_option linter.unusedVariables false
set_option linter.unusedSimpArgs false
def errW : Option Int → Value
 | none => .nilIface
 | some c => .iface 0 (.int .i64 c)
theorem errW_none : errW none = .nilIface := rfl
theorem errW_some (c : Int) : errW (some c) = .iface 0 (.int .i64 c) := rfl
theorem info2 : (Try.prog.info? 2).map (fun i => (i.zero, i.size, i.bytes)) = some (some (.int .i64 0), 1, 8) := by kernel_rfl
theorem info3 : (Try.prog.info? 3).map (fun i => (i.zero, i.size, i.bytes)) = some (some (.int .i64 0), 1, 8) := by kernel_rfl
-- the values' own types
end Go.Proofs.Ytphfchbggechhaa.QO
end
section
noncomputable section
namespace Go.Proofs.Ytphfchbggechhaa.QO
open Go.RowKit YtphfchbggechhaaW.PrintWords YtphfchbggechhaaW.PrintLast
set_option linter.unusedVariables false
set_option linter.unusedSimpArgs false
def oct_full_at.f (a0_0 : Int) (l0_1 : List Int) (a1 : Int) (a2 : Int) : Option Int :=
 if 0 ≤ a0_0 ∧ a0_0 ≤ 16 ∧ 0 ≤ a1 ∧ a1 < 16 ∧ 0 ≤ a2 ∧ a2 < 16 ∧ a1 * a0_0 + a2 < l0_1.length then some (rd l0_1 (a1 * a0_0 + a2)) else none
theorem mul_in {a b : Int} (h0 : 0 ≤ a) (h1 : a ≤ 16) (h2 : 0 ≤ b) (h3 : b ≤ 16) : 0 ≤ b * a ∧ b * a ≤ 256 :=
 ⟨Int.mul_nonneg h2 h0, Int.le_trans (Int.mul_le_mul_of_nonneg_left h1 h2) (by omega)⟩
theorem oct_full_at.calls (a0_0 : Int) (A0_1 : Option Addr) (c0_1 : Nat) (l0_1 : List Int) (a1 : Int) (a2 : Int) (r : Int) (w : World) (hr0_1 : Kd.C (Kd.int .i64) w A0_1 l0_1.length l0_1) (hc0_1 : l0_1.length ≤ c0_1) (h : oct_full_at.f a0_0 l0_1 a1 a2 = some r) :
 Calls Try.prog 93 #[.agg #[.int .i64 a0_0, .slice A0_1 l0_1.length c0_1], .int .i64 a1, .int .i64 a2] w fun e w' => e = .returned (.int .i64 r) ∧ Below w.heap.size w w' := by
 have hu25 := Try.underlying95
 clear hc0_1
 unfold oct_full_at.f at h
 by_cases hc : 0 ≤ a0_0 ∧ a0_0 ≤ 16 ∧ 0 ≤ a1 ∧ a1 < 16 ∧ 0 ≤ a2 ∧ a2 < 16 ∧ a1 * a0_0 + a2 < l0_1.length
 ·
  rw [if_pos hc] at h
  obtain rfl := Option.some.inj h
  clear h
  obtain ⟨h0, h1, h2, h3, h4, h5, h6⟩ := hc
  have hm := mul_in h0 h1 h2 (by omega)
  obtain ⟨p, hp⟩ : ∃ p : Int, a1 * a0_0 = p := ⟨_, rfl⟩
  rw [hp] at hm h6 ⊢
  obtain ⟨q, hq⟩ : ∃ q : Int, p + a2 = q := ⟨_, rfl⟩
  rw [hq] at h6 ⊢
  have q0 : 0 ≤ q := by omega
  obtain ⟨ad, e0, hx⟩ := Kd.at_int hr0_1 q q0 h6
  cases e0
  have e1 : IntKind.i64.wrap (a1 * a0_0) = p := by rw [hp, IntKind.wrap_i64]; omega
  have e2 : IntKind.i64.wrap (p + a2) = q := by rw [hq, IntKind.wrap_i64]; omega
  have e3 : wrap64 (a1 * a0_0) = p := by rw [hp]; unfold wrap64; omega
  have e4 : wrap64 (p + a2) = q := by rw [hq]; unfold wrap64; omega
  have hx' := pw_cell_below (below_alloc (Below.refl w.heap.size w) (.cells #[.int .i64 a0_0, .slice (some ad) l0_1.length c0_1] 95)) hx
  replace q0 := eq_true q0
  replace h6 := eq_true h6
  clear hr0_1 h0 h1 h2 h3 h4 h5 hm hp hq hx
  go_enter Try.func93, Try.ntmps93
  go_wp2
  go_ret
  exact ⟨rfl, below_alloc (Below.refl _ _) _⟩
 ·
  rw [if_neg hc] at h
  cases h
def nbar (i : Int) : Int := if i % 2 = 0 then i + 1 else i - 1
theorem xor_one (i : Int) (h0 : 0 ≤ i) (h1 : i < 16) : Go.bits .xor .i64 i 1 = nbar i := by
 have h : i = 0 ∨ i = 1 ∨ i = 2 ∨ i = 3 ∨ i = 4 ∨ i = 5 ∨ i = 6 ∨ i = 7 ∨ i = 8 ∨ i = 9 ∨ i = 10 ∨ i = 11 ∨ i = 12 ∨ i = 13 ∨ i = 14 ∨ i = 15 := by omega
 rcases h with rfl | rfl | rfl | rfl | rfl | rfl | rfl | rfl | rfl | rfl | rfl | rfl | rfl | rfl | rfl | rfl <;> decide
def oct_bar.f (a0 : Int) : Option Int := if 0 ≤ a0 ∧ a0 < 16 then some (nbar a0) else none
theorem oct_bar.calls (a0 : Int) (r : Int) (w : World) (h : oct_bar.f a0 = some r) :
 Calls Try.prog 94 #[.int .i64 a0] w fun e w' => e = .returned (.int .i64 r) ∧ Drawn0 w w' := by
 have hr : r = Go.bits .xor .i64 a0 1 := by
  unfold oct_bar.f at h; split at h
  ·
   rename_i hc; rw [xor_one a0 hc.1 hc.2]; exact (Option.some.inj h).symm
  ·
   cases h
 subst hr
 clear h
 go_enter Try.func94, Try.ntmps94
 go_wp2
 go_ret
 exact ⟨rfl, Drawn0.refl _⟩
theorem oct_bar_still (a0 : Int) (r : Int) (w : World) (h : oct_bar.f a0 = some r) :
 Calls Try.prog 94 #[.int .i64 a0] w fun e w' => e = .returned (.int .i64 r) ∧ w' = w := by
 have hr : r = Go.bits .xor .i64 a0 1 := by
  unfold oct_bar.f at h; split at h
  ·
   rename_i hc; rw [xor_one a0 hc.1 hc.2]; exact (Option.some.inj h).symm
  ·
   cases h
 subst hr
 clear h
 go_enter Try.func94, Try.ntmps94
 go_wp2
 go_ret
 exact ⟨rfl, rfl⟩
end Go.Proofs.Ytphfchbggechhaa.QO
end
end
section
namespace Go.Proofs.Ytphfchbggechhaa.QO
open Go.RowKit YtphfchbggechhaaW.PrintWords YtphfchbggechhaaW.PrintLast
set_option linter.unusedVariables false
set_option linter.unusedSimpArgs false
def VarsOk (l : List Int) : Prop := l.length ≤ 8 ∧ ∀ i : Int, 0 ≤ i → i < l.length → 0 ≤ rd l i ∧ (0 < i → rd l (i - 1) < rd l i)
noncomputable def varsB (l : List Int) : Bool := @decide (VarsOk l) (Classical.propDecidable _)
theorem varsB_true {l : List Int} : varsB l = true ↔ VarsOk l := by unfold varsB; exact @decide_eq_true_iff _ (Classical.propDecidable _)
theorem varsB_false {l : List Int} : varsB l = false ↔ ¬ VarsOk l := by unfold varsB; exact @decide_eq_false_iff_not _ (Classical.propDecidable _)
noncomputable def oct_may.f (l0 : List Int) : Option Bool := some (varsB l0)
theorem oct_may.calls (A0 : Option Addr) (c0 : Nat) (l0 : List Int) (r : Bool) (w : World) (hr0 : Kd.C (Kd.int .i64) w A0 l0.length l0) (hc0 : l0.length ≤ c0) (h : oct_may.f l0 = some r) :
 Calls Try.prog 100 #[.slice A0 l0.length c0] w fun e w' => e = .returned (.bool r) ∧ Drawn0 w w' := by
 have HR0 := Aside0.mk hr0
 have HV := Aside0.mk (Option.some.inj h)
 clear hr0 hc0 h
 by_cases c1 : (8 : Int) < (l0.length : Int)
 ·
  have f1 : decide ((8 : Int) < (l0.length : Int)) = true := decide_eq_true c1
  have f2 : decide (8 < l0.length) = true := decide_eq_true (by omega)
  have HC := Aside0.mk c1
  clear c1
  go_enter Try.func100, Try.ntmps100
  go_wp2
  go_ret
  refine ⟨?_, Drawn0.refl _⟩
  rw [← HV.out, varsB_false.2 (fun h => by have := h.1; have := HC.out; omega)]
  rfl
 ·
  have f1 : decide ((8 : Int) < (l0.length : Int)) = false := decide_eq_false c1
  have f2 : decide (8 < l0.length) = false := decide_eq_false (by omega)
  have HC := Aside0.mk c1
  clear c1
  go_enter Try.func100, Try.ntmps100
  go_wp2
  go_loopg [3, 4, 10] l0.length (fun gg _ _ s10 wr => ∃ i : Int, s10 = .int .i64 i ∧ Aside0 (0 ≤ i ∧ i ≤ l0.length ∧ l0.length - i.toNat ≤ gg) ∧ Aside0 (∀ j : Int, 0 ≤ j → j < i → 0 ≤ rd l0 j ∧ (0 < j → rd l0 (j - 1) < rd l0 j)) ∧ Drawn0 w wr)
  case atStart => exact ⟨0, rfl, ⟨by omega, by omega, by omega⟩, ⟨fun j h0 h1 => absurd h1 (by omega)⟩, Drawn0.refl _⟩
  case round =>
   obtain ⟨i, rfl, HI, HA, ⟨m1, rfl⟩⟩ := hrel
   by_cases hlt : i < (l0.length : Int)
   ·
    have p0 : 0 ≤ i := HI.out.1
    have hC : Kd.C (Kd.int .i64) (w.drewN m1) A0 l0.length l0 := Kd.C_drewN HR0.out _
    obtain ⟨ad, e0, hx⟩ := Kd.at_int hC i p0 hlt
    cases e0
    clear hC
    have HL := Aside0.mk hlt
    have c6b0 : decide (i < (l0.length : Int)) = true := decide_eq_true hlt
    by_cases c3 : rd l0 i < 0
    ·
     have f3 : decide (rd l0 i < 0) = true := decide_eq_true c3
     have H3 := Aside0.mk c3
     clear c3
     replace p0 := eq_true p0
     replace hlt := eq_true hlt
     go_wp2
     go_ret
     refine ⟨?_, by repeat (first | exact Drawn0.refl _ | apply Drawn0.step)⟩
     have h1 := HI.out; have h2 := HL.out; have h3 := H3.out
     rw [← HV.out, varsB_false.2 (fun h => by have := (h.2 i h1.1 h2).1; omega)]
     rfl
    ·
     have f3 : decide (rd l0 i < 0) = false := decide_eq_false c3
     have H3 := Aside0.mk c3
     clear c3
     by_cases c4 : 0 < i
     ·
      have f4 : decide (0 < i) = true := decide_eq_true c4
      have hm1 : wrap64 (i - 1) = i - 1 := by have := HC.out; unfold wrap64; omega
      obtain ⟨j, hj⟩ : ∃ j : Int, i - 1 = j := ⟨_, rfl⟩
      have q0 : 0 ≤ j := by omega
      have q1 : j < (l0.length : Int) := by omega
      obtain ⟨ad', e0, hy⟩ := Kd.at_int (Kd.C_drewN HR0.out m1) j q0 q1
      cases e0
      rw [hj] at hm1
      have hm2 : IntKind.i64.wrap (i - 1) = j := by rw [IntKind.wrap_i64, ← hj]; unfold wrap64 at hm1; omega
      have HJ := Aside0.mk hj
      have H4 := Aside0.mk c4
      by_cases c5 : rd l0 i ≤ rd l0 j
      ·
       have f5 : decide (rd l0 i ≤ rd l0 j) = true := decide_eq_true c5
       have H5 := Aside0.mk c5
       clear c5 c4
       replace p0 := eq_true p0
       replace hlt := eq_true hlt
       replace q0 := eq_true q0
       replace q1 := eq_true q1
       go_wp2
       go_ret
       refine ⟨?_, by repeat (first | exact Drawn0.refl _ | apply Drawn0.step)⟩
       have h1 := HI.out; have h2 := HL.out; have h5 := H5.out; have h4 := H4.out
       rw [← HV.out, varsB_false.2 (fun h => by have := (h.2 i h1.1 h2).2 h4; rw [HJ.out] at this; omega)]
       rfl
      ·
       have f5 : decide (rd l0 i ≤ rd l0 j) = false := decide_eq_false c5
       have H5 := Aside0.mk c5
       clear c5 c4
       replace p0 := eq_true p0
       replace hlt := eq_true hlt
       replace q0 := eq_true q0
       replace q1 := eq_true q1
       go_wp2
       go_roundg (l0.length - (i.toNat + 1))
       case measure => have h1 := HI.out; have h2 := HL.out; omega
       case rel =>
        have h1 := HI.out; have h2 := HL.out; have h3 := H3.out; have h4 := HC.out; have h5 := H5.out; have hj := HJ.out
        have hw : wrap64 (i + 1) = i + 1 := by unfold wrap64; omega
        refine ⟨wrap64 (i + 1), rfl, ⟨by omega, by omega, by omega⟩, ⟨fun k k0 k1 => ?_⟩, by repeat (first | exact Drawn0.refl _ | apply Drawn0.step)⟩
        by_cases e : k = i
        ·
         subst e; exact ⟨by omega, fun _ => by rw [hj]; omega⟩
        ·
         exact HA.out k k0 (by omega)
     ·
      have f4 : decide (0 < i) = false := decide_eq_false c4
      have H4 := Aside0.mk c4
      clear c4
      replace p0 := eq_true p0
      replace hlt := eq_true hlt
      go_wp2
      go_roundg (l0.length - (i.toNat + 1))
      case measure => have h1 := HI.out; have h2 := HL.out; omega
      case rel =>
       have h1 := HI.out; have h2 := HL.out; have h3 := H3.out; have h4 := HC.out; have h5 := H4.out
       have hw : wrap64 (i + 1) = i + 1 := by unfold wrap64; omega
       refine ⟨wrap64 (i + 1), rfl, ⟨by omega, by omega, by omega⟩, ⟨fun k k0 k1 => ?_⟩, by repeat (first | exact Drawn0.refl _ | apply Drawn0.step)⟩
       by_cases e : k = i
       ·
        subst e; exact ⟨by omega, fun h => absurd h (by omega)⟩
       ·
        exact HA.out k k0 (by omega)
   ·
    have c6b0 : decide (i < (l0.length : Int)) = false := decide_eq_false hlt
    have HL := Aside0.mk hlt
    clear hlt
    go_wp2
    go_ret
    have h1 := HI.out; have h2 := HL.out; have h4 := HC.out
    refine ⟨?_, by repeat (first | exact Drawn0.refl _ | apply Drawn0.step)⟩
    rw [← HV.out, varsB_true.2 ⟨by omega, fun k k0 k1 => HA.out k k0 (by omega)⟩]
    rfl
def EntryOk (n2 : Int) (m : List Int) (i j : Int) : Prop :=
 (rd m (i * n2 + j) = 4611686018427387904 ∨ (-1099511627776 ≤ rd m (i * n2 + j) ∧ rd m (i * n2 + j) ≤ 1099511627776)) ∧ (i = j → rd m (i * n2 + j) = 0) ∧ rd m (i * n2 + j) = rd m (nbar j * n2 + nbar i)
def OFit (vars m : List Int) (empty : Bool) : Prop :=
 VarsOk vars ∧ (empty = true → m = []) ∧ (empty = false → (m.length : Int) = (2 * (vars.length : Int)) * (2 * (vars.length : Int)) ∧ ∀ i j : Int, 0 ≤ i → i < 2 * (vars.length : Int) → 0 ≤ j → j < 2 * (vars.length : Int) → EntryOk (2 * (vars.length : Int)) m i j)
noncomputable def ofitB (vars m : List Int) (empty : Bool) : Bool := @decide (OFit vars m empty) (Classical.propDecidable _)
theorem ofitB_true {vars m : List Int} {empty : Bool} : ofitB vars m empty = true ↔ OFit vars m empty := by unfold ofitB; exact @decide_eq_true_iff _ (Classical.propDecidable _)
theorem ofitB_false {vars m : List Int} {empty : Bool} : ofitB vars m empty = false ↔ ¬ OFit vars m empty := by unfold ofitB; exact @decide_eq_false_iff_not _ (Classical.propDecidable _)
theorem nbar_in {i n : Int} (h0 : 0 ≤ i) (h1 : i < 2 * n) : 0 ≤ nbar i ∧ nbar i < 2 * n := by unfold nbar; split <;> omega
theorem place_in {i j n : Int} (h0 : 0 ≤ i) (h1 : i < n) (h2 : 0 ≤ j) (h3 : j < n) : 0 ≤ i * n + j ∧ i * n + j < n * n := by
 have h5 := Int.mul_nonneg h0 (by omega : 0 ≤ n)
 have h6 : i * n ≤ (n - 1) * n := Int.mul_le_mul_of_nonneg_right (by omega) (by omega)
 have h7 : (n - 1) * n = n * n - n := by rw [Int.sub_mul]; omega
 omega
theorem at_ok {n : Nat} {m : List Int} {i j : Int} (hn : n ≤ 8) (hm : (m.length : Int) = (2 * (n : Int)) * (2 * (n : Int))) (h0 : 0 ≤ i) (h1 : i < 2 * (n : Int)) (h2 : 0 ≤ j) (h3 : j < 2 * (n : Int)) :
 oct_full_at.f (2 * (n : Int)) m i j = some (rd m (i * (2 * (n : Int)) + j)) := by
 unfold oct_full_at.f
 have := place_in h0 h1 h2 h3
 rw [if_pos ⟨by omega, by omega, h0, by omega, h2, by omega, by omega⟩]
noncomputable def oct_Fit.f (l0_0 : List Int) (l0_1 : List Int) (a0_2 : Bool) : Option Bool := if l0_0.length ≤ 17592186044416 then some (ofitB l0_0 l0_1 a0_2) else none
structure Box1 (w : World) (g : Nat) (cs : Array Value) (t : Nat) (W : World) : Prop where
 below : Below w.heap.size w W
 box : W.heap[g]? = some (.cells cs t (0, 0))
theorem Box1.next {w W W1 : World} {g : Nat} {cs : Array Value} {t : Nat} (h : Box1 w g cs t W) (hb : Below W.heap.size W W1) : Box1 w g cs t W1 :=
 ⟨h.below.trans (hb.mono h.below.size), (hb.block _ (blk_lt h.box)).trans h.box⟩
theorem box1_new {w W : World} {g : Nat} {cs : Array Value} {t : Nat} (hB : Below w.heap.size w W) (hs : W.heap.size = g) : Box1 w g cs t (W.alloc (.cells cs t)) :=
 ⟨below_alloc hB _, by rw [← hs]; exact heap_alloc_new W _⟩
theorem Box1.two {w W : World} {g : Nat} {a b : Value} {t : Nat} (h : Box1 w g #[a, b] t W) : W.cell? ⟨g, 0, none⟩ = some a ∧ W.cell? ⟨g, 1, none⟩ = some b := ⟨(blk_cell h.box 0).trans rfl, (blk_cell h.box 1).trans rfl⟩
theorem Box1.drew {w W : World} {g : Nat} {cs : Array Value} {t : Nat} (h : Box1 w g cs t W) : Box1 w g cs t W.drew := h.next (below_drew (Below.refl _ _))
theorem Box1.drewN {w W : World} {g : Nat} {cs : Array Value} {t : Nat} (h : Box1 w g cs t W) (n : Nat) : Box1 w g cs t (W.drewN n) := h.next (pw_below_drewN (Below.refl _ _) n)
theorem Box1.alloc {w W : World} {g : Nat} {cs : Array Value} {t : Nat} (h : Box1 w g cs t W) (o : Obj) : Box1 w g cs t (W.alloc o) := h.next (below_alloc (Below.refl _ _) o)
def oct_Fit.T14 : Bool × List (List Nat × List Nat) := (true, [([], []), ([0], [0]), ([1], [1]), ([2], [2]), ([3, 2], [2, 3]), ([4, 2, 2], [2, 4]), ([5], [5]), ([6, 5], [5, 6]), ([5, 7, 2], [2, 5, 7]), ([2, 8], [2, 8]), ([9, 5], [9]), ([10], [10]), ([10], [10]), ([11, 12, 10], [10, 11, 12]), ([13, 10, 10], [10, 13]), ([14], [14]), ([15, 14], [14, 15]), ([14, 16, 10], [10, 14, 16]), ([10, 17], [10, 17]), ([18, 14], [18]), ([19], [19]), ([19], [19]), ([19], [19]), ([22, 19, 19], [19, 22]), ([19], [19]), ([24, 23, 19], [19, 24]), ([21, 23, 25, 25, 19], [19, 21, 23, 25]), ([20, 26, 19], [19, 20, 26]), ([19, 27], [19, 27])])
def oct_Fit.B14 : List Nat := [0, 1, 3, 7, 15, 31, 63, 127, 255, 511, 1023, 2047, 2047, 8191, 16383, 32767, 65535, 131071, 262143, 524287, 1048575, 1048575, 1048575, 5242879, 1048575, 30408703, 66060287, 134217727, 268435455]
def FA0 : Array Bool := (mB 29 0)
def FA1 : Array Bool := (mB 29 1)
def FA2 : Array Bool := (mB 29 3)
def FA3 : Array Bool := (mB 29 7)
def FA4 : Array Bool := (mB 29 15)
def FA5 : Array Bool := (mB 29 31)
def FA6 : Array Bool := (mB 29 63)
def FA7 : Array Bool := (mB 29 127)
def FA8 : Array Bool := (mB 29 255)
def FA9 : Array Bool := (mB 29 511)
def FA10 : Array Bool := (mB 29 1023)
def FA11 : Array Bool := (mB 29 2047)
def FA12 : Array Bool := (mB 29 4095)
def FA13 : Array Bool := (mB 29 8191)
def FA14 : Array Bool := (mB 29 16383)
def FA15 : Array Bool := (mB 29 32767)
def FA16 : Array Bool := (mB 29 65535)
def FA17 : Array Bool := (mB 29 131071)
def FA18 : Array Bool := (mB 29 262143)
def FA19 : Array Bool := (mB 29 524287)
def FA20 : Array Bool := (mB 29 1048575)
def FA21 : Array Bool := (mB 29 2097151)
def FA22 : Array Bool := (mB 29 6291455)
def FA23 : Array Bool := (mB 29 23068671)
def FA24 : Array Bool := (mB 29 25165823)
def FA25 : Array Bool := (mB 29 33554431)
def FA26 : Array Bool := (mB 29 67108863)
def FA27 : Array Bool := (mB 29 134217727)
def FA28 : Array Bool := (mB 29 268435455)
def FA29 : Array Bool := (mB 29 536870911)
theorem oct_Fit.tab14 : rtab .any (opsOf Try.f78 14) = oct_Fit.T14 := by kernel_rfl
theorem oct_Fit.bits14 : waitsOk oct_Fit.T14.2 oct_Fit.B14 = true := by kernel_rfl
theorem oct_Fit.calls (A0_0 : Option Addr) (c0_0 : Nat) (l0_0 : List Int) (A0_1 : Option Addr) (c0_1 : Nat) (l0_1 : List Int) (a0_2 : Bool) (r : Bool) (w : World) (hr0_0 : Kd.C (Kd.int .i64) w A0_0 l0_0.length l0_0) (hc0_0 : l0_0.length ≤ c0_0) (hr0_1 : Kd.C (Kd.int .i64) w A0_1 l0_1.length l0_1) (hc0_1 : l0_1.length ≤ c0_1) (h : oct_Fit.f l0_0 l0_1 a0_2 = some r) :
 Calls Try.prog 78 #[.agg #[.slice A0_0 l0_0.length c0_0, .slice A0_1 l0_1.length c0_1, .bool a0_2]] w fun e w' => e = .returned (.bool r) ∧ Below w.heap.size w w' := by
 have hu25 := Try.underlying25
 have hu58 := Try.underlying95
 have HR0 := Aside0.mk hr0_0
 have HR1 := Aside0.mk hr0_1
 have HC0 := Aside0.mk hc0_0
 have HC1 := Aside0.mk hc0_1
 clear hr0_0 hr0_1 hc0_0 hc0_1
 unfold oct_Fit.f at h
 by_cases hlen : l0_0.length ≤ 17592186044416
 ·
  rw [if_pos hlen] at h
  have HV := Aside0.mk (Option.some.inj h)
  clear h
  have e1 : wrap64 (2 * (l0_0.length : Int)) = 2 * (l0_0.length : Int) := by unfold wrap64; omega
  have e2 : IntKind.i64.wrap (2 * (l0_0.length : Int)) = 2 * (l0_0.length : Int) := by rw [IntKind.wrap_i64]; omega
  cases hv : varsB l0_0 with
  | false =>
   have HM := fun W (hW : Kd.C (Kd.int .i64) W A0_0 l0_0.length l0_0) => oct_may.calls A0_0 c0_0 l0_0 false W hW HC0.out (by unfold oct_may.f; rw [hv])
   replace HM := Aside0.mk HM
   have HF := Aside0.mk (varsB_false.1 hv)
   clear hv hlen
   go_enter Try.func78, Try.ntmps78
   go_wp2_with (go_at_call 100; (with_reducible refine (HM.out _ ?side1).mono ?_); (case side1 => repeat (first | exact HR0.out | (with_reducible refine Kd.C_alloc ?_ _) | (with_reducible refine Kd.C_drewN ?_ _) | (with_reducible refine Kd.C_drew ?_))); rintro e w1 ⟨rfl, ⟨nd, rfl⟩⟩)
   go_ret
   refine ⟨?_, by repeat (first | exact Below.refl _ _ | (with_reducible apply below_alloc) | (with_reducible apply pw_below_drewN) | (with_reducible apply below_drew))⟩
   rw [← HV.out, ofitB_false.2 (fun h => HF.out h.1)]
   rfl
  | true =>
   have HM := fun W (hW : Kd.C (Kd.int .i64) W A0_0 l0_0.length l0_0) => oct_may.calls A0_0 c0_0 l0_0 true W hW HC0.out (by unfold oct_may.f; rw [hv])
   replace HM := Aside0.mk HM
   have HT := Aside0.mk (varsB_true.1 hv)
   clear hv hlen
   cases a0_2 with
   | true =>
    by_cases hz : l0_1.length = 0
    ·
     have f1 : ((l0_1.length : Int) == 0) = true := by rw [hz]; rfl
     have f2 : (l0_1.length == 0) = true := by rw [hz]; rfl
     have HZ := Aside0.mk hz
     clear hz
     go_enter Try.func78, Try.ntmps78
     go_wp2_with (go_at_call 100; (with_reducible refine (HM.out _ ?side1).mono ?_); (case side1 => repeat (first | exact HR0.out | (with_reducible refine Kd.C_alloc ?_ _) | (with_reducible refine Kd.C_drewN ?_ _) | (with_reducible refine Kd.C_drew ?_))); rintro e w1 ⟨rfl, ⟨nd, rfl⟩⟩)
     go_ret
     refine ⟨?_, by repeat (first | exact Below.refl _ _ | (with_reducible apply below_alloc) | (with_reducible apply pw_below_drewN) | (with_reducible apply below_drew))⟩
     rw [← HV.out, ofitB_true.2 ⟨HT.out, fun _ => List.eq_nil_of_length_eq_zero HZ.out, fun h => by cases h⟩]
     rfl
    ·
     have f1 : ((l0_1.length : Int) == 0) = false := by simpa using (by omega : ¬ ((l0_1.length : Int) = 0))
     have f2 : (l0_1.length == 0) = false := by simpa using hz
     have HZ := Aside0.mk hz
     clear hz
     go_enter Try.func78, Try.ntmps78
     go_wp2_with (go_at_call 100; (with_reducible refine (HM.out _ ?side1).mono ?_); (case side1 => repeat (first | exact HR0.out | (with_reducible refine Kd.C_alloc ?_ _) | (with_reducible refine Kd.C_drewN ?_ _) | (with_reducible refine Kd.C_drew ?_))); rintro e w1 ⟨rfl, ⟨nd, rfl⟩⟩)
     go_ret
     refine ⟨?_, by repeat (first | exact Below.refl _ _ | (with_reducible apply below_alloc) | (with_reducible apply pw_below_drewN) | (with_reducible apply below_drew))⟩
     rw [← HV.out, ofitB_false.2 (fun h => HZ.out (by rw [h.2.1 rfl]; rfl))]
     rfl
   | false =>
    obtain ⟨n2, hn2⟩ : ∃ n2 : Int, 2 * (l0_0.length : Int) = n2 := ⟨_, rfl⟩
    replace e1 : wrap64 (2 * (l0_0.length : Int)) = n2 := e1.trans hn2
    replace e2 : IntKind.i64.wrap (2 * (l0_0.length : Int)) = n2 := e2.trans hn2
    have hl8 := HT.out.1
    obtain ⟨nn, hnn⟩ : ∃ nn : Int, n2 * n2 = nn := ⟨_, rfl⟩
    have hnn2 : 0 ≤ nn ∧ nn ≤ 256 := by rw [← hnn]; exact mul_in (a := n2) (b := n2) (by omega) (by omega) (by omega) (by omega)
    have e3 : wrap64 (n2 * n2) = nn := by rw [hnn]; unfold wrap64; omega
    have e4 : IntKind.i64.wrap (n2 * n2) = nn := by rw [hnn, IntKind.wrap_i64]; omega
    by_cases hz : (l0_1.length : Int) = nn
    ·
     have f1 : ((l0_1.length : Int) != nn) = false := by rw [hz]; simp
     have HZ := Aside0.mk hz
     have HN := Aside0.mk hn2
     have HNN := Aside0.mk hnn
     clear hz hn2 hnn hnn2 hl8
     go_enter Try.func78, Try.ntmps78
     go_wp2_with (go_at_call 100; (with_reducible refine (HM.out _ ?side1).mono ?_); (case side1 => repeat (first | exact HR0.out | (with_reducible refine Kd.C_alloc ?_ _) | (with_reducible refine Kd.C_drewN ?_ _) | (with_reducible refine Kd.C_drew ?_))); rintro e w1 ⟨rfl, ⟨nd, rfl⟩⟩)
     go_loopg [5, 6, 7, 41, 44, 45] n2.toNat (fun gg _ _ _ s41 _ _ wr => ∃ i : Int, s41 = .int .i64 i ∧ Aside0 (0 ≤ i ∧ i ≤ n2 ∧ n2.toNat - i.toNat ≤ gg) ∧ Aside0 (Box1 w (w.heap.size + 1) #[.int .i64 n2, .slice A0_1 l0_1.length c0_1] 95 wr) ∧ Aside0 (∀ a b : Int, 0 ≤ a → a < i → 0 ≤ b → b < n2 → EntryOk n2 l0_1 a b))
     case atStart => exact ⟨0, rfl, ⟨by have := HN.out; omega, by have := HN.out; omega, by omega⟩, ⟨box1_new (by repeat (first | exact Below.refl _ _ | (with_reducible apply below_alloc) | (with_reducible apply pw_below_drewN) | (with_reducible apply below_drew))) (by simp)⟩, ⟨fun a b h0 h1 => absurd h1 (by omega)⟩⟩
     case round =>
      obtain ⟨i, rfl, HI, HX, HA⟩ := hrel
      by_cases hlt : i < n2
      ·
       have f2 : decide (i < n2) = true := decide_eq_true hlt
       have HL := Aside0.mk hlt
       clear hlt
       go_wp2
       obtain ⟨wo, rfl⟩ : ∃ wo : World, wo = wr := ⟨_, rfl⟩
       go_loopg [6, 7, 45] n2.toNat (fun hh _ _ s45 wr => ∃ j : Int, s45 = .int .i64 j ∧ Aside0 (0 ≤ j ∧ j ≤ n2 ∧ n2.toNat - j.toNat ≤ hh) ∧ Aside0 (Box1 w (w.heap.size + 1) #[.int .i64 n2, .slice A0_1 l0_1.length c0_1] 95 wr) ∧ Aside0 (∀ b : Int, 0 ≤ b → b < j → EntryOk n2 l0_1 i b))
       case atStart => exact ⟨0, rfl, ⟨by have := HN.out; omega, by have := HN.out; omega, by omega⟩, ⟨HX.out⟩, ⟨fun b h0 h1 => absurd h1 (by omega)⟩⟩
       case round =>
        clear HX
        obtain ⟨j, rfl, HJ, HX, HE⟩ := hrel
        by_cases hlt : j < n2
        ·
         have f3 : decide (j < n2) = true := decide_eq_true hlt
         have HK := Aside0.mk hlt
         clear hlt
         have hi := HI.out; have hj := HJ.out; have hil := HL.out; have hjl := HK.out
         have h8 := HT.out.1
         have hm : (l0_1.length : Int) = (2 * (l0_0.length : Int)) * (2 * (l0_0.length : Int)) := by rw [HN.out, HNN.out]; exact HZ.out
         have nj := nbar_in (i := j) (n := l0_0.length) hj.1 (by rw [HN.out]; exact hjl)
         have ni := nbar_in (i := i) (n := l0_0.length) hi.1 (by rw [HN.out]; exact hil)
         have a1 := at_ok (n := l0_0.length) (m := l0_1) (i := i) (j := j) h8 hm hi.1 (by rw [HN.out]; exact hil) hj.1 (by rw [HN.out]; exact hjl)
         have a2 := at_ok (n := l0_0.length) (m := l0_1) (i := nbar j) (j := nbar i) h8 hm nj.1 nj.2 ni.1 ni.2
         rw [HN.out] at a1 a2
         have b1 : oct_bar.f j = some (nbar j) := by unfold oct_bar.f; rw [if_pos ⟨hj.1, by have := HN.out; omega⟩]
         have b2 : oct_bar.f i = some (nbar i) := by unfold oct_bar.f; rw [if_pos ⟨hi.1, by have := HN.out; omega⟩]
         obtain ⟨x, hx⟩ : ∃ x, rd l0_1 (i * n2 + j) = x := ⟨_, rfl⟩
         obtain ⟨y, hy⟩ : ∃ y, rd l0_1 (nbar j * n2 + nbar i) = y := ⟨_, rfl⟩
         obtain ⟨p, hp⟩ : ∃ p, nbar j = p := ⟨_, rfl⟩
         obtain ⟨q, hq⟩ : ∃ q, nbar i = q := ⟨_, rfl⟩
         rw [hp, hq] at hy a2
         rw [hp] at b1
         rw [hq] at b2
         rw [hx] at a1
         rw [hy] at a2
         have C1 := Aside0.mk (fun W (hW : Kd.C (Kd.int .i64) W A0_1 l0_1.length l0_1) => oct_full_at.calls n2 A0_1 c0_1 l0_1 i j x W hW HC1.out a1)
         have C2 := Aside0.mk (fun W (hW : Kd.C (Kd.int .i64) W A0_1 l0_1.length l0_1) => oct_full_at.calls n2 A0_1 c0_1 l0_1 p q y W hW HC1.out a2)
         have B1 := Aside0.mk (fun W => oct_bar.calls j p W b1)
         have B2 := Aside0.mk (fun W => oct_bar.calls i q W b2)
         have HXY : Aside0 (EntryOk n2 l0_1 i j ↔ (x = 4611686018427387904 ∨ (-1099511627776 ≤ x ∧ x ≤ 1099511627776)) ∧ (i = j → x = 0) ∧ x = y) := ⟨by unfold EntryOk; rw [hp, hq, hx, hy]⟩
         clear hi hj hil hjl h8 hm nj ni a1 a2 b1 b2 hx hy hp hq
         obtain ⟨hx0, hx1⟩ := HX.out.two
         go_upto_region 14 with (go_at_call 93; (with_reducible refine (C1.out _ ?s1).mono ?_); (case s1 => exact Kd.C_below HR1.out HX.out.below); rintro e w1 ⟨rfl, hb⟩; have hY := Box1.next HX.out (show Below _ _ _ from hb); clear HX hx0 hx1; have HX := Aside0.mk hY; obtain ⟨hx0, hx1⟩ := hY.two; clear hY hb)
         go_cut [80] (fun s80 wx => ∃ b : Bool, s80 = .bool b ∧ (b = false ↔ (x = 4611686018427387904 ∨ (-1099511627776 ≤ x ∧ x ≤ 1099511627776)) ∧ (i = j → x = 0) ∧ x = y) ∧ Box1 w (w.heap.size + 1) #[.int .i64 n2, .slice A0_1 l0_1.length c0_1] 95 wx)
         case first =>
          by_cases c1 : x = 4611686018427387904
          ·
           have f1 : (x != 4611686018427387904) = false := by rw [c1]; rfl
           by_cases c4 : i = j
           ·
            have f4 : (i == j) = true := by simpa using c4
            by_cases c5 : x = 0
            ·
             have f5 : (x != 0) = false := by rw [c5]; rfl
             have HB : Aside0 ((x != y) = false ↔ (x = 4611686018427387904 ∨ (-1099511627776 ≤ x ∧ x ≤ 1099511627776)) ∧ (i = j → x = 0) ∧ x = y) := ⟨by simp only [bne_eq_false_iff_eq]; constructor <;> intro h <;> omega⟩
             clear c1 c4 c5
             have n_ := Aside0.mk HX.out.drew
             clear HX hx0 hx1
             have HX := n_
             clear n_
             refine start_ (n := 29) (S := fun w' => w'.cell? ⟨w.heap.size + 1, 0, none⟩ = some (.int .i64 n2) ∧ w'.cell? ⟨w.heap.size + 1, 1, none⟩ = some (.slice A0_1 l0_1.length c0_1)) (ds := []) FA0 (by kernel_rfl) rfl rfl HX.out.two (fun hHeld => ?_); refine with_tabW oct_Fit.tab14 oct_Fit.bits14 (fun HT_ HW_ => ?_)
             generalize w1.drew = w2 at HX hHeld ⊢
             refine pV_ 0 52 FA1 HT_ ?_
             refine pV_ 1 53 FA2 HT_ ?_
             refine pV_ 2 54 FA3 HT_ ?_
             refine pU_ 3 55 FA4 HT_ ?_
             refine pU_ 4 56 FA5 HT_ ?_
             refine pU_ 5 57 FA6 HT_ ?_
             refine pU_ 6 58 FA7 HT_ ?_
             refine pU_ 7 59 FA8 HT_ ?_
             refine pU_ 8 60 FA9 HT_ ?_
             refine pV_ 9 61 FA10 HT_ ?_
             refine pV_ 10 62 FA11 HT_ ?_
             refine pV_ 11 63 FA12 HT_ ?_
             refine pV_ 12 64 FA13 HT_ ?_
             refine pV_ 13 65 FA14 HT_ ?_
             refine pV_ 14 66 FA15 HT_ ?_
             refine pV_ 15 67 FA16 HT_ ?_
             refine pV_ 16 68 FA17 HT_ ?_
             refine pV_ 17 69 FA18 HT_ ?_
             refine pV_ 18 70 FA19 HT_ ?_
             refine pV_ 19 71 FA20 HT_ ?_
             refine pV_ 20 72 FA21 HT_ ?_
             refine pV_ 22 74 FA22 HT_ ?_
             refine pV_ 24 76 FA23 HT_ ?_
             refine tV_ 21 73 FA24 HT_ HW_ hHeld ?_
             refine one_ (i := 23) (N := some 75) FA25 rfl rfl (one_of HT_.out (by kernel_rfl)) (by decide) (fun K hK => ?_)
             refine gs_ Try.func94 #[.int .i64 j] ?_
             with_reducible refine (B1.out _).mono ?_
             rintro e w' ⟨rfl, ⟨nd, rfl⟩⟩
             refine ⟨_, rfl, ?_⟩
             have n_ := Aside0.mk (HX.out.drewN nd)
             clear HX
             have HX := n_
             clear n_
             refine hK.out _ _ HX.out.two (fun hHeld => ?_)
             clear hK K
             refine norm_ (a' := ?_) ?_ ?_
             rotate_left
             ·
              show Act.put _ (some 75) _ = _; simp only [Act.put, List.setIfInBounds_toArray, List.set_cons_zero, List.set_cons_succ, i64_w, i32_w]; rfl
             refine one_ (i := 25) (N := some 77) FA26 rfl rfl (one_of HT_.out (by kernel_rfl)) (by decide) (fun K hK => ?_)
             refine gs_ Try.func94 #[.int .i64 i] ?_
             with_reducible refine (B2.out _).mono ?_
             rintro e w' ⟨rfl, ⟨nd, rfl⟩⟩
             refine ⟨_, rfl, ?_⟩
             have n_ := Aside0.mk (HX.out.drewN nd)
             clear HX
             have HX := n_
             clear n_
             refine hK.out _ _ HX.out.two (fun hHeld => ?_)
             clear hK K
             refine norm_ (a' := ?_) ?_ ?_
             rotate_left
             ·
              show Act.put _ (some 77) _ = _; simp only [Act.put, List.setIfInBounds_toArray, List.set_cons_zero, List.set_cons_succ, i64_w, i32_w]; rfl
             refine one_ (i := 26) (N := some 78) FA27 rfl rfl (one_of HT_.out (by kernel_rfl)) (by decide) (fun K hK => ?_)
             refine gs_ Try.func93 #[.agg #[.int .i64 n2, .slice A0_1 l0_1.length c0_1], .int .i64 p, .int .i64 q] ?_
             with_reducible refine (C2.out _ ?s1).mono ?_
             (case s1 => exact Kd.C_below HR1.out HX.out.below)
             rintro e w3 ⟨rfl, hb⟩
             refine ⟨_, rfl, ?_⟩
             have n_ := Aside0.mk (HX.out.next hb)
             clear HX hb
             have HX := n_
             clear n_
             refine hK.out _ _ HX.out.two (fun hHeld => ?_)
             clear hK K
             refine norm_ (a' := ?_) ?_ ?_
             rotate_left
             ·
              show Act.put _ (some 78) _ = _; simp only [Act.put, List.setIfInBounds_toArray, List.set_cons_zero, List.set_cons_succ, i64_w, i32_w]; rfl
             refine pV_ 27 79 FA28 HT_ ?_
             refine pV_ 28 80 FA29 HT_ ?_
             refine dn_ HT_ ?_
             try (go_wp2_with fail)
             go_meet
             exact ⟨(x != y), rfl, (by have h := HB.out; first | exact h | simpa using h), HX.out⟩
            ·
             have f5 : (x != 0) = true := by simpa using c5
             have HB : Aside0 (true = false ↔ (x = 4611686018427387904 ∨ (-1099511627776 ≤ x ∧ x ≤ 1099511627776)) ∧ (i = j → x = 0) ∧ x = y) := ⟨by constructor; (intro h; cases h); intro h; exfalso; omega⟩
             clear c1 c4 c5
             go_quiet (fail)
             go_wp2_with fail
             go_meet
             exact ⟨true, rfl, (by have h := HB.out; first | exact h | simpa using h), (by repeat (first | exact HX.out | (with_reducible apply Box1.drewN) | (with_reducible apply Box1.drew) | (with_reducible apply Box1.alloc)))⟩
           ·
            have f4 : (i == j) = false := by simpa using c4
            have HB : Aside0 ((x != y) = false ↔ (x = 4611686018427387904 ∨ (-1099511627776 ≤ x ∧ x ≤ 1099511627776)) ∧ (i = j → x = 0) ∧ x = y) := ⟨by simp only [bne_eq_false_iff_eq]; constructor <;> intro h <;> omega⟩
            clear c1 c4
            have n_ := Aside0.mk HX.out.drew
            clear HX hx0 hx1
            have HX := n_
            clear n_
            refine start_ (n := 29) (S := fun w' => w'.cell? ⟨w.heap.size + 1, 0, none⟩ = some (.int .i64 n2) ∧ w'.cell? ⟨w.heap.size + 1, 1, none⟩ = some (.slice A0_1 l0_1.length c0_1)) (ds := []) FA0 (by kernel_rfl) rfl rfl HX.out.two (fun hHeld => ?_); refine with_tabW oct_Fit.tab14 oct_Fit.bits14 (fun HT_ HW_ => ?_)
            generalize w1.drew = w2 at HX hHeld ⊢
            refine pV_ 0 52 FA1 HT_ ?_
            refine pV_ 1 53 FA2 HT_ ?_
            refine pV_ 2 54 FA3 HT_ ?_
            refine pU_ 3 55 FA4 HT_ ?_
            refine pU_ 4 56 FA5 HT_ ?_
            refine pU_ 5 57 FA6 HT_ ?_
            refine pU_ 6 58 FA7 HT_ ?_
            refine pU_ 7 59 FA8 HT_ ?_
            refine pU_ 8 60 FA9 HT_ ?_
            refine pV_ 9 61 FA10 HT_ ?_
            refine pV_ 10 62 FA11 HT_ ?_
            refine pV_ 11 63 FA12 HT_ ?_
            refine pV_ 12 64 FA13 HT_ ?_
            refine pV_ 13 65 FA14 HT_ ?_
            refine pV_ 14 66 FA15 HT_ ?_
            refine pU_ 15 67 FA16 HT_ ?_
            refine pU_ 16 68 FA17 HT_ ?_
            refine pV_ 17 69 FA18 HT_ ?_
            refine pV_ 18 70 FA19 HT_ ?_
            refine pV_ 19 71 FA20 HT_ ?_
            refine pV_ 20 72 FA21 HT_ ?_
            refine pV_ 22 74 FA22 HT_ ?_
            refine pV_ 24 76 FA23 HT_ ?_
            refine tV_ 21 73 FA24 HT_ HW_ hHeld ?_
            refine one_ (i := 23) (N := some 75) FA25 rfl rfl (one_of HT_.out (by kernel_rfl)) (by decide) (fun K hK => ?_)
            refine gs_ Try.func94 #[.int .i64 j] ?_
            with_reducible refine (B1.out _).mono ?_
            rintro e w' ⟨rfl, ⟨nd, rfl⟩⟩
            refine ⟨_, rfl, ?_⟩
            have n_ := Aside0.mk (HX.out.drewN nd)
            clear HX
            have HX := n_
            clear n_
            refine hK.out _ _ HX.out.two (fun hHeld => ?_)
            clear hK K
            refine norm_ (a' := ?_) ?_ ?_
            rotate_left
            ·
             show Act.put _ (some 75) _ = _; simp only [Act.put, List.setIfInBounds_toArray, List.set_cons_zero, List.set_cons_succ, i64_w, i32_w]; rfl
            refine one_ (i := 25) (N := some 77) FA26 rfl rfl (one_of HT_.out (by kernel_rfl)) (by decide) (fun K hK => ?_)
            refine gs_ Try.func94 #[.int .i64 i] ?_
            with_reducible refine (B2.out _).mono ?_
            rintro e w' ⟨rfl, ⟨nd, rfl⟩⟩
            refine ⟨_, rfl, ?_⟩
            have n_ := Aside0.mk (HX.out.drewN nd)
            clear HX
            have HX := n_
            clear n_
            refine hK.out _ _ HX.out.two (fun hHeld => ?_)
            clear hK K
            refine norm_ (a' := ?_) ?_ ?_
            rotate_left
            ·
             show Act.put _ (some 77) _ = _; simp only [Act.put, List.setIfInBounds_toArray, List.set_cons_zero, List.set_cons_succ, i64_w, i32_w]; rfl
            refine one_ (i := 26) (N := some 78) FA27 rfl rfl (one_of HT_.out (by kernel_rfl)) (by decide) (fun K hK => ?_)
            refine gs_ Try.func93 #[.agg #[.int .i64 n2, .slice A0_1 l0_1.length c0_1], .int .i64 p, .int .i64 q] ?_
            with_reducible refine (C2.out _ ?s1).mono ?_
            (case s1 => exact Kd.C_below HR1.out HX.out.below)
            rintro e w3 ⟨rfl, hb⟩
            refine ⟨_, rfl, ?_⟩
            have n_ := Aside0.mk (HX.out.next hb)
            clear HX hb
            have HX := n_
            clear n_
            refine hK.out _ _ HX.out.two (fun hHeld => ?_)
            clear hK K
            refine norm_ (a' := ?_) ?_ ?_
            rotate_left
            ·
             show Act.put _ (some 78) _ = _; simp only [Act.put, List.setIfInBounds_toArray, List.set_cons_zero, List.set_cons_succ, i64_w, i32_w]; rfl
            refine pV_ 27 79 FA28 HT_ ?_
            refine pV_ 28 80 FA29 HT_ ?_
            refine dn_ HT_ ?_
            try (go_wp2_with fail)
            go_meet
            exact ⟨(x != y), rfl, (by have h := HB.out; first | exact h | simpa using h), HX.out⟩
          ·
           have f1 : (x != 4611686018427387904) = true := by simpa using c1
           by_cases c2 : x < -1099511627776
           ·
            have f2 : decide (x < -1099511627776) = true := decide_eq_true c2
            have HB : Aside0 (true = false ↔ (x = 4611686018427387904 ∨ (-1099511627776 ≤ x ∧ x ≤ 1099511627776)) ∧ (i = j → x = 0) ∧ x = y) := ⟨by constructor; (intro h; cases h); intro h; exfalso; omega⟩
            clear c1 c2
            go_quiet (fail)
            go_wp2_with fail
            go_meet
            exact ⟨true, rfl, (by have h := HB.out; first | exact h | simpa using h), (by repeat (first | exact HX.out | (with_reducible apply Box1.drewN) | (with_reducible apply Box1.drew) | (with_reducible apply Box1.alloc)))⟩
           ·
            have f2 : decide (x < -1099511627776) = false := decide_eq_false c2
            by_cases c3 : 1099511627776 < x
            ·
             have f3 : decide (1099511627776 < x) = true := decide_eq_true c3
             have HB : Aside0 (true = false ↔ (x = 4611686018427387904 ∨ (-1099511627776 ≤ x ∧ x ≤ 1099511627776)) ∧ (i = j → x = 0) ∧ x = y) := ⟨by constructor; (intro h; cases h); intro h; exfalso; omega⟩
             clear c1 c2 c3
             go_quiet (fail)
             go_wp2_with fail
             go_meet
             exact ⟨true, rfl, (by have h := HB.out; first | exact h | simpa using h), (by repeat (first | exact HX.out | (with_reducible apply Box1.drewN) | (with_reducible apply Box1.drew) | (with_reducible apply Box1.alloc)))⟩
            ·
             have f3 : decide (1099511627776 < x) = false := decide_eq_false c3
             by_cases c4 : i = j
             ·
              have f4 : (i == j) = true := by simpa using c4
              by_cases c5 : x = 0
              ·
               have f5 : (x != 0) = false := by rw [c5]; rfl
               have HB : Aside0 ((x != y) = false ↔ (x = 4611686018427387904 ∨ (-1099511627776 ≤ x ∧ x ≤ 1099511627776)) ∧ (i = j → x = 0) ∧ x = y) := ⟨by simp only [bne_eq_false_iff_eq]; constructor <;> intro h <;> omega⟩
               clear c1 c2 c3 c4 c5
               have n_ := Aside0.mk HX.out.drew
               clear HX hx0 hx1
               have HX := n_
               clear n_
               refine start_ (n := 29) (S := fun w' => w'.cell? ⟨w.heap.size + 1, 0, none⟩ = some (.int .i64 n2) ∧ w'.cell? ⟨w.heap.size + 1, 1, none⟩ = some (.slice A0_1 l0_1.length c0_1)) (ds := []) FA0 (by kernel_rfl) rfl rfl HX.out.two (fun hHeld => ?_); refine with_tabW oct_Fit.tab14 oct_Fit.bits14 (fun HT_ HW_ => ?_)
               generalize w1.drew = w2 at HX hHeld ⊢
               refine pV_ 0 52 FA1 HT_ ?_
               refine pV_ 1 53 FA2 HT_ ?_
               refine pV_ 2 54 FA3 HT_ ?_
               refine pV_ 3 55 FA4 HT_ ?_
               refine pV_ 4 56 FA5 HT_ ?_
               refine pV_ 5 57 FA6 HT_ ?_
               refine pV_ 6 58 FA7 HT_ ?_
               refine pV_ 7 59 FA8 HT_ ?_
               refine pV_ 8 60 FA9 HT_ ?_
               refine pV_ 9 61 FA10 HT_ ?_
               refine pV_ 10 62 FA11 HT_ ?_
               refine pV_ 11 63 FA12 HT_ ?_
               refine pV_ 12 64 FA13 HT_ ?_
               refine pV_ 13 65 FA14 HT_ ?_
               refine pV_ 14 66 FA15 HT_ ?_
               refine pV_ 15 67 FA16 HT_ ?_
               refine pV_ 16 68 FA17 HT_ ?_
               refine pV_ 17 69 FA18 HT_ ?_
               refine pV_ 18 70 FA19 HT_ ?_
               refine pV_ 19 71 FA20 HT_ ?_
               refine pV_ 20 72 FA21 HT_ ?_
               refine pV_ 22 74 FA22 HT_ ?_
               refine pV_ 24 76 FA23 HT_ ?_
               refine tV_ 21 73 FA24 HT_ HW_ hHeld ?_
               refine one_ (i := 23) (N := some 75) FA25 rfl rfl (one_of HT_.out (by kernel_rfl)) (by decide) (fun K hK => ?_)
               refine gs_ Try.func94 #[.int .i64 j] ?_
               with_reducible refine (B1.out _).mono ?_
               rintro e w' ⟨rfl, ⟨nd, rfl⟩⟩
               refine ⟨_, rfl, ?_⟩
               have n_ := Aside0.mk (HX.out.drewN nd)
               clear HX
               have HX := n_
               clear n_
               refine hK.out _ _ HX.out.two (fun hHeld => ?_)
               clear hK K
               refine norm_ (a' := ?_) ?_ ?_
               rotate_left
               ·
                show Act.put _ (some 75) _ = _; simp only [Act.put, List.setIfInBounds_toArray, List.set_cons_zero, List.set_cons_succ, i64_w, i32_w]; rfl
               refine one_ (i := 25) (N := some 77) FA26 rfl rfl (one_of HT_.out (by kernel_rfl)) (by decide) (fun K hK => ?_)
               refine gs_ Try.func94 #[.int .i64 i] ?_
               with_reducible refine (B2.out _).mono ?_
               rintro e w' ⟨rfl, ⟨nd, rfl⟩⟩
               refine ⟨_, rfl, ?_⟩
               have n_ := Aside0.mk (HX.out.drewN nd)
               clear HX
               have HX := n_
               clear n_
               refine hK.out _ _ HX.out.two (fun hHeld => ?_)
               clear hK K
               refine norm_ (a' := ?_) ?_ ?_
               rotate_left
               ·
                show Act.put _ (some 77) _ = _; simp only [Act.put, List.setIfInBounds_toArray, List.set_cons_zero, List.set_cons_succ, i64_w, i32_w]; rfl
               refine one_ (i := 26) (N := some 78) FA27 rfl rfl (one_of HT_.out (by kernel_rfl)) (by decide) (fun K hK => ?_)
               refine gs_ Try.func93 #[.agg #[.int .i64 n2, .slice A0_1 l0_1.length c0_1], .int .i64 p, .int .i64 q] ?_
               with_reducible refine (C2.out _ ?s1).mono ?_
               (case s1 => exact Kd.C_below HR1.out HX.out.below)
               rintro e w3 ⟨rfl, hb⟩
               refine ⟨_, rfl, ?_⟩
               have n_ := Aside0.mk (HX.out.next hb)
               clear HX hb
               have HX := n_
               clear n_
               refine hK.out _ _ HX.out.two (fun hHeld => ?_)
               clear hK K
               refine norm_ (a' := ?_) ?_ ?_
               rotate_left
               ·
                show Act.put _ (some 78) _ = _; simp only [Act.put, List.setIfInBounds_toArray, List.set_cons_zero, List.set_cons_succ, i64_w, i32_w]; rfl
               refine pV_ 27 79 FA28 HT_ ?_
               refine pV_ 28 80 FA29 HT_ ?_
               refine dn_ HT_ ?_
               try (go_wp2_with fail)
               go_meet
               exact ⟨(x != y), rfl, (by have h := HB.out; first | exact h | simpa using h), HX.out⟩
              ·
               have f5 : (x != 0) = true := by simpa using c5
               have HB : Aside0 (true = false ↔ (x = 4611686018427387904 ∨ (-1099511627776 ≤ x ∧ x ≤ 1099511627776)) ∧ (i = j → x = 0) ∧ x = y) := ⟨by constructor; (intro h; cases h); intro h; exfalso; omega⟩
               clear c1 c2 c3 c4 c5
               go_quiet (fail)
               go_wp2_with fail
               go_meet
               exact ⟨true, rfl, (by have h := HB.out; first | exact h | simpa using h), (by repeat (first | exact HX.out | (with_reducible apply Box1.drewN) | (with_reducible apply Box1.drew) | (with_reducible apply Box1.alloc)))⟩
             ·
              have f4 : (i == j) = false := by simpa using c4
              have HB : Aside0 ((x != y) = false ↔ (x = 4611686018427387904 ∨ (-1099511627776 ≤ x ∧ x ≤ 1099511627776)) ∧ (i = j → x = 0) ∧ x = y) := ⟨by simp only [bne_eq_false_iff_eq]; constructor <;> intro h <;> omega⟩
              clear c1 c2 c3 c4
              have n_ := Aside0.mk HX.out.drew
              clear HX hx0 hx1
              have HX := n_
              clear n_
              refine start_ (n := 29) (S := fun w' => w'.cell? ⟨w.heap.size + 1, 0, none⟩ = some (.int .i64 n2) ∧ w'.cell? ⟨w.heap.size + 1, 1, none⟩ = some (.slice A0_1 l0_1.length c0_1)) (ds := []) FA0 (by kernel_rfl) rfl rfl HX.out.two (fun hHeld => ?_); refine with_tabW oct_Fit.tab14 oct_Fit.bits14 (fun HT_ HW_ => ?_)
              generalize w1.drew = w2 at HX hHeld ⊢
              refine pV_ 0 52 FA1 HT_ ?_
              refine pV_ 1 53 FA2 HT_ ?_
              refine pV_ 2 54 FA3 HT_ ?_
              refine pV_ 3 55 FA4 HT_ ?_
              refine pV_ 4 56 FA5 HT_ ?_
              refine pV_ 5 57 FA6 HT_ ?_
              refine pV_ 6 58 FA7 HT_ ?_
              refine pV_ 7 59 FA8 HT_ ?_
              refine pV_ 8 60 FA9 HT_ ?_
              refine pV_ 9 61 FA10 HT_ ?_
              refine pV_ 10 62 FA11 HT_ ?_
              refine pV_ 11 63 FA12 HT_ ?_
              refine pV_ 12 64 FA13 HT_ ?_
              refine pV_ 13 65 FA14 HT_ ?_
              refine pV_ 14 66 FA15 HT_ ?_
              refine pU_ 15 67 FA16 HT_ ?_
              refine pU_ 16 68 FA17 HT_ ?_
              refine pV_ 17 69 FA18 HT_ ?_
              refine pV_ 18 70 FA19 HT_ ?_
              refine pV_ 19 71 FA20 HT_ ?_
              refine pV_ 20 72 FA21 HT_ ?_
              refine pV_ 22 74 FA22 HT_ ?_
              refine pV_ 24 76 FA23 HT_ ?_
              refine tV_ 21 73 FA24 HT_ HW_ hHeld ?_
              refine one_ (i := 23) (N := some 75) FA25 rfl rfl (one_of HT_.out (by kernel_rfl)) (by decide) (fun K hK => ?_)
              refine gs_ Try.func94 #[.int .i64 j] ?_
              with_reducible refine (B1.out _).mono ?_
              rintro e w' ⟨rfl, ⟨nd, rfl⟩⟩
              refine ⟨_, rfl, ?_⟩
              have n_ := Aside0.mk (HX.out.drewN nd)
              clear HX
              have HX := n_
              clear n_
              refine hK.out _ _ HX.out.two (fun hHeld => ?_)
              clear hK K
              refine norm_ (a' := ?_) ?_ ?_
              rotate_left
              ·
               show Act.put _ (some 75) _ = _; simp only [Act.put, List.setIfInBounds_toArray, List.set_cons_zero, List.set_cons_succ, i64_w, i32_w]; rfl
              refine one_ (i := 25) (N := some 77) FA26 rfl rfl (one_of HT_.out (by kernel_rfl)) (by decide) (fun K hK => ?_)
              refine gs_ Try.func94 #[.int .i64 i] ?_
              with_reducible refine (B2.out _).mono ?_
              rintro e w' ⟨rfl, ⟨nd, rfl⟩⟩
              refine ⟨_, rfl, ?_⟩
              have n_ := Aside0.mk (HX.out.drewN nd)
              clear HX
              have HX := n_
              clear n_
              refine hK.out _ _ HX.out.two (fun hHeld => ?_)
              clear hK K
              refine norm_ (a' := ?_) ?_ ?_
              rotate_left
              ·
               show Act.put _ (some 77) _ = _; simp only [Act.put, List.setIfInBounds_toArray, List.set_cons_zero, List.set_cons_succ, i64_w, i32_w]; rfl
              refine one_ (i := 26) (N := some 78) FA27 rfl rfl (one_of HT_.out (by kernel_rfl)) (by decide) (fun K hK => ?_)
              refine gs_ Try.func93 #[.agg #[.int .i64 n2, .slice A0_1 l0_1.length c0_1], .int .i64 p, .int .i64 q] ?_
              with_reducible refine (C2.out _ ?s1).mono ?_
              (case s1 => exact Kd.C_below HR1.out HX.out.below)
              rintro e w3 ⟨rfl, hb⟩
              refine ⟨_, rfl, ?_⟩
              have n_ := Aside0.mk (HX.out.next hb)
              clear HX hb
              have HX := n_
              clear n_
              refine hK.out _ _ HX.out.two (fun hHeld => ?_)
              clear hK K
              refine norm_ (a' := ?_) ?_ ?_
              rotate_left
              ·
               show Act.put _ (some 78) _ = _; simp only [Act.put, List.setIfInBounds_toArray, List.set_cons_zero, List.set_cons_succ, i64_w, i32_w]; rfl
              refine pV_ 27 79 FA28 HT_ ?_
              refine pV_ 28 80 FA29 HT_ ?_
              refine dn_ HT_ ?_
              try (go_wp2_with fail)
              go_meet
              exact ⟨(x != y), rfl, (by have h := HB.out; first | exact h | simpa using h), HX.out⟩
         case rest =>
          obtain ⟨b, rfl, hb, hX⟩ := hcut
          clear HX hx0 hx1 C1 C2 B1 B2
          have HX := Aside0.mk hX
          have HB := Aside0.mk (hb.trans HXY.out.symm)
          clear hX hb HXY
          cases b with
          | true =>
           go_wp2
           go_ret
           refine ⟨?_, HX.out.below⟩
           have h1 := HI.out; have h2 := HL.out; have h3 := HJ.out; have h4 := HK.out
           rw [← HV.out, ofitB_false.2 (fun h => by have := (h.2.2 rfl).2 i j h1.1 (by rw [HN.out]; exact h2) h3.1 (by rw [HN.out]; exact h4); rw [HN.out] at this; exact absurd (HB.out.2 this) (by simp))]
           rfl
          | false =>
           go_wp2
           go_roundg (n2.toNat - (j.toNat + 1))
           case measure => have h1 := HJ.out; have h2 := HK.out; omega
           case rel =>
            have h1 := HJ.out; have h2 := HK.out; have h3 := HT.out.1; have h4 := HN.out
            have hw : wrap64 (j + 1) = j + 1 := by unfold wrap64; omega
            refine ⟨wrap64 (j + 1), rfl, ⟨by omega, by omega, by omega⟩, ⟨HX.out⟩, ⟨fun b b0 b1 => ?_⟩⟩
            by_cases e : b = j
            ·
             subst e; exact HB.out.1 (by first | rfl | trivial)
            ·
             exact HE.out b b0 (by omega)
        ·
         have f3 : decide (j < n2) = false := decide_eq_false hlt
         have HK := Aside0.mk hlt
         clear hlt
         go_wp2
         go_roundg (n2.toNat - (i.toNat + 1))
         case measure => have h1 := HI.out; have h2 := HL.out; omega
         case rel =>
          have h1 := HI.out; have h2 := HL.out; have h3 := HT.out.1; have h4 := HN.out; have h5 := HK.out; have h6 := HJ.out
          have hw : wrap64 (i + 1) = i + 1 := by unfold wrap64; omega
          refine ⟨wrap64 (i + 1), rfl, ⟨by omega, by omega, by omega⟩, ⟨HX.out⟩, ⟨fun a b a0 a1 b0 b1 => ?_⟩⟩
          by_cases e : a = i
          ·
           subst e; exact HE.out b b0 (by omega)
          ·
           exact HA.out a b a0 (by omega) b0 b1
      ·
       have f2 : decide (i < n2) = false := decide_eq_false hlt
       have HL := Aside0.mk hlt
       clear hlt
       go_wp2
       go_ret
       have h1 := HI.out; have h2 := HL.out
       refine ⟨?_, HX.out.below⟩
       rw [← HV.out, ofitB_true.2 ⟨HT.out, fun h => (by cases h), fun _ => ⟨by rw [HN.out, HNN.out]; exact HZ.out, fun a b a0 a1 b0 b1 => by rw [HN.out] at a1 b1 ⊢; exact HA.out a b a0 (by omega) b0 b1⟩⟩]
       rfl
    ·
     have f1 : ((l0_1.length : Int) != nn) = true := by simpa using hz
     have HZ := Aside0.mk hz
     have HN := Aside0.mk hn2
     have HNN := Aside0.mk hnn
     clear hz hn2 hnn hnn2 hl8
     go_enter Try.func78, Try.ntmps78
     go_wp2_with (go_at_call 100; (with_reducible refine (HM.out _ ?side1).mono ?_); (case side1 => repeat (first | exact HR0.out | (with_reducible refine Kd.C_alloc ?_ _) | (with_reducible refine Kd.C_drewN ?_ _) | (with_reducible refine Kd.C_drew ?_))); rintro e w1 ⟨rfl, ⟨nd, rfl⟩⟩)
     go_ret
     refine ⟨?_, by repeat (first | exact Below.refl _ _ | (with_reducible apply below_alloc) | (with_reducible apply pw_below_drewN) | (with_reducible apply below_drew))⟩
     rw [← HV.out, ofitB_false.2 (fun h => HZ.out (by rw [(h.2.2 rfl).1, HN.out, HNN.out]))]
     rfl
 ·
  rw [if_neg hlen] at h
  cases h
end Go.Proofs.Ytphfchbggechhaa.QO
end
section
noncomputable section
namespace Go.Proofs.Ytphfchbggechhaa.QO
open Go.RowKit YtphfchbggechhaaW.PrintWords YtphfchbggechhaaW.PrintLast
set_option linter.unusedVariables false
set_option linter.unusedSimpArgs false
def tableV (n : Int) (A : Option Addr) (len cap : Nat) : Value := .iface 102 (.agg #[.int .i64 n, .slice A len cap])
theorem oct_of_any (A0 : Option Addr) (n0 c0 : Nat) (A1 : Option Addr) (n1 c1 : Nat) (b : Bool) (w : World) (hn : n0 ≤ 17592186044416) :
 Calls Try.prog 80 #[.agg #[.slice A0 n0 c0, .slice A1 n1 c1, .bool b]] w fun e w' => e = .returned (tableV (2 * (n0 : Int)) A1 n1 c1) ∧ Below w.heap.size w w' := by
 have hu25 := Try.underlying25
 have hw : wrap64 (2 * (n0 : Int)) = 2 * (n0 : Int) := by unfold wrap64; omega
 have hw2 : IntKind.i64.wrap (2 * (n0 : Int)) = 2 * (n0 : Int) := by rw [IntKind.wrap_i64]; omega
 clear hn
 go_enter Try.func80, Try.ntmps80
 go_wp2
 go_ret
 exact ⟨rfl, below_alloc (Below.refl _ _) _⟩
theorem meth_size (m : Int) (A : Option Addr) (n c : Nat) (w : World) : (method 234 102 (.agg #[.int .i64 m, .slice A n c]) "gimbal/oct.size").run Try.prog w = .ok (144, .agg #[.int .i64 m, .slice A n c]) w := by kernel_rfl
theorem meth_at (m : Int) (A : Option Addr) (n c : Nat) (w : World) : (method 234 102 (.agg #[.int .i64 m, .slice A n c]) "gimbal/oct.at").run Try.prog w = .ok (145, .agg #[.int .i64 m, .slice A n c]) w := by kernel_rfl
theorem oct_size_any (m : Int) (A : Option Addr) (n c : Nat) (w : World) :
 Calls Try.prog 144 #[.agg #[.int .i64 m, .slice A n c]] w fun e w' => e = .returned (.int .i64 m) ∧ Below w.heap.size w w' := by
 have hu58 := Try.underlying95
 go_enter Try.func144, Try.ntmps144
 go_wp2
 go_ret
 exact ⟨rfl, below_alloc (Below.refl _ _) _⟩
def lowAt (n2 : Int) (m : List Int) (i j : Int) : Int := if j / 2 > i / 2 then rd m (nbar j * n2 + nbar i) else rd m (i * n2 + j)
theorem oct_lower_at_any (n : Nat) (A : Option Addr) (c : Nat) (m : List Int) (i j : Int) (w : World) (hr : Kd.C (Kd.int .i64) w A m.length m) (hc : m.length ≤ c) (hn : n ≤ 8) (hm : (m.length : Int) = (2 * (n : Int)) * (2 * (n : Int)))
 (h0 : 0 ≤ i) (h1 : i < 2 * (n : Int)) (h2 : 0 ≤ j) (h3 : j < 2 * (n : Int)) :
 Calls Try.prog 145 #[.agg #[.int .i64 (2 * (n : Int)), .slice A m.length c], .int .i64 i, .int .i64 j] w fun e w' => e = .returned (.int .i64 (lowAt (2 * (n : Int)) m i j)) ∧ Below w.heap.size w w' := by
 have hu58 := Try.underlying95
 have hu85 := Try.underlying102
 have nj := nbar_in (i := j) (n := n) h2 h3
 have ni := nbar_in (i := i) (n := n) h0 h1
 have a1 := at_ok (n := n) (m := m) (i := i) (j := j) hn hm h0 h1 h2 h3
 have a2 := at_ok (n := n) (m := m) (i := nbar j) (j := nbar i) hn hm nj.1 nj.2 ni.1 ni.2
 have b1 : oct_bar.f j = some (nbar j) := by unfold oct_bar.f; rw [if_pos ⟨h2, by omega⟩]
 have b2 : oct_bar.f i = some (nbar i) := by unfold oct_bar.f; rw [if_pos ⟨h0, by omega⟩]
 have HR := Aside0.mk hr
 obtain ⟨i2, hi2⟩ : ∃ i2 : Int, i / 2 = i2 := ⟨_, rfl⟩
 obtain ⟨j2, hj2⟩ : ∃ j2 : Int, j / 2 = j2 := ⟨_, rfl⟩
 have d1 : i.tdiv 2 = i2 := by rw [Int.tdiv_eq_ediv_of_nonneg h0]; exact hi2
 have d2 : j.tdiv 2 = j2 := by rw [Int.tdiv_eq_ediv_of_nonneg h2]; exact hj2
 have d3 : wrap64 i2 = i2 := by unfold wrap64; omega
 have d4 : wrap64 j2 = j2 := by unfold wrap64; omega
 by_cases hlt : j / 2 > i / 2
 ·
  have e : lowAt (2 * (n : Int)) m i j = rd m (nbar j * (2 * (n : Int)) + nbar i) := by unfold lowAt; rw [if_pos hlt]
  rw [e]
  obtain ⟨n2, hn2⟩ : ∃ n2 : Int, 2 * (n : Int) = n2 := ⟨_, rfl⟩
  rw [hn2] at a2 ⊢
  obtain ⟨p, hp⟩ : ∃ p, nbar j = p := ⟨_, rfl⟩
  obtain ⟨q, hq⟩ : ∃ q, nbar i = q := ⟨_, rfl⟩
  rw [hp, hq] at a2 ⊢
  rw [hp] at b1
  rw [hq] at b2
  obtain ⟨y, hy⟩ : ∃ y, rd m (p * n2 + q) = y := ⟨_, rfl⟩
  rw [hy] at a2 ⊢
  have C2 := Aside0.mk (fun W (hW : Kd.C (Kd.int .i64) W A m.length m) => oct_full_at.calls n2 A c m p q y W hW hc a2)
  have B1 := Aside0.mk (fun W => oct_bar_still j p W b1)
  have B2 := Aside0.mk (fun W => oct_bar_still i q W b2)
  have f1 : decide (i2 < j2) = true := decide_eq_true (by omega)
  clear nj ni a1 a2 b1 b2 hr hlt hi2 hj2 e hy hp hq hm hn hn2 h1 h3 h0 h2 hc
  go_enter Try.func145, Try.ntmps145
  go_wp2_with (first | (go_at_call 94; (with_reducible refine (B1.out _).mono ?_); rintro e w' ⟨rfl, rfl⟩) | (go_at_call 94; (with_reducible refine (B2.out _).mono ?_); rintro e w' ⟨rfl, rfl⟩) | (go_at_call 93; (with_reducible refine (C2.out _ ?s1).mono ?_); (case s1 => exact Kd.C_alloc HR.out _); rintro e w1 ⟨rfl, hb⟩))
  go_ret
  exact ⟨rfl, (below_alloc (Below.refl _ _) _).trans (hb.mono (by simp))⟩
 ·
  have e : lowAt (2 * (n : Int)) m i j = rd m (i * (2 * (n : Int)) + j) := by unfold lowAt; rw [if_neg hlt]
  rw [e]
  obtain ⟨n2, hn2⟩ : ∃ n2 : Int, 2 * (n : Int) = n2 := ⟨_, rfl⟩
  rw [hn2] at a1 ⊢
  obtain ⟨y, hy⟩ : ∃ y, rd m (i * n2 + j) = y := ⟨_, rfl⟩
  rw [hy] at a1 ⊢
  have C1 := Aside0.mk (fun W (hW : Kd.C (Kd.int .i64) W A m.length m) => oct_full_at.calls n2 A c m i j y W hW hc a1)
  have f1 : decide (i2 < j2) = false := decide_eq_false (by omega)
  clear nj ni a1 a2 b1 b2 hr hlt hi2 hj2 e hy hm hn hn2 h1 h3 h0 h2 hc
  go_enter Try.func145, Try.ntmps145
  go_wp2_with (go_at_call 93; (with_reducible refine (C1.out _ ?s1).mono ?_); (case s1 => exact Kd.C_alloc HR.out _); rintro e w1 ⟨rfl, hb⟩)
  go_ret
  exact ⟨rfl, (below_alloc (Below.refl _ _) _).trans (hb.mono (by simp))⟩
def bfit (a : Int) : Int := if a < -4611686018427387904 then -4611686018427387904 else if a > 4611686018427387904 then 4611686018427387904 else a
theorem w64 {x : Int} (h : -9223372036854775808 ≤ x) (h' : x ≤ 9223372036854775807) : wrap64 x = x := by unfold wrap64; omega
def bound_Fit.f (a0 : Int) : Option (Int) := some (bfit a0)
theorem bound_Fit.calls (a0 : Int) (r : Int) (w : World) (h : bound_Fit.f a0 = some r) :
 Calls Try.prog 104 #[.int .i64 a0] w fun e w' => e = .returned (.int .i64 r) ∧ Drawn0 w w' := by
 obtain rfl := Option.some.inj h
 clear h
 go_enter Try.func104, Try.ntmps104
 go_wp2
 all_goals
  go_ret
  refine ⟨?_, Drawn0.refl _⟩
  first
   | (rw [show bfit a0 = 4611686018427387904 by unfold bfit; (repeat' split) <;> omega]; rfl)
   | (rw [show bfit a0 = -4611686018427387904 by unfold bfit; (repeat' split) <;> omega]; rfl)
   | (rw [show bfit a0 = a0 by unfold bfit; (repeat' split) <;> omega]; rfl)
def bound_Up.f (a0 : Int) (a1 : Int) : Option (Int) := (bound_Fit.f a0).bind fun t116 => ((bound_Fit.f a1).bind fun t117 => (if t116 = 4611686018427387904 then (some 4611686018427387904) else (if t117 = 4611686018427387904 then (some 4611686018427387904) else (some (mn (mx (wrap64 (t116 + t117)) (-4611686018427387903)) 4611686018427387904)))))
theorem bound_Up.calls (a0 : Int) (a1 : Int) (r : Int) (w : World) (h : bound_Up.f a0 a1 = some r) :
 Calls Try.prog 60 #[.int .i64 a0, .int .i64 a1] w fun e w' => e = .returned (.int .i64 r) ∧ Below w.heap.size w w' := by
 have HB := Aside0.mk (Below.refl w.heap.size w)
 have H := h
 unfold bound_Up.f at H
 clear h
 replace H := Option.bind_eq_some_iff.mp H
 obtain ⟨t116, A30, H⟩ := H
 try dsimp only at H
 have A3 := Aside0.mk A30
 clear A30
 replace H := Option.bind_eq_some_iff.mp H
 obtain ⟨t117, A40, H⟩ := H
 try dsimp only at H
 have A4 := Aside0.mk A40
 clear A40
 by_cases c5 : t116 = 4611686018427387904
 ·
  rw [if_pos c5] at H
  have c5b0 : (t116 == 4611686018427387904) = true := beq_iff_eq.mpr c5
  have c5b1 : (t116 != 4611686018427387904) = false := bne_eq_false_iff_eq.mpr c5
  clear c5
  obtain rfl := Option.some.inj H
  go_enter Try.func60, Try.ntmps60
  go_wp2_with (first | ((with_reducible refine gate_callee (f := 104) rfl ?_); refine gl_ (some 6) Try.func104 #[.int .i64 a0] ?_; (with_reducible refine (bound_Fit.calls a0 t116 _ A3.out).mono ?_); rintro e w' ⟨rfl, ⟨nd, rfl⟩⟩; refine ⟨_, rfl, ?_⟩) | ((with_reducible refine gate_callee (f := 104) rfl ?_); refine gl_ (some 8) Try.func104 #[.int .i64 a1] ?_; (with_reducible refine (bound_Fit.calls a1 t117 _ A4.out).mono ?_); rintro e w' ⟨rfl, ⟨nd, rfl⟩⟩; refine ⟨_, rfl, ?_⟩))
  go_ret
  exact ⟨vE, vW HB.out⟩
 ·
  rw [if_neg c5] at H
  have c5b0 : (t116 == 4611686018427387904) = false := beq_eq_false_iff_ne.mpr c5
  have c5b1 : (t116 != 4611686018427387904) = true := bne_iff_ne.mpr c5
  by_cases c6 : t117 = 4611686018427387904
  ·
   rw [if_pos c6] at H
   have c6b0 : (t117 == 4611686018427387904) = true := beq_iff_eq.mpr c6
   have c6b1 : (t117 != 4611686018427387904) = false := bne_eq_false_iff_eq.mpr c6
   clear c6
   obtain rfl := Option.some.inj H
   go_enter Try.func60, Try.ntmps60
   go_wp2_with (first | ((with_reducible refine gate_callee (f := 104) rfl ?_); refine gl_ (some 6) Try.func104 #[.int .i64 a0] ?_; (with_reducible refine (bound_Fit.calls a0 t116 _ A3.out).mono ?_); rintro e w' ⟨rfl, ⟨nd, rfl⟩⟩; refine ⟨_, rfl, ?_⟩) | ((with_reducible refine gate_callee (f := 104) rfl ?_); refine gl_ (some 8) Try.func104 #[.int .i64 a1] ?_; (with_reducible refine (bound_Fit.calls a1 t117 _ A4.out).mono ?_); rintro e w' ⟨rfl, ⟨nd, rfl⟩⟩; refine ⟨_, rfl, ?_⟩))
   go_ret
   exact ⟨vE, vW HB.out⟩
  ·
   rw [if_neg c6] at H
   have c6b0 : (t117 == 4611686018427387904) = false := beq_eq_false_iff_ne.mpr c6
   have c6b1 : (t117 != 4611686018427387904) = true := bne_iff_ne.mpr c6
   obtain ⟨ji7, hji7⟩ : ∃ j_ : Int, (mx (wrap64 (t116 + t117)) (-4611686018427387903)) = j_ := ⟨_, rfl⟩
   first | rw [hji7] at H | simp only [hji7] at H
   (try rw [hji7] at A3)
   (try rw [hji7] at A4)
   have hji7_ : (if (wrap64 (t116 + t117)) < (-4611686018427387903) then (-4611686018427387903) else (wrap64 (t116 + t117))) = ji7 := hji7
   obtain ⟨ji8, hji8⟩ : ∃ j_ : Int, (mn (ji7) 4611686018427387904) = j_ := ⟨_, rfl⟩
   first | rw [hji8] at H | simp only [hji8] at H
   (try rw [hji8] at A3)
   (try rw [hji8] at A4)
   have hji8_ : (if 4611686018427387904 < (ji7) then 4611686018427387904 else (ji7)) = ji8 := hji8
   obtain rfl := Option.some.inj H
   go_enter Try.func60, Try.ntmps60
   go_wp2_with (first | ((with_reducible refine gate_callee (f := 104) rfl ?_); refine gl_ (some 6) Try.func104 #[.int .i64 a0] ?_; (with_reducible refine (bound_Fit.calls a0 t116 _ A3.out).mono ?_); rintro e w' ⟨rfl, ⟨nd, rfl⟩⟩; refine ⟨_, rfl, ?_⟩) | ((with_reducible refine gate_callee (f := 104) rfl ?_); refine gl_ (some 8) Try.func104 #[.int .i64 a1] ?_; (with_reducible refine (bound_Fit.calls a1 t117 _ A4.out).mono ?_); rintro e w' ⟨rfl, ⟨nd, rfl⟩⟩; refine ⟨_, rfl, ?_⟩))
   go_ret
   exact ⟨by first | rfl | (simp [errW_none, errW_some] <;> rfl) | (simp only [← hji7, ← hji8]; first | rfl | (simp [errW_none, errW_some] <;> rfl)) | (simp [*, errW_none, errW_some] <;> rfl) | (simp [wrap64]; done), vW HB.out⟩
def slices_Clone_int_int.f (l0 : List Int) : Option (List Int) := if l0.length < 17592186044416 then some l0 else none
theorem R_lit_nil (W : World) (e : Nat) : Kd.R (Kd.int .i64) e (W.alloc (.cells #[] e)) W.heap.size (fun _ => True) (.slice (some ⟨W.heap.size, 0, none⟩) 0 0) [] := by
 have h := own_lit_of (enc := Value.int .i64) W W.heap.size e [] (Nat.le_refl _) (by simp)
 exact Kd.R_of_own (h1 := fun _ => rfl) h (fun _ _ => trivial)
theorem slices_Clone_int_int.calls (A0 : Option Addr) (c0 : Nat) (l0 : List Int) (r : List Int) (w : World) (hr0 : Kd.C (Kd.int .i64) w A0 l0.length l0) (hc0 : l0.length ≤ c0) (h : slices_Clone_int_int.f l0 = some r) :
 Calls Try.prog 96 #[.slice A0 l0.length c0] w fun e w' => ∃ v0_ : Value, e = .returned (v0_) ∧ Kd.R (Kd.int .i64) 3 w' w.heap.size (fun _ => True) v0_ r ∧ Below w.heap.size w w' := by
 have HR0 := Aside0.mk hr0
 have HB := Aside0.mk (Below.refl w.heap.size w)
 clear hc0
 unfold slices_Clone_int_int.f at h
 by_cases c2 : l0.length < 17592186044416
 ·
  rw [if_pos c2] at h
  obtain rfl := Option.some.inj h
  have LM := Aside0.mk c2
  clear h c2
  have qT : ∀ (w : World) (a : Option Addr) (n c n' c' : Nat), (binOp .eql 22 (.slice a n c) (.slice none n' c')).run Try.prog w = .ok (.bool a.isNone) w := fun w a n c n' c' => Lib.run_eql_slice_nil w _ _ a n c n' c' Try.underlying22
  cases A0 with
  | none =>
   have hl : l0 = [] := by
    obtain ⟨h1, _, h2⟩ := hr0
    by_cases hz : 0 < l0.length
    ·
     obtain ⟨ad, e, _⟩ := h2 hz; cases e
    ·
     exact List.eq_nil_of_length_eq_zero (by omega)
   subst hl
   clear hr0
   go_enter Try.func96, Try.ntmps96
   go_wp2
   go_ret
   exact ⟨_, rfl, Kd.R_nil _ _ _ _ _, HB.out⟩
  | some ad =>
   clear hr0
   go_enter Try.func96, Try.ntmps96
   go_wp2_with (first | ((with_reducible refine gate_builtin (b := .append) (xs := #[.tmp 5, .tmp 6]) rfl ?_); at_builtin; refine Kd.R_append_rows (Kd.int .i64) (w0 := w) w.heap.size rfl (.tmp 5) (.tmp 6) 22 3 (.int .i64 0) 8 rfl Try.underlying22 info3 rfl (by decide) (by omega) (.slice (some ⟨w.heap.size, 0, none⟩) 0 0) ([] : List Int) l0 _ _ _ (fun _ => True) (fun _ => False) rfl rfl ?aO ?aR (fun _ _ h => h) (fun _ h => h.elim) ?aF ?aB ?aS ?aL ?_; (case aR => exact Kd.C_alloc HR0.out _); (case aB => exact (by repeat (first | (with_reducible first | exact HB.out | apply below_alloc | apply pw_below_drewN | apply below_drew1) | exact HB.out))); (case aF => exact (fun _ _ => trivial)); (case aO => exact R_lit_nil _ _); (case aS => exact (below_size (by repeat (first | (with_reducible first | exact HB.out | apply below_alloc | apply pw_below_drewN | apply below_drew1) | exact HB.out)))); (case aL => have := LM.out; rw [List.length_nil]; omega); intro v174 w3 ho hb hg hat; have n0_ := Aside0.mk (hb); have n1_ := Aside0.mk (ho); clear HB; have HB := n0_; have HO := n1_; clear n0_ n1_; clear ho hb hg hat))
   go_ret
   exact ⟨_, rfl, HO.out, HB.out⟩
 ·
  rw [if_neg c2] at h
  exact absurd h (by simp)
def oct_Bottom.f (l0 : List Int) : Option (List Int × List Int × Bool) := (oct_may.f l0).bind fun t112 => (if t112 = true then ((slices_Clone_int_int.f l0).bind fun t113 => (some (t113, ([] : List Int), true))) else (some (([] : List Int), ([] : List Int), false)))
theorem oct_Bottom.calls (A0 : Option Addr) (c0 : Nat) (l0 : List Int) (r1 : List Int) (r2 : List Int) (r3 : Bool) (w : World) (hr0 : Kd.C (Kd.int .i64) w A0 l0.length l0) (hc0 : l0.length ≤ c0) (h : oct_Bottom.f l0 = some (r1, r2, r3)) :
 Calls Try.prog 58 #[.slice A0 l0.length c0] w fun e w' => ∃ v0_ v1_ : Value, e = .returned (.agg #[v0_, v1_, .bool r3]) ∧ Kd.R (Kd.int .i64) 3 w' w.heap.size (fun _ => True) v0_ r1 ∧ Kd.R (Kd.int .i64) 2 w' w.heap.size (fun _ => True) v1_ r2 ∧ Below w.heap.size w w' := by
 have hu25 := Try.underlying25
 have HR0 := Aside0.mk hr0
 have HC0 := Aside0.mk hc0
 clear hr0 hc0
 have HB := Aside0.mk (Below.refl w.heap.size w)
 have H := h
 unfold oct_Bottom.f at H
 clear h
 replace H := Option.bind_eq_some_iff.mp H
 obtain ⟨t112, A20, H⟩ := H
 try dsimp only at H
 have A2 := Aside0.mk A20
 clear A20
 by_cases c3 : t112 = true
 ·
  subst c3
  rw [if_pos rfl] at H
  try dsimp only at H
  replace H := Option.bind_eq_some_iff.mp H
  obtain ⟨t113, A40, H⟩ := H
  try dsimp only at H
  have A4 := Aside0.mk A40
  clear A40
  simp only [Option.some.injEq, Prod.mk.injEq] at H
  obtain ⟨rfl, rfl, rfl⟩ := H
  go_enter Try.func58, Try.ntmps58
  go_wp2_with (first | ((with_reducible refine gate_dst (N := 2) rfl ?_); refine bx_ 2 #[.slice none 0 0, .slice none 0 0, .bool false] 25 ?_; intro gb111 hg w5 hbox hb; have BK111 := Aside0.mk (hbox); have GW111 := vS hg HB; have GE111 := vS hg HB; replace HB := vWs HB hb; clear hb hbox hg) | ((with_reducible refine gate_callee (f := 100) rfl ?_); refine gl_ (some 4) Try.func100 #[.slice A0 l0.length c0] ?_; (with_reducible refine (oct_may.calls _ _ l0 true _ ?side1 ?side2 A2.out).mono ?_); (case side1 => exact vC (Kd.C_below HR0.out HB.out)); (case side2 => exact HC0.out); rintro e w' ⟨rfl, ⟨nd, rfl⟩⟩; refine ⟨_, rfl, ?_⟩; (try (rw [drewN_self w5]; generalize hq_ : World.drewN w5 _ = w5; have n0_ : Aside0 (w5.heap[gb111]? = some (.cells #[.slice none 0 0, .slice none 0 0, .bool false] 25 (0, 0))) := ⟨by rw [← hq_]; exact (vB BK111.out)⟩; have n1_ : Aside0 (Below w.heap.size w w5) := ⟨by rw [← hq_]; exact (vW HB.out)⟩; clear BK111 HB hq_; have BK111 := n0_; have HB := n1_; clear n0_ n1_))) | ((with_reducible refine gate_callee (f := 96) rfl ?_); refine gl_ (some 8) Try.func96 #[.slice A0 l0.length c0] ?_; (with_reducible refine (slices_Clone_int_int.calls _ _ l0 t113 _ ?side1 ?side2 A4.out).mono ?_); (case side1 => exact vC (Kd.C_below HR0.out HB.out)); (case side2 => exact HC0.out); rintro e w6 ⟨v114, rfl, ho0, hb⟩; refine ⟨_, rfl, ?_⟩; have HO115 := Aside0.mk (Kd.R_lower ho0 (below_size (vW HB.out))); replace BK111 := vBb BK111 hb; replace HB := vWs HB hb; (try clear hb); (try clear hb2); (try clear hk); (try clear hi); (try clear ho0); obtain ⟨Ao7, co7, eo7⟩ := Kd.R_slice HO115.out; subst eo7; obtain ⟨hcz8_0, hcz8_1, hcz8_2, hfz8_0, hfz8_1, hfz8_2⟩ := vF3 BK111.out))
  refine bodyPost_ret (results_cell_row rfl _ _ gb111 25 #[.slice Ao7 t113.length co7, .slice none 0 0, .bool true] (0, 0) _ rfl (vP3 BK111.out) Try.underlying25 rfl (by kernel_rfl)) rfl ?_
  exact ⟨_, _, vE, vTt HO115.out BK111.out, by first | exact Kd.R_nil _ _ _ _ _ | exact Kd.N_nil _ _ _ _ _ | exact Kd.V_nil _ _ _ _ _ | exact Kd.Q_nil _ _ _ _ _ | exact Kd.S_nil _ _ _ _ _, vW HB.out⟩
 ·
  replace c3 := Bool.eq_false_iff.mpr c3
  subst c3
  rw [if_neg (show ¬ (false = true) by decide)] at H
  try dsimp only at H
  simp only [Option.some.injEq, Prod.mk.injEq] at H
  obtain ⟨rfl, rfl, rfl⟩ := H
  go_enter Try.func58, Try.ntmps58
  go_wp2_with (first | ((with_reducible refine gate_dst (N := 2) rfl ?_); refine bx_ 2 #[.slice none 0 0, .slice none 0 0, .bool false] 25 ?_; intro gb111 hg w9 hbox hb; have BK111 := Aside0.mk (hbox); have GW111 := vS hg HB; have GE111 := vS hg HB; replace HB := vWs HB hb; clear hb hbox hg) | ((with_reducible refine gate_callee (f := 100) rfl ?_); refine gl_ (some 4) Try.func100 #[.slice A0 l0.length c0] ?_; (with_reducible refine (oct_may.calls _ _ l0 false _ ?side1 ?side2 A2.out).mono ?_); (case side1 => exact vC (Kd.C_below HR0.out HB.out)); (case side2 => exact HC0.out); rintro e w' ⟨rfl, ⟨nd, rfl⟩⟩; refine ⟨_, rfl, ?_⟩; (try (rw [drewN_self w9]; generalize hq_ : World.drewN w9 _ = w9; have n0_ : Aside0 (w9.heap[gb111]? = some (.cells #[.slice none 0 0, .slice none 0 0, .bool false] 25 (0, 0))) := ⟨by rw [← hq_]; exact (vB BK111.out)⟩; have n1_ : Aside0 (Below w.heap.size w w9) := ⟨by rw [← hq_]; exact (vW HB.out)⟩; clear BK111 HB hq_; have BK111 := n0_; have HB := n1_; clear n0_ n1_)); obtain ⟨hcz10_0, hcz10_1, hcz10_2, hfz10_0, hfz10_1, hfz10_2⟩ := vF3 BK111.out))
  refine bodyPost_ret (results_cell_row rfl _ _ gb111 25 #[.slice none 0 0, .slice none 0 0, .bool false] (0, 0) _ rfl (vP3 BK111.out) Try.underlying25 rfl (by kernel_rfl)) rfl ?_
  exact ⟨_, _, vE, by first | exact Kd.R_nil _ _ _ _ _ | exact Kd.N_nil _ _ _ _ _ | exact Kd.V_nil _ _ _ _ _ | exact Kd.Q_nil _ _ _ _ _ | exact Kd.S_nil _ _ _ _ _, by first | exact Kd.R_nil _ _ _ _ _ | exact Kd.N_nil _ _ _ _ _ | exact Kd.V_nil _ _ _ _ _ | exact Kd.Q_nil _ _ _ _ _ | exact Kd.S_nil _ _ _ _ _, vW HB.out⟩
def bound_kind.f (a0 : Int) : Option (Int) := if a0 ≥ 4611686018427387904 then (some 1) else (if a0 ≤ (-4611686018427387904) then (some (-1)) else (some 0))
theorem bound_kind.calls (a0 : Int) (r : Int) (w : World) (h : bound_kind.f a0 = some r) :
 Calls Try.prog 123 #[.int .i64 a0] w fun e w' => e = .returned (.int .i64 r) ∧ Drawn0 w w' := by
 have H : (if a0 ≥ 4611686018427387904 then (some 1) else (if a0 ≤ (-4611686018427387904) then (some (-1)) else (some 0))) = some r := h
 clear h
 by_cases c2 : a0 ≥ 4611686018427387904
 ·
  rw [if_pos c2] at H
  have c2b0 : decide (4611686018427387904 ≤ a0) = true := decide_eq_true c2
  clear c2
  obtain rfl := Option.some.inj H
  go_enter Try.func123, Try.ntmps123
  go_wp2
  go_ret
  exact ⟨by first | rfl | (simp; done) | (simp [*]; done), by repeat (first | exact Drawn0.refl _ | apply Drawn0.step)⟩
 ·
  rw [if_neg c2] at H
  have c2b0 : decide (4611686018427387904 ≤ a0) = false := decide_eq_false c2
  clear c2
  by_cases c3 : a0 ≤ (-4611686018427387904)
  ·
   rw [if_pos c3] at H
   have c3b0 : decide (a0 ≤ (-4611686018427387904)) = true := decide_eq_true c3
   clear c3
   obtain rfl := Option.some.inj H
   go_enter Try.func123, Try.ntmps123
   go_wp2
   go_ret
   exact ⟨by first | rfl | (simp; done) | (simp [*]; done), by repeat (first | exact Drawn0.refl _ | apply Drawn0.step)⟩
  ·
   rw [if_neg c3] at H
   have c3b0 : decide (a0 ≤ (-4611686018427387904)) = false := decide_eq_false c3
   clear c3
   obtain rfl := Option.some.inj H
   go_enter Try.func123, Try.ntmps123
   go_wp2
   go_ret
   exact ⟨by first | rfl | (simp; done) | (simp [*]; done), by repeat (first | exact Drawn0.refl _ | apply Drawn0.step)⟩
def bound_Half.f (a0 : Int) : Option (Int) := (bound_kind.f a0).bind fun t118 => (if t118 = 0 then (some (a0 / 2)) else ((bound_Fit.f a0).bind fun t119 => (some t119)))
theorem bound_Half.calls (a0 : Int) (r : Int) (w : World) (h : bound_Half.f a0 = some r) :
 Calls Try.prog 95 #[.int .i64 a0] w fun e w' => e = .returned (.int .i64 r) ∧ Drawn0 w w' := by
 have H : ((bound_kind.f a0).bind fun t118 => (if t118 = 0 then (some (a0 / 2)) else ((bound_Fit.f a0).bind fun t119 => (some t119)))) = some r := h
 clear h
 replace H := Option.bind_eq_some_iff.mp H
 obtain ⟨t118, A20, H⟩ := H
 replace H : (if t118 = 0 then (some (a0 / 2)) else ((bound_Fit.f a0).bind fun t119 => (some t119))) = some r := H
 have A2 := Aside0.mk A20
 clear A20
 by_cases c3 : t118 = 0
 ·
  rw [if_pos c3] at H
  have c3b0 : (t118 == 0) = true := beq_iff_eq.mpr c3
  have c3b1 : (t118 != 0) = false := bne_eq_false_iff_eq.mpr c3
  clear c3
  obtain rfl := Option.some.inj H
  go_enter Try.func95, Try.ntmps95
  go_wp2_with (first | ((with_reducible refine gate_callee (f := 123) rfl ?_); refine goesL_ (some 4) rfl rfl Try.func123 (by kernel_rfl) rfl #[.int .i64 a0] rfl (by (try simp only [List.map_toArray, List.map_cons, List.map_nil]); first | done | rfl | (simp only [List.length_drop, List.length_take]; rfl)) ?_; (with_reducible refine (bound_kind.calls a0 t118 _ A2.out).mono ?_); rintro e w' ⟨rfl, ⟨nd, rfl⟩⟩; refine ⟨_, rfl, ?_⟩))
  go_ret
  exact ⟨by first | rfl | (simp; done) | (simp [*]; done), by repeat (first | exact Drawn0.refl _ | apply Drawn0.step)⟩
 ·
  rw [if_neg c3] at H
  have c3b0 : (t118 == 0) = false := beq_eq_false_iff_ne.mpr c3
  have c3b1 : (t118 != 0) = true := bne_iff_ne.mpr c3
  replace H := Option.bind_eq_some_iff.mp H
  obtain ⟨t119, A40, H⟩ := H
  replace H : (some t119) = some r := H
  have A4 := Aside0.mk A40
  clear A40
  obtain rfl := Option.some.inj H
  go_enter Try.func95, Try.ntmps95
  go_wp2_with (first | ((with_reducible refine gate_callee (f := 123) rfl ?_); refine goesL_ (some 4) rfl rfl Try.func123 (by kernel_rfl) rfl #[.int .i64 a0] rfl (by (try simp only [List.map_toArray, List.map_cons, List.map_nil]); first | done | rfl | (simp only [List.length_drop, List.length_take]; rfl)) ?_; (with_reducible refine (bound_kind.calls a0 t118 _ A2.out).mono ?_); rintro e w' ⟨rfl, ⟨nd, rfl⟩⟩; refine ⟨_, rfl, ?_⟩) | ((with_reducible refine gate_callee (f := 104) rfl ?_); refine goesL_ (some 7) rfl rfl Try.func104 (by kernel_rfl) rfl #[.int .i64 a0] rfl (by (try simp only [List.map_toArray, List.map_cons, List.map_nil]); first | done | rfl | (simp only [List.length_drop, List.length_take]; rfl)) ?_; (with_reducible refine (bound_Fit.calls a0 t119 _ A4.out).mono ?_); rintro e w' ⟨rfl, ⟨nd, rfl⟩⟩; refine ⟨_, rfl, ?_⟩))
  go_ret
  exact ⟨by first | rfl | (simp; done) | (simp [*]; done), by repeat (first | exact Drawn0.refl _ | apply Drawn0.step)⟩
def oct_clip.f (a0 : Int) : Option (Int) := if a0 > 1099511627776 then (some 4611686018427387904) else (some (mx a0 (-1099511627776)))
theorem oct_clip.calls (a0 : Int) (r : Int) (w : World) (h : oct_clip.f a0 = some r) :
 Calls Try.prog 97 #[.int .i64 a0] w fun e w' => e = .returned (.int .i64 r) ∧ Below w.heap.size w w' := by
 have HB := Aside0.mk (Below.refl w.heap.size w)
 have H : (if a0 > 1099511627776 then (some 4611686018427387904) else (some (mx a0 (-1099511627776)))) = some r := h
 clear h
 by_cases c2 : a0 > 1099511627776
 ·
  rw [if_pos c2] at H
  have c2b0 : decide (1099511627776 < a0) = true := decide_eq_true c2
  clear c2
  obtain rfl := Option.some.inj H
  go_enter Try.func97, Try.ntmps97
  go_wp2
  go_ret
  exact ⟨vE, by repeat (first | (with_reducible first | exact HB.out | apply below_alloc | apply pw_below_drewN | apply below_drew1) | exact HB.out)⟩
 ·
  rw [if_neg c2] at H
  have c2b0 : decide (1099511627776 < a0) = false := decide_eq_false c2
  clear c2
  obtain ⟨ji3, hji3⟩ : ∃ j_ : Int, (mx a0 (-1099511627776)) = j_ := ⟨_, rfl⟩
  replace H : (some ji3) = some r := by first | (rw [hji3] at H; exact H) | (simp only [hji3] at H ⊢; exact H)
  have hji3_ : (if a0 < (-1099511627776) then (-1099511627776) else a0) = ji3 := hji3
  obtain rfl := Option.some.inj H
  go_enter Try.func97, Try.ntmps97
  go_wp2
  go_ret
  exact ⟨by first | rfl | (simp [errW_none, errW_some] <;> rfl) | (simp only [← hji3]; first | rfl | (simp [errW_none, errW_some] <;> rfl)) | (simp [*, errW_none, errW_some] <;> rfl) | (simp [wrap64]; done), by repeat (first | (with_reducible first | exact HB.out | apply below_alloc | apply pw_below_drewN | apply below_drew1) | exact HB.out)⟩
def octop_place.l0 : Nat → Int → List Int → Int → Int → Option (Int)
 | 0, _, _, _, _ => none
 | k + 1, x1, x8, x9, x10 => if x10 < x9 then (if 0 ≤ x10 then (if x10 < (x8.length : Int) then (if (rd x8 x10) = x1 then (some x10) else (octop_place.l0 k x1 x8 x9 (wrap64 (x10 + 1)))) else (none)) else (none)) else (some (-1))
def octop_place.f (k : Nat) (l0_0 : List Int) (l0_1 : List Int) (a0_2 : Bool) (a1 : Int) : Option (Int) := octop_place.l0 k a1 l0_0 (l0_0.length : Int) 0
theorem octop_place.mono_l : ∀ k, (∀ y0 y1 y2 y3, LeO (octop_place.l0 k y0 y1 y2 y3) (octop_place.l0 (k + 1) y0 y1 y2 y3))
 | 0 => fun _ _ _ _ r h => by simp [octop_place.l0] at h
 | k + 1 => by
  have ih0 := octop_place.mono_l k
  intros
  unfold octop_place.l0 <;> repeat' first | (with_reducible first | apply ih0 | apply LeO.refl | apply LeO.none | refine LeO.ite ?_ ?_ | refine LeO.bind ?_ (fun _ => ?_)) | apply ih0 | apply LeO.none | refine LeO.ite ?_ ?_ | refine LeO.bind ?_ (fun _ => ?_)
theorem octop_place.mono : ∀ a0 a1 a2 a3 k, LeO (octop_place.f k a0 a1 a2 a3) (octop_place.f (k + 1) a0 a1 a2 a3) := by
 intro a0 a1 a2 a3 k
 have ih0 := octop_place.mono_l k
 unfold octop_place.f
 repeat' first | (with_reducible first | apply ih0 | apply LeO.refl | apply LeO.none | refine LeO.ite ?_ ?_ | refine LeO.bind ?_ (fun _ => ?_)) | apply ih0 | apply LeO.none | refine LeO.ite ?_ ?_ | refine LeO.bind ?_ (fun _ => ?_)
theorem octop_place.calls (k : Nat) (A0_0 : Option Addr) (c0_0 : Nat) (l0_0 : List Int) (A0_1 : Option Addr) (c0_1 : Nat) (l0_1 : List Int) (a0_2 : Bool) (a1 : Int) (r : Int) (w : World) (hr0_0 : Kd.C (Kd.int .i64) w A0_0 l0_0.length l0_0) (hc0_0 : l0_0.length ≤ c0_0) (hr0_1 : Kd.C (Kd.int .i64) w A0_1 l0_1.length l0_1) (hc0_1 : l0_1.length ≤ c0_1) (h : octop_place.f k l0_0 l0_1 a0_2 a1 = some r) :
 Calls Try.prog 52 #[.agg #[.slice A0_0 l0_0.length c0_0, .slice A0_1 l0_1.length c0_1, .bool a0_2], .int .i64 a1] w fun e w' => e = .returned (.int .i64 r) ∧ Below w.heap.size w w' := by
 have hu25 := Try.underlying25
 have HR0_0 := Aside0.mk hr0_0
 have HC0_0 := Aside0.mk hc0_0
 clear hr0_0 hc0_0
 have HR0_1 := Aside0.mk hr0_1
 have HC0_1 := Aside0.mk hc0_1
 clear hr0_1 hc0_1
 have HB := Aside0.mk (Below.refl w.heap.size w)
 have H := h
 unfold octop_place.f at H
 clear h
 have H' := Aside0.mk H
 clear H
 go_enter Try.func52, Try.ntmps52
 go_wp2_with (first | ((with_reducible refine gate_dst (N := 2) rfl ?_); refine bx_ 2 #[.slice A0_0 l0_0.length c0_0, .slice A0_1 l0_1.length c0_1, .bool a0_2] 25 ?_; intro gb120 hg w3 hbox hb; have BK120 := Aside0.mk (hbox); have GW120 := vS hg HB; have GE120 := vS hg HB; replace HB := vWs HB hb; clear hb hbox hg; obtain ⟨hcz4_0, hcz4_1, hcz4_2, hfz4_0, hfz4_1, hfz4_2⟩ := vF3 BK120.out))
 go_loopg [10] k (fun kq v10 w' => ∃ (x10_1 : Int), v10 = .int .i64 x10_1 ∧ Aside0 (octop_place.l0 kq a1 l0_0 (l0_0.length : Int) x10_1 = some r) ∧ Aside0 (kq ≤ k) ∧ Aside0 (w'.heap[gb120]? = some (.cells #[(.slice A0_0 l0_0.length c0_0), (.slice A0_1 l0_1.length c0_1), .bool a0_2] 25 (0, 0))) ∧ Aside0 (Below w.heap.size w w'))
 case atStart => exact ⟨(0), (by first | rfl | (simp; done) | (simp [*]; done)), H', ⟨Nat.le_refl _⟩, ⟨vB BK120.out⟩, ⟨vW HB.out⟩⟩
 case round =>
  clear H'
  try clear p2
  try clear hcz4_0
  try clear hcz4_1
  try clear hcz4_2
  try clear hfz4_0
  try clear hfz4_1
  try clear hfz4_2
  obtain ⟨x10_1, rfl, HA, HK1, BK120, HB⟩ := hrel
  cases gk with
  | zero => exact absurd HA.out (by simp [octop_place.l0])
  | succ k1 =>
   have H := HA.out
   clear HA
   simp only [octop_place.l0] at H
   by_cases c5 : x10_1 < (l0_0.length : Int)
   ·
    rw [if_pos c5] at H
    have c5b0 : decide (x10_1 < (l0_0.length : Int)) = true := decide_eq_true c5
    clear c5
    by_cases c6 : 0 ≤ x10_1
    ·
     rw [if_pos c6] at H
     have c6b0 : decide (0 ≤ x10_1) = true := decide_eq_true c6
     clear c6
     by_cases c7 : x10_1 < (l0_0.length : Int)
     ·
      rw [if_pos c7] at H
      have c7b0 : decide (x10_1 < (l0_0.length : Int)) = true := decide_eq_true c7
      clear c7
      by_cases c8 : (rd l0_0 x10_1) = a1
      ·
       rw [if_pos c8] at H
       have c8b0 : ((rd l0_0 x10_1) == a1) = true := beq_iff_eq.mpr c8
       have c8b1 : ((rd l0_0 x10_1) != a1) = false := bne_eq_false_iff_eq.mpr c8
       clear c8
       obtain rfl := Option.some.inj H
       have p121 : 0 ≤ (x10_1 : Int) := of_decide_eq_true (by first | (with_reducible assumption) | assumption)
       have q121 : x10_1 < (l0_0.length : Int) := of_decide_eq_true (by first | (with_reducible assumption) | assumption)
       obtain ⟨ad121, e121, hx121_0⟩ := Kd.at_int HR0_0.out x10_1 p121 q121
       cases e121
       replace hx121_0 := (HB.out.cell (World.block_lt_of_cell? w _ hx121_0)).trans hx121_0
       replace p121 := eq_true p121
       replace q121 := eq_true q121
       go_wp2
       go_ret
       exact ⟨vE, vW HB.out⟩
      ·
       rw [if_neg c8] at H
       have c8b0 : ((rd l0_0 x10_1) == a1) = false := beq_eq_false_iff_ne.mpr c8
       have c8b1 : ((rd l0_0 x10_1) != a1) = true := bne_iff_ne.mpr c8
       have H' := Aside0.mk H
       clear H
       have p121 : 0 ≤ (x10_1 : Int) := of_decide_eq_true (by first | (with_reducible assumption) | assumption)
       have q121 : x10_1 < (l0_0.length : Int) := of_decide_eq_true (by first | (with_reducible assumption) | assumption)
       obtain ⟨ad121, e121, hx121_0⟩ := Kd.at_int HR0_0.out x10_1 p121 q121
       cases e121
       replace hx121_0 := (HB.out.cell (World.block_lt_of_cell? w _ hx121_0)).trans hx121_0
       replace p121 := eq_true p121
       replace q121 := eq_true q121
       go_wp2
       go_roundg k1
       case measure => have := HK1.out; omega
       case rel => exact ⟨(wrap64 (x10_1 + 1)), (by first | rfl | (simp; done) | (simp [*]; done)), H', ⟨by have := HK1.out; omega⟩, ⟨vB BK120.out⟩, ⟨vW HB.out⟩⟩
     ·
      rw [if_neg c7] at H
      exact absurd H (by simp)
    ·
     rw [if_neg c6] at H
     exact absurd H (by simp)
   ·
    rw [if_neg c5] at H
    have c5b0 : decide (x10_1 < (l0_0.length : Int)) = false := decide_eq_false c5
    clear c5
    obtain rfl := Option.some.inj H
    go_wp2
    go_ret
    exact ⟨vE, vW HB.out⟩
def gimbalref11_Place.l0 : Nat → Int → List Int → Int → Int → Option (Int)
 | 0, _, _, _, _ => none
 | k + 1, x1, x8, x9, x10 => if x10 < x9 then (if 0 ≤ x10 then (if x10 < (x8.length : Int) then (if (rd x8 x10) = x1 then (some x10) else (gimbalref11_Place.l0 k x1 x8 x9 (wrap64 (x10 + 1)))) else (none)) else (none)) else (some (-1))
def gimbalref11_Place.f (k : Nat) (l0_0 : List Int) (l0_1 : List Int) (a0_2 : Bool) (a1 : Int) : Option (Int) := gimbalref11_Place.l0 k a1 l0_0 (l0_0.length : Int) 0
theorem gimbalref11_Place.mono_l : ∀ k, (∀ y0 y1 y2 y3, LeO (gimbalref11_Place.l0 k y0 y1 y2 y3) (gimbalref11_Place.l0 (k + 1) y0 y1 y2 y3))
 | 0 => fun _ _ _ _ r h => by simp [gimbalref11_Place.l0] at h
 | k + 1 => by
  have ih0 := gimbalref11_Place.mono_l k
  intros
  unfold gimbalref11_Place.l0 <;> repeat' first | (with_reducible first | apply ih0 | apply LeO.refl | apply LeO.none | refine LeO.ite ?_ ?_ | refine LeO.bind ?_ (fun _ => ?_)) | apply ih0 | apply LeO.none | refine LeO.ite ?_ ?_ | refine LeO.bind ?_ (fun _ => ?_)
theorem gimbalref11_Place.mono : ∀ a0 a1 a2 a3 k, LeO (gimbalref11_Place.f k a0 a1 a2 a3) (gimbalref11_Place.f (k + 1) a0 a1 a2 a3) := by
 intro a0 a1 a2 a3 k
 have ih0 := gimbalref11_Place.mono_l k
 unfold gimbalref11_Place.f
 repeat' first | (with_reducible first | apply ih0 | apply LeO.refl | apply LeO.none | refine LeO.ite ?_ ?_ | refine LeO.bind ?_ (fun _ => ?_)) | apply ih0 | apply LeO.none | refine LeO.ite ?_ ?_ | refine LeO.bind ?_ (fun _ => ?_)
theorem gimbalref11_Place.calls (k : Nat) (A0_0 : Option Addr) (c0_0 : Nat) (l0_0 : List Int) (A0_1 : Option Addr) (c0_1 : Nat) (l0_1 : List Int) (a0_2 : Bool) (a1 : Int) (r : Int) (w : World) (hr0_0 : Kd.C (Kd.int .i64) w A0_0 l0_0.length l0_0) (hc0_0 : l0_0.length ≤ c0_0) (hr0_1 : Kd.C (Kd.int .i64) w A0_1 l0_1.length l0_1) (hc0_1 : l0_1.length ≤ c0_1) (h : gimbalref11_Place.f k l0_0 l0_1 a0_2 a1 = some r) :
 Calls Try.prog 28 #[.agg #[.slice A0_0 l0_0.length c0_0, .slice A0_1 l0_1.length c0_1, .bool a0_2], .int .i64 a1] w fun e w' => e = .returned (.int .i64 r) ∧ Below w.heap.size w w' := by
 have hu25 := Try.underlying25
 have HR0_0 := Aside0.mk hr0_0
 have HC0_0 := Aside0.mk hc0_0
 clear hr0_0 hc0_0
 have HR0_1 := Aside0.mk hr0_1
 have HC0_1 := Aside0.mk hc0_1
 clear hr0_1 hc0_1
 have HB := Aside0.mk (Below.refl w.heap.size w)
 have H := h
 unfold gimbalref11_Place.f at H
 clear h
 have H' := Aside0.mk H
 clear H
 go_enter Try.func28, Try.ntmps28
 go_wp2_with (first | ((with_reducible refine gate_dst (N := 2) rfl ?_); refine bx_ 2 #[.slice A0_0 l0_0.length c0_0, .slice A0_1 l0_1.length c0_1, .bool a0_2] 25 ?_; intro gb206 hg w3 hbox hb; have BK206 := Aside0.mk (hbox); have GW206 := vS hg HB; have GE206 := vS hg HB; replace HB := vWs HB hb; clear hb hbox hg; obtain ⟨hcz4_0, hcz4_1, hcz4_2, hfz4_0, hfz4_1, hfz4_2⟩ := vF3 BK206.out))
 go_loopg [10] k (fun kq v10 w' => ∃ (x10_1 : Int), v10 = .int .i64 x10_1 ∧ Aside0 (gimbalref11_Place.l0 kq a1 l0_0 (l0_0.length : Int) x10_1 = some r) ∧ Aside0 (kq ≤ k) ∧ Aside0 (w'.heap[gb206]? = some (.cells #[(.slice A0_0 l0_0.length c0_0), (.slice A0_1 l0_1.length c0_1), .bool a0_2] 25 (0, 0))) ∧ Aside0 (Below w.heap.size w w'))
 case atStart => exact ⟨(0), (by first | rfl | (simp; done) | (simp [*]; done)), H', ⟨Nat.le_refl _⟩, ⟨vB BK206.out⟩, ⟨vW HB.out⟩⟩
 case round =>
  clear H'
  try clear c2
  try clear p2
  try clear hcz4_0
  try clear hcz4_1
  try clear hcz4_2
  try clear hfz4_0
  try clear hfz4_1
  try clear hfz4_2
  obtain ⟨x10_1, rfl, HA, HK1, BK206, HB⟩ := hrel
  cases gk with
  | zero => exact absurd HA.out (by simp [gimbalref11_Place.l0])
  | succ k1 =>
   have H := HA.out
   clear HA
   simp only [gimbalref11_Place.l0] at H
   by_cases c5 : x10_1 < (l0_0.length : Int)
   ·
    rw [if_pos c5] at H
    have c5b0 : decide (x10_1 < (l0_0.length : Int)) = true := decide_eq_true c5
    clear c5
    by_cases c6 : 0 ≤ x10_1
    ·
     rw [if_pos c6] at H
     have c6b0 : decide (0 ≤ x10_1) = true := decide_eq_true c6
     clear c6
     by_cases c7 : x10_1 < (l0_0.length : Int)
     ·
      rw [if_pos c7] at H
      have c7b0 : decide (x10_1 < (l0_0.length : Int)) = true := decide_eq_true c7
      clear c7
      by_cases c8 : (rd l0_0 x10_1) = a1
      ·
       rw [if_pos c8] at H
       have c8b0 : ((rd l0_0 x10_1) == a1) = true := beq_iff_eq.mpr c8
       have c8b1 : ((rd l0_0 x10_1) != a1) = false := bne_eq_false_iff_eq.mpr c8
       clear c8
       obtain rfl := Option.some.inj H
       have p207 : 0 ≤ (x10_1 : Int) := of_decide_eq_true (by first | (with_reducible assumption) | assumption)
       have q207 : x10_1 < (l0_0.length : Int) := of_decide_eq_true (by first | (with_reducible assumption) | assumption)
       obtain ⟨ad207, e207, hx207_0⟩ := Kd.at_int HR0_0.out x10_1 p207 q207
       cases e207
       replace hx207_0 := (HB.out.cell (World.block_lt_of_cell? w _ hx207_0)).trans hx207_0
       replace p207 := eq_true p207
       replace q207 := eq_true q207
       go_wp2
       go_ret
       exact ⟨vE, vW HB.out⟩
      ·
       rw [if_neg c8] at H
       have c8b0 : ((rd l0_0 x10_1) == a1) = false := beq_eq_false_iff_ne.mpr c8
       have c8b1 : ((rd l0_0 x10_1) != a1) = true := bne_iff_ne.mpr c8
       have H' := Aside0.mk H
       clear H
       have p207 : 0 ≤ (x10_1 : Int) := of_decide_eq_true (by first | (with_reducible assumption) | assumption)
       have q207 : x10_1 < (l0_0.length : Int) := of_decide_eq_true (by first | (with_reducible assumption) | assumption)
       obtain ⟨ad207, e207, hx207_0⟩ := Kd.at_int HR0_0.out x10_1 p207 q207
       cases e207
       replace hx207_0 := (HB.out.cell (World.block_lt_of_cell? w _ hx207_0)).trans hx207_0
       replace p207 := eq_true p207
       replace q207 := eq_true q207
       go_wp2
       go_roundg k1
       case measure => have := HK1.out; omega
       case rel => exact ⟨(wrap64 (x10_1 + 1)), (by first | rfl | (simp; done) | (simp [*]; done)), H', ⟨by have := HK1.out; omega⟩, ⟨vB BK206.out⟩, ⟨vW HB.out⟩⟩
     ·
      rw [if_neg c7] at H
      exact absurd H (by simp)
    ·
     rw [if_neg c6] at H
     exact absurd H (by simp)
   ·
    rw [if_neg c5] at H
    have c5b0 : decide (x10_1 < (l0_0.length : Int)) = false := decide_eq_false c5
    clear c5
    obtain rfl := Option.some.inj H
    go_wp2
    go_ret
    exact ⟨vE, vW HB.out⟩
def slices_Index_int_int.l0 : Nat → List Int → Int → Int → Int → Option (Int)
 | 0, _, _, _, _ => none
 | k + 1, x0, x1, x7, x8 => if x8 < x7 then (if 0 ≤ x8 then (if x8 < (x0.length : Int) then (if x1 = (rd x0 x8) then (some x8) else (slices_Index_int_int.l0 k x0 x1 x7 (wrap64 (x8 + 1)))) else (none)) else (none)) else (some (-1))
def slices_Index_int_int.f (k : Nat) (l0 : List Int) (a1 : Int) : Option (Int) := slices_Index_int_int.l0 k l0 a1 (l0.length : Int) 0
theorem slices_Index_int_int.mono_l : ∀ k, (∀ y0 y1 y2 y3, LeO (slices_Index_int_int.l0 k y0 y1 y2 y3) (slices_Index_int_int.l0 (k + 1) y0 y1 y2 y3))
 | 0 => fun _ _ _ _ r h => by simp [slices_Index_int_int.l0] at h
 | k + 1 => by
  have ih0 := slices_Index_int_int.mono_l k
  intros
  unfold slices_Index_int_int.l0 <;> repeat' first | (with_reducible first | apply ih0 | apply LeO.refl | apply LeO.none | refine LeO.ite ?_ ?_ | refine LeO.bind ?_ (fun _ => ?_)) | apply ih0 | apply LeO.none | refine LeO.ite ?_ ?_ | refine LeO.bind ?_ (fun _ => ?_)
theorem slices_Index_int_int.mono : ∀ a0 a1 k, LeO (slices_Index_int_int.f k a0 a1) (slices_Index_int_int.f (k + 1) a0 a1) := by
 intro a0 a1 k
 have ih0 := slices_Index_int_int.mono_l k
 unfold slices_Index_int_int.f
 repeat' first | (with_reducible first | apply ih0 | apply LeO.refl | apply LeO.none | refine LeO.ite ?_ ?_ | refine LeO.bind ?_ (fun _ => ?_)) | apply ih0 | apply LeO.none | refine LeO.ite ?_ ?_ | refine LeO.bind ?_ (fun _ => ?_)
theorem slices_Index_int_int.calls (k : Nat) (A0 : Option Addr) (c0 : Nat) (l0 : List Int) (a1 : Int) (r : Int) (w : World) (hr0 : Kd.C (Kd.int .i64) w A0 l0.length l0) (hc0 : l0.length ≤ c0) (h : slices_Index_int_int.f k l0 a1 = some r) :
 Calls Try.prog 125 #[.slice A0 l0.length c0, .int .i64 a1] w fun e w' => e = .returned (.int .i64 r) ∧ Drawn0 w w' := by
 have HR0 := Aside0.mk hr0
 have HC0 := Aside0.mk hc0
 clear hr0 hc0
 have H := h
 unfold slices_Index_int_int.f at H
 clear h
 have H' := Aside0.mk H
 clear H
 go_enter Try.func125, Try.ntmps125
 go_wp2
 go_loopg [8] k (fun kq v8 w' => ∃ (x8_1 : Int), v8 = .int .i64 x8_1 ∧ Aside0 (slices_Index_int_int.l0 kq l0 a1 (l0.length : Int) x8_1 = some r) ∧ Aside0 (kq ≤ k) ∧ Drawn0 w w')
 case atStart => exact ⟨(0), (by first | rfl | (simp; done) | (simp [*]; done)), H', ⟨Nat.le_refl _⟩, by repeat (first | exact Drawn0.refl _ | apply Drawn0.step)⟩
 case round =>
  clear H'
  try clear c1
  try clear p2
  obtain ⟨x8_1, rfl, HA, HK1, ⟨m1, rfl⟩⟩ := hrel
  cases gk with
  | zero => exact absurd HA.out (by simp [slices_Index_int_int.l0])
  | succ k1 =>
   have H := HA.out
   clear HA
   simp only [slices_Index_int_int.l0] at H
   by_cases c3 : x8_1 < (l0.length : Int)
   ·
    rw [if_pos c3] at H
    have c3b0 : decide (x8_1 < (l0.length : Int)) = true := decide_eq_true c3
    clear c3
    by_cases c4 : 0 ≤ x8_1
    ·
     rw [if_pos c4] at H
     have c4b0 : decide (0 ≤ x8_1) = true := decide_eq_true c4
     clear c4
     by_cases c5 : x8_1 < (l0.length : Int)
     ·
      rw [if_pos c5] at H
      have c5b0 : decide (x8_1 < (l0.length : Int)) = true := decide_eq_true c5
      clear c5
      by_cases c6 : a1 = (rd l0 x8_1)
      ·
       rw [if_pos c6] at H
       have c6b0 : (a1 == (rd l0 x8_1)) = true := beq_iff_eq.mpr c6
       have c6b1 : (a1 != (rd l0 x8_1)) = false := bne_eq_false_iff_eq.mpr c6
       clear c6
       obtain rfl := Option.some.inj H
       have p152 : 0 ≤ (x8_1 : Int) := of_decide_eq_true (by first | (with_reducible assumption) | assumption)
       have q152 : x8_1 < (l0.length : Int) := of_decide_eq_true (by first | (with_reducible assumption) | assumption)
       obtain ⟨ad152, e152, hx152_0⟩ := Kd.at_int HR0.out x8_1 p152 q152
       cases e152
       replace p152 := eq_true p152
       replace q152 := eq_true q152
       go_wp2
       go_ret
       exact ⟨by first | rfl | (simp; done) | (simp [*]; done), by repeat (first | exact Drawn0.refl _ | apply Drawn0.step)⟩
      ·
       rw [if_neg c6] at H
       have c6b0 : (a1 == (rd l0 x8_1)) = false := beq_eq_false_iff_ne.mpr c6
       have c6b1 : (a1 != (rd l0 x8_1)) = true := bne_iff_ne.mpr c6
       have H' := Aside0.mk H
       clear H
       have p152 : 0 ≤ (x8_1 : Int) := of_decide_eq_true (by first | (with_reducible assumption) | assumption)
       have q152 : x8_1 < (l0.length : Int) := of_decide_eq_true (by first | (with_reducible assumption) | assumption)
       obtain ⟨ad152, e152, hx152_0⟩ := Kd.at_int HR0.out x8_1 p152 q152
       cases e152
       replace p152 := eq_true p152
       replace q152 := eq_true q152
       go_wp2
       go_roundg k1
       case measure => have := HK1.out; omega
       case rel => exact ⟨(wrap64 (x8_1 + 1)), (by first | rfl | (simp; done) | (simp [*]; done)), H', ⟨by have := HK1.out; omega⟩, by repeat (first | exact Drawn0.refl _ | apply Drawn0.step)⟩
     ·
      rw [if_neg c5] at H
      exact absurd H (by simp)
    ·
     rw [if_neg c4] at H
     exact absurd H (by simp)
   ·
    rw [if_neg c3] at H
    have c3b0 : decide (x8_1 < (l0.length : Int)) = false := decide_eq_false c3
    clear c3
    obtain rfl := Option.some.inj H
    go_wp2
    go_ret
    exact ⟨by first | rfl | (simp; done) | (simp [*]; done), by repeat (first | exact Drawn0.refl _ | apply Drawn0.step)⟩
def oct_node.f (k : Nat) (l0_0 : List Int) (l0_1 : List Int) (a0_2 : Bool) (a1 : Int) (a2 : Int) : Option (Int) := (slices_Index_int_int.f k l0_0 a1).bind fun t154 => (if t154 ≥ 0 then (if a2 < 0 then (some (wrap64 ((wrap64 (2 * t154)) + 1))) else (some (wrap64 (2 * t154)))) else (some (wrap64 (2 * t154))))
theorem oct_node.mono : ∀ a0 a1 a2 a3 a4 k, LeO (oct_node.f k a0 a1 a2 a3 a4) (oct_node.f (k + 1) a0 a1 a2 a3 a4) := by
 intro a0 a1 a2 a3 a4 k
 unfold oct_node.f
 repeat' first | (with_reducible first | apply slices_Index_int_int.mono | apply LeO.refl | apply LeO.none | refine LeO.ite ?_ ?_ | refine LeO.bind ?_ (fun _ => ?_)) | apply slices_Index_int_int.mono | apply LeO.none | refine LeO.ite ?_ ?_ | refine LeO.bind ?_ (fun _ => ?_)
theorem oct_node.calls (k : Nat) (A0_0 : Option Addr) (c0_0 : Nat) (l0_0 : List Int) (A0_1 : Option Addr) (c0_1 : Nat) (l0_1 : List Int) (a0_2 : Bool) (a1 : Int) (a2 : Int) (r : Int) (w : World) (hr0_0 : Kd.C (Kd.int .i64) w A0_0 l0_0.length l0_0) (hc0_0 : l0_0.length ≤ c0_0) (hr0_1 : Kd.C (Kd.int .i64) w A0_1 l0_1.length l0_1) (hc0_1 : l0_1.length ≤ c0_1) (h : oct_node.f k l0_0 l0_1 a0_2 a1 a2 = some r) :
 Calls Try.prog 112 #[.agg #[.slice A0_0 l0_0.length c0_0, .slice A0_1 l0_1.length c0_1, .bool a0_2], .int .i64 a1, .int .i64 a2] w fun e w' => e = .returned (.int .i64 r) ∧ Below w.heap.size w w' := by
 have hu25 := Try.underlying25
 have HR0_0 := Aside0.mk hr0_0
 have HC0_0 := Aside0.mk hc0_0
 clear hr0_0 hc0_0
 have HR0_1 := Aside0.mk hr0_1
 have HC0_1 := Aside0.mk hc0_1
 clear hr0_1 hc0_1
 have HB := Aside0.mk (Below.refl w.heap.size w)
 have H := h
 unfold oct_node.f at H
 clear h
 replace H := Option.bind_eq_some_iff.mp H
 obtain ⟨t154, A40, H⟩ := H
 try dsimp only at H
 have A4 := Aside0.mk A40
 clear A40
 by_cases c5 : t154 ≥ 0
 ·
  rw [if_pos c5] at H
  have c5b0 : decide (0 ≤ t154) = true := decide_eq_true c5
  clear c5
  by_cases c6 : a2 < 0
  ·
   rw [if_pos c6] at H
   have c6b0 : decide (a2 < 0) = true := decide_eq_true c6
   clear c6
   obtain rfl := Option.some.inj H
   go_enter Try.func112, Try.ntmps112
   go_wp2_with (first | ((with_reducible refine gate_dst (N := 3) rfl ?_); refine bx_ 3 #[.slice A0_0 l0_0.length c0_0, .slice A0_1 l0_1.length c0_1, .bool a0_2] 25 ?_; intro gb153 hg w7 hbox hb; have BK153 := Aside0.mk (hbox); have GW153 := vS hg HB; have GE153 := vS hg HB; replace HB := vWs HB hb; clear hb hbox hg; obtain ⟨hcz8_0, hcz8_1, hcz8_2, hfz8_0, hfz8_1, hfz8_2⟩ := vF3 BK153.out) | ((with_reducible refine gate_callee (f := 125) rfl ?_); refine gl_ (some 11) Try.func125 #[.slice A0_0 l0_0.length c0_0, .int .i64 a1] ?_; (with_reducible refine (slices_Index_int_int.calls k _ _ l0_0 a1 t154 _ ?side1 ?side2 A4.out).mono ?_); (case side1 => exact vC (Kd.C_below HR0_0.out HB.out)); (case side2 => exact HC0_0.out); rintro e w' ⟨rfl, ⟨nd, rfl⟩⟩; refine ⟨_, rfl, ?_⟩))
   go_ret
   exact ⟨vE, vW HB.out⟩
  ·
   rw [if_neg c6] at H
   have c6b0 : decide (a2 < 0) = false := decide_eq_false c6
   clear c6
   obtain rfl := Option.some.inj H
   go_enter Try.func112, Try.ntmps112
   go_wp2_with (first | ((with_reducible refine gate_dst (N := 3) rfl ?_); refine bx_ 3 #[.slice A0_0 l0_0.length c0_0, .slice A0_1 l0_1.length c0_1, .bool a0_2] 25 ?_; intro gb153 hg w9 hbox hb; have BK153 := Aside0.mk (hbox); have GW153 := vS hg HB; have GE153 := vS hg HB; replace HB := vWs HB hb; clear hb hbox hg; obtain ⟨hcz10_0, hcz10_1, hcz10_2, hfz10_0, hfz10_1, hfz10_2⟩ := vF3 BK153.out) | ((with_reducible refine gate_callee (f := 125) rfl ?_); refine gl_ (some 11) Try.func125 #[.slice A0_0 l0_0.length c0_0, .int .i64 a1] ?_; (with_reducible refine (slices_Index_int_int.calls k _ _ l0_0 a1 t154 _ ?side1 ?side2 A4.out).mono ?_); (case side1 => exact vC (Kd.C_below HR0_0.out HB.out)); (case side2 => exact HC0_0.out); rintro e w' ⟨rfl, ⟨nd, rfl⟩⟩; refine ⟨_, rfl, ?_⟩))
   go_ret
   exact ⟨vE, vW HB.out⟩
 ·
  rw [if_neg c5] at H
  have c5b0 : decide (0 ≤ t154) = false := decide_eq_false c5
  clear c5
  obtain rfl := Option.some.inj H
  go_enter Try.func112, Try.ntmps112
  go_wp2_with (first | ((with_reducible refine gate_dst (N := 3) rfl ?_); refine bx_ 3 #[.slice A0_0 l0_0.length c0_0, .slice A0_1 l0_1.length c0_1, .bool a0_2] 25 ?_; intro gb153 hg w11 hbox hb; have BK153 := Aside0.mk (hbox); have GW153 := vS hg HB; have GE153 := vS hg HB; replace HB := vWs HB hb; clear hb hbox hg; obtain ⟨hcz12_0, hcz12_1, hcz12_2, hfz12_0, hfz12_1, hfz12_2⟩ := vF3 BK153.out) | ((with_reducible refine gate_callee (f := 125) rfl ?_); refine gl_ (some 11) Try.func125 #[.slice A0_0 l0_0.length c0_0, .int .i64 a1] ?_; (with_reducible refine (slices_Index_int_int.calls k _ _ l0_0 a1 t154 _ ?side1 ?side2 A4.out).mono ?_); (case side1 => exact vC (Kd.C_below HR0_0.out HB.out)); (case side2 => exact HC0_0.out); rintro e w' ⟨rfl, ⟨nd, rfl⟩⟩; refine ⟨_, rfl, ?_⟩))
  go_ret
  exact ⟨vE, vW HB.out⟩
def gimbalref11_Node.f (a0 : Int) (a1 : Int) : Option (Int) := if a1 > 0 then (some (wrap64 (2 * a0))) else (some (wrap64 ((wrap64 (2 * a0)) + 1)))
theorem gimbalref11_Node.calls (a0 : Int) (a1 : Int) (r : Int) (w : World) (h : gimbalref11_Node.f a0 a1 = some r) :
 Calls Try.prog 107 #[.int .i64 a0, .int .i64 a1] w fun e w' => e = .returned (.int .i64 r) ∧ Drawn0 w w' := by
 have H : (if a1 > 0 then (some (wrap64 (2 * a0))) else (some (wrap64 ((wrap64 (2 * a0)) + 1)))) = some r := h
 clear h
 by_cases c3 : a1 > 0
 ·
  rw [if_pos c3] at H
  have c3b0 : decide (0 < a1) = true := decide_eq_true c3
  clear c3
  obtain rfl := Option.some.inj H
  go_enter Try.func107, Try.ntmps107
  go_wp2
  go_ret
  exact ⟨by first | rfl | (simp; done) | (simp [*]; done), by repeat (first | exact Drawn0.refl _ | apply Drawn0.step)⟩
 ·
  rw [if_neg c3] at H
  have c3b0 : decide (0 < a1) = false := decide_eq_false c3
  clear c3
  obtain rfl := Option.some.inj H
  go_enter Try.func107, Try.ntmps107
  go_wp2
  go_ret
  exact ⟨by first | rfl | (simp; done) | (simp [*]; done), by repeat (first | exact Drawn0.refl _ | apply Drawn0.step)⟩
def bound_Down.f (a0 : Int) (a1 : Int) : Option (Int) := (bound_Fit.f a0).bind fun t155 => ((bound_Fit.f a1).bind fun t156 => ((bound_Up.f (wrap64 (-t155)) (wrap64 (-t156))).bind fun t157 => (some (wrap64 (-t157)))))
theorem bound_Down.calls (a0 : Int) (a1 : Int) (r : Int) (w : World) (h : bound_Down.f a0 a1 = some r) :
 Calls Try.prog 113 #[.int .i64 a0, .int .i64 a1] w fun e w' => e = .returned (.int .i64 r) ∧ Below w.heap.size w w' := by
 have HB := Aside0.mk (Below.refl w.heap.size w)
 have H : ((bound_Fit.f a0).bind fun t155 => ((bound_Fit.f a1).bind fun t156 => ((bound_Up.f (wrap64 (-t155)) (wrap64 (-t156))).bind fun t157 => (some (wrap64 (-t157)))))) = some r := h
 clear h
 replace H := Option.bind_eq_some_iff.mp H
 obtain ⟨t155, A30, H⟩ := H
 replace H : ((bound_Fit.f a1).bind fun t156 => ((bound_Up.f (wrap64 (-t155)) (wrap64 (-t156))).bind fun t157 => (some (wrap64 (-t157))))) = some r := H
 have A3 := Aside0.mk A30
 clear A30
 replace H := Option.bind_eq_some_iff.mp H
 obtain ⟨t156, A40, H⟩ := H
 replace H : ((bound_Up.f (wrap64 (-t155)) (wrap64 (-t156))).bind fun t157 => (some (wrap64 (-t157)))) = some r := H
 have A4 := Aside0.mk A40
 clear A40
 replace H := Option.bind_eq_some_iff.mp H
 obtain ⟨t157, A50, H⟩ := H
 replace H : (some (wrap64 (-t157))) = some r := H
 have A5 := Aside0.mk A50
 clear A50
 obtain rfl := Option.some.inj H
 go_enter Try.func113, Try.ntmps113
 go_wp2_with (first | ((with_reducible refine gate_callee (f := 104) rfl ?_); refine goesL_ (some 6) rfl rfl Try.func104 (by kernel_rfl) rfl #[.int .i64 a0] rfl (by (try simp only [List.map_toArray, List.map_cons, List.map_nil]); first | done | rfl | (simp only [List.length_drop, List.length_take]; rfl)) ?_; (with_reducible refine (bound_Fit.calls a0 t155 _ A3.out).mono ?_); rintro e w' ⟨rfl, ⟨nd, rfl⟩⟩; refine ⟨_, rfl, ?_⟩) | ((with_reducible refine gate_callee (f := 104) rfl ?_); refine goesL_ (some 9) rfl rfl Try.func104 (by kernel_rfl) rfl #[.int .i64 a1] rfl (by (try simp only [List.map_toArray, List.map_cons, List.map_nil]); first | done | rfl | (simp only [List.length_drop, List.length_take]; rfl)) ?_; (with_reducible refine (bound_Fit.calls a1 t156 _ A4.out).mono ?_); rintro e w' ⟨rfl, ⟨nd, rfl⟩⟩; refine ⟨_, rfl, ?_⟩) | ((with_reducible refine gate_callee (f := 60) rfl ?_); refine goesL_ (some 11) rfl rfl Try.func60 (by kernel_rfl) rfl #[.int .i64 (wrap64 (-t155)), .int .i64 (wrap64 (-t156))] rfl (by (try simp only [List.map_toArray, List.map_cons, List.map_nil]); first | done | rfl | (simp only [List.length_drop, List.length_take]; rfl)) ?_; (with_reducible refine (bound_Up.calls (wrap64 (-t155)) (wrap64 (-t156)) t157 _ A5.out).mono ?_); rintro e w6 ⟨rfl, hb⟩; refine ⟨_, rfl, ?_⟩; have n0_ := Aside0.mk (below_step (by repeat (first | (with_reducible first | exact HB.out | apply below_alloc | apply pw_below_drewN | apply below_drew1) | exact HB.out)) hb); clear HB; have HB := n0_; clear n0_; (try clear hb); (try clear hb2); (try clear hk); (try clear hi)))
 go_ret
 exact ⟨vE, by repeat (first | (with_reducible first | exact HB.out | apply below_alloc | apply pw_below_drewN | apply below_drew1) | exact HB.out)⟩
def bound_Neg.f (a0 : Int) : Option (Int) := (bound_Fit.f a0).bind fun t126 => (some (wrap64 (-t126)))
theorem bound_Neg.calls (a0 : Int) (r : Int) (w : World) (h : bound_Neg.f a0 = some r) :
 Calls Try.prog 61 #[.int .i64 a0] w fun e w' => e = .returned (.int .i64 r) ∧ Drawn0 w w' := by
 have H : ((bound_Fit.f a0).bind fun t126 => (some (wrap64 (-t126)))) = some r := h
 clear h
 replace H := Option.bind_eq_some_iff.mp H
 obtain ⟨t126, A20, H⟩ := H
 replace H : (some (wrap64 (-t126))) = some r := H
 have A2 := Aside0.mk A20
 clear A20
 obtain rfl := Option.some.inj H
 go_enter Try.func61, Try.ntmps61
 go_wp2_with (first | ((with_reducible refine gate_callee (f := 104) rfl ?_); refine goesL_ (some 4) rfl rfl Try.func104 (by kernel_rfl) rfl #[.int .i64 a0] rfl (by (try simp only [List.map_toArray, List.map_cons, List.map_nil]); first | done | rfl | (simp only [List.length_drop, List.length_take]; rfl)) ?_; (with_reducible refine (bound_Fit.calls a0 t126 _ A2.out).mono ?_); rintro e w' ⟨rfl, ⟨nd, rfl⟩⟩; refine ⟨_, rfl, ?_⟩))
 go_ret
 exact ⟨by first | rfl | (simp; done) | (simp [*]; done), by repeat (first | exact Drawn0.refl _ | apply Drawn0.step)⟩
end Go.Proofs.Ytphfchbggechhaa.QO
end
end
section
namespace Go.Proofs.Ytphfchbggechhaa.QO
open Go.RowKit YtphfchbggechhaaW.PrintWords YtphfchbggechhaaW.PrintLast
set_option linter.unusedVariables false
set_option linter.unusedSimpArgs false
noncomputable def gimbalref11_VarsFit.f (l0 : List Int) : Option Bool := some (varsB l0)
theorem gimbalref11_VarsFit.calls (A0 : Option Addr) (c0 : Nat) (l0 : List Int) (r : Bool) (w : World) (hr0 : Kd.C (Kd.int .i64) w A0 l0.length l0) (hc0 : l0.length ≤ c0) (h : gimbalref11_VarsFit.f l0 = some r) :
 Calls Try.prog 46 #[.slice A0 l0.length c0] w fun e w' => e = .returned (.bool r) ∧ Drawn0 w w' := by
 have HR0 := Aside0.mk hr0
 have HV := Aside0.mk (Option.some.inj h)
 clear hr0 hc0 h
 by_cases c1 : (8 : Int) < (l0.length : Int)
 ·
  have f1 : decide ((8 : Int) < (l0.length : Int)) = true := decide_eq_true c1
  have f2 : decide (8 < l0.length) = true := decide_eq_true (by omega)
  have HC := Aside0.mk c1
  clear c1
  go_enter Try.func46, Try.ntmps46
  go_wp2
  go_ret
  refine ⟨?_, Drawn0.refl _⟩
  rw [← HV.out, varsB_false.2 (fun h => by have := h.1; have := HC.out; omega)]
  rfl
 ·
  have f1 : decide ((8 : Int) < (l0.length : Int)) = false := decide_eq_false c1
  have f2 : decide (8 < l0.length) = false := decide_eq_false (by omega)
  have HC := Aside0.mk c1
  clear c1
  go_enter Try.func46, Try.ntmps46
  go_wp2
  go_loopg [3, 4, 10] l0.length (fun gg _ _ s10 wr => ∃ i : Int, s10 = .int .i64 i ∧ Aside0 (0 ≤ i ∧ i ≤ l0.length ∧ l0.length - i.toNat ≤ gg) ∧ Aside0 (∀ j : Int, 0 ≤ j → j < i → 0 ≤ rd l0 j ∧ (0 < j → rd l0 (j - 1) < rd l0 j)) ∧ Drawn0 w wr)
  case atStart => exact ⟨0, rfl, ⟨by omega, by omega, by omega⟩, ⟨fun j h0 h1 => absurd h1 (by omega)⟩, Drawn0.refl _⟩
  case round =>
   obtain ⟨i, rfl, HI, HA, ⟨m1, rfl⟩⟩ := hrel
   by_cases hlt : i < (l0.length : Int)
   ·
    have p0 : 0 ≤ i := HI.out.1
    have hC : Kd.C (Kd.int .i64) (w.drewN m1) A0 l0.length l0 := Kd.C_drewN HR0.out _
    obtain ⟨ad, e0, hx⟩ := Kd.at_int hC i p0 hlt
    cases e0
    clear hC
    have HL := Aside0.mk hlt
    have c6b0 : decide (i < (l0.length : Int)) = true := decide_eq_true hlt
    by_cases c3 : rd l0 i < 0
    ·
     have f3 : decide (rd l0 i < 0) = true := decide_eq_true c3
     have H3 := Aside0.mk c3
     clear c3
     replace p0 := eq_true p0
     replace hlt := eq_true hlt
     go_wp2
     go_ret
     refine ⟨?_, by repeat (first | exact Drawn0.refl _ | apply Drawn0.step)⟩
     have h1 := HI.out; have h2 := HL.out; have h3 := H3.out
     rw [← HV.out, varsB_false.2 (fun h => by have := (h.2 i h1.1 h2).1; omega)]
     rfl
    ·
     have f3 : decide (rd l0 i < 0) = false := decide_eq_false c3
     have H3 := Aside0.mk c3
     clear c3
     by_cases c4 : 0 < i
     ·
      have f4 : decide (0 < i) = true := decide_eq_true c4
      have hm1 : wrap64 (i - 1) = i - 1 := by have := HC.out; unfold wrap64; omega
      obtain ⟨j, hj⟩ : ∃ j : Int, i - 1 = j := ⟨_, rfl⟩
      have q0 : 0 ≤ j := by omega
      have q1 : j < (l0.length : Int) := by omega
      obtain ⟨ad', e0, hy⟩ := Kd.at_int (Kd.C_drewN HR0.out m1) j q0 q1
      cases e0
      rw [hj] at hm1
      have hm2 : IntKind.i64.wrap (i - 1) = j := by rw [IntKind.wrap_i64, ← hj]; unfold wrap64 at hm1; omega
      have HJ := Aside0.mk hj
      have H4 := Aside0.mk c4
      by_cases c5 : rd l0 i ≤ rd l0 j
      ·
       have f5 : decide (rd l0 i ≤ rd l0 j) = true := decide_eq_true c5
       have H5 := Aside0.mk c5
       clear c5 c4
       replace p0 := eq_true p0
       replace hlt := eq_true hlt
       replace q0 := eq_true q0
       replace q1 := eq_true q1
       go_wp2
       go_ret
       refine ⟨?_, by repeat (first | exact Drawn0.refl _ | apply Drawn0.step)⟩
       have h1 := HI.out; have h2 := HL.out; have h5 := H5.out; have h4 := H4.out
       rw [← HV.out, varsB_false.2 (fun h => by have := (h.2 i h1.1 h2).2 h4; rw [HJ.out] at this; omega)]
       rfl
      ·
       have f5 : decide (rd l0 i ≤ rd l0 j) = false := decide_eq_false c5
       have H5 := Aside0.mk c5
       clear c5 c4
       replace p0 := eq_true p0
       replace hlt := eq_true hlt
       replace q0 := eq_true q0
       replace q1 := eq_true q1
       go_wp2
       go_roundg (l0.length - (i.toNat + 1))
       case measure => have h1 := HI.out; have h2 := HL.out; omega
       case rel =>
        have h1 := HI.out; have h2 := HL.out; have h3 := H3.out; have h4 := HC.out; have h5 := H5.out; have hj := HJ.out
        have hw : wrap64 (i + 1) = i + 1 := by unfold wrap64; omega
        refine ⟨wrap64 (i + 1), rfl, ⟨by omega, by omega, by omega⟩, ⟨fun k k0 k1 => ?_⟩, by repeat (first | exact Drawn0.refl _ | apply Drawn0.step)⟩
        by_cases e : k = i
        ·
         subst e; exact ⟨by omega, fun _ => by rw [hj]; omega⟩
        ·
         exact HA.out k k0 (by omega)
     ·
      have f4 : decide (0 < i) = false := decide_eq_false c4
      have H4 := Aside0.mk c4
      clear c4
      replace p0 := eq_true p0
      replace hlt := eq_true hlt
      go_wp2
      go_roundg (l0.length - (i.toNat + 1))
      case measure => have h1 := HI.out; have h2 := HL.out; omega
      case rel =>
       have h1 := HI.out; have h2 := HL.out; have h3 := H3.out; have h4 := HC.out; have h5 := H4.out
       have hw : wrap64 (i + 1) = i + 1 := by unfold wrap64; omega
       refine ⟨wrap64 (i + 1), rfl, ⟨by omega, by omega, by omega⟩, ⟨fun k k0 k1 => ?_⟩, by repeat (first | exact Drawn0.refl _ | apply Drawn0.step)⟩
       by_cases e : k = i
       ·
        subst e; exact ⟨by omega, fun h => absurd h (by omega)⟩
       ·
        exact HA.out k k0 (by omega)
   ·
    have c6b0 : decide (i < (l0.length : Int)) = false := decide_eq_false hlt
    have HL := Aside0.mk hlt
    clear hlt
    go_wp2
    go_ret
    have h1 := HI.out; have h2 := HL.out; have h4 := HC.out
    refine ⟨?_, by repeat (first | exact Drawn0.refl _ | apply Drawn0.step)⟩
    rw [← HV.out, varsB_true.2 ⟨by omega, fun k k0 k1 => HA.out k k0 (by omega)⟩]
    rfl
end Go.Proofs.Ytphfchbggechhaa.QO
end
section
noncomputable section
namespace Go.Proofs.Ytphfchbggechhaa.QO
open Go.RowKit YtphfchbggechhaaW.PrintWords YtphfchbggechhaaW.PrintLast
set_option linter.unusedVariables false
set_option linter.unusedSimpArgs false
def gimbalref11_copied.f (l0 : List Int) : Option (List Int) := if ([] : List Int).length + l0.length < 17592186044416 then (some (([] : List Int) ++ l0)) else (none)
theorem gimbalref11_copied.calls (A0 : Option Addr) (c0 : Nat) (l0 : List Int) (r : List Int) (w : World) (hr0 : Kd.C (Kd.int .i64) w A0 l0.length l0) (hc0 : l0.length ≤ c0) (h : gimbalref11_copied.f l0 = some r) :
 Calls Try.prog 83 #[.slice A0 l0.length c0] w fun e w' => ∃ v0_ : Value, e = .returned (v0_) ∧ Kd.R (Kd.int .i64) 3 w' w.heap.size (fun _ => True) v0_ r ∧ Below w.heap.size w w' := by
 have HR0 := Aside0.mk hr0
 have HC0 := Aside0.mk hc0
 clear hr0 hc0
 have HB := Aside0.mk (Below.refl w.heap.size w)
 have H : (if ([] : List Int).length + l0.length < 17592186044416 then (some (([] : List Int) ++ l0)) else (none)) = some r := h
 clear h
 by_cases c2 : ([] : List Int).length + l0.length < 17592186044416
 ·
  rw [if_pos c2] at H
  have LMc2 := Aside0.mk c2
  clear c2
  obtain ⟨y190, hy190⟩ : ∃ y_ : List Int, y_ = (([] : List Int) ++ l0) := ⟨_, rfl⟩
  replace H : (some y190) = some r := by first | (rw [hy190]; with_reducible exact H) | (have H2_ := (Option.bind_some _ _).symm.trans H; rw [hy190]; with_reducible exact H2_) | (have H2_ := (Option.bind_some _ _).symm.trans H; with_reducible exact H2_) | with_reducible exact H | (rw [hy190]; exact H) | exact H
  have Ny190 := Aside0.mk hy190
  clear hy190
  obtain rfl := Option.some.inj H
  go_enter Try.func83, Try.ntmps83
  go_wp2_with (first | ((with_reducible refine gate_builtin (b := .append) (xs := #[.tmp 4, .tmp 5]) rfl ?_); at_builtin; refine Kd.R_append_rows (Kd.int .i64) (w0 := w) w.heap.size rfl (.tmp 4) (.tmp 5) 22 3 (.int .i64 0) 8 rfl Try.underlying22 info3 rfl (by decide) (by omega) (.slice none 0 0) ([] : List Int) l0 _ _ _ (fun _ => True) (fun _ => False) rfl rfl ?aO ?aR (fun _ _ h => h) (fun _ h => h.elim) ?aF ?aB ?aS ?aL ?_; (case aR => repeat (first | exact HR0.out | (with_reducible refine Kd.C_alloc ?_ _) | (with_reducible refine Kd.C_drewN ?_ _) | (with_reducible refine Kd.C_drew ?_))); (case aB => exact (by repeat (first | (with_reducible first | exact HB.out | apply below_alloc | apply pw_below_drewN | apply below_drew1) | exact HB.out))); (case aF => exact (fun _ _ => trivial)); (case aO => exact ((Kd.R_nil _ _ _ _ (fun _ => True)))); (case aS => exact (below_size (by repeat (first | (with_reducible first | exact HB.out | apply below_alloc | apply pw_below_drewN | apply below_drew1) | exact HB.out)))); (case aL => have := LMc2.out; omega); intro v191 w3 ho hb hg hat; rw [← Ny190.out] at ho; have n0_ := Aside0.mk (hb); have n1_ := Aside0.mk (ho); clear HB; have HB := n0_; have HO192 := n1_; clear n0_ n1_; clear ho hb hg hat))
  go_ret
  exact ⟨_, vE, by (with_reducible repeat (first | apply Kd.R_alloc | apply Kd.R_drewN | apply Kd.R_drew)); exact HO192.out, by repeat (first | (with_reducible first | exact HB.out | apply below_alloc | apply pw_below_drewN | apply below_drew1) | exact HB.out)⟩
 ·
  rw [if_neg c2] at H
  exact absurd H (by simp)
def gimbalref11_Bottom.f (l0 : List Int) : Option (List Int × List Int × Bool) := (gimbalref11_VarsFit.f l0).bind fun t209 => (if t209 = true then ((gimbalref11_copied.f l0).bind fun t210 => (some (t210, ([] : List Int), true))) else (some (([] : List Int), ([] : List Int), false)))
theorem gimbalref11_Bottom.calls (A0 : Option Addr) (c0 : Nat) (l0 : List Int) (r1 : List Int) (r2 : List Int) (r3 : Bool) (w : World) (hr0 : Kd.C (Kd.int .i64) w A0 l0.length l0) (hc0 : l0.length ≤ c0) (h : gimbalref11_Bottom.f l0 = some (r1, r2, r3)) :
 Calls Try.prog 65 #[.slice A0 l0.length c0] w fun e w' => ∃ v0_ v1_ : Value, e = .returned (.agg #[v0_, v1_, .bool r3]) ∧ Kd.R (Kd.int .i64) 3 w' w.heap.size (fun _ => True) v0_ r1 ∧ Kd.R (Kd.int .i64) 2 w' w.heap.size (fun _ => True) v1_ r2 ∧ Below w.heap.size w w' := by
 have hu25 := Try.underlying25
 have HR0 := Aside0.mk hr0
 have HC0 := Aside0.mk hc0
 clear hr0 hc0
 have HB := Aside0.mk (Below.refl w.heap.size w)
 have H := h
 unfold gimbalref11_Bottom.f at H
 clear h
 replace H := Option.bind_eq_some_iff.mp H
 obtain ⟨t209, A20, H⟩ := H
 try dsimp only at H
 have A2 := Aside0.mk A20
 clear A20
 by_cases c3 : t209 = true
 ·
  subst c3
  rw [if_pos rfl] at H
  try dsimp only at H
  replace H := Option.bind_eq_some_iff.mp H
  obtain ⟨t210, A40, H⟩ := H
  try dsimp only at H
  have A4 := Aside0.mk A40
  clear A40
  simp only [Option.some.injEq, Prod.mk.injEq] at H
  obtain ⟨rfl, rfl, rfl⟩ := H
  go_enter Try.func65, Try.ntmps65
  go_wp2_with (first | ((with_reducible refine gate_dst (N := 2) rfl ?_); refine bx_ 2 #[.slice none 0 0, .slice none 0 0, .bool false] 25 ?_; intro gb208 hg w5 hbox hb; have BK208 := Aside0.mk (hbox); have GW208 := vS hg HB; have GE208 := vS hg HB; replace HB := vWs HB hb; clear hb hbox hg) | ((with_reducible refine gate_callee (f := 46) rfl ?_); refine gl_ (some 4) Try.func46 #[.slice A0 l0.length c0] ?_; (with_reducible refine (gimbalref11_VarsFit.calls _ _ l0 true _ ?side1 ?side2 A2.out).mono ?_); (case side1 => exact vC (Kd.C_below HR0.out HB.out)); (case side2 => exact HC0.out); rintro e w' ⟨rfl, ⟨nd, rfl⟩⟩; refine ⟨_, rfl, ?_⟩; (try (rw [drewN_self w5]; generalize hq_ : World.drewN w5 _ = w5; have n0_ : Aside0 (w5.heap[gb208]? = some (.cells #[.slice none 0 0, .slice none 0 0, .bool false] 25 (0, 0))) := ⟨by rw [← hq_]; exact (vB BK208.out)⟩; have n1_ : Aside0 (Below w.heap.size w w5) := ⟨by rw [← hq_]; exact (vW HB.out)⟩; clear BK208 HB hq_; have BK208 := n0_; have HB := n1_; clear n0_ n1_))) | ((with_reducible refine gate_callee (f := 83) rfl ?_); refine gl_ (some 8) Try.func83 #[.slice A0 l0.length c0] ?_; (with_reducible refine (gimbalref11_copied.calls _ _ l0 t210 _ ?side1 ?side2 A4.out).mono ?_); (case side1 => exact vC (Kd.C_below HR0.out HB.out)); (case side2 => exact HC0.out); rintro e w6 ⟨v211, rfl, ho0, hb⟩; refine ⟨_, rfl, ?_⟩; have HO212 := Aside0.mk (Kd.R_lower ho0 (below_size (vW HB.out))); replace BK208 := vBb BK208 hb; replace HB := vWs HB hb; (try clear hb); (try clear hb2); (try clear hk); (try clear hi); (try clear ho0); obtain ⟨Ao7, co7, eo7⟩ := Kd.R_slice HO212.out; subst eo7; obtain ⟨hcz8_0, hcz8_1, hcz8_2, hfz8_0, hfz8_1, hfz8_2⟩ := vF3 BK208.out))
  refine bodyPost_ret (results_cell_row rfl _ _ gb208 25 #[.slice Ao7 t210.length co7, .slice none 0 0, .bool true] (0, 0) _ rfl (vP3 BK208.out) Try.underlying25 rfl (by kernel_rfl)) rfl ?_
  exact ⟨_, _, vE, vTt HO212.out BK208.out, by first | exact Kd.R_nil _ _ _ _ _ | exact Kd.N_nil _ _ _ _ _ | exact Kd.V_nil _ _ _ _ _ | exact Kd.Q_nil _ _ _ _ _ | exact Kd.S_nil _ _ _ _ _, vW HB.out⟩
 ·
  replace c3 := Bool.eq_false_iff.mpr c3
  subst c3
  rw [if_neg (show ¬ (false = true) by decide)] at H
  try dsimp only at H
  simp only [Option.some.injEq, Prod.mk.injEq] at H
  obtain ⟨rfl, rfl, rfl⟩ := H
  go_enter Try.func65, Try.ntmps65
  go_wp2_with (first | ((with_reducible refine gate_dst (N := 2) rfl ?_); refine bx_ 2 #[.slice none 0 0, .slice none 0 0, .bool false] 25 ?_; intro gb208 hg w9 hbox hb; have BK208 := Aside0.mk (hbox); have GW208 := vS hg HB; have GE208 := vS hg HB; replace HB := vWs HB hb; clear hb hbox hg) | ((with_reducible refine gate_callee (f := 46) rfl ?_); refine gl_ (some 4) Try.func46 #[.slice A0 l0.length c0] ?_; (with_reducible refine (gimbalref11_VarsFit.calls _ _ l0 false _ ?side1 ?side2 A2.out).mono ?_); (case side1 => exact vC (Kd.C_below HR0.out HB.out)); (case side2 => exact HC0.out); rintro e w' ⟨rfl, ⟨nd, rfl⟩⟩; refine ⟨_, rfl, ?_⟩; (try (rw [drewN_self w9]; generalize hq_ : World.drewN w9 _ = w9; have n0_ : Aside0 (w9.heap[gb208]? = some (.cells #[.slice none 0 0, .slice none 0 0, .bool false] 25 (0, 0))) := ⟨by rw [← hq_]; exact (vB BK208.out)⟩; have n1_ : Aside0 (Below w.heap.size w w9) := ⟨by rw [← hq_]; exact (vW HB.out)⟩; clear BK208 HB hq_; have BK208 := n0_; have HB := n1_; clear n0_ n1_)); obtain ⟨hcz10_0, hcz10_1, hcz10_2, hfz10_0, hfz10_1, hfz10_2⟩ := vF3 BK208.out))
  refine bodyPost_ret (results_cell_row rfl _ _ gb208 25 #[.slice none 0 0, .slice none 0 0, .bool false] (0, 0) _ rfl (vP3 BK208.out) Try.underlying25 rfl (by kernel_rfl)) rfl ?_
  exact ⟨_, _, vE, by first | exact Kd.R_nil _ _ _ _ _ | exact Kd.N_nil _ _ _ _ _ | exact Kd.V_nil _ _ _ _ _ | exact Kd.Q_nil _ _ _ _ _ | exact Kd.S_nil _ _ _ _ _, by first | exact Kd.R_nil _ _ _ _ _ | exact Kd.N_nil _ _ _ _ _ | exact Kd.V_nil _ _ _ _ _ | exact Kd.Q_nil _ _ _ _ _ | exact Kd.S_nil _ _ _ _ _, vW HB.out⟩
def gimbalref11_bar.f (a0 : Int) : Option Int := if 0 ≤ a0 ∧ a0 < 16 then some (nbar a0) else none
theorem gimbalref11_bar.calls (a0 : Int) (r : Int) (w : World) (h : gimbalref11_bar.f a0 = some r) :
 Calls Try.prog 47 #[.int .i64 a0] w fun e w' => e = .returned (.int .i64 r) ∧ Drawn0 w w' := by
 have hr : r = Go.bits .xor .i64 a0 1 := by
  unfold gimbalref11_bar.f at h; split at h
  ·
   rename_i hc; rw [xor_one a0 hc.1 hc.2]; exact (Option.some.inj h).symm
  ·
   cases h
 subst hr
 clear h
 go_enter Try.func47, Try.ntmps47
 go_wp2
 go_ret
 exact ⟨rfl, Drawn0.refl _⟩
theorem gimbalref11_bar_still (a0 : Int) (r : Int) (w : World) (h : gimbalref11_bar.f a0 = some r) :
 Calls Try.prog 47 #[.int .i64 a0] w fun e w' => e = .returned (.int .i64 r) ∧ w' = w := by
 have hr : r = Go.bits .xor .i64 a0 1 := by
  unfold gimbalref11_bar.f at h; split at h
  ·
   rename_i hc; rw [xor_one a0 hc.1 hc.2]; exact (Option.some.inj h).symm
  ·
   cases h
 subst hr
 clear h
 go_enter Try.func47, Try.ntmps47
 go_wp2
 go_ret
 exact ⟨rfl, rfl⟩
def gimbalref11_plus.f (a0 : Int) (a1 : Int) : Option (Int) := if a0 = 4611686018427387904 then (some 4611686018427387904) else (if a1 = 4611686018427387904 then (some 4611686018427387904) else (some (wrap64 (a0 + a1))))
theorem gimbalref11_plus.calls (a0 : Int) (a1 : Int) (r : Int) (w : World) (h : gimbalref11_plus.f a0 a1 = some r) :
 Calls Try.prog 118 #[.int .i64 a0, .int .i64 a1] w fun e w' => e = .returned (.int .i64 r) ∧ Drawn0 w w' := by
 have H : (if a0 = 4611686018427387904 then (some 4611686018427387904) else (if a1 = 4611686018427387904 then (some 4611686018427387904) else (some (wrap64 (a0 + a1))))) = some r := h
 clear h
 by_cases c3 : a0 = 4611686018427387904
 ·
  rw [if_pos c3] at H
  have c3b0 : (a0 == 4611686018427387904) = true := beq_iff_eq.mpr c3
  have c3b1 : (a0 != 4611686018427387904) = false := bne_eq_false_iff_eq.mpr c3
  clear c3
  obtain rfl := Option.some.inj H
  go_enter Try.func118, Try.ntmps118
  go_wp2
  go_ret
  exact ⟨by first | rfl | (simp; done) | (simp [*]; done), by repeat (first | exact Drawn0.refl _ | apply Drawn0.step)⟩
 ·
  rw [if_neg c3] at H
  have c3b0 : (a0 == 4611686018427387904) = false := beq_eq_false_iff_ne.mpr c3
  have c3b1 : (a0 != 4611686018427387904) = true := bne_iff_ne.mpr c3
  by_cases c4 : a1 = 4611686018427387904
  ·
   rw [if_pos c4] at H
   have c4b0 : (a1 == 4611686018427387904) = true := beq_iff_eq.mpr c4
   have c4b1 : (a1 != 4611686018427387904) = false := bne_eq_false_iff_eq.mpr c4
   clear c4
   obtain rfl := Option.some.inj H
   go_enter Try.func118, Try.ntmps118
   go_wp2
   go_ret
   exact ⟨by first | rfl | (simp; done) | (simp [*]; done), by repeat (first | exact Drawn0.refl _ | apply Drawn0.step)⟩
  ·
   rw [if_neg c4] at H
   have c4b0 : (a1 == 4611686018427387904) = false := beq_eq_false_iff_ne.mpr c4
   have c4b1 : (a1 != 4611686018427387904) = true := bne_iff_ne.mpr c4
   obtain rfl := Option.some.inj H
   go_enter Try.func118, Try.ntmps118
   go_wp2
   go_ret
   exact ⟨by first | rfl | (simp; done) | (simp [*]; done), by repeat (first | exact Drawn0.refl _ | apply Drawn0.step)⟩
def gimbalref11_halved.f (a0 : Int) : Option (Int) := if a0 ≥ 0 then (some (wrap64 (Int.tdiv a0 2))) else (some (wrap64 (-(wrap64 (Int.tdiv (wrap64 (1 - a0)) 2)))))
theorem gimbalref11_halved.calls (a0 : Int) (r : Int) (w : World) (h : gimbalref11_halved.f a0 = some r) :
 Calls Try.prog 119 #[.int .i64 a0] w fun e w' => e = .returned (.int .i64 r) ∧ Drawn0 w w' := by
 have H : (if a0 ≥ 0 then (some (wrap64 (Int.tdiv a0 2))) else (some (wrap64 (-(wrap64 (Int.tdiv (wrap64 (1 - a0)) 2)))))) = some r := h
 clear h
 by_cases c2 : a0 ≥ 0
 ·
  rw [if_pos c2] at H
  have c2b0 : decide (0 ≤ a0) = true := decide_eq_true c2
  clear c2
  obtain rfl := Option.some.inj H
  go_enter Try.func119, Try.ntmps119
  go_wp2
  go_ret
  exact ⟨by first | rfl | (simp; done) | (simp [*]; done), by repeat (first | exact Drawn0.refl _ | apply Drawn0.step)⟩
 ·
  rw [if_neg c2] at H
  have c2b0 : decide (0 ≤ a0) = false := decide_eq_false c2
  clear c2
  obtain rfl := Option.some.inj H
  go_enter Try.func119, Try.ntmps119
  go_wp2
  go_ret
  exact ⟨by first | rfl | (simp; done) | (simp [*]; done), by repeat (first | exact Drawn0.refl _ | apply Drawn0.step)⟩
mutual
def gimbalref11_Tight.l0 : Nat → Int → List Int → Int → Option (List Int × Bool)
 | 0, _, _, _ => none
 | k + 1, x1, x6, x7 => if x7 ≤ (wrap64 (2 * x1)) then (if 0 ≤ (wrap64 (x1 * x1)) then (if (wrap64 (x1 * x1) : Int).toNat ≤ 35184372088832 then (gimbalref11_Tight.l1 k x1 x6 x7 (List.replicate (wrap64 (x1 * x1) : Int).toNat 0) 0) else (none)) else (none)) else (gimbalref11_Tight.l4 k x1 x6 0)
def gimbalref11_Tight.l1 : Nat → Int → List Int → Int → List Int → Int → Option (List Int × Bool)
 | 0, _, _, _, _, _ => none
 | k + 1, x1, x6, x7, x8, x9 => if x9 < x1 then (gimbalref11_Tight.l2 k x1 x6 x7 x8 x9 0) else (gimbalref11_Tight.l0 k x1 x8 (wrap64 (2 * x7)))
def gimbalref11_Tight.l2 : Nat → Int → List Int → Int → List Int → Int → Int → Option (List Int × Bool)
 | 0, _, _, _, _, _, _ => none
 | k + 1, x1, x6, x7, x8, x9, x10 => if x10 < x1 then (if 0 ≤ (wrap64 ((wrap64 (x9 * x1)) + x10)) then (if (wrap64 ((wrap64 (x9 * x1)) + x10)) < (x6.length : Int) then (gimbalref11_Tight.l3 k x1 x6 x7 x8 x9 x10 (rd x6 (wrap64 ((wrap64 (x9 * x1)) + x10))) 0) else (none)) else (none)) else (if 0 ≤ (wrap64 ((wrap64 (x9 * x1)) + x9)) then (if (wrap64 ((wrap64 (x9 * x1)) + x9)) < (x8.length : Int) then (if (rd x8 (wrap64 ((wrap64 (x9 * x1)) + x9))) < 0 then (some (([] : List Int), false)) else (gimbalref11_Tight.l1 k x1 x6 x7 x8 (wrap64 (x9 + 1)))) else (none)) else (none))
def gimbalref11_Tight.l3 : Nat → Int → List Int → Int → List Int → Int → Int → Int → Int → Option (List Int × Bool)
 | 0, _, _, _, _, _, _, _, _ => none
 | k + 1, x1, x6, x7, x8, x9, x10, x11, x12 => if x12 < x1 then (if 0 ≤ (wrap64 ((wrap64 (x9 * x1)) + x12)) then (if (wrap64 ((wrap64 (x9 * x1)) + x12)) < (x6.length : Int) then (if 0 ≤ (wrap64 ((wrap64 (x12 * x1)) + x10)) then (if (wrap64 ((wrap64 (x12 * x1)) + x10)) < (x6.length : Int) then ((gimbalref11_plus.f (rd x6 (wrap64 ((wrap64 (x9 * x1)) + x12))) (rd x6 (wrap64 ((wrap64 (x12 * x1)) + x10)))).bind fun t223 => (gimbalref11_Tight.l3 k x1 x6 x7 x8 x9 x10 (mn x11 t223) (wrap64 (x12 + 1)))) else (none)) else (none)) else (none)) else (none)) else (if 0 ≤ (wrap64 ((wrap64 (x9 * x1)) + x10)) then (if (wrap64 ((wrap64 (x9 * x1)) + x10)) < (x8.length : Int) then (gimbalref11_Tight.l2 k x1 x6 x7 (x8.set ((wrap64 ((wrap64 (x9 * x1)) + x10)) : Int).toNat x11) x9 (wrap64 (x10 + 1))) else (none)) else (none))
def gimbalref11_Tight.l4 : Nat → Int → List Int → Int → Option (List Int × Bool)
 | 0, _, _, _ => none
 | k + 1, x1, x6, x13 => if x13 < x1 then ((gimbalref11_bar.f x13).bind fun t225 => (if 0 ≤ (wrap64 ((wrap64 (x13 * x1)) + t225)) then (if (wrap64 ((wrap64 (x13 * x1)) + t225)) < (x6.length : Int) then (if (rd x6 (wrap64 ((wrap64 (x13 * x1)) + t225))) = 4611686018427387904 then (gimbalref11_Tight.l4 k x1 x6 (wrap64 (x13 + 1))) else ((gimbalref11_halved.f (rd x6 (wrap64 ((wrap64 (x13 * x1)) + t225)))).bind fun t228 => (gimbalref11_Tight.l4 k x1 (x6.set ((wrap64 ((wrap64 (x13 * x1)) + t225)) : Int).toNat (wrap64 (2 * t228))) (wrap64 (x13 + 1))))) else (none)) else (none))) else (gimbalref11_Tight.l5 k x1 x6 0)
def gimbalref11_Tight.l5 : Nat → Int → List Int → Int → Option (List Int × Bool)
 | 0, _, _, _ => none
 | k + 1, x1, x6, x15 => if x15 < x1 then ((gimbalref11_bar.f x15).bind fun t230 => (if 0 ≤ (wrap64 ((wrap64 (x15 * x1)) + t230)) then (if (wrap64 ((wrap64 (x15 * x1)) + t230)) < (x6.length : Int) then ((gimbalref11_bar.f x15).bind fun t232 => (if 0 ≤ (wrap64 ((wrap64 (t232 * x1)) + x15)) then (if (wrap64 ((wrap64 (t232 * x1)) + x15)) < (x6.length : Int) then ((gimbalref11_plus.f (rd x6 (wrap64 ((wrap64 (x15 * x1)) + t230))) (rd x6 (wrap64 ((wrap64 (t232 * x1)) + x15)))).bind fun t234 => (if t234 < 0 then (some (([] : List Int), false)) else (gimbalref11_Tight.l5 k x1 x6 (wrap64 (x15 + 1))))) else (none)) else (none))) else (none)) else (none))) else (if 0 ≤ (wrap64 (x1 * x1)) then (if (wrap64 (x1 * x1) : Int).toNat ≤ 35184372088832 then (gimbalref11_Tight.l6 k x1 x6 (List.replicate (wrap64 (x1 * x1) : Int).toNat 0) 0) else (none)) else (none))
def gimbalref11_Tight.l6 : Nat → Int → List Int → List Int → Int → Option (List Int × Bool)
 | 0, _, _, _, _ => none
 | k + 1, x1, x6, x16, x17 => if x17 < x1 then (gimbalref11_Tight.l7 k x1 x6 x16 x17 0) else (some (x16, true))
def gimbalref11_Tight.l7 : Nat → Int → List Int → List Int → Int → Int → Option (List Int × Bool)
 | 0, _, _, _, _, _ => none
 | k + 1, x1, x6, x16, x17, x18 => if x18 < x1 then (if 0 ≤ (wrap64 ((wrap64 (x17 * x1)) + x18)) then (if (wrap64 ((wrap64 (x17 * x1)) + x18)) < (x6.length : Int) then (if (wrap64 ((wrap64 (x17 * x1)) + x18)) < (x16.length : Int) then ((some (x16.set ((wrap64 ((wrap64 (x17 * x1)) + x18)) : Int).toNat (rd x6 (wrap64 ((wrap64 (x17 * x1)) + x18))) : List Int)).bind fun y239 => ((gimbalref11_bar.f x17).bind fun t240 => (if 0 ≤ (wrap64 ((wrap64 (x17 * x1)) + t240)) then (if (wrap64 ((wrap64 (x17 * x1)) + t240)) < (x6.length : Int) then ((gimbalref11_bar.f x18).bind fun t242 => (if 0 ≤ (wrap64 ((wrap64 (t242 * x1)) + x18)) then (if (wrap64 ((wrap64 (t242 * x1)) + x18)) < (x6.length : Int) then ((gimbalref11_plus.f (rd x6 (wrap64 ((wrap64 (x17 * x1)) + t240))) (rd x6 (wrap64 ((wrap64 (t242 * x1)) + x18)))).bind fun t244 => (if t244 = 4611686018427387904 then (gimbalref11_Tight.l7 k x1 x6 y239 x17 (wrap64 (x18 + 1))) else ((gimbalref11_halved.f t244).bind fun t246 => (gimbalref11_Tight.l7 k x1 x6 (y239.set ((wrap64 ((wrap64 (x17 * x1)) + x18)) : Int).toNat (mn (rd y239 (wrap64 ((wrap64 (x17 * x1)) + x18))) t246)) x17 (wrap64 (x18 + 1)))))) else (none)) else (none))) else (none)) else (none)))) else (none)) else (none)) else (none)) else (gimbalref11_Tight.l6 k x1 x6 x16 (wrap64 (x17 + 1)))
end
def gimbalref11_Tight.f (k : Nat) (l0 : List Int) (a1 : Int) : Option (List Int × Bool) := if ([] : List Int).length + l0.length < 17592186044416 then (gimbalref11_Tight.l0 k a1 (([] : List Int) ++ l0) 1) else (none)
theorem gimbalref11_Tight.mono_l : ∀ k, (∀ y0 y1 y2, LeO (gimbalref11_Tight.l0 k y0 y1 y2) (gimbalref11_Tight.l0 (k + 1) y0 y1 y2)) ∧ (∀ y0 y1 y2 y3 y4, LeO (gimbalref11_Tight.l1 k y0 y1 y2 y3 y4) (gimbalref11_Tight.l1 (k + 1) y0 y1 y2 y3 y4)) ∧ (∀ y0 y1 y2 y3 y4 y5, LeO (gimbalref11_Tight.l2 k y0 y1 y2 y3 y4 y5) (gimbalref11_Tight.l2 (k + 1) y0 y1 y2 y3 y4 y5)) ∧ (∀ y0 y1 y2 y3 y4 y5 y6 y7, LeO (gimbalref11_Tight.l3 k y0 y1 y2 y3 y4 y5 y6 y7) (gimbalref11_Tight.l3 (k + 1) y0 y1 y2 y3 y4 y5 y6 y7)) ∧ (∀ y0 y1 y2, LeO (gimbalref11_Tight.l4 k y0 y1 y2) (gimbalref11_Tight.l4 (k + 1) y0 y1 y2)) ∧ (∀ y0 y1 y2, LeO (gimbalref11_Tight.l5 k y0 y1 y2) (gimbalref11_Tight.l5 (k + 1) y0 y1 y2)) ∧ (∀ y0 y1 y2 y3, LeO (gimbalref11_Tight.l6 k y0 y1 y2 y3) (gimbalref11_Tight.l6 (k + 1) y0 y1 y2 y3)) ∧ (∀ y0 y1 y2 y3 y4, LeO (gimbalref11_Tight.l7 k y0 y1 y2 y3 y4) (gimbalref11_Tight.l7 (k + 1) y0 y1 y2 y3 y4))
 | 0 => ⟨fun _ _ _ r h => by simp [gimbalref11_Tight.l0] at h, fun _ _ _ _ _ r h => by simp [gimbalref11_Tight.l1] at h, fun _ _ _ _ _ _ r h => by simp [gimbalref11_Tight.l2] at h, fun _ _ _ _ _ _ _ _ r h => by simp [gimbalref11_Tight.l3] at h, fun _ _ _ r h => by simp [gimbalref11_Tight.l4] at h, fun _ _ _ r h => by simp [gimbalref11_Tight.l5] at h, fun _ _ _ _ r h => by simp [gimbalref11_Tight.l6] at h, fun _ _ _ _ _ r h => by simp [gimbalref11_Tight.l7] at h⟩
 | k + 1 => by
  obtain ⟨ih0, ih1, ih2, ih3, ih4, ih5, ih6, ih7⟩ := gimbalref11_Tight.mono_l k
  refine ⟨?_, ?_, ?_, ?_, ?_, ?_, ?_, ?_⟩ <;> intros <;> (first | unfold gimbalref11_Tight.l0 | unfold gimbalref11_Tight.l1 | unfold gimbalref11_Tight.l2 | unfold gimbalref11_Tight.l3 | unfold gimbalref11_Tight.l4 | unfold gimbalref11_Tight.l5 | unfold gimbalref11_Tight.l6 | unfold gimbalref11_Tight.l7) <;> repeat' first | (with_reducible first | apply ih0 | apply ih1 | apply ih2 | apply ih3 | apply ih4 | apply ih5 | apply ih6 | apply ih7 | apply LeO.refl | apply LeO.none | refine LeO.ite ?_ ?_ | refine LeO.bind ?_ (fun _ => ?_)) | apply ih0 | apply ih1 | apply ih2 | apply ih3 | apply ih4 | apply ih5 | apply ih6 | apply ih7 | apply LeO.none | refine LeO.ite ?_ ?_ | refine LeO.bind ?_ (fun _ => ?_)
theorem gimbalref11_Tight.mono : ∀ a0 a1 k, LeO (gimbalref11_Tight.f k a0 a1) (gimbalref11_Tight.f (k + 1) a0 a1) := by
 intro a0 a1 k
 obtain ⟨ih0, ih1, ih2, ih3, ih4, ih5, ih6, ih7⟩ := gimbalref11_Tight.mono_l k
 unfold gimbalref11_Tight.f
 repeat' first | (with_reducible first | apply ih0 | apply ih1 | apply ih2 | apply ih3 | apply ih4 | apply ih5 | apply ih6 | apply ih7 | apply LeO.refl | apply LeO.none | refine LeO.ite ?_ ?_ | refine LeO.bind ?_ (fun _ => ?_)) | apply ih0 | apply ih1 | apply ih2 | apply ih3 | apply ih4 | apply ih5 | apply ih6 | apply ih7 | apply LeO.none | refine LeO.ite ?_ ?_ | refine LeO.bind ?_ (fun _ => ?_)
def gimbalref11_Tight.T17 : Bool × List (List Nat × List Nat) := (true, [([], []), ([], []), ([], []), ([], []), ([2, 3], [2, 3]), ([], []), ([4, 5], [4, 5]), ([1, 6], [1, 6]), ([7], [7]), ([], []), ([], []), ([], []), ([10, 11], [10, 11]), ([], []), ([12, 13], [12, 13]), ([9, 14], [9, 14]), ([15], [15]), ([8, 16], [8, 16]), ([0, 17], [0, 17]), ([18, 17, 0, 1, 2, 3, 4, 5, 6, 7, 8, 9, 10, 11, 12, 13, 14, 15, 16, 17, 18], [0, 18])])
def gimbalref11_Tight.B17 : List Nat := [0, 0, 0, 0, 12, 0, 60, 126, 254, 0, 0, 0, 3072, 0, 15360, 32256, 65024, 131070, 262143, 524287]
theorem gimbalref11_Tight.tab17 : rtab .any (opsOf Try.f82 17) = gimbalref11_Tight.T17 := by kernel_rfl
theorem gimbalref11_Tight.bits17 : waitsOk gimbalref11_Tight.T17.2 gimbalref11_Tight.B17 = true := by kernel_rfl
def gimbalref11_Tight.T31 : Bool × List (List Nat × List Nat) := (true, [([], []), ([], []), ([], []), ([1, 2], [1, 2]), ([], []), ([4], [4]), ([3, 5], [3, 5]), ([0, 6], [0, 6]), ([7], [7]), ([], []), ([], []), ([10, 5], [10]), ([], []), ([11, 12], [11, 12]), ([], []), ([13, 14], [13, 14]), ([9, 15], [9, 15]), ([16], [16]), ([8, 17, 11], [8, 17]), ([18], [18])])
def gimbalref11_Tight.B31 : List Nat := [0, 0, 0, 6, 0, 16, 62, 127, 255, 0, 0, 1072, 0, 7216, 0, 31792, 65072, 130608, 262143, 524287]
theorem gimbalref11_Tight.tab31 : rtab .any (opsOf Try.f82 31) = gimbalref11_Tight.T31 := by kernel_rfl
theorem gimbalref11_Tight.bits31 : waitsOk gimbalref11_Tight.T31.2 gimbalref11_Tight.B31 = true := by kernel_rfl
def gimbalref11_Tight.T41 : Bool × List (List Nat × List Nat) := (true, [([], []), ([], []), ([], []), ([1, 2], [1, 2]), ([], []), ([4], [4]), ([3, 5], [3, 5]), ([0, 6], [0, 6]), ([7], [7]), ([], []), ([], []), ([10, 5], [10]), ([], []), ([11, 12], [11, 12]), ([], []), ([13, 14], [13, 14]), ([9, 15], [9, 15]), ([16], [16]), ([8, 17, 11], [8, 17]), ([18, 18, 0, 1, 2, 3, 4, 5, 6, 7, 8, 9, 10, 11, 12, 13, 14, 15, 16, 17, 18], [18])])
def gimbalref11_Tight.B41 : List Nat := [0, 0, 0, 6, 0, 16, 62, 127, 255, 0, 0, 1072, 0, 7216, 0, 31792, 65072, 130608, 262143, 524287]
theorem gimbalref11_Tight.tab41 : rtab .any (opsOf Try.f82 41) = gimbalref11_Tight.T41 := by kernel_rfl
theorem gimbalref11_Tight.bits41 : waitsOk gimbalref11_Tight.T41.2 gimbalref11_Tight.B41 = true := by kernel_rfl
def gimbalref11_Tight.T43 : Bool × List (List Nat × List Nat) := (true, [([], []), ([], []), ([], []), ([1, 2], [1, 2]), ([], []), ([3, 4], [3, 4]), ([], []), ([], []), ([], []), ([7, 8], [7, 8]), ([], []), ([9, 10], [9, 10]), ([6, 11], [6, 11]), ([12], [12]), ([], []), ([14], [14]), ([13, 15], [13, 15]), ([0, 5, 0, 1, 2, 3, 4, 5, 6, 7, 8, 9, 10, 11, 12, 13, 14, 15, 16], [0, 5]), ([17, 16, 15, 0, 1, 2, 3, 4, 5, 6, 7, 8, 9, 10, 11, 12, 13, 14, 15, 16], [16, 17])])
def gimbalref11_Tight.B43 : List Nat := [0, 0, 0, 6, 0, 30, 0, 0, 0, 384, 0, 1920, 4032, 8128, 0, 16384, 65472, 131071, 262143]
theorem gimbalref11_Tight.tab43 : rtab .any (opsOf Try.f82 43) = gimbalref11_Tight.T43 := by kernel_rfl
theorem gimbalref11_Tight.bits43 : waitsOk gimbalref11_Tight.T43.2 gimbalref11_Tight.B43 = true := by kernel_rfl
theorem gimbalref11_Tight.calls (k : Nat) (A0 : Option Addr) (c0 : Nat) (l0 : List Int) (a1 : Int) (r1 : List Int) (r2 : Bool) (w : World) (hr0 : Kd.C (Kd.int .i64) w A0 l0.length l0) (hc0 : l0.length ≤ c0) (h : gimbalref11_Tight.f k l0 a1 = some (r1, r2)) :
 Calls Try.prog 82 #[.slice A0 l0.length c0, .int .i64 a1] w fun e w' => ∃ v0_ : Value, e = .returned (.tuple #[v0_, .bool r2]) ∧ Kd.R (Kd.int .i64) 2 w' w.heap.size (fun _ => True) v0_ r1 ∧ Below w.heap.size w w' := by
 have HR0 := Aside0.mk hr0
 have HC0 := Aside0.mk hc0
 clear hr0 hc0
 have HB := Aside0.mk (Below.refl w.heap.size w)
 have H := h
 unfold gimbalref11_Tight.f at H
 clear h
 by_cases c3 : ([] : List Int).length + l0.length < 17592186044416
 ·
  rw [if_pos c3] at H
  have LMc3 := Aside0.mk c3
  clear c3
  obtain ⟨y213, hy213⟩ : ∃ y_ : List Int, y_ = (([] : List Int) ++ l0) := ⟨_, rfl⟩
  replace H : (gimbalref11_Tight.l0 k a1 y213 1) = some (r1, r2) := by first | (rw [hy213]; with_reducible exact H) | (have H2_ := (Option.bind_some _ _).symm.trans H; rw [hy213]; with_reducible exact H2_) | (have H2_ := (Option.bind_some _ _).symm.trans H; with_reducible exact H2_) | with_reducible exact H | (rw [hy213]; exact H) | exact H
  have Ny213 := Aside0.mk hy213
  clear hy213
  have H' := Aside0.mk H
  clear H
  go_enter Try.func82, Try.ntmps82
  go_wp2_with ((with_reducible refine gate_builtin (b := .append) (xs := #[.tmp 20, .tmp 21]) rfl ?_); at_builtin; refine Kd.R_append_rows (Kd.int .i64) (w0 := w) w.heap.size rfl (.tmp 20) (.tmp 21) 23 2 (.int .i64 0) 8 rfl Try.underlying23 info2 rfl (by decide) (by omega) (.slice none 0 0) ([] : List Int) l0 _ _ _ (fun _ => True) (fun _ => False) rfl rfl ?aO ?aR (fun _ _ h => h) (fun _ h => h.elim) ?aF ?aB ?aS ?aL ?_; (case aR => repeat (first | exact HR0.out | (with_reducible refine Kd.C_alloc ?_ _) | (with_reducible refine Kd.C_drewN ?_ _) | (with_reducible refine Kd.C_drew ?_))); (case aB => exact (vW HB.out)); (case aF => exact (fun _ _ => trivial)); (case aO => exact ((Kd.R_nil _ _ _ _ (fun _ => True)))); (case aS => exact (below_size (vW HB.out))); (case aL => have := LMc3.out; omega); intro v214 w4 ho hb hg hat; rw [← Ny213.out] at ho; replace HB := Aside0.mk (hb); have HO215 := Aside0.mk (ho); clear ho hb hg hat)
  go_loopg [6, 7] k (fun kq v6 v7 w' => ∃ (x6_1 : List Int) (x7_1 : Int), v7 = .int .i64 x7_1 ∧ Aside0 (gimbalref11_Tight.l0 kq a1 x6_1 x7_1 = some (r1, r2)) ∧ Aside0 (kq ≤ k) ∧ Aside0 (Kd.R (Kd.int .i64) 2 w' w.heap.size (fun _ => True) v6 x6_1) ∧ Aside0 (Below w.heap.size w w'))
  case atStart => exact ⟨(y213), (1), (by first | rfl | (simp; done) | (simp [*]; done)), H', ⟨Nat.le_refl _⟩, ⟨vR HO215.out⟩, ⟨vW HB.out⟩⟩
  case round =>
   clear H'
   obtain ⟨x6_1, x7_1, rfl, HA, HK1, HO_6, HB⟩ := hrel
   cases gk with
   | zero => exact absurd HA.out (by simp [gimbalref11_Tight.l0])
   | succ k1 =>
    have H := HA.out
    clear HA
    simp only [gimbalref11_Tight.l0] at H
    by_cases c5 : x7_1 ≤ (wrap64 (2 * a1))
    ·
     rw [if_pos c5] at H
     have c5b0 : decide (x7_1 ≤ (wrap64 (2 * a1))) = true := decide_eq_true c5
     clear c5
     obtain ⟨ji6, hji6⟩ : ∃ j_ : Int, (wrap64 (a1 * a1)) = j_ := ⟨_, rfl⟩
     first | rw [hji6] at H | simp only [hji6] at H
     have hji6w : (IntKind.i64.wrap (a1 * a1)) = ji6 := (i64_w _).trans hji6
     by_cases c7 : 0 ≤ (ji6)
     ·
      rw [if_pos c7] at H
      have c7b0 := eq_true c7
      have c7b1 : decide (0 ≤ (ji6)) = true := decide_eq_true c7
      clear c7
      by_cases c8 : (ji6 : Int).toNat ≤ 35184372088832
      ·
       rw [if_pos c8] at H
       have c8b0 := eq_true c8
       have c8b1 : decide ((ji6 : Int).toNat ≤ 35184372088832) = true := decide_eq_true c8
       clear c8
       obtain ⟨y216, hy216⟩ : ∃ y_ : List Int, y_ = (List.replicate (ji6 : Int).toNat 0) := ⟨_, rfl⟩
       replace H : (gimbalref11_Tight.l1 k1 a1 x6_1 x7_1 y216 0) = some (r1, r2) := by first | (rw [hy216]; with_reducible exact H) | (have H2_ := (Option.bind_some _ _).symm.trans H; rw [hy216]; with_reducible exact H2_) | (have H2_ := (Option.bind_some _ _).symm.trans H; with_reducible exact H2_) | with_reducible exact H | (rw [hy216]; exact H) | exact H
       have Ny216 := Aside0.mk hy216
       clear hy216
       have H' := Aside0.mk H
       clear H
       go_wp2_with ((with_reducible refine gate_dst (N := 32) rfl ?_); refine Kd.R_make (Kd.int .i64) _ 2 rfl (N := 32) rfl 23 _ _ rfl ji6 rfl rfl Try.underlying23 (.int .i64 0) 8 info2 rfl (by decide) (by omega) 0 (ok := fun _ => True) (okp := fun _ => True) rfl (fun _ hk => hk) trivial (of_decide_eq_true (by first | (with_reducible assumption) | assumption)) (Nat.le_trans (Nat.mul_le_mul_right _ (of_decide_eq_true (by first | (with_reducible assumption) | assumption) : ji6.toNat ≤ 35184372088832)) (by omega)) (Below.refl _ _) (Nat.le_refl _) ?_; intro v217 w9 ho10 hb hg_ hnew_; clear hg_ hnew_; (first | rw [← Ny216.out] at ho10 | (simp only [Int.reduceToNat] at ho10; rw [← Ny216.out] at ho10)); have HO218 := Aside0.mk (Kd.R_lower (Kd.R_new' ho10 (Kd.R_lt (vR HO_6.out))) (below_size (vW HB.out))); replace HO_6 := Aside0.mk (Kd.R_elder' (vR HO_6.out) (Kd.R_base ho10) hb); replace HB := vWs HB hb; clear hb ho10)
       go_loopg [9] k1 (fun kq v9 w' => ∃ (x8_2 : List Int) (x9_2 : Int), v9 = .int .i64 x9_2 ∧ Aside0 (gimbalref11_Tight.l1 kq a1 x6_1 x7_1 x8_2 x9_2 = some (r1, r2)) ∧ Aside0 (kq ≤ k1) ∧ Aside0 (Kd.R (Kd.int .i64) 2 w' w.heap.size (fun k_ => some k_ ≠ (v217 : Value).ownBlock) u6 x6_1) ∧ Aside0 (Kd.R (Kd.int .i64) 2 w' w.heap.size (fun k_ => some k_ ≠ (u6 : Value).ownBlock) v217 x8_2) ∧ Aside0 (Below w.heap.size w w'))
       case atStart => exact ⟨(y216), (0), (by first | rfl | (simp; done) | (simp [*]; done)), H', ⟨Nat.le_refl _⟩, ⟨by (with_reducible repeat (first | apply Kd.R_alloc | apply Kd.R_drewN | apply Kd.R_drew)); exact Kd.R_mono HO_6.out (fun _ hk => hk.2)⟩, ⟨by (with_reducible repeat (first | apply Kd.R_alloc | apply Kd.R_drewN | apply Kd.R_drew)); exact Kd.R_mono HO218.out (fun _ hk => hk.2)⟩, ⟨vW HB.out⟩⟩
       case round =>
        clear H'
        try clear c5b0
        try clear c7b0
        try clear c7b1
        try clear c8b0
        try clear c8b1
        obtain ⟨x8_2, x9_2, rfl, HA, HK2, HO_6, HO_8, HB⟩ := hrel
        cases gk with
        | zero => exact absurd HA.out (by simp [gimbalref11_Tight.l1])
        | succ k2 =>
         have H := HA.out
         clear HA
         simp only [gimbalref11_Tight.l1] at H
         by_cases c11 : x9_2 < a1
         ·
          rw [if_pos c11] at H
          have c11b0 : decide (x9_2 < a1) = true := decide_eq_true c11
          clear c11
          have H' := Aside0.mk H
          clear H
          go_wp2
          go_loopg [10] k2 (fun kq v10 w' => ∃ (x8_3 : List Int) (x10_3 : Int), v10 = .int .i64 x10_3 ∧ Aside0 (gimbalref11_Tight.l2 kq a1 x6_1 x7_1 x8_3 x9_2 x10_3 = some (r1, r2)) ∧ Aside0 (kq ≤ k2) ∧ Aside0 (Kd.R (Kd.int .i64) 2 w' w.heap.size (fun k_ => some k_ ≠ (v217 : Value).ownBlock) u6 x6_1) ∧ Aside0 (Kd.R (Kd.int .i64) 2 w' w.heap.size (fun k_ => some k_ ≠ (u6 : Value).ownBlock) v217 x8_3) ∧ Aside0 (Below w.heap.size w w'))
          case atStart => exact ⟨(x8_2), (0), (by first | rfl | (simp; done) | (simp [*]; done)), H', ⟨Nat.le_refl _⟩, ⟨vR HO_6.out⟩, ⟨vR HO_8.out⟩, ⟨vW HB.out⟩⟩
          case round =>
           clear H'
           try clear c11b0
           obtain ⟨x8_3, x10_3, rfl, HA, HK3, HO_6, HO_8, HB⟩ := hrel
           cases gk with
           | zero => exact absurd HA.out (by simp [gimbalref11_Tight.l2])
           | succ k3 =>
            have H := HA.out
            clear HA
            simp only [gimbalref11_Tight.l2] at H
            by_cases c12 : x10_3 < a1
            ·
             rw [if_pos c12] at H
             have c12b0 : decide (x10_3 < a1) = true := decide_eq_true c12
             clear c12
             obtain ⟨ji13, hji13⟩ : ∃ j_ : Int, (wrap64 ((wrap64 (x9_2 * a1)) + x10_3)) = j_ := ⟨_, rfl⟩
             first | rw [hji13] at H | simp only [hji13] at H
             have hji13w : (IntKind.i64.wrap ((wrap64 (x9_2 * a1)) + x10_3)) = ji13 := (i64_w _).trans hji13
             by_cases c14 : 0 ≤ (ji13)
             ·
              rw [if_pos c14] at H
              have c14b0 : decide (0 ≤ (ji13)) = true := decide_eq_true c14
              clear c14
              by_cases c15 : (ji13) < (x6_1.length : Int)
              ·
               rw [if_pos c15] at H
               have c15b0 : decide ((ji13) < (x6_1.length : Int)) = true := decide_eq_true c15
               clear c15
               have H' := Aside0.mk H
               clear H
               obtain ⟨Ao16, co16, eo16⟩ := Kd.R_slice HO_6.out
               subst eo16
               have p220 : 0 ≤ ((ji13) : Int) := of_decide_eq_true (by first | (with_reducible assumption) | assumption)
               have q220 : (ji13) < (x6_1.length : Int) := of_decide_eq_true (by first | (with_reducible assumption) | assumption)
               (try (obtain ⟨AoZ, coZ, eoZ⟩ := Kd.R_slice HO_6.out; subst eoZ))
               obtain ⟨ad220, e220, hx220_0⟩ := Kd.at_int (Kd.R_reads' HO_6.out).2.2 (ji13) p220 q220
               cases e220
               replace p220 := eq_true p220
               replace q220 := eq_true q220
               go_wp2
               go_loopg [11, 12] k3 (fun kq v11 v12 w' => ∃ (x11_4 : Int) (x12_4 : Int), v11 = .int .i64 x11_4 ∧ v12 = .int .i64 x12_4 ∧ Aside0 (gimbalref11_Tight.l3 kq a1 x6_1 x7_1 x8_3 x9_2 x10_3 x11_4 x12_4 = some (r1, r2)) ∧ Aside0 (kq ≤ k3) ∧ Aside0 (Kd.R (Kd.int .i64) 2 w' w.heap.size (fun k_ => some k_ ≠ (v217 : Value).ownBlock) (.slice (some ad220) x6_1.length co16) x6_1) ∧ Aside0 (Kd.R (Kd.int .i64) 2 w' w.heap.size (fun k_ => some k_ ≠ ((.slice (some ad220) x6_1.length co16) : Value).ownBlock) v217 x8_3) ∧ Aside0 (Below w.heap.size w w'))
               case atStart => exact ⟨(rd x6_1 (ji13)), (0), (by first | rfl | (simp; done) | (simp only [← hji13] <;> (first | rfl | simp)) | (simp [*]; done)), (by first | rfl | (simp; done) | (simp [*]; done)), H', ⟨Nat.le_refl _⟩, ⟨vR HO_6.out⟩, ⟨vR HO_8.out⟩, ⟨vW HB.out⟩⟩
               case round =>
                clear H'
                try clear c12b0
                try clear c14b0
                try clear c15b0
                try clear hx220_0
                try clear p220
                try clear q220
                obtain ⟨x11_4, x12_4, rfl, rfl, HA, HK4, HO_6, HO_8, HB⟩ := hrel
                cases gk with
                | zero => exact absurd HA.out (by simp [gimbalref11_Tight.l3])
                | succ k4 =>
                 have H := HA.out
                 clear HA
                 simp only [gimbalref11_Tight.l3] at H
                 by_cases c17 : x12_4 < a1
                 ·
                  rw [if_pos c17] at H
                  have c17b0 : decide (x12_4 < a1) = true := decide_eq_true c17
                  clear c17
                  obtain ⟨ji18, hji18⟩ : ∃ j_ : Int, (wrap64 ((wrap64 (x9_2 * a1)) + x12_4)) = j_ := ⟨_, rfl⟩
                  first | rw [hji18] at H | simp only [hji18] at H
                  have hji18w : (IntKind.i64.wrap ((wrap64 (x9_2 * a1)) + x12_4)) = ji18 := (i64_w _).trans hji18
                  by_cases c19 : 0 ≤ (ji18)
                  ·
                   rw [if_pos c19] at H
                   have c19b0 : decide (0 ≤ (ji18)) = true := decide_eq_true c19
                   clear c19
                   by_cases c20 : (ji18) < (x6_1.length : Int)
                   ·
                    rw [if_pos c20] at H
                    have c20b0 : decide ((ji18) < (x6_1.length : Int)) = true := decide_eq_true c20
                    clear c20
                    obtain ⟨ji21, hji21⟩ : ∃ j_ : Int, (wrap64 ((wrap64 (x12_4 * a1)) + x10_3)) = j_ := ⟨_, rfl⟩
                    first | rw [hji21] at H | simp only [hji21] at H
                    have hji21w : (IntKind.i64.wrap ((wrap64 (x12_4 * a1)) + x10_3)) = ji21 := (i64_w _).trans hji21
                    by_cases c22 : 0 ≤ (ji21)
                    ·
                     rw [if_pos c22] at H
                     have c22b0 : decide (0 ≤ (ji21)) = true := decide_eq_true c22
                     clear c22
                     by_cases c23 : (ji21) < (x6_1.length : Int)
                     ·
                      rw [if_pos c23] at H
                      have c23b0 : decide ((ji21) < (x6_1.length : Int)) = true := decide_eq_true c23
                      clear c23
                      replace H := Option.bind_eq_some_iff.mp H
                      obtain ⟨t223, A240, H⟩ := H
                      try dsimp only at H
                      have A24 := Aside0.mk A240
                      clear A240
                      obtain ⟨ji25, hji25⟩ : ∃ j_ : Int, (mn x11_4 t223) = j_ := ⟨_, rfl⟩
                      first | rw [hji25] at H | simp only [hji25] at H
                      (try rw [hji25] at A24)
                      have hji25_ : (if t223 < x11_4 then t223 else x11_4) = ji25 := hji25
                      have H' := Aside0.mk H
                      clear H
                      try go_wp2
                      replace HO_6 := Aside0.mk (Kd.R_drew HO_6.out)
                      replace HO_8 := Aside0.mk (Kd.R_drew HO_8.out)
                      replace HB := Aside0.mk (below_drew1 HB.out)
                      have p221 : 0 ≤ ((ji18) : Int) := of_decide_eq_true (by first | (with_reducible assumption) | assumption)
                      have q221 : (ji18) < (x6_1.length : Int) := of_decide_eq_true (by first | (with_reducible assumption) | assumption)
                      (try (obtain ⟨AoZ, coZ, eoZ⟩ := Kd.R_slice HO_6.out; subst eoZ))
                      obtain ⟨ad221, e221, hx221_0⟩ := Kd.at_int (Kd.R_reads' HO_6.out).2.2 (ji18) p221 q221
                      obtain rfl : ad220 = ad221 := (by injection e221)
                      replace p221 := eq_true p221
                      replace q221 := eq_true q221
                      have p222 : 0 ≤ ((ji21) : Int) := of_decide_eq_true (by first | (with_reducible assumption) | assumption)
                      have q222 : (ji21) < (x6_1.length : Int) := of_decide_eq_true (by first | (with_reducible assumption) | assumption)
                      (try (obtain ⟨AoZ, coZ, eoZ⟩ := Kd.R_slice HO_6.out; subst eoZ))
                      obtain ⟨ad222, e222, hx222_0⟩ := Kd.at_int (Kd.R_reads' HO_6.out).2.2 (ji21) p222 q222
                      obtain rfl : ad220 = ad222 := (by injection e222)
                      replace p222 := eq_true p222
                      replace q222 := eq_true q222
                      refine start_ (n := 20) (S := fun w' => w'.cell? (ad220.add ((ji18)).toNat) = some (.int .i64 (rd x6_1 (ji18))) ∧ w'.cell? (ad220.add ((ji21)).toNat) = some (.int .i64 (rd x6_1 (ji21)))) (ds := []) (mB 20 0) (by kernel_rfl) rfl rfl ⟨hx221_0, hx222_0⟩ (fun hHeld => ?_); refine with_tabW gimbalref11_Tight.tab17 gimbalref11_Tight.bits17 (fun HT_ HW_ => ?_)
                      generalize wr.drew = w26 at HO_6 HO_8 HB hx221_0 hx222_0 hHeld ⊢
                      refine pV_ 0 56 (mB 20 1) HT_ ?_
                      refine pV_ 1 57 (mB 20 3) HT_ ?_
                      refine pV_ 2 58 (mB 20 7) HT_ ?_
                      refine pV_ 3 59 (mB 20 15) HT_ ?_
                      refine pV_ 4 60 (mB 20 31) HT_ ?_
                      refine pV_ 5 61 (mB 20 63) HT_ ?_
                      refine pV_ 6 62 (mB 20 127) HT_ ?_
                      refine pV_ 7 63 (mB 20 255) HT_ ?_
                      refine pV_ 9 65 (mB 20 767) HT_ ?_
                      refine pV_ 10 66 (mB 20 1791) HT_ ?_
                      refine pV_ 11 67 (mB 20 3839) HT_ ?_
                      refine pV_ 12 68 (mB 20 7935) HT_ ?_
                      refine pV_ 13 69 (mB 20 16127) HT_ ?_
                      refine pV_ 14 70 (mB 20 32511) HT_ ?_
                      refine pV_ 15 71 (mB 20 65279) HT_ ?_
                      refine tV_ 8 64 (mB 20 65535) HT_ HW_ hHeld ?_
                      refine tV_ 16 72 (mB 20 131071) HT_ HW_ hHeld ?_
                      refine on_ 17 (some 73) (mB 20 262143) HT_ (fun K hK => ?_)
                      refine goes_ Try.func118 (by kernel_rfl) rfl #[.int .i64 (rd x6_1 (ji18)), .int .i64 (rd x6_1 (ji21))] (by rfl) rfl rfl (by (try simp only [List.map_toArray, List.map_cons, List.map_nil]); first | done | (simp only [hji18, hji21]; rfl) | rfl | (simp only [List.length_drop, List.length_take]; rfl)) ?_
                      with_reducible refine (gimbalref11_plus.calls (rd x6_1 (ji18)) (rd x6_1 (ji21)) t223 _ A24.out).mono ?_
                      rintro e w' ⟨rfl, ⟨nd, rfl⟩⟩
                      refine ⟨_, rfl, ?_⟩
                      refine hK.out _ _ ⟨hHeld.1, hHeld.2⟩ (fun hHeld => ?_)
                      clear hK K
                      refine norm_ (a' := ?_) ?_ ?_
                      rotate_left
                      ·
                       show Act.put _ (some 73) _ = _
                       simp only [Act.put, List.setIfInBounds_toArray, List.set_cons_zero, List.set_cons_succ, i64_w, i32_w]
                       rfl
                      refine pV_ 18 74 (mB 20 524287) HT_ ?_
                      refine pV_ 19 11 (mB 20 1048575) HT_ ?_
                      refine dn_ HT_ ?_
                      try go_wp2
                      go_roundg k4
                      case measure => have := HK1.out; have := HK2.out; have := HK3.out; have := HK4.out; omega
                      case rel => exact ⟨(ji25), (wrap64 (x12_4 + 1)), (by first | rfl | (simp; done) | (simp only [← hji25] <;> (first | rfl | simp)) | (simp [*]; done)), (by first | rfl | (simp; done) | (simp [*]; done)), H', ⟨by have := HK1.out; have := HK2.out; have := HK3.out; have := HK4.out; omega⟩, ⟨vR HO_6.out⟩, ⟨vR HO_8.out⟩, ⟨vW HB.out⟩⟩
                     ·
                      rw [if_neg c23] at H
                      exact absurd H (by simp)
                    ·
                     rw [if_neg c22] at H
                     exact absurd H (by simp)
                   ·
                    rw [if_neg c20] at H
                    exact absurd H (by simp)
                  ·
                   rw [if_neg c19] at H
                   exact absurd H (by simp)
                 ·
                  rw [if_neg c17] at H
                  have c17b0 : decide (x12_4 < a1) = false := decide_eq_false c17
                  clear c17
                  obtain ⟨ji27, hji27⟩ : ∃ j_ : Int, (wrap64 ((wrap64 (x9_2 * a1)) + x10_3)) = j_ := ⟨_, rfl⟩
                  first | rw [hji27] at H | simp only [hji27] at H
                  have hji27w : (IntKind.i64.wrap ((wrap64 (x9_2 * a1)) + x10_3)) = ji27 := (i64_w _).trans hji27
                  (try (obtain rfl : ji27 = ji13 := hji27.symm.trans hji13))
                  by_cases c28 : 0 ≤ (ji27)
                  ·
                   rw [if_pos c28] at H
                   have c28b0 : decide (0 ≤ (ji27)) = true := decide_eq_true c28
                   clear c28
                   by_cases c29 : (ji27) < (x8_3.length : Int)
                   ·
                    rw [if_pos c29] at H
                    have c29b0 : decide ((ji27) < (x8_3.length : Int)) = true := decide_eq_true c29
                    clear c29
                    obtain ⟨y224, hy224⟩ : ∃ y_ : List Int, y_ = (x8_3.set ((ji27) : Int).toNat x11_4) := ⟨_, rfl⟩
                    replace H : (gimbalref11_Tight.l2 k4 a1 x6_1 x7_1 y224 x9_2 (wrap64 (x10_3 + 1))) = some (r1, r2) := by first | (rw [hy224]; with_reducible exact H) | (have H2_ := (Option.bind_some _ _).symm.trans H; rw [hy224]; with_reducible exact H2_) | (have H2_ := (Option.bind_some _ _).symm.trans H; with_reducible exact H2_) | with_reducible exact H | (rw [hy224]; exact H) | exact H
                    have Ny224 := Aside0.mk hy224
                    clear hy224
                    have H' := Aside0.mk H
                    clear H
                    have p30 : 0 ≤ ((ji27) : Int) := of_decide_eq_true (by first | (with_reducible assumption) | assumption)
                    have q30 : ((ji27) : Int) < ((x8_3.length : Int) : Int) := of_decide_eq_true (by first | (with_reducible assumption) | assumption)
                    obtain ⟨go30, co30, eo30, gb30, gl30, cl30, HG30⟩ := Kd.R_form HO_8.out (by omega)
                    (first | cases eo30 | (injection eo30 with ea_ en_ ec_; (first | subst ea_ | (injection ea_ with ea_; subst ea_)); subst ec_; clear en_))
                    have GB30 := Aside0.mk gb30
                    have GG30 := Aside0.mk HG30
                    clear gb30 gl30 HG30
                    obtain ⟨hx30_0, hf30_0⟩ := Kd.R_celln 0 HO_8.out ((ji27) : Int) p30 q30
                    replace p30 := eq_true p30
                    replace q30 := eq_true q30
                    have HP31 := Kd.R_putg HO_8.out ((ji27) : Int) x11_4
                    go_wp2_with ((with_reducible refine gate_store (t := 2) (p := 82) rfl ?_); refine store_event (t := 2) (p := 82) (v := ?vo_w32) (w1 := (wr.setCell ⟨go30, ((ji27) : Int).toNat, none⟩ (.int .i64 x11_4))) ?hg ?ho ?hn ?hr ?_; (case ho => rfl); (case hg => rfl); (case hn => rfl); (case hr => first | (go_simp; done) | (go_simp; rfl)); intro w32 hw; have hg : wr.grownBy w32 (some go30) := (by rw [hw]; exact HP31.2); have hp_ : Kd.R (Kd.int .i64) 2 w32 w.heap.size (fun k_ => some k_ ≠ (.slice (some ad220) x6_1.length co16 : Value).ownBlock) (.slice (some ⟨go30, 0, none⟩) x8_3.length co30) y224 := (by rw [hw, Ny224.out]; exact HP31.1); clear HP31; replace HO_6 := Aside0.mk (Kd.R_after (v := (.slice (some ⟨go30, 0, none⟩) x8_3.length co30)) (v1 := (.slice (some ⟨go30, 0, none⟩) x8_3.length co30)) (ok := (fun _ => True)) (by (with_reducible repeat (first | apply Kd.R_alloc | apply Kd.R_drewN | apply Kd.R_drew)); exact Kd.R_mono HO_6.out (fun _ hk => ⟨trivial, hk⟩)) hg (.inl rfl)); replace HO_8 := Aside0.mk (hp_); replace HB := Aside0.mk ((by rw [hw]; exact below_set (HB.out) GB30.out : Below w.heap.size w w32)); clear hg hw hp_)
                    go_roundg k4
                    case measure => have := HK1.out; have := HK2.out; have := HK3.out; have := HK4.out; omega
                    case rel => exact ⟨(y224), (wrap64 (x10_3 + 1)), (by first | rfl | (simp; done) | (simp [*]; done)), H', ⟨by have := HK1.out; have := HK2.out; have := HK3.out; have := HK4.out; omega⟩, ⟨by (with_reducible repeat (first | apply Kd.R_alloc | apply Kd.R_drewN | apply Kd.R_drew)); exact Kd.R_mono HO_6.out (fun _ hk => hk.2)⟩, ⟨vR HO_8.out⟩, ⟨vW HB.out⟩⟩
                   ·
                    rw [if_neg c29] at H
                    exact absurd H (by simp)
                  ·
                   rw [if_neg c28] at H
                   exact absurd H (by simp)
              ·
               rw [if_neg c15] at H
               exact absurd H (by simp)
             ·
              rw [if_neg c14] at H
              exact absurd H (by simp)
            ·
             rw [if_neg c12] at H
             have c12b0 : decide (x10_3 < a1) = false := decide_eq_false c12
             clear c12
             obtain ⟨ji33, hji33⟩ : ∃ j_ : Int, (wrap64 ((wrap64 (x9_2 * a1)) + x9_2)) = j_ := ⟨_, rfl⟩
             first | rw [hji33] at H | simp only [hji33] at H
             have hji33w : (IntKind.i64.wrap ((wrap64 (x9_2 * a1)) + x9_2)) = ji33 := (i64_w _).trans hji33
             by_cases c34 : 0 ≤ (ji33)
             ·
              rw [if_pos c34] at H
              have c34b0 : decide (0 ≤ (ji33)) = true := decide_eq_true c34
              clear c34
              by_cases c35 : (ji33) < (x8_3.length : Int)
              ·
               rw [if_pos c35] at H
               have c35b0 : decide ((ji33) < (x8_3.length : Int)) = true := decide_eq_true c35
               clear c35
               by_cases c36 : (rd x8_3 (ji33)) < 0
               ·
                rw [if_pos c36] at H
                have c36b0 : decide ((rd x8_3 (ji33)) < 0) = true := decide_eq_true c36
                clear c36
                simp only [Option.some.injEq, Prod.mk.injEq] at H
                obtain ⟨rfl, rfl⟩ := H
                obtain ⟨Ao37, co37, eo37⟩ := Kd.R_slice HO_8.out
                subst eo37
                have p219 : 0 ≤ ((ji33) : Int) := of_decide_eq_true (by first | (with_reducible assumption) | assumption)
                have q219 : (ji33) < (x8_3.length : Int) := of_decide_eq_true (by first | (with_reducible assumption) | assumption)
                obtain ⟨ad219, e219, hx219_0⟩ := Kd.at_int (Kd.R_reads' HO_8.out).2.2 (ji33) p219 q219
                cases e219
                replace p219 := eq_true p219
                replace q219 := eq_true q219
                go_wp2
                go_ret2
                exact ⟨_, by first | rfl | (simp [errW_none, errW_some] <;> rfl) | (simp only [← hji6, ← hji33]; first | rfl | (simp [errW_none, errW_some] <;> rfl)) | (simp [*, errW_none, errW_some] <;> rfl) | (simp [wrap64]; done), by first | exact Kd.R_nil _ _ _ _ _ | exact Kd.N_nil _ _ _ _ _ | exact Kd.V_nil _ _ _ _ _ | exact Kd.Q_nil _ _ _ _ _ | exact Kd.S_nil _ _ _ _ _, vW HB.out⟩
               ·
                rw [if_neg c36] at H
                have c36b0 : decide ((rd x8_3 (ji33)) < 0) = false := decide_eq_false c36
                clear c36
                have H' := Aside0.mk H
                clear H
                obtain ⟨Ao38, co38, eo38⟩ := Kd.R_slice HO_8.out
                subst eo38
                have p219 : 0 ≤ ((ji33) : Int) := of_decide_eq_true (by first | (with_reducible assumption) | assumption)
                have q219 : (ji33) < (x8_3.length : Int) := of_decide_eq_true (by first | (with_reducible assumption) | assumption)
                obtain ⟨ad219, e219, hx219_0⟩ := Kd.at_int (Kd.R_reads' HO_8.out).2.2 (ji33) p219 q219
                cases e219
                replace p219 := eq_true p219
                replace q219 := eq_true q219
                go_wp2
                go_roundg k3
                case measure => have := HK1.out; have := HK2.out; have := HK3.out; omega
                case rel => exact ⟨(x8_3), (wrap64 (x9_2 + 1)), (by first | rfl | (simp; done) | (simp [*]; done)), H', ⟨by have := HK1.out; have := HK2.out; have := HK3.out; omega⟩, ⟨vR HO_6.out⟩, ⟨vR HO_8.out⟩, ⟨vW HB.out⟩⟩
              ·
               rw [if_neg c35] at H
               exact absurd H (by simp)
             ·
              rw [if_neg c34] at H
              exact absurd H (by simp)
         ·
          rw [if_neg c11] at H
          have c11b0 : decide (x9_2 < a1) = false := decide_eq_false c11
          clear c11
          have H' := Aside0.mk H
          clear H
          go_wp2
          go_roundg k2
          case measure => have := HK1.out; have := HK2.out; omega
          case rel => exact ⟨(x8_2), (wrap64 (2 * x7_1)), (by first | rfl | (simp; done) | (simp [*]; done)), H', ⟨by have := HK1.out; have := HK2.out; omega⟩, ⟨by (with_reducible repeat (first | apply Kd.R_alloc | apply Kd.R_drewN | apply Kd.R_drew)); exact Kd.R_mono HO_8.out (fun _ hk => trivial)⟩, ⟨vW HB.out⟩⟩
      ·
       rw [if_neg c8] at H
       exact absurd H (by simp)
     ·
      rw [if_neg c7] at H
      exact absurd H (by simp)
    ·
     rw [if_neg c5] at H
     have c5b0 : decide (x7_1 ≤ (wrap64 (2 * a1))) = false := decide_eq_false c5
     clear c5
     have H' := Aside0.mk H
     clear H
     go_wp2
     go_loopg [13] k1 (fun kq v13 w' => ∃ (x6_2 : List Int) (x13_2 : Int), v13 = .int .i64 x13_2 ∧ Aside0 (gimbalref11_Tight.l4 kq a1 x6_2 x13_2 = some (r1, r2)) ∧ Aside0 (kq ≤ k1) ∧ Aside0 (Kd.R (Kd.int .i64) 2 w' w.heap.size (fun _ => True) u6 x6_2) ∧ Aside0 (Below w.heap.size w w'))
     case atStart => exact ⟨(x6_1), (0), (by first | rfl | (simp; done) | (simp [*]; done)), H', ⟨Nat.le_refl _⟩, ⟨vR HO_6.out⟩, ⟨vW HB.out⟩⟩
     case round =>
      clear H'
      try clear c5b0
      obtain ⟨x6_2, x13_2, rfl, HA, HK2, HO_6, HB⟩ := hrel
      cases gk with
      | zero => exact absurd HA.out (by simp [gimbalref11_Tight.l4])
      | succ k2 =>
       have H := HA.out
       clear HA
       simp only [gimbalref11_Tight.l4] at H
       by_cases c39 : x13_2 < a1
       ·
        rw [if_pos c39] at H
        have c39b0 : decide (x13_2 < a1) = true := decide_eq_true c39
        clear c39
        replace H := Option.bind_eq_some_iff.mp H
        obtain ⟨t225, A400, H⟩ := H
        try dsimp only at H
        have A40 := Aside0.mk A400
        clear A400
        obtain ⟨ji41, hji41⟩ : ∃ j_ : Int, (wrap64 ((wrap64 (x13_2 * a1)) + t225)) = j_ := ⟨_, rfl⟩
        first | rw [hji41] at H | simp only [hji41] at H
        (try rw [hji41] at A40)
        have hji41w : (IntKind.i64.wrap ((wrap64 (x13_2 * a1)) + t225)) = ji41 := (i64_w _).trans hji41
        by_cases c42 : 0 ≤ (ji41)
        ·
         rw [if_pos c42] at H
         have c42b0 : decide (0 ≤ (ji41)) = true := decide_eq_true c42
         clear c42
         by_cases c43 : (ji41) < (x6_2.length : Int)
         ·
          rw [if_pos c43] at H
          have c43b0 : decide ((ji41) < (x6_2.length : Int)) = true := decide_eq_true c43
          clear c43
          by_cases c44 : (rd x6_2 (ji41)) = 4611686018427387904
          ·
           rw [if_pos c44] at H
           have c44b0 : ((rd x6_2 (ji41)) == 4611686018427387904) = true := beq_iff_eq.mpr c44
           have c44b1 : ((rd x6_2 (ji41)) != 4611686018427387904) = false := bne_eq_false_iff_eq.mpr c44
           clear c44
           have H' := Aside0.mk H
           clear H
           go_wp2_with ((with_reducible refine gate_callee (f := 47) rfl ?_); refine gl_ (some 102) Try.func47 #[.int .i64 x13_2] ?_; (with_reducible refine (gimbalref11_bar.calls x13_2 t225 _ A40.out).mono ?_); rintro e w' ⟨rfl, ⟨nd, rfl⟩⟩; refine ⟨_, rfl, ?_⟩; obtain ⟨Ao45, co45, eo45⟩ := Kd.R_slice HO_6.out; subst eo45; have p226 : 0 ≤ ((ji41) : Int) := of_decide_eq_true (by first | (with_reducible assumption) | assumption); have q226 : (ji41) < (x6_2.length : Int) := of_decide_eq_true (by first | (with_reducible assumption) | assumption); obtain ⟨ad226, e226, hx226_0⟩ := Kd.at_int (Kd.R_reads' HO_6.out).2.2 (ji41) p226 q226; cases e226; replace p226 := eq_true p226; replace q226 := eq_true q226)
           go_roundg k2
           case measure => have := HK1.out; have := HK2.out; omega
           case rel => exact ⟨(x6_2), (wrap64 (x13_2 + 1)), (by first | rfl | (simp; done) | (simp [*]; done)), H', ⟨by have := HK1.out; have := HK2.out; omega⟩, ⟨vR HO_6.out⟩, ⟨vW HB.out⟩⟩
          ·
           rw [if_neg c44] at H
           have c44b0 : ((rd x6_2 (ji41)) == 4611686018427387904) = false := beq_eq_false_iff_ne.mpr c44
           have c44b1 : ((rd x6_2 (ji41)) != 4611686018427387904) = true := bne_iff_ne.mpr c44
           replace H := Option.bind_eq_some_iff.mp H
           obtain ⟨t228, A460, H⟩ := H
           try dsimp only at H
           have A46 := Aside0.mk A460
           clear A460
           obtain ⟨y229, hy229⟩ : ∃ y_ : List Int, y_ = (x6_2.set ((ji41) : Int).toNat (wrap64 (2 * t228))) := ⟨_, rfl⟩
           replace H : (gimbalref11_Tight.l4 k2 a1 y229 (wrap64 (x13_2 + 1))) = some (r1, r2) := by first | (rw [hy229]; with_reducible exact H) | (have H2_ := (Option.bind_some _ _).symm.trans H; rw [hy229]; with_reducible exact H2_) | (have H2_ := (Option.bind_some _ _).symm.trans H; with_reducible exact H2_) | with_reducible exact H | (rw [hy229]; exact H) | exact H
           have Ny229 := Aside0.mk hy229
           clear hy229
           have H' := Aside0.mk H
           clear H
           go_wp2_with (first | ((with_reducible refine gate_callee (f := 47) rfl ?_); refine gl_ (some 102) Try.func47 #[.int .i64 x13_2] ?_; (with_reducible refine (gimbalref11_bar.calls x13_2 t225 _ A40.out).mono ?_); rintro e w' ⟨rfl, ⟨nd, rfl⟩⟩; refine ⟨_, rfl, ?_⟩; (try (rw [drewN_self wr]; generalize hq_ : World.drewN wr _ = wr; have n0_ : Aside0 (Kd.R (Kd.int .i64) 2 wr w.heap.size (fun _ => True) u6 x6_2) := ⟨by rw [← hq_]; exact (vR HO_6.out)⟩; have n1_ : Aside0 (Below w.heap.size w wr) := ⟨by rw [← hq_]; exact (vW HB.out)⟩; clear HO_6 HB hq_; have HO_6 := n0_; have HB := n1_; clear n0_ n1_)); obtain ⟨Ao48, co48, eo48⟩ := Kd.R_slice HO_6.out; subst eo48; have p226 : 0 ≤ ((ji41) : Int) := of_decide_eq_true (by first | (with_reducible assumption) | assumption); have q226 : (ji41) < (x6_2.length : Int) := of_decide_eq_true (by first | (with_reducible assumption) | assumption); obtain ⟨ad226, e226, hx226_0⟩ := Kd.at_int (Kd.R_reads' HO_6.out).2.2 (ji41) p226 q226; cases e226; replace p226 := eq_true p226; replace q226 := eq_true q226; have p227 : 0 ≤ ((ji41) : Int) := of_decide_eq_true (by first | (with_reducible assumption) | assumption); have q227 : (ji41) < (x6_2.length : Int) := of_decide_eq_true (by first | (with_reducible assumption) | assumption); obtain ⟨ad227, e227, hx227_0⟩ := Kd.at_int (Kd.R_reads' HO_6.out).2.2 (ji41) p227 q227; obtain rfl : ad226 = ad227 := (by injection e227); replace p227 := eq_true p227; replace q227 := eq_true q227) | ((with_reducible refine gate_callee (f := 119) rfl ?_); refine goesL_ (some 115) rfl rfl Try.func119 (by kernel_rfl) rfl #[.int .i64 (rd x6_2 (ji41))] rfl (by (try simp only [List.map_toArray, List.map_cons, List.map_nil]); first | done | (simp only [hji41]; rfl) | rfl | (simp only [List.length_drop, List.length_take]; rfl)) ?_; (with_reducible refine (gimbalref11_halved.calls (rd x6_2 (ji41)) t228 _ A46.out).mono ?_); rintro e w' ⟨rfl, ⟨nd, rfl⟩⟩; refine ⟨_, rfl, ?_⟩; (try (rw [drewN_self wr]; generalize hq_ : World.drewN wr _ = wr; have n0_ : Aside0 (Kd.R (Kd.int .i64) 2 wr w.heap.size (fun _ => True) (.slice (some ad226) x6_2.length co48) x6_2) := ⟨by rw [← hq_]; exact (vR HO_6.out)⟩; have n1_ : Aside0 (Below w.heap.size w wr) := ⟨by rw [← hq_]; exact (vW HB.out)⟩; clear HO_6 HB hq_; have HO_6 := n0_; have HB := n1_; clear n0_ n1_)); have p47 : 0 ≤ ((ji41) : Int) := of_decide_eq_true (by first | (with_reducible assumption) | assumption); have q47 : ((ji41) : Int) < ((x6_2.length : Int) : Int) := of_decide_eq_true (by first | (with_reducible assumption) | assumption); obtain ⟨go47, co47, eo47, gb47, gl47, cl47, HG47⟩ := Kd.R_form HO_6.out (by omega); (first | cases eo47 | (injection eo47 with ea_ en_ ec_; (first | subst ea_ | (injection ea_ with ea_; subst ea_)); subst ec_; clear en_)); have GB47 := Aside0.mk gb47; have GG47 := Aside0.mk HG47; clear gb47 gl47 HG47; (first | simp only [add_plain] at hx226_0 | skip); (first | simp only [add_plain] at hx227_0 | skip); obtain ⟨hx47_0, hf47_0⟩ := Kd.R_celln 0 HO_6.out ((ji41) : Int) p47 q47; replace p47 := eq_true p47; replace q47 := eq_true q47; obtain ⟨hy49_, hz49_⟩ := Kd.R_celln 0 HO_6.out ((ji41) : Int) (of_decide_eq_true (by first | (with_reducible assumption) | assumption)) (of_decide_eq_true (by first | (with_reducible assumption) | assumption)); have HP49 := Kd.R_putg HO_6.out ((ji41) : Int) (wrap64 (2 * t228))) | ((with_reducible refine gate_store (t := 2) (p := 117) rfl ?_); refine store_event (t := 2) (p := 117) (v := ?vo_w50) (w1 := (wr.setCell ⟨go47, ((ji41) : Int).toNat, none⟩ (.int .i64 (wrap64 (2 * t228))))) ?hg ?ho ?hn ?hr ?_; (case ho => rfl); (case hg => rfl); (case hn => rfl); (case hr => first | (go_simp; done) | (go_simp; rfl)); intro w50 hw; have hg : wr.grownBy w50 (some go47) := (by rw [hw]; exact HP49.2); have hp_ : Kd.R (Kd.int .i64) 2 w50 w.heap.size (fun _ => True) (.slice (some ⟨go47, 0, none⟩) x6_2.length co48) y229 := (by rw [hw, Ny229.out]; exact HP49.1); clear HP49; replace HO_6 := Aside0.mk (hp_); replace HB := Aside0.mk ((by rw [hw]; exact below_set (HB.out) GB47.out : Below w.heap.size w w50)); clear hg hw hp_))
           go_roundg k2
           case measure => have := HK1.out; have := HK2.out; omega
           case rel => exact ⟨(y229), (wrap64 (x13_2 + 1)), (by first | rfl | (simp; done) | (simp [*]; done)), H', ⟨by have := HK1.out; have := HK2.out; omega⟩, ⟨vR HO_6.out⟩, ⟨vW HB.out⟩⟩
         ·
          rw [if_neg c43] at H
          exact absurd H (by simp)
        ·
         rw [if_neg c42] at H
         exact absurd H (by simp)
       ·
        rw [if_neg c39] at H
        have c39b0 : decide (x13_2 < a1) = false := decide_eq_false c39
        clear c39
        have H' := Aside0.mk H
        clear H
        go_wp2
        go_loopg [15] k2 (fun kq v15 w' => ∃ (x15_3 : Int), v15 = .int .i64 x15_3 ∧ Aside0 (gimbalref11_Tight.l5 kq a1 x6_2 x15_3 = some (r1, r2)) ∧ Aside0 (kq ≤ k2) ∧ Aside0 (Kd.R (Kd.int .i64) 2 w' w.heap.size (fun _ => True) u6 x6_2) ∧ Aside0 (Below w.heap.size w w'))
        case atStart => exact ⟨(0), (by first | rfl | (simp; done) | (simp [*]; done)), H', ⟨Nat.le_refl _⟩, ⟨vR HO_6.out⟩, ⟨vW HB.out⟩⟩
        case round =>
         clear H'
         try clear c39b0
         obtain ⟨x15_3, rfl, HA, HK3, HO_6, HB⟩ := hrel
         cases gk with
         | zero => exact absurd HA.out (by simp [gimbalref11_Tight.l5])
         | succ k3 =>
          have H := HA.out
          clear HA
          simp only [gimbalref11_Tight.l5] at H
          by_cases c51 : x15_3 < a1
          ·
           rw [if_pos c51] at H
           have c51b0 : decide (x15_3 < a1) = true := decide_eq_true c51
           clear c51
           replace H := Option.bind_eq_some_iff.mp H
           obtain ⟨t230, A520, H⟩ := H
           try dsimp only at H
           have A52 := Aside0.mk A520
           clear A520
           obtain ⟨ji53, hji53⟩ : ∃ j_ : Int, (wrap64 ((wrap64 (x15_3 * a1)) + t230)) = j_ := ⟨_, rfl⟩
           first | rw [hji53] at H | simp only [hji53] at H
           (try rw [hji53] at A52)
           have hji53w : (IntKind.i64.wrap ((wrap64 (x15_3 * a1)) + t230)) = ji53 := (i64_w _).trans hji53
           by_cases c54 : 0 ≤ (ji53)
           ·
            rw [if_pos c54] at H
            have c54b0 : decide (0 ≤ (ji53)) = true := decide_eq_true c54
            clear c54
            by_cases c55 : (ji53) < (x6_2.length : Int)
            ·
             rw [if_pos c55] at H
             have c55b0 : decide ((ji53) < (x6_2.length : Int)) = true := decide_eq_true c55
             clear c55
             replace H := Option.bind_eq_some_iff.mp H
             obtain ⟨t232, A560, H⟩ := H
             try dsimp only at H
             have A56 := Aside0.mk A560
             clear A560
             obtain ⟨ji57, hji57⟩ : ∃ j_ : Int, (wrap64 ((wrap64 (t232 * a1)) + x15_3)) = j_ := ⟨_, rfl⟩
             first | rw [hji57] at H | simp only [hji57] at H
             (try rw [hji57] at A52)
             (try rw [hji57] at A56)
             have hji57w : (IntKind.i64.wrap ((wrap64 (t232 * a1)) + x15_3)) = ji57 := (i64_w _).trans hji57
             by_cases c58 : 0 ≤ (ji57)
             ·
              rw [if_pos c58] at H
              have c58b0 : decide (0 ≤ (ji57)) = true := decide_eq_true c58
              clear c58
              by_cases c59 : (ji57) < (x6_2.length : Int)
              ·
               rw [if_pos c59] at H
               have c59b0 : decide ((ji57) < (x6_2.length : Int)) = true := decide_eq_true c59
               clear c59
               replace H := Option.bind_eq_some_iff.mp H
               obtain ⟨t234, A600, H⟩ := H
               try dsimp only at H
               have A60 := Aside0.mk A600
               clear A600
               by_cases c61 : t234 < 0
               ·
                rw [if_pos c61] at H
                have c61b0 : decide (t234 < 0) = true := decide_eq_true c61
                clear c61
                simp only [Option.some.injEq, Prod.mk.injEq] at H
                obtain ⟨rfl, rfl⟩ := H
                try go_wp2
                replace HO_6 := Aside0.mk (Kd.R_drew HO_6.out)
                replace HB := Aside0.mk (below_drew1 HB.out)
                have p231 : 0 ≤ ((ji53) : Int) := of_decide_eq_true (by first | (with_reducible assumption) | assumption)
                have q231 : (ji53) < (x6_2.length : Int) := of_decide_eq_true (by first | (with_reducible assumption) | assumption)
                (try (obtain ⟨AoZ, coZ, eoZ⟩ := Kd.R_slice HO_6.out; subst eoZ))
                obtain ⟨ad231, e231, hx231_0⟩ := Kd.at_int (Kd.R_reads' HO_6.out).2.2 (ji53) p231 q231
                cases e231
                replace p231 := eq_true p231
                replace q231 := eq_true q231
                have p233 : 0 ≤ ((ji57) : Int) := of_decide_eq_true (by first | (with_reducible assumption) | assumption)
                have q233 : (ji57) < (x6_2.length : Int) := of_decide_eq_true (by first | (with_reducible assumption) | assumption)
                (try (obtain ⟨AoZ, coZ, eoZ⟩ := Kd.R_slice HO_6.out; subst eoZ))
                obtain ⟨ad233, e233, hx233_0⟩ := Kd.at_int (Kd.R_reads' HO_6.out).2.2 (ji57) p233 q233
                obtain rfl : ad231 = ad233 := (by injection e233)
                replace p233 := eq_true p233
                replace q233 := eq_true q233
                refine start_ (n := 20) (S := fun w' => w'.cell? (ad231.add ((ji53)).toNat) = some (.int .i64 (rd x6_2 (ji53))) ∧ w'.cell? (ad231.add ((ji57)).toNat) = some (.int .i64 (rd x6_2 (ji57)))) (ds := []) (mB 20 0) (by kernel_rfl) rfl rfl ⟨hx231_0, hx233_0⟩ (fun hHeld => ?_); refine with_tabW gimbalref11_Tight.tab31 gimbalref11_Tight.bits31 (fun HT_ HW_ => ?_)
                generalize wr.drew = w62 at HO_6 HB hx231_0 hx233_0 hHeld ⊢
                refine pV_ 0 123 (mB 20 1) HT_ ?_
                refine pV_ 1 124 (mB 20 3) HT_ ?_
                refine pV_ 2 125 (mB 20 7) HT_ ?_
                refine pV_ 3 126 (mB 20 15) HT_ ?_
                refine pV_ 4 127 (mB 20 31) HT_ ?_
                refine pV_ 9 132 (mB 20 543) HT_ ?_
                refine pV_ 10 133 (mB 20 1567) HT_ ?_
                refine pV_ 12 135 (mB 20 5663) HT_ ?_
                refine pV_ 14 137 (mB 20 22047) HT_ ?_
                refine on_ 5 (some 128) (mB 20 22079) HT_ (fun K hK => ?_)
                refine gs_ Try.func47 #[.int .i64 x15_3] ?_
                with_reducible refine (gimbalref11_bar.calls x15_3 t230 _ A52.out).mono ?_
                rintro e w' ⟨rfl, ⟨nd, rfl⟩⟩
                refine ⟨_, rfl, ?_⟩
                obtain ⟨Ao63, co63, eo63⟩ := Kd.R_slice HO_6.out
                (first | subst eo63 | (injection eo63 with f1_ f2_ f3_; have f4_ := f1_.symm; have f5_ := f3_.symm; clear f1_ f2_ f3_; subst f4_; subst f5_))
                refine hK.out _ _ ⟨hHeld.1, hHeld.2⟩ (fun hHeld => ?_)
                clear hK K
                refine norm_ (a' := ?_) ?_ ?_
                rotate_left
                ·
                 show Act.put _ (some 128) _ = _
                 simp only [Act.put, List.setIfInBounds_toArray, List.set_cons_zero, List.set_cons_succ, i64_w, i32_w]
                 rfl
                refine pV_ 6 129 (mB 20 22143) HT_ ?_
                refine pV_ 7 130 (mB 20 22271) HT_ ?_
                refine tV_ 8 131 (mB 20 22527) HT_ HW_ hHeld ?_
                refine on_ 11 (some 134) (mB 20 24575) HT_ (fun K hK => ?_)
                refine gs_ Try.func47 #[.int .i64 x15_3] ?_
                with_reducible refine (gimbalref11_bar.calls x15_3 t232 _ A56.out).mono ?_
                rintro e w' ⟨rfl, ⟨nd, rfl⟩⟩
                refine ⟨_, rfl, ?_⟩
                refine hK.out _ _ ⟨hHeld.1, hHeld.2⟩ (fun hHeld => ?_)
                clear hK K
                refine norm_ (a' := ?_) ?_ ?_
                rotate_left
                ·
                 show Act.put _ (some 134) _ = _
                 simp only [Act.put, List.setIfInBounds_toArray, List.set_cons_zero, List.set_cons_succ, i64_w, i32_w]
                 rfl
                refine pV_ 13 136 (mB 20 32767) HT_ ?_
                refine pV_ 15 138 (mB 20 65535) HT_ ?_
                refine pV_ 16 139 (mB 20 131071) HT_ ?_
                refine tV_ 17 140 (mB 20 262143) HT_ HW_ hHeld ?_
                refine on_ 18 (some 141) (mB 20 524287) HT_ (fun K hK => ?_)
                refine goes_ Try.func118 (by kernel_rfl) rfl #[.int .i64 (rd x6_2 (ji53)), .int .i64 (rd x6_2 (ji57))] (by rfl) rfl rfl (by (try simp only [List.map_toArray, List.map_cons, List.map_nil]); first | done | (simp only [hji53, hji57]; rfl) | rfl | (simp only [List.length_drop, List.length_take]; rfl)) ?_
                with_reducible refine (gimbalref11_plus.calls (rd x6_2 (ji53)) (rd x6_2 (ji57)) t234 _ A60.out).mono ?_
                rintro e w' ⟨rfl, ⟨nd, rfl⟩⟩
                refine ⟨_, rfl, ?_⟩
                refine hK.out _ _ ⟨hHeld.1, hHeld.2⟩ (fun hHeld => ?_)
                clear hK K
                refine norm_ (a' := ?_) ?_ ?_
                rotate_left
                ·
                 show Act.put _ (some 141) _ = _
                 simp only [Act.put, List.setIfInBounds_toArray, List.set_cons_zero, List.set_cons_succ, i64_w, i32_w]
                 rfl
                refine pV_ 19 142 (mB 20 1048575) HT_ ?_
                refine dn_ HT_ ?_
                try go_wp2
                go_ret2
                exact ⟨_, by first | rfl | (simp [errW_none, errW_some] <;> rfl) | (simp only [← hji53, ← hji57]; first | rfl | (simp [errW_none, errW_some] <;> rfl)) | (simp [*, errW_none, errW_some] <;> rfl) | (simp [wrap64]; done), by first | exact Kd.R_nil _ _ _ _ _ | exact Kd.N_nil _ _ _ _ _ | exact Kd.V_nil _ _ _ _ _ | exact Kd.Q_nil _ _ _ _ _ | exact Kd.S_nil _ _ _ _ _, vW HB.out⟩
               ·
                rw [if_neg c61] at H
                have c61b0 : decide (t234 < 0) = false := decide_eq_false c61
                clear c61
                have H' := Aside0.mk H
                clear H
                try go_wp2
                replace HO_6 := Aside0.mk (Kd.R_drew HO_6.out)
                replace HB := Aside0.mk (below_drew1 HB.out)
                have p231 : 0 ≤ ((ji53) : Int) := of_decide_eq_true (by first | (with_reducible assumption) | assumption)
                have q231 : (ji53) < (x6_2.length : Int) := of_decide_eq_true (by first | (with_reducible assumption) | assumption)
                (try (obtain ⟨AoZ, coZ, eoZ⟩ := Kd.R_slice HO_6.out; subst eoZ))
                obtain ⟨ad231, e231, hx231_0⟩ := Kd.at_int (Kd.R_reads' HO_6.out).2.2 (ji53) p231 q231
                cases e231
                replace p231 := eq_true p231
                replace q231 := eq_true q231
                have p233 : 0 ≤ ((ji57) : Int) := of_decide_eq_true (by first | (with_reducible assumption) | assumption)
                have q233 : (ji57) < (x6_2.length : Int) := of_decide_eq_true (by first | (with_reducible assumption) | assumption)
                (try (obtain ⟨AoZ, coZ, eoZ⟩ := Kd.R_slice HO_6.out; subst eoZ))
                obtain ⟨ad233, e233, hx233_0⟩ := Kd.at_int (Kd.R_reads' HO_6.out).2.2 (ji57) p233 q233
                obtain rfl : ad231 = ad233 := (by injection e233)
                replace p233 := eq_true p233
                replace q233 := eq_true q233
                refine start_ (n := 20) (S := fun w' => w'.cell? (ad231.add ((ji53)).toNat) = some (.int .i64 (rd x6_2 (ji53))) ∧ w'.cell? (ad231.add ((ji57)).toNat) = some (.int .i64 (rd x6_2 (ji57)))) (ds := []) (mB 20 0) (by kernel_rfl) rfl rfl ⟨hx231_0, hx233_0⟩ (fun hHeld => ?_); refine with_tabW gimbalref11_Tight.tab31 gimbalref11_Tight.bits31 (fun HT_ HW_ => ?_)
                generalize wr.drew = w64 at HO_6 HB hx231_0 hx233_0 hHeld ⊢
                refine pV_ 0 123 (mB 20 1) HT_ ?_
                refine pV_ 1 124 (mB 20 3) HT_ ?_
                refine pV_ 2 125 (mB 20 7) HT_ ?_
                refine pV_ 3 126 (mB 20 15) HT_ ?_
                refine pV_ 4 127 (mB 20 31) HT_ ?_
                refine pV_ 9 132 (mB 20 543) HT_ ?_
                refine pV_ 10 133 (mB 20 1567) HT_ ?_
                refine pV_ 12 135 (mB 20 5663) HT_ ?_
                refine pV_ 14 137 (mB 20 22047) HT_ ?_
                refine on_ 5 (some 128) (mB 20 22079) HT_ (fun K hK => ?_)
                refine gs_ Try.func47 #[.int .i64 x15_3] ?_
                with_reducible refine (gimbalref11_bar.calls x15_3 t230 _ A52.out).mono ?_
                rintro e w' ⟨rfl, ⟨nd, rfl⟩⟩
                refine ⟨_, rfl, ?_⟩
                obtain ⟨Ao65, co65, eo65⟩ := Kd.R_slice HO_6.out
                (first | subst eo65 | (injection eo65 with f1_ f2_ f3_; have f4_ := f1_.symm; have f5_ := f3_.symm; clear f1_ f2_ f3_; subst f4_; subst f5_))
                refine hK.out _ _ ⟨hHeld.1, hHeld.2⟩ (fun hHeld => ?_)
                clear hK K
                refine norm_ (a' := ?_) ?_ ?_
                rotate_left
                ·
                 show Act.put _ (some 128) _ = _
                 simp only [Act.put, List.setIfInBounds_toArray, List.set_cons_zero, List.set_cons_succ, i64_w, i32_w]
                 rfl
                refine pV_ 6 129 (mB 20 22143) HT_ ?_
                refine pV_ 7 130 (mB 20 22271) HT_ ?_
                refine tV_ 8 131 (mB 20 22527) HT_ HW_ hHeld ?_
                refine on_ 11 (some 134) (mB 20 24575) HT_ (fun K hK => ?_)
                refine gs_ Try.func47 #[.int .i64 x15_3] ?_
                with_reducible refine (gimbalref11_bar.calls x15_3 t232 _ A56.out).mono ?_
                rintro e w' ⟨rfl, ⟨nd, rfl⟩⟩
                refine ⟨_, rfl, ?_⟩
                refine hK.out _ _ ⟨hHeld.1, hHeld.2⟩ (fun hHeld => ?_)
                clear hK K
                refine norm_ (a' := ?_) ?_ ?_
                rotate_left
                ·
                 show Act.put _ (some 134) _ = _
                 simp only [Act.put, List.setIfInBounds_toArray, List.set_cons_zero, List.set_cons_succ, i64_w, i32_w]
                 rfl
                refine pV_ 13 136 (mB 20 32767) HT_ ?_
                refine pV_ 15 138 (mB 20 65535) HT_ ?_
                refine pV_ 16 139 (mB 20 131071) HT_ ?_
                refine tV_ 17 140 (mB 20 262143) HT_ HW_ hHeld ?_
                refine on_ 18 (some 141) (mB 20 524287) HT_ (fun K hK => ?_)
                refine goes_ Try.func118 (by kernel_rfl) rfl #[.int .i64 (rd x6_2 (ji53)), .int .i64 (rd x6_2 (ji57))] (by rfl) rfl rfl (by (try simp only [List.map_toArray, List.map_cons, List.map_nil]); first | done | (simp only [hji53, hji57]; rfl) | rfl | (simp only [List.length_drop, List.length_take]; rfl)) ?_
                with_reducible refine (gimbalref11_plus.calls (rd x6_2 (ji53)) (rd x6_2 (ji57)) t234 _ A60.out).mono ?_
                rintro e w' ⟨rfl, ⟨nd, rfl⟩⟩
                refine ⟨_, rfl, ?_⟩
                refine hK.out _ _ ⟨hHeld.1, hHeld.2⟩ (fun hHeld => ?_)
                clear hK K
                refine norm_ (a' := ?_) ?_ ?_
                rotate_left
                ·
                 show Act.put _ (some 141) _ = _
                 simp only [Act.put, List.setIfInBounds_toArray, List.set_cons_zero, List.set_cons_succ, i64_w, i32_w]
                 rfl
                refine pV_ 19 142 (mB 20 1048575) HT_ ?_
                refine dn_ HT_ ?_
                try go_wp2
                go_roundg k3
                case measure => have := HK1.out; have := HK2.out; have := HK3.out; omega
                case rel => exact ⟨(wrap64 (x15_3 + 1)), (by first | rfl | (simp; done) | (simp [*]; done)), H', ⟨by have := HK1.out; have := HK2.out; have := HK3.out; omega⟩, ⟨vR HO_6.out⟩, ⟨vW HB.out⟩⟩
              ·
               rw [if_neg c59] at H
               exact absurd H (by simp)
             ·
              rw [if_neg c58] at H
              exact absurd H (by simp)
            ·
             rw [if_neg c55] at H
             exact absurd H (by simp)
           ·
            rw [if_neg c54] at H
            exact absurd H (by simp)
          ·
           rw [if_neg c51] at H
           have c51b0 : decide (x15_3 < a1) = false := decide_eq_false c51
           clear c51
           obtain ⟨ji66, hji66⟩ : ∃ j_ : Int, (wrap64 (a1 * a1)) = j_ := ⟨_, rfl⟩
           first | rw [hji66] at H | simp only [hji66] at H
           have hji66w : (IntKind.i64.wrap (a1 * a1)) = ji66 := (i64_w _).trans hji66
           by_cases c67 : 0 ≤ (ji66)
           ·
            rw [if_pos c67] at H
            have c67b0 := eq_true c67
            have c67b1 : decide (0 ≤ (ji66)) = true := decide_eq_true c67
            clear c67
            by_cases c68 : (ji66 : Int).toNat ≤ 35184372088832
            ·
             rw [if_pos c68] at H
             have c68b0 := eq_true c68
             have c68b1 : decide ((ji66 : Int).toNat ≤ 35184372088832) = true := decide_eq_true c68
             clear c68
             obtain ⟨y235, hy235⟩ : ∃ y_ : List Int, y_ = (List.replicate (ji66 : Int).toNat 0) := ⟨_, rfl⟩
             replace H : (gimbalref11_Tight.l6 k3 a1 x6_2 y235 0) = some (r1, r2) := by first | (rw [hy235]; with_reducible exact H) | (have H2_ := (Option.bind_some _ _).symm.trans H; rw [hy235]; with_reducible exact H2_) | (have H2_ := (Option.bind_some _ _).symm.trans H; with_reducible exact H2_) | with_reducible exact H | (rw [hy235]; exact H) | exact H
             have Ny235 := Aside0.mk hy235
             clear hy235
             have H' := Aside0.mk H
             clear H
             go_wp2_with ((with_reducible refine gate_dst (N := 146) rfl ?_); refine Kd.R_make (Kd.int .i64) _ 2 rfl (N := 146) rfl 23 _ _ rfl ji66 rfl rfl Try.underlying23 (.int .i64 0) 8 info2 rfl (by decide) (by omega) 0 (ok := fun _ => True) (okp := fun _ => True) rfl (fun _ hk => hk) trivial (of_decide_eq_true (by first | (with_reducible assumption) | assumption)) (Nat.le_trans (Nat.mul_le_mul_right _ (of_decide_eq_true (by first | (with_reducible assumption) | assumption) : ji66.toNat ≤ 35184372088832)) (by omega)) (Below.refl _ _) (Nat.le_refl _) ?_; intro v236 w69 ho70 hb hg_ hnew_; clear hg_ hnew_; (first | rw [← Ny235.out] at ho70 | (simp only [Int.reduceToNat] at ho70; rw [← Ny235.out] at ho70)); have HO237 := Aside0.mk (Kd.R_lower (Kd.R_new' ho70 (Kd.R_lt (vR HO_6.out))) (below_size (vW HB.out))); replace HO_6 := Aside0.mk (Kd.R_elder' (vR HO_6.out) (Kd.R_base ho70) hb); replace HB := vWs HB hb; clear hb ho70)
             go_loopg [17] k3 (fun kq v17 w' => ∃ (x16_4 : List Int) (x17_4 : Int), v17 = .int .i64 x17_4 ∧ Aside0 (gimbalref11_Tight.l6 kq a1 x6_2 x16_4 x17_4 = some (r1, r2)) ∧ Aside0 (kq ≤ k3) ∧ Aside0 (Kd.R (Kd.int .i64) 2 w' w.heap.size (fun k_ => some k_ ≠ (v236 : Value).ownBlock) u6 x6_2) ∧ Aside0 (Kd.R (Kd.int .i64) 2 w' w.heap.size (fun k_ => some k_ ≠ (u6 : Value).ownBlock) v236 x16_4) ∧ Aside0 (Below w.heap.size w w'))
             case atStart => exact ⟨(y235), (0), (by first | rfl | (simp; done) | (simp [*]; done)), H', ⟨Nat.le_refl _⟩, ⟨by (with_reducible repeat (first | apply Kd.R_alloc | apply Kd.R_drewN | apply Kd.R_drew)); exact Kd.R_mono HO_6.out (fun _ hk => hk.2)⟩, ⟨by (with_reducible repeat (first | apply Kd.R_alloc | apply Kd.R_drewN | apply Kd.R_drew)); exact Kd.R_mono HO237.out (fun _ hk => hk.2)⟩, ⟨vW HB.out⟩⟩
             case round =>
              clear H'
              try clear c51b0
              try clear c67b0
              try clear c67b1
              try clear c68b0
              try clear c68b1
              obtain ⟨x16_4, x17_4, rfl, HA, HK4, HO_6, HO_16, HB⟩ := hrel
              cases gk with
              | zero => exact absurd HA.out (by simp [gimbalref11_Tight.l6])
              | succ k4 =>
               have H := HA.out
               clear HA
               simp only [gimbalref11_Tight.l6] at H
               by_cases c71 : x17_4 < a1
               ·
                rw [if_pos c71] at H
                have c71b0 : decide (x17_4 < a1) = true := decide_eq_true c71
                clear c71
                have H' := Aside0.mk H
                clear H
                go_wp2
                go_loopg [18] k4 (fun kq v18 w' => ∃ (x16_5 : List Int) (x18_5 : Int), v18 = .int .i64 x18_5 ∧ Aside0 (gimbalref11_Tight.l7 kq a1 x6_2 x16_5 x17_4 x18_5 = some (r1, r2)) ∧ Aside0 (kq ≤ k4) ∧ Aside0 (Kd.R (Kd.int .i64) 2 w' w.heap.size (fun k_ => some k_ ≠ (v236 : Value).ownBlock) u6 x6_2) ∧ Aside0 (Kd.R (Kd.int .i64) 2 w' w.heap.size (fun k_ => some k_ ≠ (u6 : Value).ownBlock) v236 x16_5) ∧ Aside0 (Below w.heap.size w w'))
                case atStart => exact ⟨(x16_4), (0), (by first | rfl | (simp; done) | (simp [*]; done)), H', ⟨Nat.le_refl _⟩, ⟨vR HO_6.out⟩, ⟨vR HO_16.out⟩, ⟨vW HB.out⟩⟩
                case round =>
                 clear H'
                 try clear c71b0
                 obtain ⟨x16_5, x18_5, rfl, HA, HK5, HO_6, HO_16, HB⟩ := hrel
                 cases gk with
                 | zero => exact absurd HA.out (by simp [gimbalref11_Tight.l7])
                 | succ k5 =>
                  have H := HA.out
                  clear HA
                  simp only [gimbalref11_Tight.l7] at H
                  by_cases c72 : x18_5 < a1
                  ·
                   rw [if_pos c72] at H
                   have c72b0 : decide (x18_5 < a1) = true := decide_eq_true c72
                   clear c72
                   obtain ⟨ji73, hji73⟩ : ∃ j_ : Int, (wrap64 ((wrap64 (x17_4 * a1)) + x18_5)) = j_ := ⟨_, rfl⟩
                   first | rw [hji73] at H | simp only [hji73] at H
                   have hji73w : (IntKind.i64.wrap ((wrap64 (x17_4 * a1)) + x18_5)) = ji73 := (i64_w _).trans hji73
                   by_cases c74 : 0 ≤ (ji73)
                   ·
                    rw [if_pos c74] at H
                    have c74b0 : decide (0 ≤ (ji73)) = true := decide_eq_true c74
                    clear c74
                    by_cases c75 : (ji73) < (x6_2.length : Int)
                    ·
                     rw [if_pos c75] at H
                     have c75b0 : decide ((ji73) < (x6_2.length : Int)) = true := decide_eq_true c75
                     clear c75
                     by_cases c76 : (ji73) < (x16_5.length : Int)
                     ·
                      rw [if_pos c76] at H
                      have c76b0 : decide ((ji73) < (x16_5.length : Int)) = true := decide_eq_true c76
                      clear c76
                      obtain ⟨y239, hy239⟩ : ∃ y_ : List Int, y_ = (x16_5.set ((ji73) : Int).toNat (rd x6_2 (ji73))) := ⟨_, rfl⟩
                      replace H : ((gimbalref11_bar.f x17_4).bind fun t240 => (if 0 ≤ (wrap64 ((wrap64 (x17_4 * a1)) + t240)) then (if (wrap64 ((wrap64 (x17_4 * a1)) + t240)) < (x6_2.length : Int) then ((gimbalref11_bar.f x18_5).bind fun t242 => (if 0 ≤ (wrap64 ((wrap64 (t242 * a1)) + x18_5)) then (if (wrap64 ((wrap64 (t242 * a1)) + x18_5)) < (x6_2.length : Int) then ((gimbalref11_plus.f (rd x6_2 (wrap64 ((wrap64 (x17_4 * a1)) + t240))) (rd x6_2 (wrap64 ((wrap64 (t242 * a1)) + x18_5)))).bind fun t244 => (if t244 = 4611686018427387904 then (gimbalref11_Tight.l7 k5 a1 x6_2 y239 x17_4 (wrap64 (x18_5 + 1))) else ((gimbalref11_halved.f t244).bind fun t246 => (gimbalref11_Tight.l7 k5 a1 x6_2 (y239.set ((ji73) : Int).toNat (mn (rd y239 (ji73)) t246)) x17_4 (wrap64 (x18_5 + 1)))))) else (none)) else (none))) else (none)) else (none))) = some (r1, r2) := by first | (rw [hy239]; with_reducible exact H) | (have H2_ := (Option.bind_some _ _).symm.trans H; rw [hy239]; with_reducible exact H2_) | (have H2_ := (Option.bind_some _ _).symm.trans H; with_reducible exact H2_) | with_reducible exact H | (rw [hy239]; exact H) | exact H
                      have Ny239 := Aside0.mk hy239
                      clear hy239
                      replace H := Option.bind_eq_some_iff.mp H
                      obtain ⟨t240, A780, H⟩ := H
                      try dsimp only at H
                      have A78 := Aside0.mk A780
                      clear A780
                      obtain ⟨ji79, hji79⟩ : ∃ j_ : Int, (wrap64 ((wrap64 (x17_4 * a1)) + t240)) = j_ := ⟨_, rfl⟩
                      first | rw [hji79] at H | simp only [hji79] at H
                      (try rw [hji79] at A78)
                      have hji79w : (IntKind.i64.wrap ((wrap64 (x17_4 * a1)) + t240)) = ji79 := (i64_w _).trans hji79
                      by_cases c80 : 0 ≤ (ji79)
                      ·
                       rw [if_pos c80] at H
                       have c80b0 : decide (0 ≤ (ji79)) = true := decide_eq_true c80
                       clear c80
                       by_cases c81 : (ji79) < (x6_2.length : Int)
                       ·
                        rw [if_pos c81] at H
                        have c81b0 : decide ((ji79) < (x6_2.length : Int)) = true := decide_eq_true c81
                        clear c81
                        replace H := Option.bind_eq_some_iff.mp H
                        obtain ⟨t242, A820, H⟩ := H
                        try dsimp only at H
                        have A82 := Aside0.mk A820
                        clear A820
                        obtain ⟨ji83, hji83⟩ : ∃ j_ : Int, (wrap64 ((wrap64 (t242 * a1)) + x18_5)) = j_ := ⟨_, rfl⟩
                        first | rw [hji83] at H | simp only [hji83] at H
                        (try rw [hji83] at A78)
                        (try rw [hji83] at A82)
                        have hji83w : (IntKind.i64.wrap ((wrap64 (t242 * a1)) + x18_5)) = ji83 := (i64_w _).trans hji83
                        by_cases c84 : 0 ≤ (ji83)
                        ·
                         rw [if_pos c84] at H
                         have c84b0 : decide (0 ≤ (ji83)) = true := decide_eq_true c84
                         clear c84
                         by_cases c85 : (ji83) < (x6_2.length : Int)
                         ·
                          rw [if_pos c85] at H
                          have c85b0 : decide ((ji83) < (x6_2.length : Int)) = true := decide_eq_true c85
                          clear c85
                          replace H := Option.bind_eq_some_iff.mp H
                          obtain ⟨t244, A860, H⟩ := H
                          try dsimp only at H
                          have A86 := Aside0.mk A860
                          clear A860
                          by_cases c87 : t244 = 4611686018427387904
                          ·
                           rw [if_pos c87] at H
                           have c87b0 : (t244 == 4611686018427387904) = true := beq_iff_eq.mpr c87
                           have c87b1 : (t244 != 4611686018427387904) = false := bne_eq_false_iff_eq.mpr c87
                           clear c87
                           have H' := Aside0.mk H
                           clear H
                           obtain ⟨Ao88, co88, eo88⟩ := Kd.R_slice HO_6.out
                           subst eo88
                           have p238 : 0 ≤ ((ji73) : Int) := of_decide_eq_true (by first | (with_reducible assumption) | assumption)
                           have q238 : (ji73) < (x6_2.length : Int) := of_decide_eq_true (by first | (with_reducible assumption) | assumption)
                           (try (obtain ⟨AoZ, coZ, eoZ⟩ := Kd.R_slice HO_6.out; subst eoZ))
                           obtain ⟨ad238, e238, hx238_0⟩ := Kd.at_int (Kd.R_reads' HO_6.out).2.2 (ji73) p238 q238
                           cases e238
                           replace p238 := eq_true p238
                           replace q238 := eq_true q238
                           have p77 : 0 ≤ ((ji73) : Int) := of_decide_eq_true (by first | (with_reducible assumption) | assumption)
                           have q77 : ((ji73) : Int) < ((x16_5.length : Int) : Int) := of_decide_eq_true (by first | (with_reducible assumption) | assumption)
                           obtain ⟨go77, co77, eo77, gb77, gl77, cl77, HG77⟩ := Kd.R_form HO_16.out (by omega)
                           (first | cases eo77 | (injection eo77 with ea_ en_ ec_; (first | subst ea_ | (injection ea_ with ea_; subst ea_)); subst ec_; clear en_))
                           have GB77 := Aside0.mk gb77
                           have GG77 := Aside0.mk HG77
                           clear gb77 gl77 HG77
                           obtain ⟨hx77_0, hf77_0⟩ := Kd.R_celln 0 HO_16.out ((ji73) : Int) p77 q77
                           replace p77 := eq_true p77
                           replace q77 := eq_true q77
                           have HP89 := Kd.R_putg HO_16.out ((ji73) : Int) (rd x6_2 (ji73))
                           try go_wp2_with ((with_reducible refine gate_store (t := 2) (p := 171) rfl ?_); refine store_event (t := 2) (p := 171) (v := ?vo_w90) (w1 := (wr.setCell ⟨go77, ((ji73) : Int).toNat, none⟩ (.int .i64 (rd x6_2 (ji73))))) ?hg ?ho ?hn ?hr ?_; (case ho => rfl); (case hg => rfl); (case hn => rfl); (case hr => first | (go_simp; done) | (go_simp; rfl)); intro w90 hw; have hg : wr.grownBy w90 (some go77) := (by rw [hw]; exact HP89.2); have hp_ : Kd.R (Kd.int .i64) 2 w90 w.heap.size (fun k_ => some k_ ≠ (.slice (some ad238) x6_2.length co88 : Value).ownBlock) (.slice (some ⟨go77, 0, none⟩) x16_5.length co77) y239 := (by rw [hw, Ny239.out]; exact HP89.1); clear HP89; replace HO_6 := Aside0.mk (Kd.R_after (v := (.slice (some ⟨go77, 0, none⟩) x16_5.length co77)) (v1 := (.slice (some ⟨go77, 0, none⟩) x16_5.length co77)) (ok := (fun _ => True)) (by (with_reducible repeat (first | apply Kd.R_alloc | apply Kd.R_drewN | apply Kd.R_drew)); exact Kd.R_mono HO_6.out (fun _ hk => ⟨trivial, hk⟩)) hg (.inl rfl)); replace HO_16 := Aside0.mk (hp_); replace HB := Aside0.mk ((by rw [hw]; exact below_set (HB.out) GB77.out : Below w.heap.size w w90)); clear hg hw hp_)
                           replace HO_6 := Aside0.mk (Kd.R_drew HO_6.out)
                           replace HO_16 := Aside0.mk (Kd.R_drew HO_16.out)
                           replace HB := Aside0.mk (below_drew1 HB.out)
                           have p241 : 0 ≤ ((ji79) : Int) := of_decide_eq_true (by first | (with_reducible assumption) | assumption)
                           have q241 : (ji79) < (x6_2.length : Int) := of_decide_eq_true (by first | (with_reducible assumption) | assumption)
                           (try (obtain ⟨AoZ, coZ, eoZ⟩ := Kd.R_slice HO_6.out; subst eoZ))
                           obtain ⟨ad241, e241, hx241_0⟩ := Kd.at_int (Kd.R_reads' HO_6.out).2.2 (ji79) p241 q241
                           obtain rfl : ad238 = ad241 := (by injection e241)
                           replace p241 := eq_true p241
                           replace q241 := eq_true q241
                           have p243 : 0 ≤ ((ji83) : Int) := of_decide_eq_true (by first | (with_reducible assumption) | assumption)
                           have q243 : (ji83) < (x6_2.length : Int) := of_decide_eq_true (by first | (with_reducible assumption) | assumption)
                           (try (obtain ⟨AoZ, coZ, eoZ⟩ := Kd.R_slice HO_6.out; subst eoZ))
                           obtain ⟨ad243, e243, hx243_0⟩ := Kd.at_int (Kd.R_reads' HO_6.out).2.2 (ji83) p243 q243
                           obtain rfl : ad238 = ad243 := (by injection e243)
                           replace p243 := eq_true p243
                           replace q243 := eq_true q243
                           refine start_ (n := 20) (S := fun w' => w'.cell? (ad238.add ((ji79)).toNat) = some (.int .i64 (rd x6_2 (ji79))) ∧ w'.cell? (ad238.add ((ji83)).toNat) = some (.int .i64 (rd x6_2 (ji83)))) (ds := []) (mB 20 0) (by kernel_rfl) rfl rfl ⟨hx241_0, hx243_0⟩ (fun hHeld => ?_); refine with_tabW gimbalref11_Tight.tab41 gimbalref11_Tight.bits41 (fun HT_ HW_ => ?_)
                           generalize w90.drew = w91 at HO_6 HO_16 HB hx241_0 hx243_0 hHeld ⊢
                           refine pV_ 0 172 (mB 20 1) HT_ ?_
                           refine pV_ 1 173 (mB 20 3) HT_ ?_
                           refine pV_ 2 174 (mB 20 7) HT_ ?_
                           refine pV_ 3 175 (mB 20 15) HT_ ?_
                           refine pV_ 4 176 (mB 20 31) HT_ ?_
                           refine pV_ 9 181 (mB 20 543) HT_ ?_
                           refine pV_ 10 182 (mB 20 1567) HT_ ?_
                           refine pV_ 12 184 (mB 20 5663) HT_ ?_
                           refine pV_ 14 186 (mB 20 22047) HT_ ?_
                           refine on_ 5 (some 177) (mB 20 22079) HT_ (fun K hK => ?_)
                           refine gs_ Try.func47 #[.int .i64 x17_4] ?_
                           with_reducible refine (gimbalref11_bar.calls x17_4 t240 _ A78.out).mono ?_
                           rintro e w' ⟨rfl, ⟨nd, rfl⟩⟩
                           refine ⟨_, rfl, ?_⟩
                           refine hK.out _ _ ⟨hHeld.1, hHeld.2⟩ (fun hHeld => ?_)
                           clear hK K
                           refine norm_ (a' := ?_) ?_ ?_
                           rotate_left
                           ·
                            show Act.put _ (some 177) _ = _
                            simp only [Act.put, List.setIfInBounds_toArray, List.set_cons_zero, List.set_cons_succ, i64_w, i32_w]
                            rfl
                           refine pV_ 6 178 (mB 20 22143) HT_ ?_
                           refine pV_ 7 179 (mB 20 22271) HT_ ?_
                           refine tV_ 8 180 (mB 20 22527) HT_ HW_ hHeld ?_
                           refine on_ 11 (some 183) (mB 20 24575) HT_ (fun K hK => ?_)
                           refine gs_ Try.func47 #[.int .i64 x18_5] ?_
                           with_reducible refine (gimbalref11_bar.calls x18_5 t242 _ A82.out).mono ?_
                           rintro e w' ⟨rfl, ⟨nd, rfl⟩⟩
                           refine ⟨_, rfl, ?_⟩
                           refine hK.out _ _ ⟨hHeld.1, hHeld.2⟩ (fun hHeld => ?_)
                           clear hK K
                           refine norm_ (a' := ?_) ?_ ?_
                           rotate_left
                           ·
                            show Act.put _ (some 183) _ = _
                            simp only [Act.put, List.setIfInBounds_toArray, List.set_cons_zero, List.set_cons_succ, i64_w, i32_w]
                            rfl
                           refine pV_ 13 185 (mB 20 32767) HT_ ?_
                           refine pV_ 15 187 (mB 20 65535) HT_ ?_
                           refine pV_ 16 188 (mB 20 131071) HT_ ?_
                           refine tV_ 17 189 (mB 20 262143) HT_ HW_ hHeld ?_
                           refine on_ 18 (some 190) (mB 20 524287) HT_ (fun K hK => ?_)
                           refine goes_ Try.func118 (by kernel_rfl) rfl #[.int .i64 (rd x6_2 (ji79)), .int .i64 (rd x6_2 (ji83))] (by rfl) rfl rfl (by (try simp only [List.map_toArray, List.map_cons, List.map_nil]); first | done | (simp only [hji79, hji83]; rfl) | rfl | (simp only [List.length_drop, List.length_take]; rfl)) ?_
                           with_reducible refine (gimbalref11_plus.calls (rd x6_2 (ji79)) (rd x6_2 (ji83)) t244 _ A86.out).mono ?_
                           rintro e w' ⟨rfl, ⟨nd, rfl⟩⟩
                           refine ⟨_, rfl, ?_⟩
                           refine hK.out _ _ ⟨hHeld.1, hHeld.2⟩ (fun hHeld => ?_)
                           clear hK K
                           refine norm_ (a' := ?_) ?_ ?_
                           rotate_left
                           ·
                            show Act.put _ (some 190) _ = _
                            simp only [Act.put, List.setIfInBounds_toArray, List.set_cons_zero, List.set_cons_succ, i64_w, i32_w]
                            rfl
                           refine pV_ 19 19 (mB 20 1048575) HT_ ?_
                           refine dn_ HT_ ?_
                           try go_wp2
                           go_roundg k5
                           case measure => have := HK1.out; have := HK2.out; have := HK3.out; have := HK4.out; have := HK5.out; omega
                           case rel => exact ⟨(y239), (wrap64 (x18_5 + 1)), (by first | rfl | (simp; done) | (simp [*]; done)), H', ⟨by have := HK1.out; have := HK2.out; have := HK3.out; have := HK4.out; have := HK5.out; omega⟩, ⟨by (with_reducible repeat (first | apply Kd.R_alloc | apply Kd.R_drewN | apply Kd.R_drew)); exact Kd.R_mono HO_6.out (fun _ hk => hk.2)⟩, ⟨vR HO_16.out⟩, ⟨vW HB.out⟩⟩
                          ·
                           rw [if_neg c87] at H
                           have c87b0 : (t244 == 4611686018427387904) = false := beq_eq_false_iff_ne.mpr c87
                           have c87b1 : (t244 != 4611686018427387904) = true := bne_iff_ne.mpr c87
                           replace H := Option.bind_eq_some_iff.mp H
                           obtain ⟨t246, A920, H⟩ := H
                           try dsimp only at H
                           have A92 := Aside0.mk A920
                           clear A920
                           obtain ⟨ji93, hji93⟩ : ∃ j_ : Int, (mn (rd y239 (ji73)) t246) = j_ := ⟨_, rfl⟩
                           first | rw [hji93] at H | simp only [hji93] at H
                           (try rw [hji93] at A78)
                           (try rw [hji93] at A82)
                           (try rw [hji93] at A86)
                           (try rw [hji93] at A92)
                           have hji93_ : (if t246 < (rd y239 (ji73)) then t246 else (rd y239 (ji73))) = ji93 := hji93
                           obtain ⟨y247, hy247⟩ : ∃ y_ : List Int, y_ = (y239.set ((ji73) : Int).toNat (ji93)) := ⟨_, rfl⟩
                           replace H : (gimbalref11_Tight.l7 k5 a1 x6_2 y247 x17_4 (wrap64 (x18_5 + 1))) = some (r1, r2) := by first | (rw [hy247]; with_reducible exact H) | (have H2_ := (Option.bind_some _ _).symm.trans H; rw [hy247]; with_reducible exact H2_) | (have H2_ := (Option.bind_some _ _).symm.trans H; with_reducible exact H2_) | with_reducible exact H | (rw [hy247]; exact H) | exact H
                           have Ny247 := Aside0.mk hy247
                           clear hy247
                           have H' := Aside0.mk H
                           clear H
                           obtain ⟨Ao95, co95, eo95⟩ := Kd.R_slice HO_6.out
                           subst eo95
                           have p238 : 0 ≤ ((ji73) : Int) := of_decide_eq_true (by first | (with_reducible assumption) | assumption)
                           have q238 : (ji73) < (x6_2.length : Int) := of_decide_eq_true (by first | (with_reducible assumption) | assumption)
                           (try (obtain ⟨AoZ, coZ, eoZ⟩ := Kd.R_slice HO_6.out; subst eoZ))
                           obtain ⟨ad238, e238, hx238_0⟩ := Kd.at_int (Kd.R_reads' HO_6.out).2.2 (ji73) p238 q238
                           cases e238
                           replace p238 := eq_true p238
                           replace q238 := eq_true q238
                           have p77 : 0 ≤ ((ji73) : Int) := of_decide_eq_true (by first | (with_reducible assumption) | assumption)
                           have q77 : ((ji73) : Int) < ((x16_5.length : Int) : Int) := of_decide_eq_true (by first | (with_reducible assumption) | assumption)
                           obtain ⟨go77, co77, eo77, gb77, gl77, cl77, HG77⟩ := Kd.R_form HO_16.out (by omega)
                           (first | cases eo77 | (injection eo77 with ea_ en_ ec_; (first | subst ea_ | (injection ea_ with ea_; subst ea_)); subst ec_; clear en_))
                           have GB77 := Aside0.mk gb77
                           have GG77 := Aside0.mk HG77
                           clear gb77 gl77 HG77
                           obtain ⟨hx77_0, hf77_0⟩ := Kd.R_celln 0 HO_16.out ((ji73) : Int) p77 q77
                           replace p77 := eq_true p77
                           replace q77 := eq_true q77
                           have HP96 := Kd.R_putg HO_16.out ((ji73) : Int) (rd x6_2 (ji73))
                           try go_wp2_with ((with_reducible refine gate_store (t := 2) (p := 171) rfl ?_); refine store_event (t := 2) (p := 171) (v := ?vo_w97) (w1 := (wr.setCell ⟨go77, ((ji73) : Int).toNat, none⟩ (.int .i64 (rd x6_2 (ji73))))) ?hg ?ho ?hn ?hr ?_; (case ho => rfl); (case hg => rfl); (case hn => rfl); (case hr => first | (go_simp; done) | (go_simp; rfl)); intro w97 hw; have hg : wr.grownBy w97 (some go77) := (by rw [hw]; exact HP96.2); have hp_ : Kd.R (Kd.int .i64) 2 w97 w.heap.size (fun k_ => some k_ ≠ (.slice (some ad238) x6_2.length co95 : Value).ownBlock) (.slice (some ⟨go77, 0, none⟩) x16_5.length co77) y239 := (by rw [hw, Ny239.out]; exact HP96.1); clear HP96; replace HO_6 := Aside0.mk (Kd.R_after (v := (.slice (some ⟨go77, 0, none⟩) x16_5.length co77)) (v1 := (.slice (some ⟨go77, 0, none⟩) x16_5.length co77)) (ok := (fun _ => True)) (by (with_reducible repeat (first | apply Kd.R_alloc | apply Kd.R_drewN | apply Kd.R_drew)); exact Kd.R_mono HO_6.out (fun _ hk => ⟨trivial, hk⟩)) hg (.inl rfl)); replace HO_16 := Aside0.mk (hp_); replace HB := Aside0.mk ((by rw [hw]; exact below_set (HB.out) GB77.out : Below w.heap.size w w97)); clear hg hw hp_)
                           replace HO_6 := Aside0.mk (Kd.R_drew HO_6.out)
                           replace HO_16 := Aside0.mk (Kd.R_drew HO_16.out)
                           replace HB := Aside0.mk (below_drew1 HB.out)
                           have p241 : 0 ≤ ((ji79) : Int) := of_decide_eq_true (by first | (with_reducible assumption) | assumption)
                           have q241 : (ji79) < (x6_2.length : Int) := of_decide_eq_true (by first | (with_reducible assumption) | assumption)
                           (try (obtain ⟨AoZ, coZ, eoZ⟩ := Kd.R_slice HO_6.out; subst eoZ))
                           obtain ⟨ad241, e241, hx241_0⟩ := Kd.at_int (Kd.R_reads' HO_6.out).2.2 (ji79) p241 q241
                           obtain rfl : ad238 = ad241 := (by injection e241)
                           replace p241 := eq_true p241
                           replace q241 := eq_true q241
                           have p243 : 0 ≤ ((ji83) : Int) := of_decide_eq_true (by first | (with_reducible assumption) | assumption)
                           have q243 : (ji83) < (x6_2.length : Int) := of_decide_eq_true (by first | (with_reducible assumption) | assumption)
                           (try (obtain ⟨AoZ, coZ, eoZ⟩ := Kd.R_slice HO_6.out; subst eoZ))
                           obtain ⟨ad243, e243, hx243_0⟩ := Kd.at_int (Kd.R_reads' HO_6.out).2.2 (ji83) p243 q243
                           obtain rfl : ad238 = ad243 := (by injection e243)
                           replace p243 := eq_true p243
                           replace q243 := eq_true q243
                           refine start_ (n := 20) (S := fun w' => w'.cell? (ad238.add ((ji79)).toNat) = some (.int .i64 (rd x6_2 (ji79))) ∧ w'.cell? (ad238.add ((ji83)).toNat) = some (.int .i64 (rd x6_2 (ji83)))) (ds := []) (mB 20 0) (by kernel_rfl) rfl rfl ⟨hx241_0, hx243_0⟩ (fun hHeld => ?_); refine with_tabW gimbalref11_Tight.tab41 gimbalref11_Tight.bits41 (fun HT_ HW_ => ?_)
                           generalize w97.drew = w98 at HO_6 HO_16 HB hx241_0 hx243_0 hHeld ⊢
                           refine pV_ 0 172 (mB 20 1) HT_ ?_
                           refine pV_ 1 173 (mB 20 3) HT_ ?_
                           refine pV_ 2 174 (mB 20 7) HT_ ?_
                           refine pV_ 3 175 (mB 20 15) HT_ ?_
                           refine pV_ 4 176 (mB 20 31) HT_ ?_
                           refine pV_ 9 181 (mB 20 543) HT_ ?_
                           refine pV_ 10 182 (mB 20 1567) HT_ ?_
                           refine pV_ 12 184 (mB 20 5663) HT_ ?_
                           refine pV_ 14 186 (mB 20 22047) HT_ ?_
                           refine on_ 5 (some 177) (mB 20 22079) HT_ (fun K hK => ?_)
                           refine gs_ Try.func47 #[.int .i64 x17_4] ?_
                           with_reducible refine (gimbalref11_bar.calls x17_4 t240 _ A78.out).mono ?_
                           rintro e w' ⟨rfl, ⟨nd, rfl⟩⟩
                           refine ⟨_, rfl, ?_⟩
                           refine hK.out _ _ ⟨hHeld.1, hHeld.2⟩ (fun hHeld => ?_)
                           clear hK K
                           refine norm_ (a' := ?_) ?_ ?_
                           rotate_left
                           ·
                            show Act.put _ (some 177) _ = _
                            simp only [Act.put, List.setIfInBounds_toArray, List.set_cons_zero, List.set_cons_succ, i64_w, i32_w]
                            rfl
                           refine pV_ 6 178 (mB 20 22143) HT_ ?_
                           refine pV_ 7 179 (mB 20 22271) HT_ ?_
                           refine tV_ 8 180 (mB 20 22527) HT_ HW_ hHeld ?_
                           refine on_ 11 (some 183) (mB 20 24575) HT_ (fun K hK => ?_)
                           refine gs_ Try.func47 #[.int .i64 x18_5] ?_
                           with_reducible refine (gimbalref11_bar.calls x18_5 t242 _ A82.out).mono ?_
                           rintro e w' ⟨rfl, ⟨nd, rfl⟩⟩
                           refine ⟨_, rfl, ?_⟩
                           refine hK.out _ _ ⟨hHeld.1, hHeld.2⟩ (fun hHeld => ?_)
                           clear hK K
                           refine norm_ (a' := ?_) ?_ ?_
                           rotate_left
                           ·
                            show Act.put _ (some 183) _ = _
                            simp only [Act.put, List.setIfInBounds_toArray, List.set_cons_zero, List.set_cons_succ, i64_w, i32_w]
                            rfl
                           refine pV_ 13 185 (mB 20 32767) HT_ ?_
                           refine pV_ 15 187 (mB 20 65535) HT_ ?_
                           refine pV_ 16 188 (mB 20 131071) HT_ ?_
                           refine tV_ 17 189 (mB 20 262143) HT_ HW_ hHeld ?_
                           refine on_ 18 (some 190) (mB 20 524287) HT_ (fun K hK => ?_)
                           refine goes_ Try.func118 (by kernel_rfl) rfl #[.int .i64 (rd x6_2 (ji79)), .int .i64 (rd x6_2 (ji83))] (by rfl) rfl rfl (by (try simp only [List.map_toArray, List.map_cons, List.map_nil]); first | done | (simp only [hji79, hji83]; rfl) | rfl | (simp only [List.length_drop, List.length_take]; rfl)) ?_
                           with_reducible refine (gimbalref11_plus.calls (rd x6_2 (ji79)) (rd x6_2 (ji83)) t244 _ A86.out).mono ?_
                           rintro e w' ⟨rfl, ⟨nd, rfl⟩⟩
                           refine ⟨_, rfl, ?_⟩
                           refine hK.out _ _ ⟨hHeld.1, hHeld.2⟩ (fun hHeld => ?_)
                           clear hK K
                           refine norm_ (a' := ?_) ?_ ?_
                           rotate_left
                           ·
                            show Act.put _ (some 190) _ = _
                            simp only [Act.put, List.setIfInBounds_toArray, List.set_cons_zero, List.set_cons_succ, i64_w, i32_w]
                            rfl
                           refine pV_ 19 19 (mB 20 1048575) HT_ ?_
                           refine dn_ HT_ ?_
                           try go_wp2
                           (try (rw [drewN_self w98]; generalize hq_ : World.drewN w98 _ = w98; have n0_ : Aside0 (Kd.R (Kd.int .i64) 2 w98 w.heap.size (fun k_ => some k_ ≠ (.slice (some ad238) x6_2.length co95 : Value).ownBlock) (.slice (some ⟨go77, 0, none⟩) x16_5.length co77) y239) := ⟨by rw [← hq_]; exact (vR HO_16.out)⟩; have n1_ : Aside0 (Kd.R (Kd.int .i64) 2 w98 w.heap.size (fun k_ => some k_ ≠ (.slice (some ⟨go77, 0, none⟩) x16_5.length co77 : Value).ownBlock) (.slice (some ad238) x6_2.length co95) x6_2) := ⟨by rw [← hq_]; exact (by (with_reducible repeat (first | apply Kd.R_alloc | apply Kd.R_drewN | apply Kd.R_drew)); exact Kd.R_mono HO_6.out (fun _ hk => hk.2))⟩; have n2_ : Aside0 (Below w.heap.size w w98) := ⟨by rw [← hq_]; exact (vW HB.out)⟩; clear HO_16 HO_6 HB hq_; have HO_16 := n0_; have HO_6 := n1_; have HB := n2_; clear n0_ n1_ n2_))
                           replace HO_6 := Aside0.mk (Kd.R_drew HO_6.out)
                           replace HO_16 := Aside0.mk (Kd.R_drew HO_16.out)
                           replace HB := Aside0.mk (below_drew1 HB.out)
                           have p245 : 0 ≤ ((ji73) : Int) := of_decide_eq_true (by first | (with_reducible assumption) | assumption)
                           have q245 : (ji73) < (y239.length : Int) := (by have h_ : ((ji73) : Int) < ((x16_5.length : Int) : Int) := of_decide_eq_true (by first | (with_reducible assumption) | assumption); first | (have e_ := (Kd.R_reads' HO_16.out).1; omega) | simpa only [Ny239.out, List.length_set] using h_)
                           have ql245 : (((ji73) : Int) < ((x16_5.length : Int) : Int)) = True := eq_true (of_decide_eq_true (by first | (with_reducible assumption) | assumption))
                           obtain ⟨ad245, e245, hx245_0⟩ := Kd.at_int (Kd.R_reads' HO_16.out).2.2 (ji73) p245 q245
                           obtain rfl : (⟨go77, 0, none⟩ : Addr) = ad245 := (by injection e245)
                           (first | simp only [add_plain] at hx245_0 | simp only [add_at] at hx245_0 | simp only [Addr.add, Nat.zero_add] at hx245_0 | skip)
                           replace p245 := eq_true p245
                           replace q245 := eq_true q245
                           refine start_ (n := 19) (S := fun w' => w'.cell? ⟨go77, ((ji73)).toNat, none⟩ = some (.int .i64 (rd y239 (ji73)))) (ds := [18]) (mB 19 0) (by kernel_rfl) rfl rfl (hx245_0) (fun hHeld => ?_); refine with_tabW gimbalref11_Tight.tab43 gimbalref11_Tight.bits43 (fun HT_ HW_ => ?_)
                           generalize w98.drew = w99 at HO_6 HO_16 HB hx245_0 hHeld ⊢
                           refine pV_ 0 193 (mB 19 1) HT_ ?_
                           refine pV_ 1 194 (mB 19 3) HT_ ?_
                           refine pV_ 2 195 (mB 19 7) HT_ ?_
                           refine pV_ 3 196 (mB 19 15) HT_ ?_
                           refine pV_ 4 197 (mB 19 31) HT_ ?_
                           refine pV_ 5 198 (mB 19 63) HT_ ?_
                           refine pV_ 6 199 (mB 19 127) HT_ ?_
                           refine pV_ 7 200 (mB 19 255) HT_ ?_
                           refine pV_ 8 201 (mB 19 511) HT_ ?_
                           refine pV_ 9 202 (mB 19 1023) HT_ ?_
                           refine pV_ 10 203 (mB 19 2047) HT_ ?_
                           refine pV_ 11 204 (mB 19 4095) HT_ ?_
                           refine pV_ 12 205 (mB 19 8191) HT_ ?_
                           refine pV_ 14 207 (mB 19 24575) HT_ ?_
                           refine tV_ 13 206 (mB 19 32767) HT_ HW_ hHeld ?_
                           refine on_ 15 (some 208) (mB 19 65535) HT_ (fun K hK => ?_)
                           refine gs_ Try.func119 #[.int .i64 t244] ?_
                           with_reducible refine (gimbalref11_halved.calls t244 t246 _ A92.out).mono ?_
                           rintro e w' ⟨rfl, ⟨nd, rfl⟩⟩
                           refine ⟨_, rfl, ?_⟩
                           have p94 : 0 ≤ ((ji73) : Int) := of_decide_eq_true (by first | (with_reducible assumption) | assumption)
                           have q94 : ((ji73) : Int) < ((x16_5.length : Int) : Int) := of_decide_eq_true (by first | (with_reducible assumption) | assumption)
                           obtain ⟨hx94_0, hf94_0⟩ := Kd.R_celln 0 HO_16.out ((ji73) : Int) p94 q94
                           replace p94 := eq_true p94
                           replace q94 := eq_true q94
                           have HP100 := Kd.R_putn HO_16.out ((ji73) : Int) ji93
                           rw [← Ny247.out] at HP100
                           have HQ100 := Aside0.mk HP100
                           clear HP100
                           refine hK.out _ _ (hHeld) (fun hHeld => ?_)
                           clear hK K
                           refine norm_ (a' := ?_) ?_ ?_
                           rotate_left
                           ·
                            show Act.put _ (some 208) _ = _
                            simp only [Act.put, List.setIfInBounds_toArray, List.set_cons_zero, List.set_cons_succ, i64_w, i32_w]
                            rfl
                           refine pV_ 16 209 (mB 19 131071) HT_ ?_
                           refine pV_ 17 210 (mB 19 262143) HT_ ?_
                           refine la_ 18 (mB 19 524287) HT_ (fun K hK => ?_)
                           refine skip_ (w1 := ?_) (by rfl) rfl ?_ ?_
                           rotate_left
                           ·
                            go_simp
                            rfl
                           refine hK.out _ _ ?_
                           clear hK K
                           refine dn_ HT_ ?_
                           try go_wp2
                           go_roundg k5
                           case measure => have := HK1.out; have := HK2.out; have := HK3.out; have := HK4.out; have := HK5.out; omega
                           case rel => exact ⟨(y247), (wrap64 (x18_5 + 1)), (by first | rfl | (simp; done) | (simp [*]; done)), H', ⟨by have := HK1.out; have := HK2.out; have := HK3.out; have := HK4.out; have := HK5.out; omega⟩, ⟨by (with_reducible repeat (first | apply Kd.R_alloc | apply Kd.R_drewN | apply Kd.R_drew)); exact Kd.R_mono (Kd.R_far (p := ⟨go77, ((ji73) : Int).toNat, none⟩) (Kd.R_mono HO_6.out (fun k_ hk => (⟨hk, fun e_ => hk (by rw [e_]; rfl)⟩ : _ ∧ k_ ≠ go77))) (fun _ hk => hk.2) (.int .i64 ji93)) (fun _ hk => hk.1)⟩, ⟨vR HQ100.out⟩, ⟨vW HB.out⟩⟩
                         ·
                          rw [if_neg c85] at H
                          exact absurd H (by simp)
                        ·
                         rw [if_neg c84] at H
                         exact absurd H (by simp)
                       ·
                        rw [if_neg c81] at H
                        exact absurd H (by simp)
                      ·
                       rw [if_neg c80] at H
                       exact absurd H (by simp)
                     ·
                      rw [if_neg c76] at H
                      exact absurd H (by simp)
                    ·
                     rw [if_neg c75] at H
                     exact absurd H (by simp)
                   ·
                    rw [if_neg c74] at H
                    exact absurd H (by simp)
                  ·
                   rw [if_neg c72] at H
                   have c72b0 : decide (x18_5 < a1) = false := decide_eq_false c72
                   clear c72
                   have H' := Aside0.mk H
                   clear H
                   go_wp2
                   go_roundg k5
                   case measure => have := HK1.out; have := HK2.out; have := HK3.out; have := HK4.out; have := HK5.out; omega
                   case rel => exact ⟨(x16_5), (wrap64 (x17_4 + 1)), (by first | rfl | (simp; done) | (simp [*]; done)), H', ⟨by have := HK1.out; have := HK2.out; have := HK3.out; have := HK4.out; have := HK5.out; omega⟩, ⟨vR HO_6.out⟩, ⟨vR HO_16.out⟩, ⟨vW HB.out⟩⟩
               ·
                rw [if_neg c71] at H
                have c71b0 : decide (x17_4 < a1) = false := decide_eq_false c71
                clear c71
                simp only [Option.some.injEq, Prod.mk.injEq] at H
                obtain ⟨rfl, rfl⟩ := H
                go_wp2
                go_ret2
                exact ⟨_, by first | rfl | (simp [errW_none, errW_some] <;> rfl) | (simp only [← hji66]; first | rfl | (simp [errW_none, errW_some] <;> rfl)) | (simp [*, errW_none, errW_some] <;> rfl) | (simp [wrap64]; done), by (with_reducible repeat (first | apply Kd.R_alloc | apply Kd.R_drewN | apply Kd.R_drew)); exact Kd.R_mono HO_16.out (fun _ hk => trivial), vW HB.out⟩
            ·
             rw [if_neg c68] at H
             exact absurd H (by simp)
           ·
            rw [if_neg c67] at H
            exact absurd H (by simp)
 ·
  rw [if_neg c3] at H
  exact absurd H (by simp)
def gimbalref11_clip.f (a0 : Int) : Option (Int) := if a0 > 1099511627776 then (some 4611686018427387904) else (if a0 < (-1099511627776) then (some (-1099511627776)) else (some a0))
theorem gimbalref11_clip.calls (a0 : Int) (r : Int) (w : World) (h : gimbalref11_clip.f a0 = some r) :
 Calls Try.prog 84 #[.int .i64 a0] w fun e w' => e = .returned (.int .i64 r) ∧ Drawn0 w w' := by
 have H : (if a0 > 1099511627776 then (some 4611686018427387904) else (if a0 < (-1099511627776) then (some (-1099511627776)) else (some a0))) = some r := h
 clear h
 by_cases c2 : a0 > 1099511627776
 ·
  rw [if_pos c2] at H
  have c2b0 : decide (1099511627776 < a0) = true := decide_eq_true c2
  clear c2
  obtain rfl := Option.some.inj H
  go_enter Try.func84, Try.ntmps84
  go_wp2
  go_ret
  exact ⟨by first | rfl | (simp; done) | (simp [*]; done), by repeat (first | exact Drawn0.refl _ | apply Drawn0.step)⟩
 ·
  rw [if_neg c2] at H
  have c2b0 : decide (1099511627776 < a0) = false := decide_eq_false c2
  clear c2
  by_cases c3 : a0 < (-1099511627776)
  ·
   rw [if_pos c3] at H
   have c3b0 : decide (a0 < (-1099511627776)) = true := decide_eq_true c3
   clear c3
   obtain rfl := Option.some.inj H
   go_enter Try.func84, Try.ntmps84
   go_wp2
   go_ret
   exact ⟨by first | rfl | (simp; done) | (simp [*]; done), by repeat (first | exact Drawn0.refl _ | apply Drawn0.step)⟩
  ·
   rw [if_neg c3] at H
   have c3b0 : decide (a0 < (-1099511627776)) = false := decide_eq_false c3
   clear c3
   obtain rfl := Option.some.inj H
   go_enter Try.func84, Try.ntmps84
   go_wp2
   go_ret
   exact ⟨by first | rfl | (simp; done) | (simp [*]; done), by repeat (first | exact Drawn0.refl _ | apply Drawn0.step)⟩
def gimbalref11_Close.l0 : Nat → List Int → Int → Int → List Int → List Int → Bool → Option (List Int × List Int × Bool)
 | 0, _, _, _, _, _, _ => none
 | k + 1, x32, x33, x34, x272000, x272001, x272002 => if x34 < x33 then (if 0 ≤ x34 then (if x34 < (x32.length : Int) then ((gimbalref11_clip.f (rd x32 x34)).bind fun t273 => (if x272001.length < 17592186044416 then (gimbalref11_Close.l0 k x32 x33 (wrap64 (x34 + 1)) x272000 (x272001 ++ [t273]) x272002) else (none))) else (none)) else (none)) else (some (x272000, x272001, x272002))
def gimbalref11_Close.f (k : Nat) (l0_0 : List Int) (l0_1 : List Int) (a0_2 : Bool) : Option (List Int × List Int × Bool) := if a0_2 = true then ((gimbalref11_Bottom.f l0_0).bind fun bt250 => (some (bt250.1, bt250.2.1, bt250.2.2))) else ((gimbalref11_Tight.f k l0_1 (wrap64 (2 * (l0_0.length : Int)))).bind fun bt257 => (if bt257.2 = true then ((gimbalref11_copied.f l0_0).bind fun t268 => (gimbalref11_Close.l0 k bt257.1 (bt257.1.length : Int) 0 t268 ([] : List Int) false)) else ((gimbalref11_Bottom.f l0_0).bind fun bt261 => (some (bt261.1, bt261.2.1, bt261.2.2)))))
theorem gimbalref11_Close.mono_l : ∀ k, (∀ y0 y1 y2 y3 y4 y5, LeO (gimbalref11_Close.l0 k y0 y1 y2 y3 y4 y5) (gimbalref11_Close.l0 (k + 1) y0 y1 y2 y3 y4 y5))
 | 0 => fun _ _ _ _ _ _ r h => by simp [gimbalref11_Close.l0] at h
 | k + 1 => by
  have ih0 := gimbalref11_Close.mono_l k
  intros
  unfold gimbalref11_Close.l0 <;> repeat' first | (with_reducible first | apply ih0 | apply gimbalref11_Tight.mono | apply LeO.refl | apply LeO.none | refine LeO.ite ?_ ?_ | refine LeO.bind ?_ (fun _ => ?_)) | apply ih0 | apply gimbalref11_Tight.mono | apply LeO.none | refine LeO.ite ?_ ?_ | refine LeO.bind ?_ (fun _ => ?_)
theorem gimbalref11_Close.mono : ∀ a0 a1 a2 k, LeO (gimbalref11_Close.f k a0 a1 a2) (gimbalref11_Close.f (k + 1) a0 a1 a2) := by
 intro a0 a1 a2 k
 have ih0 := gimbalref11_Close.mono_l k
 unfold gimbalref11_Close.f
 repeat' first | (with_reducible first | apply ih0 | apply gimbalref11_Tight.mono | apply LeO.refl | apply LeO.none | refine LeO.ite ?_ ?_ | refine LeO.bind ?_ (fun _ => ?_)) | apply ih0 | apply gimbalref11_Tight.mono | apply LeO.none | refine LeO.ite ?_ ?_ | refine LeO.bind ?_ (fun _ => ?_)
def gimbalref11_Close.T10 : Bool × List (List Nat × List Nat) := (true, [([], []), ([0], [0]), ([], []), ([2], [2]), ([3], [3]), ([1, 4, 3], [1, 4]), ([0, 1, 2, 3, 4, 5], []), ([6, 5, 5, 0, 1, 2, 3, 4, 5], [5, 6])])
def gimbalref11_Close.B10 : List Nat := [0, 1, 0, 4, 12, 31, 63, 127]
theorem gimbalref11_Close.tab10 : rtab .any (opsOf Try.f38 10) = gimbalref11_Close.T10 := by kernel_rfl
theorem gimbalref11_Close.bits10 : waitsOk gimbalref11_Close.T10.2 gimbalref11_Close.B10 = true := by kernel_rfl
theorem gimbalref11_Close.calls (k : Nat) (A0_0 : Option Addr) (c0_0 : Nat) (l0_0 : List Int) (A0_1 : Option Addr) (c0_1 : Nat) (l0_1 : List Int) (a0_2 : Bool) (r1 : List Int) (r2 : List Int) (r3 : Bool) (w : World) (hr0_0 : Kd.C (Kd.int .i64) w A0_0 l0_0.length l0_0) (hc0_0 : l0_0.length ≤ c0_0) (hr0_1 : Kd.C (Kd.int .i64) w A0_1 l0_1.length l0_1) (hc0_1 : l0_1.length ≤ c0_1) (h : gimbalref11_Close.f k l0_0 l0_1 a0_2 = some (r1, r2, r3)) :
 Calls Try.prog 38 #[.agg #[.slice A0_0 l0_0.length c0_0, .slice A0_1 l0_1.length c0_1, .bool a0_2]] w fun e w' => ∃ v0_ v1_ : Value, e = .returned (.agg #[v0_, v1_, .bool r3]) ∧ Kd.R (Kd.int .i64) 3 w' w.heap.size (fun _ => True) v0_ r1 ∧ Kd.R (Kd.int .i64) 2 w' w.heap.size (fun _ => True) v1_ r2 ∧ Below w.heap.size w w' := by
 have hu25 := Try.underlying25
 have HR0_0 := Aside0.mk hr0_0
 have HC0_0 := Aside0.mk hc0_0
 clear hr0_0 hc0_0
 have HR0_1 := Aside0.mk hr0_1
 have HC0_1 := Aside0.mk hc0_1
 clear hr0_1 hc0_1
 have HB := Aside0.mk (Below.refl w.heap.size w)
 have H := h
 unfold gimbalref11_Close.f at H
 clear h
 by_cases c2 : a0_2 = true
 ·
  subst c2
  rw [if_pos rfl] at H
  try dsimp only at H
  replace H := Option.bind_eq_some_iff.mp H
  obtain ⟨⟨t250, t253, t256⟩, A30, H⟩ := H
  try dsimp only at H
  have A3 := Aside0.mk A30
  clear A30
  simp only [Option.some.injEq, Prod.mk.injEq] at H
  obtain ⟨rfl, rfl, rfl⟩ := H
  go_enter Try.func38, Try.ntmps38
  go_wp2_with (first | ((with_reducible refine gate_dst (N := 1) rfl ?_); refine bx_ 1 #[.slice A0_0 l0_0.length c0_0, .slice A0_1 l0_1.length c0_1, .bool true] 25 ?_; intro gb248 hg w4 hbox hb; have BK248 := Aside0.mk (hbox); have GW248 := vS hg HB; have GE248 := vS hg HB; replace HB := vWs HB hb; clear hb hbox hg) | ((with_reducible refine gate_dst (N := 2) rfl ?_); refine bx_ 2 #[.slice none 0 0, .slice none 0 0, .bool false] 25 ?_; intro gb249 hg w5 hbox hb; have BK249 := Aside0.mk (hbox); have GW249 := vS hg HB; have GE249 := vS hg HB; replace HB := vWs HB hb; have NB248_249 := vNl hg BK248; have NB249_248 := vNg hg BK248; replace BK248 := vBb BK248 hb; clear hb hbox hg; have hnb6 := NB248_249.out; have hnc6 := NB249_248.out; obtain ⟨hcz7_0, hcz7_1, hcz7_2, hfz7_0, hfz7_1, hfz7_2⟩ := vF3 BK248.out) | ((with_reducible refine gate_callee (f := 65) rfl ?_); refine gl_ (some 12) Try.func65 #[.slice A0_0 l0_0.length c0_0] ?_; (with_reducible refine (gimbalref11_Bottom.calls _ _ l0_0 t250 t253 t256 _ ?side1 ?side2 A3.out).mono ?_); (case side1 => exact vC (Kd.C_below HR0_0.out HB.out)); (case side2 => exact HC0_0.out); rintro e w8 ⟨v251, v254, rfl, ho0, ho1, hb⟩; refine ⟨_, rfl, ?_⟩; have HO252 := Aside0.mk (Kd.R_lower ho0 (below_size (vW HB.out))); have HO255 := Aside0.mk (Kd.R_lower ho1 (below_size (vW HB.out))); replace BK248 := vBb BK248 hb; replace BK249 := vBb BK249 hb; replace HB := vWs HB hb; (try clear hb); (try clear hb2); (try clear hk); (try clear hi); (try clear ho0); (try clear ho1); obtain ⟨Ao9, co9, eo9⟩ := Kd.R_slice HO252.out; subst eo9; obtain ⟨hcz10_0, hcz10_1, hcz10_2, hfz10_0, hfz10_1, hfz10_2⟩ := vF3 BK249.out; obtain ⟨Ao11, co11, eo11⟩ := Kd.R_slice HO255.out; subst eo11))
  refine bodyPost_ret (results_cell_row rfl _ _ gb249 25 #[.slice Ao9 t250.length co9, .slice Ao11 t253.length co11, .bool t256] (0, 0) _ rfl (vP3 BK249.out) Try.underlying25 rfl (by kernel_rfl)) rfl ?_
  exact ⟨_, _, vE, vTt HO252.out BK249.out, vTt HO255.out BK249.out, vW HB.out⟩
 ·
  replace c2 := Bool.eq_false_iff.mpr c2
  subst c2
  rw [if_neg (show ¬ (false = true) by decide)] at H
  try dsimp only at H
  replace H := Option.bind_eq_some_iff.mp H
  obtain ⟨⟨t257, t258⟩, A120, H⟩ := H
  try dsimp only at H
  have A12 := Aside0.mk A120
  clear A120
  by_cases c13 : t258 = true
  ·
   subst c13
   rw [if_pos rfl] at H
   try dsimp only at H
   replace H := Option.bind_eq_some_iff.mp H
   obtain ⟨t268, A140, H⟩ := H
   try dsimp only at H
   have A14 := Aside0.mk A140
   clear A140
   have H' := Aside0.mk H
   clear H
   go_enter Try.func38, Try.ntmps38
   go_wp2_with (first | ((with_reducible refine gate_dst (N := 1) rfl ?_); refine bx_ 1 #[.slice A0_0 l0_0.length c0_0, .slice A0_1 l0_1.length c0_1, .bool false] 25 ?_; intro gb248 hg w15 hbox hb; have BK248 := Aside0.mk (hbox); have GW248 := vS hg HB; have GE248 := vS hg HB; replace HB := vWs HB hb; clear hb hbox hg) | ((with_reducible refine gate_dst (N := 2) rfl ?_); refine bx_ 2 #[.slice none 0 0, .slice none 0 0, .bool false] 25 ?_; intro gb249 hg w16 hbox hb; have BK249 := Aside0.mk (hbox); have GW249 := vS hg HB; have GE249 := vS hg HB; replace HB := vWs HB hb; have NB248_249 := vNl hg BK248; have NB249_248 := vNg hg BK248; replace BK248 := vBb BK248 hb; clear hb hbox hg; have hnb17 := NB248_249.out; have hnc17 := NB249_248.out; obtain ⟨hcz18_0, hcz18_1, hcz18_2, hfz18_0, hfz18_1, hfz18_2⟩ := vF3 BK248.out) | ((with_reducible refine gate_callee (f := 82) rfl ?_); refine gl_ (some 20) Try.func82 #[.slice A0_1 l0_1.length c0_1, .int .i64 (wrap64 (2 * (l0_0.length : Int)))] ?_; (with_reducible refine (gimbalref11_Tight.calls k _ _ l0_1 (wrap64 (2 * (l0_0.length : Int))) t257 true _ ?side1 ?side2 A12.out).mono ?_); (case side1 => exact vC (Kd.C_below HR0_1.out HB.out)); (case side2 => exact HC0_1.out); rintro e w19 ⟨v259, rfl, ho0, hb⟩; refine ⟨_, rfl, ?_⟩; have HO260 := Aside0.mk (Kd.R_lower ho0 (below_size (vW HB.out))); replace BK248 := vBb BK248 hb; replace BK249 := vBb BK249 hb; replace HB := vWs HB hb; (try clear hb); (try clear hb2); (try clear hk); (try clear hi); (try clear ho0); obtain ⟨hcz20_0, hcz20_1, hcz20_2, hfz20_0, hfz20_1, hfz20_2⟩ := vF3 BK248.out) | ((with_reducible refine gate_callee (f := 83) rfl ?_); refine gl_ (some 30) Try.func83 #[.slice A0_0 l0_0.length c0_0] ?_; (with_reducible refine (gimbalref11_copied.calls _ _ l0_0 t268 _ ?side1 ?side2 A14.out).mono ?_); (case side1 => exact vC (Kd.C_below HR0_0.out HB.out)); (case side2 => exact HC0_0.out); rintro e w21 ⟨v269, rfl, ho0, hb⟩; refine ⟨_, rfl, ?_⟩; replace HO260 := vRb HO260 hb; have HO270 := Aside0.mk (Kd.R_lower ho0 (below_size (vW HB.out))); replace BK248 := vBb BK248 hb; replace BK249 := vBb BK249 hb; replace HB := vWs HB hb; (try clear hb); (try clear hb2); (try clear hk); (try clear hi); (try clear ho0); obtain ⟨Ao22, co22, eo22⟩ := Kd.R_slice HO270.out; subst eo22) | ((with_reducible refine gate_dst (N := 5) rfl ?_); refine bx_ 5 #[.slice none 0 0, .slice none 0 0, .bool false] 25 ?_; intro gb271 hg w23 hbox hb; replace HO260 := vRb HO260 hb; replace HO270 := vRb HO270 hb; have BK271 := Aside0.mk (hbox); have GW271 := vS hg HB; have GE271 := vS hg HB; replace HB := vWs HB hb; have NB248_271 := vNl hg BK248; have NB271_248 := vNg hg BK248; replace BK248 := vBb BK248 hb; have NB249_271 := vNl hg BK249; have NB271_249 := vNg hg BK249; replace BK249 := vBb BK249 hb; clear hb hbox hg; have hnb24 := NB271_248.out; have hnc24 := NB248_271.out; have hnb25 := NB271_249.out; have hnc25 := NB249_271.out; obtain ⟨hcz26_0, hcz26_1, hcz26_2, hfz26_0, hfz26_1, hfz26_2⟩ := vF3 BK271.out; obtain ⟨Ao27, co27, eo27⟩ := Kd.R_slice HO260.out; subst eo27))
   go_loopg [34] k (fun kq v34 w' => ∃ (x34_1 : Int) (x272001_1 : List Int) (u272001 : Value), v34 = .int .i64 x34_1 ∧ Aside0 (gimbalref11_Close.l0 kq t257 (t257.length : Int) x34_1 t268 x272001_1 false = some (r1, r2, r3)) ∧ Aside0 (kq ≤ k) ∧ Aside0 (Kd.R (Kd.int .i64) 2 w' w.heap.size (fun k_ => some k_ ≠ (u272001 : Value).ownBlock) (.slice Ao27 t257.length co27) t257) ∧ Aside0 (Kd.R (Kd.int .i64) 3 w' w.heap.size (fun _ => True) (.slice Ao22 t268.length co22) t268) ∧ Aside0 (Kd.R (Kd.int .i64) 2 w' w.heap.size (fun k_ => some k_ ≠ ((.slice Ao27 t257.length co27) : Value).ownBlock) u272001 x272001_1) ∧ Aside0 (w'.heap[gb248]? = some (.cells #[(.slice A0_0 l0_0.length c0_0), (.slice A0_1 l0_1.length c0_1), .bool false] 25 (0, 0))) ∧ Aside0 (w'.heap[gb249]? = some (.cells #[(.slice none 0 0), (.slice none 0 0), .bool false] 25 (0, 0))) ∧ Aside0 (w'.heap[gb271]? = some (.cells #[(.slice Ao22 t268.length co22), u272001, .bool false] 25 (0, 0))) ∧ Aside0 (Below w.heap.size w w'))
   case atStart => exact ⟨(0), (([] : List Int)), (.slice none 0 0), (by first | rfl | (simp; done) | (simp [*]; done)), H', ⟨Nat.le_refl _⟩, ⟨by (with_reducible repeat (first | apply Kd.R_alloc | apply Kd.R_drewN | apply Kd.R_drew)); exact Kd.R_mono (Kd.R_far (p := ⟨gb271, 2, none⟩) (Kd.R_far (p := ⟨gb271, 1, none⟩) (Kd.R_far (p := ⟨gb271, 0, none⟩) (Kd.R_types HO260.out BK271.out (by decide)) (fun _ hk => hk.2) (.slice Ao22 t268.length co22)) (fun _ hk => hk.2) (.slice none 0 0)) (fun _ hk => hk.2) (.bool false)) (fun _ hk => (by simp [Value.ownBlock]))⟩, ⟨vTt HO270.out BK271.out⟩, ⟨by first | exact Kd.R_nil _ _ _ _ _ | exact Kd.N_nil _ _ _ _ _ | exact Kd.V_nil _ _ _ _ _ | exact Kd.Q_nil _ _ _ _ _ | exact Kd.S_nil _ _ _ _ _⟩, ⟨vB BK248.out⟩, ⟨vB BK249.out⟩, ⟨vP3 BK271.out⟩, ⟨vW HB.out⟩⟩
   case round =>
    clear H'
    try clear hcz18_0
    try clear hcz18_1
    try clear hcz18_2
    try clear hcz20_0
    try clear hcz20_1
    try clear hcz20_2
    try clear hcz26_0
    try clear hcz26_1
    try clear hcz26_2
    try clear hfz18_0
    try clear hfz18_1
    try clear hfz18_2
    try clear hfz20_0
    try clear hfz20_1
    try clear hfz20_2
    try clear hfz26_0
    try clear hfz26_1
    try clear hfz26_2
    obtain ⟨x34_1, x272001_1, u272001, rfl, HA, HK1, HO_32, HO_272000, HO_272001, BK248, BK249, BK271, HB⟩ := hrel
    cases gk with
    | zero => exact absurd HA.out (by simp [gimbalref11_Close.l0])
    | succ k1 =>
     have H := HA.out
     clear HA
     simp only [gimbalref11_Close.l0] at H
     by_cases c28 : x34_1 < (t257.length : Int)
     ·
      rw [if_pos c28] at H
      have c28b0 : decide (x34_1 < (t257.length : Int)) = true := decide_eq_true c28
      clear c28
      by_cases c29 : 0 ≤ x34_1
      ·
       rw [if_pos c29] at H
       have c29b0 : decide (0 ≤ x34_1) = true := decide_eq_true c29
       clear c29
       by_cases c30 : x34_1 < (t257.length : Int)
       ·
        rw [if_pos c30] at H
        have c30b0 : decide (x34_1 < (t257.length : Int)) = true := decide_eq_true c30
        clear c30
        replace H := Option.bind_eq_some_iff.mp H
        obtain ⟨t273, A310, H⟩ := H
        try dsimp only at H
        have A31 := Aside0.mk A310
        clear A310
        by_cases c32 : x272001_1.length < 17592186044416
        ·
         rw [if_pos c32] at H
         have LMc32 := Aside0.mk c32
         clear c32
         obtain ⟨y274, hy274⟩ : ∃ y_ : List Int, y_ = (x272001_1 ++ [t273]) := ⟨_, rfl⟩
         replace H : (gimbalref11_Close.l0 k1 t257 (t257.length : Int) (wrap64 (x34_1 + 1)) t268 y274 false) = some (r1, r2, r3) := by first | (rw [hy274]; with_reducible exact H) | (have H2_ := (Option.bind_some _ _).symm.trans H; rw [hy274]; with_reducible exact H2_) | (have H2_ := (Option.bind_some _ _).symm.trans H; with_reducible exact H2_) | with_reducible exact H | (rw [hy274]; exact H) | exact H
         have Ny274 := Aside0.mk hy274
         clear hy274
         have H' := Aside0.mk H
         clear H
         have p272 : 0 ≤ (x34_1 : Int) := of_decide_eq_true (by first | (with_reducible assumption) | assumption)
         have q272 : x34_1 < (t257.length : Int) := of_decide_eq_true (by first | (with_reducible assumption) | assumption)
         obtain ⟨ad272, e272, hx272_0⟩ := Kd.at_int (Kd.R_reads' HO_32.out).2.2 x34_1 p272 q272
         cases e272
         replace p272 := eq_true p272
         replace q272 := eq_true q272
         try go_wp2
         replace HO_32 := Aside0.mk (Kd.R_drew HO_32.out)
         replace HO_272000 := Aside0.mk (Kd.R_drew HO_272000.out)
         replace HO_272001 := Aside0.mk (Kd.R_drew HO_272001.out)
         replace BK248 := Aside0.mk (blk_drew BK248.out)
         replace BK249 := Aside0.mk (blk_drew BK249.out)
         replace BK271 := Aside0.mk (blk_drew BK271.out)
         replace HB := Aside0.mk (below_drew1 HB.out)
         refine start_ (n := 8) (S := fun w' => w'.cell? ⟨gb271, 0, none⟩ = some (.slice Ao22 t268.length co22) ∧ w'.cell? ⟨gb271, 1, none⟩ = some (u272001) ∧ w'.cell? ⟨gb271, 2, none⟩ = some (.bool false)) (ds := [7]) (mB 8 0) (by kernel_rfl) rfl rfl ⟨(blk_cell BK271.out 0).trans rfl, (blk_cell BK271.out 1).trans rfl, (blk_cell BK271.out 2).trans rfl⟩ (fun hHeld => ?_); refine with_tabW gimbalref11_Close.tab10 gimbalref11_Close.bits10 (fun HT_ HW_ => ?_)
         generalize wr.drew = w33 at HO_32 HO_272000 HO_272001 BK248 BK249 BK271 HB hHeld ⊢
         refine pV_ 0 38 (mB 8 1) HT_ ?_
         refine pV_ 2 40 (mB 8 5) HT_ ?_
         refine tV_ 1 39 (mB 8 7) HT_ HW_ hHeld ?_
         refine on_ 3 (some 41) (mB 8 15) HT_ (fun K hK => ?_)
         refine gs_ Try.func84 #[.int .i64 (rd t257 x34_1)] ?_
         with_reducible refine (gimbalref11_clip.calls (rd t257 x34_1) t273 _ A31.out).mono ?_
         rintro e w' ⟨rfl, ⟨nd, rfl⟩⟩
         refine ⟨_, rfl, ?_⟩
         refine hK.out _ _ ⟨(blk_cell BK271.out 0).trans rfl, (blk_cell BK271.out 1).trans rfl, (blk_cell BK271.out 2).trans rfl⟩ (fun hHeld => ?_)
         clear hK K
         refine norm_ (a' := ?_) ?_ ?_
         rotate_left
         ·
          show Act.put _ (some 41) _ = _
          simp only [Act.put, List.setIfInBounds_toArray, List.set_cons_zero, List.set_cons_succ, i64_w, i32_w]
          rfl
         refine on_ 4 (some 42) (mB 8 31) HT_ (fun K hK => ?_)
         refine value_ (w1 := ?_) (v := ?_) (by rfl) rfl ?_ ?_
         rotate_left 2
         ·
          go_simp
          constructor
          ·
           rfl
          ·
           rfl
         refine hK.out _ _ ⟨(blk_cell (blk_alloc BK271.out _) 0).trans rfl, (blk_cell (blk_alloc BK271.out _) 1).trans rfl, (blk_cell (blk_alloc BK271.out _) 2).trans rfl⟩ (fun hHeld => ?_)
         clear hK K
         refine norm_ (a' := ?_) ?_ ?_
         rotate_left
         ·
          show Act.put _ (some 42) _ = _
          simp only [Act.put, List.setIfInBounds_toArray, List.set_cons_zero, List.set_cons_succ, i64_w, i32_w]
          rfl
         refine on_ 5 (some 43) (mB 8 63) HT_ (fun K hK => ?_)
         refine Kd.R_append_step (Kd.int .i64) (w0 := w) w.heap.size (by rfl) (.tmp 39) (.tmp 42) 23 2 (.int .i64 0) 8 rfl Try.underlying23 info2 rfl (by decide) (by omega) u272001 x272001_1 t273 [.int .i64 t273] (fun k_ => some k_ ≠ (.slice (some ad272) t257.length co27 : Value).ownBlock) (fun _ => False) rfl rfl ?aP (fun _ hk => hk.elim) ?aF ?aO ?aB ?aS ?aL ?_
         (case aP => exact rfl)
         (case aB => exact (vW HB.out))
         (case aF => exact (fun k_ hk => Kd.fresh' (Kd.R_lt (vR HO_32.out)) k_ hk))
         (case aO => exact (vR HO_272001.out))
         (case aS => exact (below_size (vW HB.out)))
         (case aL => have := LMc32.out; omega)
         intro v275 w34 ho hb hg hat
         rw [← Ny274.out] at ho
         replace HO_32 := Aside0.mk (Kd.R_after (ok := (fun _ => True)) (by (with_reducible repeat (first | apply Kd.R_alloc | apply Kd.R_drewN | apply Kd.R_drew)); exact Kd.R_mono HO_32.out (fun _ hk => ⟨trivial, hk⟩)) hg hat)
         replace HO_272000 := Aside0.mk (Kd.R_over' (vR HO_272000.out) (Kd.R_typed (vR HO_272001.out)) (by decide) hg)
         replace BK248 := Aside0.mk (blk_grown (g := gb248) (o := .cells #[.slice A0_0 l0_0.length c0_0, .slice A0_1 l0_1.length c0_1, .bool false] 25 (0, 0)) (vB BK248.out) hg (Kd.R_ne HO_272001.out BK248.out (by decide)))
         replace BK249 := Aside0.mk (blk_grown (g := gb249) (o := .cells #[.slice none 0 0, .slice none 0 0, .bool false] 25 (0, 0)) (vB BK249.out) hg (Kd.R_ne HO_272001.out BK249.out (by decide)))
         replace BK271 := Aside0.mk (blk_grown (g := gb271) (o := .cells #[.slice Ao22 t268.length co22, u272001, .bool false] 25 (0, 0)) (vB BK271.out) hg (Kd.R_ne HO_272001.out BK271.out (by decide)))
         replace HB := Aside0.mk (hb)
         have HO276 := Aside0.mk (ho)
         clear HO_272001
         clear ho hb hg hat
         obtain ⟨Ao35, co35, eo35⟩ := Kd.R_slice HO276.out
         (first | subst eo35 | (injection eo35 with f1_ f2_ f3_; have f4_ := f1_.symm; have f5_ := f3_.symm; clear f1_ f2_ f3_; subst f4_; subst f5_))
         refine hK.out _ _ ⟨(blk_cell BK271.out 0).trans rfl, (blk_cell BK271.out 1).trans rfl, (blk_cell BK271.out 2).trans rfl⟩ (fun hHeld => ?_)
         clear hK K
         refine norm_ (a' := ?_) ?_ ?_
         rotate_left
         ·
          show Act.put _ (some 43) _ = _
          simp only [Act.put, List.setIfInBounds_toArray, List.set_cons_zero, List.set_cons_succ, i64_w, i32_w]
          rfl
         refine pV_ 6 44 (mB 8 127) HT_ ?_
         refine la_ 7 (mB 8 255) HT_ (fun K hK => ?_)
         have hs36 : w34.cell? ⟨gb271, 1, none⟩ = some (u272001) := (blk_cell BK271.out 1).trans rfl
         have hfs36 := blk_frozen BK271.out 1
         have hns36_0 := NB248_271.out
         have hns36_1 := NB249_271.out
         have hms36_0 := NB271_248.out
         have hms36_1 := NB271_249.out
         refine skip_ (w1 := ?_) (by rfl) rfl ?_ ?_
         rotate_left
         ·
          go_simp
          rfl
         refine hK.out _ _ ?_
         clear hK K
         refine dn_ HT_ ?_
         try go_wp2
         go_roundg k1
         case measure => have := HK1.out; omega
         case rel => exact ⟨(wrap64 (x34_1 + 1)), (y274), (.slice Ao35 y274.length co35), (by first | rfl | (simp; done) | (simp [*]; done)), H', ⟨by have := HK1.out; omega⟩, ⟨by (with_reducible repeat (first | apply Kd.R_alloc | apply Kd.R_drewN | apply Kd.R_drew)); exact Kd.R_mono (Kd.R_far (p := ⟨gb271, 1, none⟩) (Kd.R_types HO_32.out BK271.out (by decide)) (fun _ hk => hk.2) (.slice Ao35 y274.length co35)) (fun _ hk => hk.1.2)⟩, ⟨vTt HO_272000.out BK271.out⟩, ⟨vT HO276.out BK271.out⟩, ⟨vB BK248.out⟩, ⟨vB BK249.out⟩, ⟨vP1 BK271.out⟩, ⟨vW HB.out⟩⟩
        ·
         rw [if_neg c32] at H
         exact absurd H (by simp)
       ·
        rw [if_neg c30] at H
        exact absurd H (by simp)
      ·
       rw [if_neg c29] at H
       exact absurd H (by simp)
     ·
      rw [if_neg c28] at H
      have c28b0 : decide (x34_1 < (t257.length : Int)) = false := decide_eq_false c28
      clear c28
      simp only [Option.some.injEq, Prod.mk.injEq] at H
      obtain ⟨rfl, rfl, rfl⟩ := H
      have hnb37 := NB271_248.out
      have hnc37 := NB248_271.out
      have hnb38 := NB271_249.out
      have hnc38 := NB249_271.out
      obtain ⟨hcz39_0, hcz39_1, hcz39_2, hfz39_0, hfz39_1, hfz39_2⟩ := vF3 BK271.out
      have hnb40 := NB249_248.out
      have hnc40 := NB248_249.out
      obtain ⟨hcz41_0, hcz41_1, hcz41_2, hfz41_0, hfz41_1, hfz41_2⟩ := vF3 BK249.out
      obtain ⟨Ao42, co42, eo42⟩ := Kd.R_slice HO_272001.out
      subst eo42
      go_wp2
      refine bodyPost_ret (results_cell_row rfl _ _ gb249 25 #[.slice Ao22 t268.length co22, .slice Ao42 x272001_1.length co42, .bool false] (0, 0) _ rfl (vP3 BK249.out) Try.underlying25 rfl (by kernel_rfl)) rfl ?_
      exact ⟨_, _, vE, vTt HO_272000.out BK249.out, vTt HO_272001.out BK249.out, vW HB.out⟩
  ·
   replace c13 := Bool.eq_false_iff.mpr c13
   subst c13
   rw [if_neg (show ¬ (false = true) by decide)] at H
   try dsimp only at H
   replace H := Option.bind_eq_some_iff.mp H
   obtain ⟨⟨t261, t264, t267⟩, A430, H⟩ := H
   try dsimp only at H
   have A43 := Aside0.mk A430
   clear A430
   simp only [Option.some.injEq, Prod.mk.injEq] at H
   obtain ⟨rfl, rfl, rfl⟩ := H
   go_enter Try.func38, Try.ntmps38
   go_wp2_with (first | ((with_reducible refine gate_dst (N := 1) rfl ?_); refine bx_ 1 #[.slice A0_0 l0_0.length c0_0, .slice A0_1 l0_1.length c0_1, .bool false] 25 ?_; intro gb248 hg w44 hbox hb; have BK248 := Aside0.mk (hbox); have GW248 := vS hg HB; have GE248 := vS hg HB; replace HB := vWs HB hb; clear hb hbox hg) | ((with_reducible refine gate_dst (N := 2) rfl ?_); refine bx_ 2 #[.slice none 0 0, .slice none 0 0, .bool false] 25 ?_; intro gb249 hg w45 hbox hb; have BK249 := Aside0.mk (hbox); have GW249 := vS hg HB; have GE249 := vS hg HB; replace HB := vWs HB hb; have NB248_249 := vNl hg BK248; have NB249_248 := vNg hg BK248; replace BK248 := vBb BK248 hb; clear hb hbox hg; have hnb46 := NB248_249.out; have hnc46 := NB249_248.out; obtain ⟨hcz47_0, hcz47_1, hcz47_2, hfz47_0, hfz47_1, hfz47_2⟩ := vF3 BK248.out) | ((with_reducible refine gate_callee (f := 82) rfl ?_); refine gl_ (some 20) Try.func82 #[.slice A0_1 l0_1.length c0_1, .int .i64 (wrap64 (2 * (l0_0.length : Int)))] ?_; (with_reducible refine (gimbalref11_Tight.calls k _ _ l0_1 (wrap64 (2 * (l0_0.length : Int))) t257 false _ ?side1 ?side2 A12.out).mono ?_); (case side1 => exact vC (Kd.C_below HR0_1.out HB.out)); (case side2 => exact HC0_1.out); rintro e w48 ⟨v259, rfl, ho0, hb⟩; refine ⟨_, rfl, ?_⟩; have HO260 := Aside0.mk (Kd.R_lower ho0 (below_size (vW HB.out))); replace BK248 := vBb BK248 hb; replace BK249 := vBb BK249 hb; replace HB := vWs HB hb; (try clear hb); (try clear hb2); (try clear hk); (try clear hi); (try clear ho0); obtain ⟨hcz49_0, hcz49_1, hcz49_2, hfz49_0, hfz49_1, hfz49_2⟩ := vF3 BK248.out) | ((with_reducible refine gate_callee (f := 65) rfl ?_); refine gl_ (some 27) Try.func65 #[.slice A0_0 l0_0.length c0_0] ?_; (with_reducible refine (gimbalref11_Bottom.calls _ _ l0_0 t261 t264 t267 _ ?side1 ?side2 A43.out).mono ?_); (case side1 => exact vC (Kd.C_below HR0_0.out HB.out)); (case side2 => exact HC0_0.out); rintro e w50 ⟨v262, v265, rfl, ho0, ho1, hb⟩; refine ⟨_, rfl, ?_⟩; have HO263 := Aside0.mk (Kd.R_lower ho0 (below_size (vW HB.out))); have HO266 := Aside0.mk (Kd.R_lower (Kd.R_new' ho1 (Kd.R_lt (vR HO260.out))) (below_size (vW HB.out))); replace HO260 := Aside0.mk (Kd.R_elder' (vR HO260.out) (Kd.R_base ho1) hb); replace BK248 := vBb BK248 hb; replace BK249 := vBb BK249 hb; replace HB := vWs HB hb; (try clear hb); (try clear hb2); (try clear hk); (try clear hi); (try clear ho0); (try clear ho1); obtain ⟨Ao51, co51, eo51⟩ := Kd.R_slice HO263.out; subst eo51; obtain ⟨hcz52_0, hcz52_1, hcz52_2, hfz52_0, hfz52_1, hfz52_2⟩ := vF3 BK249.out; obtain ⟨Ao53, co53, eo53⟩ := Kd.R_slice HO266.out; subst eo53))
   refine bodyPost_ret (results_cell_row rfl _ _ gb249 25 #[.slice Ao51 t261.length co51, .slice Ao53 t264.length co53, .bool t267] (0, 0) _ rfl (vP3 BK249.out) Try.underlying25 rfl (by kernel_rfl)) rfl ?_
   exact ⟨_, _, vE, vTt HO263.out BK249.out, vTt HO266.out BK249.out, vW HB.out⟩
def oct_most.f (k : Nat) (l0_0 : List Int) (l0_1 : List Int) (a0_2 : Bool) (a1_0 a1_1 a1_2 a1_3 a1_4 : Int) : Option Int :=
 if a1_1 = 0 then some 0 else (oct_node.f k l0_0 l0_1 a0_2 a1_0 a1_1).bind fun x =>
  if l0_0.length ≤ 8 ∧ (l0_1.length : Int) = (2 * (l0_0.length : Int)) * (2 * (l0_0.length : Int)) ∧ 0 ≤ x ∧ x < 2 * (l0_0.length : Int) then
   (if a1_3 = 0 then bound_Half.f (lowAt (2 * (l0_0.length : Int)) l0_1 (nbar x) x)
    else (oct_node.f k l0_0 l0_1 a0_2 a1_2 a1_3).bind fun y => if 0 ≤ y ∧ y < 2 * (l0_0.length : Int) then some (lowAt (2 * (l0_0.length : Int)) l0_1 (nbar x) y) else none)
  else none
theorem oct_most.mono : ∀ a0 a1 a2 a3 a4 a5 a6 a7 k, LeO (oct_most.f k a0 a1 a2 a3 a4 a5 a6 a7) (oct_most.f (k + 1) a0 a1 a2 a3 a4 a5 a6 a7) := by
 intro a0 a1 a2 a3 a4 a5 a6 a7 k
 unfold oct_most.f
 repeat' first
  | (with_reducible exact oct_node.mono _ _ _ _ _ _)
  | (with_reducible exact LeO.refl _)
  | (with_reducible exact LeO.none _)
  | (with_reducible refine LeO.ite ?_ ?_)
  | (with_reducible refine LeO.bind ?_ (fun _ => ?_))
theorem nil_at (m : Int) (A : Option Addr) (n c : Nat) (w : World) : (nilAhead 234 102 (.agg #[.int .i64 m, .slice A n c]) "gimbal/oct.at").run Try.prog w = .ok (some false) w := by kernel_rfl
structure MB (w : World) (bo bl : Nat) (A0 : Option Addr) (n0 c0 : Nat) (A1 : Option Addr) (n1 c1 : Nat) (e : Bool) (x0 x1 x2 x3 x4 : Int) (W : World) : Prop where
 below : Below w.heap.size w W
 bo : W.heap[bo]? = some (.cells #[.slice A0 n0 c0, .slice A1 n1 c1, .bool e] 25 (0, 0))
 bl : W.heap[bl]? = some (.cells #[.int .i64 x0, .int .i64 x1, .int .i64 x2, .int .i64 x3, .int .i64 x4] 34 (0, 0))
theorem MB.next {w : World} {bo bl : Nat} {A0 : Option Addr} {n0 c0 : Nat} {A1 : Option Addr} {n1 c1 : Nat} {e : Bool} {x0 x1 x2 x3 x4 : Int} {W W' : World} (h : MB w bo bl A0 n0 c0 A1 n1 c1 e x0 x1 x2 x3 x4 W) (hb : Below W.heap.size W W') : MB w bo bl A0 n0 c0 A1 n1 c1 e x0 x1 x2 x3 x4 W' :=
 ⟨h.below.trans (hb.mono h.below.size), (hb.block _ (Array.getElem?_eq_some_iff.1 h.bo).1).trans h.bo, (hb.block _ (Array.getElem?_eq_some_iff.1 h.bl).1).trans h.bl⟩
theorem MB.cells {w : World} {bo bl : Nat} {A0 : Option Addr} {n0 c0 : Nat} {A1 : Option Addr} {n1 c1 : Nat} {e : Bool} {x0 x1 x2 x3 x4 : Int} {W : World} (h : MB w bo bl A0 n0 c0 A1 n1 c1 e x0 x1 x2 x3 x4 W) :
 W.cell? ⟨bo, 0, none⟩ = some (.slice A0 n0 c0) ∧ W.cell? ⟨bo, 1, none⟩ = some (.slice A1 n1 c1) ∧ W.cell? ⟨bo, 2, none⟩ = some (.bool e) ∧ W.cell? ⟨bl, 0, none⟩ = some (.int .i64 x0) ∧ W.cell? ⟨bl, 1, none⟩ = some (.int .i64 x1) ∧ W.cell? ⟨bl, 2, none⟩ = some (.int .i64 x2) ∧ W.cell? ⟨bl, 3, none⟩ = some (.int .i64 x3) := by
 refine ⟨?_, ?_, ?_, ?_, ?_, ?_, ?_⟩ <;> first | (simp only [World.cell?, h.bo]; rfl) | (simp only [World.cell?, h.bl]; rfl)
theorem oct_most.calls (k : Nat) (A0_0 : Option Addr) (c0_0 : Nat) (l0_0 : List Int) (A0_1 : Option Addr) (c0_1 : Nat) (l0_1 : List Int) (a0_2 : Bool) (a1_0 a1_1 a1_2 a1_3 a1_4 : Int) (r : Int) (w : World) (hr0_0 : Kd.C (Kd.int .i64) w A0_0 l0_0.length l0_0) (hc0_0 : l0_0.length ≤ c0_0) (hr0_1 : Kd.C (Kd.int .i64) w A0_1 l0_1.length l0_1) (hc0_1 : l0_1.length ≤ c0_1) (h : oct_most.f k l0_0 l0_1 a0_2 a1_0 a1_1 a1_2 a1_3 a1_4 = some r) :
 Calls Try.prog 114 #[.agg #[.slice A0_0 l0_0.length c0_0, .slice A0_1 l0_1.length c0_1, .bool a0_2], .agg #[.int .i64 a1_0, .int .i64 a1_1, .int .i64 a1_2, .int .i64 a1_3, .int .i64 a1_4]] w fun e w' => e = .returned (.int .i64 r) ∧ Below w.heap.size w w' := by
 have hu25 := Try.underlying25
 have hu49 := Try.underlying34
 have HR0 := Aside0.mk hr0_0
 have HR1 := Aside0.mk hr0_1
 have HC0 := Aside0.mk hc0_0
 have HC1 := Aside0.mk hc0_1
 clear hr0_0 hr0_1 hc0_0 hc0_1
 unfold oct_most.f at h
 by_cases c1 : a1_1 = 0
 ·
  rw [if_pos c1] at h
  obtain rfl := Option.some.inj h
  have b1 : (a1_1 == 0) = true := by simpa using c1
  clear h c1
  go_enter Try.func114, Try.ntmps114
  go_wp2
  go_ret
  exact ⟨rfl, by repeat (first | exact Below.refl _ _ | apply below_alloc | apply pw_below_drewN)⟩
 ·
  rw [if_neg c1] at h
  have b1 : (a1_1 == 0) = false := by simpa using c1
  clear c1
  obtain ⟨x, hx, h⟩ := Option.bind_eq_some_iff.mp h
  have HX := Aside0.mk hx
  clear hx
  by_cases c2 : l0_0.length ≤ 8 ∧ (l0_1.length : Int) = (2 * (l0_0.length : Int)) * (2 * (l0_0.length : Int)) ∧ 0 ≤ x ∧ x < 2 * (l0_0.length : Int)
  ·
   rw [if_pos c2] at h
   obtain ⟨hn, hm, x0, x1⟩ := c2
   have CN := Aside0.mk (fun W (hW : Below w.heap.size w W) => oct_node.calls k A0_0 c0_0 l0_0 A0_1 c0_1 l0_1 a0_2 a1_0 a1_1 x W (Kd.C_below HR0.out hW) HC0.out (Kd.C_below HR1.out hW) HC1.out HX.out)
   have CO := Aside0.mk (fun W => oct_of_any A0_0 l0_0.length c0_0 A0_1 l0_1.length c0_1 a0_2 W (by omega))
   have b0 : oct_bar.f x = some (nbar x) := by unfold oct_bar.f; rw [if_pos ⟨x0, by omega⟩]
   have CB := Aside0.mk (fun W => oct_bar_still x (nbar x) W b0)
   have nx := nbar_in (i := x) (n := l0_0.length) x0 x1
   have hma := meth_at
   have hna := nil_at
   obtain ⟨nn, hnn⟩ : ∃ nn : Int, 2 * (l0_0.length : Int) = nn := ⟨_, rfl⟩
   by_cases c3 : a1_3 = 0
   ·
    rw [if_pos c3] at h
    have b3 : (a1_3 == 0) = true := by simpa using c3
    obtain ⟨v, hv⟩ : ∃ v, lowAt (2 * (l0_0.length : Int)) l0_1 (nbar x) x = v := ⟨_, rfl⟩
    have CA := Aside0.mk (fun W (hW : Below w.heap.size w W) => oct_lower_at_any l0_0.length A0_1 c0_1 l0_1 (nbar x) x W (Kd.C_below HR1.out hW) HC1.out hn hm nx.1 nx.2 x0 x1)
    rw [hv] at h CA
    have CH := Aside0.mk (fun W => bound_Half.calls v r W h)
    unfold tableV at CO
    rw [hnn] at CO CA
    clear h c3 hn hm x0 x1 b0 nx hnn hv hu49
    go_enter Try.func114, Try.ntmps114
    go_wp2
    obtain ⟨W2, hW2⟩ : ∃ W2, (w.alloc (.cells #[.slice A0_0 l0_0.length c0_0, .slice A0_1 l0_1.length c0_1, .bool a0_2] 25)).alloc (.cells #[.int .i64 a1_0, .int .i64 a1_1, .int .i64 a1_2, .int .i64 a1_3, .int .i64 a1_4] 34) = W2 := ⟨_, rfl⟩
    obtain ⟨bo, hbo⟩ : ∃ bo, w.heap.size = bo := ⟨_, rfl⟩
    obtain ⟨bl, hbl⟩ : ∃ bl, w.heap.size + 1 = bl := ⟨_, rfl⟩
    have HM : Aside0 (MB w bo bl A0_0 l0_0.length c0_0 A0_1 l0_1.length c0_1 a0_2 a1_0 a1_1 a1_2 a1_3 a1_4 W2) := ⟨by
     refine ⟨?_, ?_, ?_⟩
     ·
      rw [← hW2]; exact below_alloc (below_alloc (Below.refl _ _) _) _
     ·
      rw [← hW2, ← hbo]; exact ((below_alloc (Below.refl _ _) _).block _ (by simp)).trans (blk_new _ _)
     ·
      rw [← hW2, ← hbl]; have h := blk_new (w.alloc (.cells #[.slice A0_0 l0_0.length c0_0, .slice A0_1 l0_1.length c0_1, .bool a0_2] 25)) (.cells #[.int .i64 a1_0, .int .i64 a1_1, .int .i64 a1_2, .int .i64 a1_3, .int .i64 a1_4] 34); rw [World.size_alloc] at h; exact h⟩
    obtain ⟨k0, k1, k2, k3, k4, k5, k6⟩ := HM.out.cells
    rw [hW2, hbl, hbo]
    clear hW2 hbl hbo
    go_region_held3 (fun w' => w'.cell? ⟨bo, 0, none⟩ = some (.slice A0_0 l0_0.length c0_0) ∧ w'.cell? ⟨bo, 1, none⟩ = some (.slice A0_1 l0_1.length c0_1) ∧ w'.cell? ⟨bo, 2, none⟩ = some (.bool a0_2) ∧ w'.cell? ⟨bl, 0, none⟩ = some (.int .i64 a1_0) ∧ w'.cell? ⟨bl, 1, none⟩ = some (.int .i64 a1_1)) (first | go_keep | exact KS)
     (first
      | (go_at_call 80; (with_reducible refine (CO.out _).mono ?_); rintro e w1 ⟨rfl, hb⟩; have HM1 := Aside0.mk (MB.next (MB.next HM.out (below_drew (Below.refl _ _))) hb); have KS := (⟨HM1.out.cells.1, HM1.out.cells.2.1, HM1.out.cells.2.2.1, HM1.out.cells.2.2.2.1, HM1.out.cells.2.2.2.2.1⟩ : _ ∧ _ ∧ _ ∧ _ ∧ _); clear hb)
      | (go_at_call 112; (with_reducible refine (CN.out _ HM1.out.below).mono ?_); rintro e w2 ⟨rfl, hb⟩; have HM2 := Aside0.mk (MB.next HM1.out hb); clear KS; have KS := (⟨HM2.out.cells.1, HM2.out.cells.2.1, HM2.out.cells.2.2.1, HM2.out.cells.2.2.2.1, HM2.out.cells.2.2.2.2.1⟩ : _ ∧ _ ∧ _ ∧ _ ∧ _); clear hb))
    clear KS k0 k1 k2 k3 k4 k5 k6
    obtain ⟨k0, k1, k2, k3, k4, k5, k6⟩ := HM2.out.cells
    clear CN CO HM HM1
    go_wp2
    go_region_held3 (fun w' => True) (first | go_keep | trivial)
     (first
      | (go_at_call 94; (with_reducible refine (CB.out _).mono ?_); rintro e w' ⟨rfl, rfl⟩)
      | (go_at_call 145; (with_reducible refine (CA.out _ (MB.next HM2.out (below_drew (Below.refl _ _))).below).mono ?_); rintro e w3 ⟨rfl, hb⟩; have HM3 := Aside0.mk (MB.next (MB.next HM2.out (below_drew (Below.refl _ _))) hb); clear hb)
      | (go_at_call 95; (with_reducible refine (CH.out _).mono ?_); rintro e w4 ⟨rfl, hb⟩; have HM4 := Aside0.mk (MB.next HM3.out hb.below); clear hb))
    all_goals go_wp2
    all_goals go_ret
    all_goals exact ⟨rfl, HM4.out.below⟩
   ·
    rw [if_neg c3] at h
    have b3 : (a1_3 == 0) = false := by simpa using c3
    obtain ⟨y, hy, h⟩ := Option.bind_eq_some_iff.mp h
    by_cases c4 : 0 ≤ y ∧ y < 2 * (l0_0.length : Int)
    ·
     rw [if_pos c4] at h
     obtain ⟨y0, y1⟩ := c4
     have hv := Option.some.inj h
     have CA := Aside0.mk (fun W (hW : Below w.heap.size w W) => oct_lower_at_any l0_0.length A0_1 c0_1 l0_1 (nbar x) y W (Kd.C_below HR1.out hW) HC1.out hn hm nx.1 nx.2 y0 y1)
     have CN2 := Aside0.mk (fun W (hW : Below w.heap.size w W) => oct_node.calls k A0_0 c0_0 l0_0 A0_1 c0_1 l0_1 a0_2 a1_2 a1_3 y W (Kd.C_below HR0.out hW) HC0.out (Kd.C_below HR1.out hW) HC1.out hy)
     rw [hv] at CA
     unfold tableV at CO
     rw [hnn] at CO CA
     clear h c3 hn hm x0 x1 b0 nx hnn hv hu49 y0 y1 hy
     go_enter Try.func114, Try.ntmps114
     go_wp2
     obtain ⟨W2, hW2⟩ : ∃ W2, (w.alloc (.cells #[.slice A0_0 l0_0.length c0_0, .slice A0_1 l0_1.length c0_1, .bool a0_2] 25)).alloc (.cells #[.int .i64 a1_0, .int .i64 a1_1, .int .i64 a1_2, .int .i64 a1_3, .int .i64 a1_4] 34) = W2 := ⟨_, rfl⟩
     obtain ⟨bo, hbo⟩ : ∃ bo, w.heap.size = bo := ⟨_, rfl⟩
     obtain ⟨bl, hbl⟩ : ∃ bl, w.heap.size + 1 = bl := ⟨_, rfl⟩
     have HM : Aside0 (MB w bo bl A0_0 l0_0.length c0_0 A0_1 l0_1.length c0_1 a0_2 a1_0 a1_1 a1_2 a1_3 a1_4 W2) := ⟨by
      refine ⟨?_, ?_, ?_⟩
      ·
       rw [← hW2]; exact below_alloc (below_alloc (Below.refl _ _) _) _
      ·
       rw [← hW2, ← hbo]; exact ((below_alloc (Below.refl _ _) _).block _ (by simp)).trans (blk_new _ _)
      ·
       rw [← hW2, ← hbl]; have h := blk_new (w.alloc (.cells #[.slice A0_0 l0_0.length c0_0, .slice A0_1 l0_1.length c0_1, .bool a0_2] 25)) (.cells #[.int .i64 a1_0, .int .i64 a1_1, .int .i64 a1_2, .int .i64 a1_3, .int .i64 a1_4] 34); rw [World.size_alloc] at h; exact h⟩
     obtain ⟨k0, k1, k2, k3, k4, k5, k6⟩ := HM.out.cells
     rw [hW2, hbl, hbo]
     clear hW2 hbl hbo
     go_region_held3 (fun w' => w'.cell? ⟨bo, 0, none⟩ = some (.slice A0_0 l0_0.length c0_0) ∧ w'.cell? ⟨bo, 1, none⟩ = some (.slice A0_1 l0_1.length c0_1) ∧ w'.cell? ⟨bo, 2, none⟩ = some (.bool a0_2) ∧ w'.cell? ⟨bl, 0, none⟩ = some (.int .i64 a1_0) ∧ w'.cell? ⟨bl, 1, none⟩ = some (.int .i64 a1_1)) (first | go_keep | exact KS)
      (first
       | (go_at_call 80; (with_reducible refine (CO.out _).mono ?_); rintro e w1 ⟨rfl, hb⟩; have HM1 := Aside0.mk (MB.next (MB.next HM.out (below_drew (Below.refl _ _))) hb); have KS := (⟨HM1.out.cells.1, HM1.out.cells.2.1, HM1.out.cells.2.2.1, HM1.out.cells.2.2.2.1, HM1.out.cells.2.2.2.2.1⟩ : _ ∧ _ ∧ _ ∧ _ ∧ _); clear hb)
       | (go_at_call 112; (with_reducible refine (CN.out _ HM1.out.below).mono ?_); rintro e w2 ⟨rfl, hb⟩; have HM2 := Aside0.mk (MB.next HM1.out hb); clear KS; have KS := (⟨HM2.out.cells.1, HM2.out.cells.2.1, HM2.out.cells.2.2.1, HM2.out.cells.2.2.2.1, HM2.out.cells.2.2.2.2.1⟩ : _ ∧ _ ∧ _ ∧ _ ∧ _); clear hb))
     clear KS k0 k1 k2 k3 k4 k5 k6
     obtain ⟨k0, k1, k2, k3, k4, k5, k6⟩ := HM2.out.cells
     clear CN CO HM HM1
     go_wp2
     go_region_held3 (fun w' => w'.cell? ⟨bo, 0, none⟩ = some (.slice A0_0 l0_0.length c0_0) ∧ w'.cell? ⟨bo, 1, none⟩ = some (.slice A0_1 l0_1.length c0_1) ∧ w'.cell? ⟨bo, 2, none⟩ = some (.bool a0_2) ∧ w'.cell? ⟨bl, 2, none⟩ = some (.int .i64 a1_2) ∧ w'.cell? ⟨bl, 3, none⟩ = some (.int .i64 a1_3)) (first | go_keep | exact KS)
      (first
       | (go_at_call 94; (with_reducible refine (CB.out _).mono ?_); rintro e w' ⟨rfl, rfl⟩)
       | (go_at_call 112; (with_reducible refine (CN2.out _ (MB.next HM2.out (below_drew (Below.refl _ _))).below).mono ?_); rintro e w3 ⟨rfl, hb⟩; have HM3 := Aside0.mk (MB.next (MB.next HM2.out (below_drew (Below.refl _ _))) hb); have KS := (⟨HM3.out.cells.1, HM3.out.cells.2.1, HM3.out.cells.2.2.1, HM3.out.cells.2.2.2.2.2.1, HM3.out.cells.2.2.2.2.2.2⟩ : _ ∧ _ ∧ _ ∧ _ ∧ _); clear hb)
       | (go_at_call 145; (with_reducible refine (CA.out _ HM3.out.below).mono ?_); rintro e w4 ⟨rfl, hb⟩; have HM4 := Aside0.mk (MB.next HM3.out hb); clear KS; have KS := (⟨HM4.out.cells.1, HM4.out.cells.2.1, HM4.out.cells.2.2.1, HM4.out.cells.2.2.2.2.2.1, HM4.out.cells.2.2.2.2.2.2⟩ : _ ∧ _ ∧ _ ∧ _ ∧ _); clear hb))
     all_goals go_wp2
     all_goals go_ret
     all_goals exact ⟨rfl, HM4.out.below⟩
    ·
     rw [if_neg c4] at h; cases h
  ·
   rw [if_neg c2] at h; cases h
end Go.Proofs.Ytphfchbggechhaa.QO
end
end
