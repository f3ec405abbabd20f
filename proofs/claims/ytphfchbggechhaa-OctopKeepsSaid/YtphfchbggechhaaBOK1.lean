/- Own texts of this claim, joined: QOx0, QOx1093, QOx1094, QOx1100, QOx1078, QOx1080, QOx1104, QOx1060, QOx1096, QOx1058, QOx1123, QOx1095, QOx1097, QOx1052, QOx1028, QOx1125, QOx1112, QOx1107, QOx1113, QOx1061, QOx1046, QOx1083, QOx1065, QOx1047, QOx1118, QOx1119, QOx1082, QOx1084, QOx1038, QOx1114, QOx1091, QOx1101, QOx1102, QOx1057, QOx1070, QOx1117, QOx1081, QOx1033, QOx1076, QOx1077 -/
import Derived.Test.YtphfchbggechhaaBOK0
import Derived.Test.YtphfchbggechhaaProg
import Derived.Below
import Derived.Deep.Draws
import Derived.Deep.AppendLies
import Derived.Maps.AppendAt
import Derived.OwnWalk
import Derived.Laws.BytesArg
import Derived.Laws.MakeOwn
import Derived.Laws.OwnMore
import Derived.Deep.OwnRows
import Derived.Tactics
import Derived.Lib.ConvBytes
import Derived.Laws.Slices
import Derived.WalkKit
import Derived.KernelRfl
import Derived.RowKit3
import Derived.Deep.LoopGhost
import Derived.Deep.QuietTactic
import Derived.BigQuiet
import Derived.WideLaws
import Derived.Deep.DeepCutAuto
import Derived.Deep.CutBlock
import Derived.Deep.RegionHeld3
import Derived.Laws.Rows
import Derived.Lib.AppendStr
import Derived.ArgAppend
import Derived.Laws.IdiomCopy
import Derived.OrdersHeld
import Derived.Laws.BitsLemmas
import Derived.RowKit
import Derived.Deep.Cut
import Derived.Shelf.Abstract
import Derived.Lib.SliceRun
import Derived.WalkSpells
import Derived.Laws.Externs
import Derived.StillTailTactics
import GoSem.Extern.MathBitsCarry
set_option maxRecDepth 100000
set_option maxHeartbeats 16000000
section
namespace Go.Proofs.Ytphfchbggechhaa.QO
open Go.RowKit YtphfchbggechhaaW.PrintWords YtphfchbggechhaaW.PrintLast
set_option linter.unusedVariables false
set_option linter.unusedSimpArgs false
def errW : Option Int → Value
 | none => .nilIface
 | some c => .iface 0 (.int .i64 c)
theorem errW_none : errW none = .nilIface := rfl
theorem errW_some (c : Int) : errW (some c) = .iface 0 (.int .i64 c) := rfl
theorem info2 : (Try.prog.info? 2).map (fun i => (i.zero, i.size, i.bytes)) = some (some (.int .i64 0), 1, 8) := by kernel_rfl
theorem info3 : (Try.prog.info? 3).map (fun i => (i.zero, i.size, i.bytes)) = some (some (.int .i64 0), 1, 8) := by kernel_rfl
-- the values' own types
end Go.Proofs.Ytphfchbggechhaa.QO
end
section
noncomputable section
namespace Go.Proofs.Ytphfchbggechhaa.QO
open Go.RowKit YtphfchbggechhaaW.PrintWords YtphfchbggechhaaW.PrintLast
set_option linter.unusedVariables false
set_option linter.unusedSimpArgs false
def oct_full_at.f (a0_0 : Int) (l0_1 : List Int) (a1 : Int) (a2 : Int) : Option Int :=
 if 0 ≤ a0_0 ∧ a0_0 ≤ 16 ∧ 0 ≤ a1 ∧ a1 < 16 ∧ 0 ≤ a2 ∧ a2 < 16 ∧ a1 * a0_0 + a2 < l0_1.length then some (rd l0_1 (a1 * a0_0 + a2)) else none
theorem mul_in {a b : Int} (h0 : 0 ≤ a) (h1 : a ≤ 16) (h2 : 0 ≤ b) (h3 : b ≤ 16) : 0 ≤ b * a ∧ b * a ≤ 256 :=
 ⟨Int.mul_nonneg h2 h0, Int.le_trans (Int.mul_le_mul_of_nonneg_left h1 h2) (by omega)⟩
theorem oct_full_at.calls (a0_0 : Int) (A0_1 : Option Addr) (c0_1 : Nat) (l0_1 : List Int) (a1 : Int) (a2 : Int) (r : Int) (w : World) (hr0_1 : Kd.C (Kd.int .i64) w A0_1 l0_1.length l0_1) (hc0_1 : l0_1.length ≤ c0_1) (h : oct_full_at.f a0_0 l0_1 a1 a2 = some r) :
 Calls Try.prog 93 #[.agg #[.int .i64 a0_0, .slice A0_1 l0_1.length c0_1], .int .i64 a1, .int .i64 a2] w fun e w' => e = .returned (.int .i64 r) ∧ Below w.heap.size w w' := by
 have hu25 := Try.underlying95
 clear hc0_1
 unfold oct_full_at.f at h
 by_cases hc : 0 ≤ a0_0 ∧ a0_0 ≤ 16 ∧ 0 ≤ a1 ∧ a1 < 16 ∧ 0 ≤ a2 ∧ a2 < 16 ∧ a1 * a0_0 + a2 < l0_1.length
 ·
  rw [if_pos hc] at h
  obtain rfl := Option.some.inj h
  clear h
  obtain ⟨h0, h1, h2, h3, h4, h5, h6⟩ := hc
  have hm := mul_in h0 h1 h2 (by omega)
  obtain ⟨p, hp⟩ : ∃ p : Int, a1 * a0_0 = p := ⟨_, rfl⟩
  rw [hp] at hm h6 ⊢
  obtain ⟨q, hq⟩ : ∃ q : Int, p + a2 = q := ⟨_, rfl⟩
  rw [hq] at h6 ⊢
  have q0 : 0 ≤ q := by omega
  obtain ⟨ad, e0, hx⟩ := Kd.at_int hr0_1 q q0 h6
  cases e0
  have e1 : IntKind.i64.wrap (a1 * a0_0) = p := by rw [hp, IntKind.wrap_i64]; omega
  have e2 : IntKind.i64.wrap (p + a2) = q := by rw [hq, IntKind.wrap_i64]; omega
  have e3 : wrap64 (a1 * a0_0) = p := by rw [hp]; unfold wrap64; omega
  have e4 : wrap64 (p + a2) = q := by rw [hq]; unfold wrap64; omega
  have hx' := pw_cell_below (below_alloc (Below.refl w.heap.size w) (.cells #[.int .i64 a0_0, .slice (some ad) l0_1.length c0_1] 95)) hx
  replace q0 := eq_true q0
  replace h6 := eq_true h6
  clear hr0_1 h0 h1 h2 h3 h4 h5 hm hp hq hx
  go_enter Try.func93, Try.ntmps93
  go_wp2
  go_ret
  exact ⟨rfl, below_alloc (Below.refl _ _) _⟩
 ·
  rw [if_neg hc] at h
  cases h
def nbar (i : Int) : Int := if i % 2 = 0 then i + 1 else i - 1
theorem xor_one (i : Int) (h0 : 0 ≤ i) (h1 : i < 16) : Go.bits .xor .i64 i 1 = nbar i := by
 have h : i = 0 ∨ i = 1 ∨ i = 2 ∨ i = 3 ∨ i = 4 ∨ i = 5 ∨ i = 6 ∨ i = 7 ∨ i = 8 ∨ i = 9 ∨ i = 10 ∨ i = 11 ∨ i = 12 ∨ i = 13 ∨ i = 14 ∨ i = 15 := by omega
 rcases h with rfl | rfl | rfl | rfl | rfl | rfl | rfl | rfl | rfl | rfl | rfl | rfl | rfl | rfl | rfl | rfl <;> decide
def oct_bar.f (a0 : Int) : Option Int := if 0 ≤ a0 ∧ a0 < 16 then some (nbar a0) else none
theorem oct_bar.calls (a0 : Int) (r : Int) (w : World) (h : oct_bar.f a0 = some r) :
 Calls Try.prog 94 #[.int .i64 a0] w fun e w' => e = .returned (.int .i64 r) ∧ Drawn0 w w' := by
 have hr : r = Go.bits .xor .i64 a0 1 := by
  unfold oct_bar.f at h; split at h
  ·
   rename_i hc; rw [xor_one a0 hc.1 hc.2]; exact (Option.some.inj h).symm
  ·
   cases h
 subst hr
 clear h
 go_enter Try.func94, Try.ntmps94
 go_wp2
 go_ret
 exact ⟨rfl, Drawn0.refl _⟩
theorem oct_bar_still (a0 : Int) (r : Int) (w : World) (h : oct_bar.f a0 = some r) :
 Calls Try.prog 94 #[.int .i64 a0] w fun e w' => e = .returned (.int .i64 r) ∧ w' = w := by
 have hr : r = Go.bits .xor .i64 a0 1 := by
  unfold oct_bar.f at h; split at h
  ·
   rename_i hc; rw [xor_one a0 hc.1 hc.2]; exact (Option.some.inj h).symm
  ·
   cases h
 subst hr
 clear h
 go_enter Try.func94, Try.ntmps94
 go_wp2
 go_ret
 exact ⟨rfl, rfl⟩
end Go.Proofs.Ytphfchbggechhaa.QO
end
end
section
namespace Go.Proofs.Ytphfchbggechhaa.QO
open Go.RowKit YtphfchbggechhaaW.PrintWords YtphfchbggechhaaW.PrintLast
set_option linter.unusedVariables false
set_option linter.unusedSimpArgs false
def VarsOk (l : List Int) : Prop := l.length ≤ 8 ∧ ∀ i : Int, 0 ≤ i → i < l.length → 0 ≤ rd l i ∧ (0 < i → rd l (i - 1) < rd l i)
noncomputable def varsB (l : List Int) : Bool := @decide (VarsOk l) (Classical.propDecidable _)
theorem varsB_true {l : List Int} : varsB l = true ↔ VarsOk l := by unfold varsB; exact @decide_eq_true_iff _ (Classical.propDecidable _)
theorem varsB_false {l : List Int} : varsB l = false ↔ ¬ VarsOk l := by unfold varsB; exact @decide_eq_false_iff_not _ (Classical.propDecidable _)
noncomputable def oct_may.f (l0 : List Int) : Option Bool := some (varsB l0)
theorem oct_may.calls (A0 : Option Addr) (c0 : Nat) (l0 : List Int) (r : Bool) (w : World) (hr0 : Kd.C (Kd.int .i64) w A0 l0.length l0) (hc0 : l0.length ≤ c0) (h : oct_may.f l0 = some r) :
 Calls Try.prog 100 #[.slice A0 l0.length c0] w fun e w' => e = .returned (.bool r) ∧ Drawn0 w w' := by
 have HR0 := Aside0.mk hr0
 have HV := Aside0.mk (Option.some.inj h)
 clear hr0 hc0 h
 by_cases c1 : (8 : Int) < (l0.length : Int)
 ·
  have f1 : decide ((8 : Int) < (l0.length : Int)) = true := decide_eq_true c1
  have f2 : decide (8 < l0.length) = true := decide_eq_true (by omega)
  have HC := Aside0.mk c1
  clear c1
  go_enter Try.func100, Try.ntmps100
  go_wp2
  go_ret
  refine ⟨?_, Drawn0.refl _⟩
  rw [← HV.out, varsB_false.2 (fun h => by have := h.1; have := HC.out; omega)]
  rfl
 ·
  have f1 : decide ((8 : Int) < (l0.length : Int)) = false := decide_eq_false c1
  have f2 : decide (8 < l0.length) = false := decide_eq_false (by omega)
  have HC := Aside0.mk c1
  clear c1
  go_enter Try.func100, Try.ntmps100
  go_wp2
  go_loopg [3, 4, 10] l0.length (fun gg _ _ s10 wr => ∃ i : Int, s10 = .int .i64 i ∧ Aside0 (0 ≤ i ∧ i ≤ l0.length ∧ l0.length - i.toNat ≤ gg) ∧ Aside0 (∀ j : Int, 0 ≤ j → j < i → 0 ≤ rd l0 j ∧ (0 < j → rd l0 (j - 1) < rd l0 j)) ∧ Drawn0 w wr)
  case atStart => exact ⟨0, rfl, ⟨by omega, by omega, by omega⟩, ⟨fun j h0 h1 => absurd h1 (by omega)⟩, Drawn0.refl _⟩
  case round =>
   obtain ⟨i, rfl, HI, HA, ⟨m1, rfl⟩⟩ := hrel
   by_cases hlt : i < (l0.length : Int)
   ·
    have p0 : 0 ≤ i := HI.out.1
    have hC : Kd.C (Kd.int .i64) (w.drewN m1) A0 l0.length l0 := Kd.C_drewN HR0.out _
    obtain ⟨ad, e0, hx⟩ := Kd.at_int hC i p0 hlt
    cases e0
    clear hC
    have HL := Aside0.mk hlt
    have c6b0 : decide (i < (l0.length : Int)) = true := decide_eq_true hlt
    by_cases c3 : rd l0 i < 0
    ·
     have f3 : decide (rd l0 i < 0) = true := decide_eq_true c3
     have H3 := Aside0.mk c3
     clear c3
     replace p0 := eq_true p0
     replace hlt := eq_true hlt
     go_wp2
     go_ret
     refine ⟨?_, by repeat (first | exact Drawn0.refl _ | apply Drawn0.step)⟩
     have h1 := HI.out; have h2 := HL.out; have h3 := H3.out
     rw [← HV.out, varsB_false.2 (fun h => by have := (h.2 i h1.1 h2).1; omega)]
     rfl
    ·
     have f3 : decide (rd l0 i < 0) = false := decide_eq_false c3
     have H3 := Aside0.mk c3
     clear c3
     by_cases c4 : 0 < i
     ·
      have f4 : decide (0 < i) = true := decide_eq_true c4
      have hm1 : wrap64 (i - 1) = i - 1 := by have := HC.out; unfold wrap64; omega
      obtain ⟨j, hj⟩ : ∃ j : Int, i - 1 = j := ⟨_, rfl⟩
      have q0 : 0 ≤ j := by omega
      have q1 : j < (l0.length : Int) := by omega
      obtain ⟨ad', e0, hy⟩ := Kd.at_int (Kd.C_drewN HR0.out m1) j q0 q1
      cases e0
      rw [hj] at hm1
      have hm2 : IntKind.i64.wrap (i - 1) = j := by rw [IntKind.wrap_i64, ← hj]; unfold wrap64 at hm1; omega
      have HJ := Aside0.mk hj
      have H4 := Aside0.mk c4
      by_cases c5 : rd l0 i ≤ rd l0 j
      ·
       have f5 : decide (rd l0 i ≤ rd l0 j) = true := decide_eq_true c5
       have H5 := Aside0.mk c5
       clear c5 c4
       replace p0 := eq_true p0
       replace hlt := eq_true hlt
       replace q0 := eq_true q0
       replace q1 := eq_true q1
       go_wp2
       go_ret
       refine ⟨?_, by repeat (first | exact Drawn0.refl _ | apply Drawn0.step)⟩
       have h1 := HI.out; have h2 := HL.out; have h5 := H5.out; have h4 := H4.out
       rw [← HV.out, varsB_false.2 (fun h => by have := (h.2 i h1.1 h2).2 h4; rw [HJ.out] at this; omega)]
       rfl
      ·
       have f5 : decide (rd l0 i ≤ rd l0 j) = false := decide_eq_false c5
       have H5 := Aside0.mk c5
       clear c5 c4
       replace p0 := eq_true p0
       replace hlt := eq_true hlt
       replace q0 := eq_true q0
       replace q1 := eq_true q1
       go_wp2
       go_roundg (l0.length - (i.toNat + 1))
       case measure => have h1 := HI.out; have h2 := HL.out; omega
       case rel =>
        have h1 := HI.out; have h2 := HL.out; have h3 := H3.out; have h4 := HC.out; have h5 := H5.out; have hj := HJ.out
        have hw : wrap64 (i + 1) = i + 1 := by unfold wrap64; omega
        refine ⟨wrap64 (i + 1), rfl, ⟨by omega, by omega, by omega⟩, ⟨fun k k0 k1 => ?_⟩, by repeat (first | exact Drawn0.refl _ | apply Drawn0.step)⟩
        by_cases e : k = i
        ·
         subst e; exact ⟨by omega, fun _ => by rw [hj]; omega⟩
        ·
         exact HA.out k k0 (by omega)
     ·
      have f4 : decide (0 < i) = false := decide_eq_false c4
      have H4 := Aside0.mk c4
      clear c4
      replace p0 := eq_true p0
      replace hlt := eq_true hlt
      go_wp2
      go_roundg (l0.length - (i.toNat + 1))
      case measure => have h1 := HI.out; have h2 := HL.out; omega
      case rel =>
       have h1 := HI.out; have h2 := HL.out; have h3 := H3.out; have h4 := HC.out; have h5 := H4.out
       have hw : wrap64 (i + 1) = i + 1 := by unfold wrap64; omega
       refine ⟨wrap64 (i + 1), rfl, ⟨by omega, by omega, by omega⟩, ⟨fun k k0 k1 => ?_⟩, by repeat (first | exact Drawn0.refl _ | apply Drawn0.step)⟩
       by_cases e : k = i
       ·
        subst e; exact ⟨by omega, fun h => absurd h (by omega)⟩
       ·
        exact HA.out k k0 (by omega)
   ·
    have c6b0 : decide (i < (l0.length : Int)) = false := decide_eq_false hlt
    have HL := Aside0.mk hlt
    clear hlt
    go_wp2
    go_ret
    have h1 := HI.out; have h2 := HL.out; have h4 := HC.out
    refine ⟨?_, by repeat (first | exact Drawn0.refl _ | apply Drawn0.step)⟩
    rw [← HV.out, varsB_true.2 ⟨by omega, fun k k0 k1 => HA.out k k0 (by omega)⟩]
    rfl
def EntryOk (n2 : Int) (m : List Int) (i j : Int) : Prop :=
 (rd m (i * n2 + j) = 4611686018427387904 ∨ (-1099511627776 ≤ rd m (i * n2 + j) ∧ rd m (i * n2 + j) ≤ 1099511627776)) ∧ (i = j → rd m (i * n2 + j) = 0) ∧ rd m (i * n2 + j) = rd m (nbar j * n2 + nbar i)
def OFit (vars m : List Int) (empty : Bool) : Prop :=
 VarsOk vars ∧ (empty = true → m = []) ∧ (empty = false → (m.length : Int) = (2 * (vars.length : Int)) * (2 * (vars.length : Int)) ∧ ∀ i j : Int, 0 ≤ i → i < 2 * (vars.length : Int) → 0 ≤ j → j < 2 * (vars.length : Int) → EntryOk (2 * (vars.length : Int)) m i j)
noncomputable def ofitB (vars m : List Int) (empty : Bool) : Bool := @decide (OFit vars m empty) (Classical.propDecidable _)
theorem ofitB_true {vars m : List Int} {empty : Bool} : ofitB vars m empty = true ↔ OFit vars m empty := by unfold ofitB; exact @decide_eq_true_iff _ (Classical.propDecidable _)
theorem ofitB_false {vars m : List Int} {empty : Bool} : ofitB vars m empty = false ↔ ¬ OFit vars m empty := by unfold ofitB; exact @decide_eq_false_iff_not _ (Classical.propDecidable _)
theorem nbar_in {i n : Int} (h0 : 0 ≤ i) (h1 : i < 2 * n) : 0 ≤ nbar i ∧ nbar i < 2 * n := by unfold nbar; split <;> omega
theorem place_in {i j n : Int} (h0 : 0 ≤ i) (h1 : i < n) (h2 : 0 ≤ j) (h3 : j < n) : 0 ≤ i * n + j ∧ i * n + j < n * n := by
 have h5 := Int.mul_nonneg h0 (by omega : 0 ≤ n)
 have h6 : i * n ≤ (n - 1) * n := Int.mul_le_mul_of_nonneg_right (by omega) (by omega)
 have h7 : (n - 1) * n = n * n - n := by rw [Int.sub_mul]; omega
 omega
theorem at_ok {n : Nat} {m : List Int} {i j : Int} (hn : n ≤ 8) (hm : (m.length : Int) = (2 * (n : Int)) * (2 * (n : Int))) (h0 : 0 ≤ i) (h1 : i < 2 * (n : Int)) (h2 : 0 ≤ j) (h3 : j < 2 * (n : Int)) :
 oct_full_at.f (2 * (n : Int)) m i j = some (rd m (i * (2 * (n : Int)) + j)) := by
 unfold oct_full_at.f
 have := place_in h0 h1 h2 h3
 rw [if_pos ⟨by omega, by omega, h0, by omega, h2, by omega, by omega⟩]
noncomputable def oct_Fit.f (l0_0 : List Int) (l0_1 : List Int) (a0_2 : Bool) : Option Bool := if l0_0.length ≤ 17592186044416 then some (ofitB l0_0 l0_1 a0_2) else none
structure Box1 (w : World) (g : Nat) (cs : Array Value) (t : Nat) (W : World) : Prop where
 below : Below w.heap.size w W
 box : W.heap[g]? = some (.cells cs t (0, 0))
theorem Box1.next {w W W1 : World} {g : Nat} {cs : Array Value} {t : Nat} (h : Box1 w g cs t W) (hb : Below W.heap.size W W1) : Box1 w g cs t W1 :=
 ⟨h.below.trans (hb.mono h.below.size), (hb.block _ (blk_lt h.box)).trans h.box⟩
theorem box1_new {w W : World} {g : Nat} {cs : Array Value} {t : Nat} (hB : Below w.heap.size w W) (hs : W.heap.size = g) : Box1 w g cs t (W.alloc (.cells cs t)) :=
 ⟨below_alloc hB _, by rw [← hs]; exact heap_alloc_new W _⟩
theorem Box1.two {w W : World} {g : Nat} {a b : Value} {t : Nat} (h : Box1 w g #[a, b] t W) : W.cell? ⟨g, 0, none⟩ = some a ∧ W.cell? ⟨g, 1, none⟩ = some b := ⟨(blk_cell h.box 0).trans rfl, (blk_cell h.box 1).trans rfl⟩
theorem Box1.drew {w W : World} {g : Nat} {cs : Array Value} {t : Nat} (h : Box1 w g cs t W) : Box1 w g cs t W.drew := h.next (below_drew (Below.refl _ _))
theorem Box1.drewN {w W : World} {g : Nat} {cs : Array Value} {t : Nat} (h : Box1 w g cs t W) (n : Nat) : Box1 w g cs t (W.drewN n) := h.next (pw_below_drewN (Below.refl _ _) n)
theorem Box1.alloc {w W : World} {g : Nat} {cs : Array Value} {t : Nat} (h : Box1 w g cs t W) (o : Obj) : Box1 w g cs t (W.alloc o) := h.next (below_alloc (Below.refl _ _) o)
def oct_Fit.T14 : Bool × List (List Nat × List Nat) := (true, [([], []), ([0], [0]), ([1], [1]), ([2], [2]), ([3, 2], [2, 3]), ([4, 2, 2], [2, 4]), ([5], [5]), ([6, 5], [5, 6]), ([5, 7, 2], [2, 5, 7]), ([2, 8], [2, 8]), ([9, 5], [9]), ([10], [10]), ([10], [10]), ([11, 12, 10], [10, 11, 12]), ([13, 10, 10], [10, 13]), ([14], [14]), ([15, 14], [14, 15]), ([14, 16, 10], [10, 14, 16]), ([10, 17], [10, 17]), ([18, 14], [18]), ([19], [19]), ([19], [19]), ([19], [19]), ([22, 19, 19], [19, 22]), ([19], [19]), ([24, 23, 19], [19, 24]), ([21, 23, 25, 25, 19], [19, 21, 23, 25]), ([20, 26, 19], [19, 20, 26]), ([19, 27], [19, 27])])
def oct_Fit.B14 : List Nat := [0, 1, 3, 7, 15, 31, 63, 127, 255, 511, 1023, 2047, 2047, 8191, 16383, 32767, 65535, 131071, 262143, 524287, 1048575, 1048575, 1048575, 5242879, 1048575, 30408703, 66060287, 134217727, 268435455]
def FA0 : Array Bool := (mB 29 0)
def FA1 : Array Bool := (mB 29 1)
def FA2 : Array Bool := (mB 29 3)
def FA3 : Array Bool := (mB 29 7)
def FA4 : Array Bool := (mB 29 15)
def FA5 : Array Bool := (mB 29 31)
def FA6 : Array Bool := (mB 29 63)
def FA7 : Array Bool := (mB 29 127)
def FA8 : Array Bool := (mB 29 255)
def FA9 : Array Bool := (mB 29 511)
def FA10 : Array Bool := (mB 29 1023)
def FA11 : Array Bool := (mB 29 2047)
def FA12 : Array Bool := (mB 29 4095)
def FA13 : Array Bool := (mB 29 8191)
def FA14 : Array Bool := (mB 29 16383)
def FA15 : Array Bool := (mB 29 32767)
def FA16 : Array Bool := (mB 29 65535)
def FA17 : Array Bool := (mB 29 131071)
def FA18 : Array Bool := (mB 29 262143)
def FA19 : Array Bool := (mB 29 524287)
def FA20 : Array Bool := (mB 29 1048575)
def FA21 : Array Bool := (mB 29 2097151)
def FA22 : Array Bool := (mB 29 6291455)
def FA23 : Array Bool := (mB 29 23068671)
def FA24 : Array Bool := (mB 29 25165823)
def FA25 : Array Bool := (mB 29 33554431)
def FA26 : Array Bool := (mB 29 67108863)
def FA27 : Array Bool := (mB 29 134217727)
def FA28 : Array Bool := (mB 29 268435455)
def FA29 : Array Bool := (mB 29 536870911)
theorem oct_Fit.tab14 : rtab .any (opsOf Try.f78 14) = oct_Fit.T14 := by kernel_rfl
theorem oct_Fit.bits14 : waitsOk oct_Fit.T14.2 oct_Fit.B14 = true := by kernel_rfl
theorem oct_Fit.calls (A0_0 : Option Addr) (c0_0 : Nat) (l0_0 : List Int) (A0_1 : Option Addr) (c0_1 : Nat) (l0_1 : List Int) (a0_2 : Bool) (r : Bool) (w : World) (hr0_0 : Kd.C (Kd.int .i64) w A0_0 l0_0.length l0_0) (hc0_0 : l0_0.length ≤ c0_0) (hr0_1 : Kd.C (Kd.int .i64) w A0_1 l0_1.length l0_1) (hc0_1 : l0_1.length ≤ c0_1) (h : oct_Fit.f l0_0 l0_1 a0_2 = some r) :
 Calls Try.prog 78 #[.agg #[.slice A0_0 l0_0.length c0_0, .slice A0_1 l0_1.length c0_1, .bool a0_2]] w fun e w' => e = .returned (.bool r) ∧ Below w.heap.size w w' := by
 have hu25 := Try.underlying25
 have hu58 := Try.underlying95
 have HR0 := Aside0.mk hr0_0
 have HR1 := Aside0.mk hr0_1
 have HC0 := Aside0.mk hc0_0
 have HC1 := Aside0.mk hc0_1
 clear hr0_0 hr0_1 hc0_0 hc0_1
 unfold oct_Fit.f at h
 by_cases hlen : l0_0.length ≤ 17592186044416
 ·
  rw [if_pos hlen] at h
  have HV := Aside0.mk (Option.some.inj h)
  clear h
  have e1 : wrap64 (2 * (l0_0.length : Int)) = 2 * (l0_0.length : Int) := by unfold wrap64; omega
  have e2 : IntKind.i64.wrap (2 * (l0_0.length : Int)) = 2 * (l0_0.length : Int) := by rw [IntKind.wrap_i64]; omega
  cases hv : varsB l0_0 with
  | false =>
   have HM := fun W (hW : Kd.C (Kd.int .i64) W A0_0 l0_0.length l0_0) => oct_may.calls A0_0 c0_0 l0_0 false W hW HC0.out (by unfold oct_may.f; rw [hv])
   replace HM := Aside0.mk HM
   have HF := Aside0.mk (varsB_false.1 hv)
   clear hv hlen
   go_enter Try.func78, Try.ntmps78
   go_wp2_with (go_at_call 100; (with_reducible refine (HM.out _ ?side1).mono ?_); (case side1 => repeat (first | exact HR0.out | (with_reducible refine Kd.C_alloc ?_ _) | (with_reducible refine Kd.C_drewN ?_ _) | (with_reducible refine Kd.C_drew ?_))); rintro e w1 ⟨rfl, ⟨nd, rfl⟩⟩)
   go_ret
   refine ⟨?_, by repeat (first | exact Below.refl _ _ | (with_reducible apply below_alloc) | (with_reducible apply pw_below_drewN) | (with_reducible apply below_drew))⟩
   rw [← HV.out, ofitB_false.2 (fun h => HF.out h.1)]
   rfl
  | true =>
   have HM := fun W (hW : Kd.C (Kd.int .i64) W A0_0 l0_0.length l0_0) => oct_may.calls A0_0 c0_0 l0_0 true W hW HC0.out (by unfold oct_may.f; rw [hv])
   replace HM := Aside0.mk HM
   have HT := Aside0.mk (varsB_true.1 hv)
   clear hv hlen
   cases a0_2 with
   | true =>
    by_cases hz : l0_1.length = 0
    ·
     have f1 : ((l0_1.length : Int) == 0) = true := by rw [hz]; rfl
     have f2 : (l0_1.length == 0) = true := by rw [hz]; rfl
     have HZ := Aside0.mk hz
     clear hz
     go_enter Try.func78, Try.ntmps78
     go_wp2_with (go_at_call 100; (with_reducible refine (HM.out _ ?side1).mono ?_); (case side1 => repeat (first | exact HR0.out | (with_reducible refine Kd.C_alloc ?_ _) | (with_reducible refine Kd.C_drewN ?_ _) | (with_reducible refine Kd.C_drew ?_))); rintro e w1 ⟨rfl, ⟨nd, rfl⟩⟩)
     go_ret
     refine ⟨?_, by repeat (first | exact Below.refl _ _ | (with_reducible apply below_alloc) | (with_reducible apply pw_below_drewN) | (with_reducible apply below_drew))⟩
     rw [← HV.out, ofitB_true.2 ⟨HT.out, fun _ => List.eq_nil_of_length_eq_zero HZ.out, fun h => by cases h⟩]
     rfl
    ·
     have f1 : ((l0_1.length : Int) == 0) = false := by simpa using (by omega : ¬ ((l0_1.length : Int) = 0))
     have f2 : (l0_1.length == 0) = false := by simpa using hz
     have HZ := Aside0.mk hz
     clear hz
     go_enter Try.func78, Try.ntmps78
     go_wp2_with (go_at_call 100; (with_reducible refine (HM.out _ ?side1).mono ?_); (case side1 => repeat (first | exact HR0.out | (with_reducible refine Kd.C_alloc ?_ _) | (with_reducible refine Kd.C_drewN ?_ _) | (with_reducible refine Kd.C_drew ?_))); rintro e w1 ⟨rfl, ⟨nd, rfl⟩⟩)
     go_ret
     refine ⟨?_, by repeat (first | exact Below.refl _ _ | (with_reducible apply below_alloc) | (with_reducible apply pw_below_drewN) | (with_reducible apply below_drew))⟩
     rw [← HV.out, ofitB_false.2 (fun h => HZ.out (by rw [h.2.1 rfl]; rfl))]
     rfl
   | false =>
    obtain ⟨n2, hn2⟩ : ∃ n2 : Int, 2 * (l0_0.length : Int) = n2 := ⟨_, rfl⟩
    replace e1 : wrap64 (2 * (l0_0.length : Int)) = n2 := e1.trans hn2
    replace e2 : IntKind.i64.wrap (2 * (l0_0.length : Int)) = n2 := e2.trans hn2
    have hl8 := HT.out.1
    obtain ⟨nn, hnn⟩ : ∃ nn : Int, n2 * n2 = nn := ⟨_, rfl⟩
    have hnn2 : 0 ≤ nn ∧ nn ≤ 256 := by rw [← hnn]; exact mul_in (a := n2) (b := n2) (by omega) (by omega) (by omega) (by omega)
    have e3 : wrap64 (n2 * n2) = nn := by rw [hnn]; unfold wrap64; omega
    have e4 : IntKind.i64.wrap (n2 * n2) = nn := by rw [hnn, IntKind.wrap_i64]; omega
    by_cases hz : (l0_1.length : Int) = nn
    ·
     have f1 : ((l0_1.length : Int) != nn) = false := by rw [hz]; simp
     have HZ := Aside0.mk hz
     have HN := Aside0.mk hn2
     have HNN := Aside0.mk hnn
     clear hz hn2 hnn hnn2 hl8
     go_enter Try.func78, Try.ntmps78
     go_wp2_with (go_at_call 100; (with_reducible refine (HM.out _ ?side1).mono ?_); (case side1 => repeat (first | exact HR0.out | (with_reducible refine Kd.C_alloc ?_ _) | (with_reducible refine Kd.C_drewN ?_ _) | (with_reducible refine Kd.C_drew ?_))); rintro e w1 ⟨rfl, ⟨nd, rfl⟩⟩)
     go_loopg [5, 6, 7, 41, 44, 45] n2.toNat (fun gg _ _ _ s41 _ _ wr => ∃ i : Int, s41 = .int .i64 i ∧ Aside0 (0 ≤ i ∧ i ≤ n2 ∧ n2.toNat - i.toNat ≤ gg) ∧ Aside0 (Box1 w (w.heap.size + 1) #[.int .i64 n2, .slice A0_1 l0_1.length c0_1] 95 wr) ∧ Aside0 (∀ a b : Int, 0 ≤ a → a < i → 0 ≤ b → b < n2 → EntryOk n2 l0_1 a b))
     case atStart => exact ⟨0, rfl, ⟨by have := HN.out; omega, by have := HN.out; omega, by omega⟩, ⟨box1_new (by repeat (first | exact Below.refl _ _ | (with_reducible apply below_alloc) | (with_reducible apply pw_below_drewN) | (with_reducible apply below_drew))) (by simp)⟩, ⟨fun a b h0 h1 => absurd h1 (by omega)⟩⟩
     case round =>
      obtain ⟨i, rfl, HI, HX, HA⟩ := hrel
      by_cases hlt : i < n2
      ·
       have f2 : decide (i < n2) = true := decide_eq_true hlt
       have HL := Aside0.mk hlt
       clear hlt
       go_wp2
       obtain ⟨wo, rfl⟩ : ∃ wo : World, wo = wr := ⟨_, rfl⟩
       go_loopg [6, 7, 45] n2.toNat (fun hh _ _ s45 wr => ∃ j : Int, s45 = .int .i64 j ∧ Aside0 (0 ≤ j ∧ j ≤ n2 ∧ n2.toNat - j.toNat ≤ hh) ∧ Aside0 (Box1 w (w.heap.size + 1) #[.int .i64 n2, .slice A0_1 l0_1.length c0_1] 95 wr) ∧ Aside0 (∀ b : Int, 0 ≤ b → b < j → EntryOk n2 l0_1 i b))
       case atStart => exact ⟨0, rfl, ⟨by have := HN.out; omega, by have := HN.out; omega, by omega⟩, ⟨HX.out⟩, ⟨fun b h0 h1 => absurd h1 (by omega)⟩⟩
       case round =>
        clear HX
        obtain ⟨j, rfl, HJ, HX, HE⟩ := hrel
        by_cases hlt : j < n2
        ·
         have f3 : decide (j < n2) = true := decide_eq_true hlt
         have HK := Aside0.mk hlt
         clear hlt
         have hi := HI.out; have hj := HJ.out; have hil := HL.out; have hjl := HK.out
         have h8 := HT.out.1
         have hm : (l0_1.length : Int) = (2 * (l0_0.length : Int)) * (2 * (l0_0.length : Int)) := by rw [HN.out, HNN.out]; exact HZ.out
         have nj := nbar_in (i := j) (n := l0_0.length) hj.1 (by rw [HN.out]; exact hjl)
         have ni := nbar_in (i := i) (n := l0_0.length) hi.1 (by rw [HN.out]; exact hil)
         have a1 := at_ok (n := l0_0.length) (m := l0_1) (i := i) (j := j) h8 hm hi.1 (by rw [HN.out]; exact hil) hj.1 (by rw [HN.out]; exact hjl)
         have a2 := at_ok (n := l0_0.length) (m := l0_1) (i := nbar j) (j := nbar i) h8 hm nj.1 nj.2 ni.1 ni.2
         rw [HN.out] at a1 a2
         have b1 : oct_bar.f j = some (nbar j) := by unfold oct_bar.f; rw [if_pos ⟨hj.1, by have := HN.out; omega⟩]
         have b2 : oct_bar.f i = some (nbar i) := by unfold oct_bar.f; rw [if_pos ⟨hi.1, by have := HN.out; omega⟩]
         obtain ⟨x, hx⟩ : ∃ x, rd l0_1 (i * n2 + j) = x := ⟨_, rfl⟩
         obtain ⟨y, hy⟩ : ∃ y, rd l0_1 (nbar j * n2 + nbar i) = y := ⟨_, rfl⟩
         obtain ⟨p, hp⟩ : ∃ p, nbar j = p := ⟨_, rfl⟩
         obtain ⟨q, hq⟩ : ∃ q, nbar i = q := ⟨_, rfl⟩
         rw [hp, hq] at hy a2
         rw [hp] at b1
         rw [hq] at b2
         rw [hx] at a1
         rw [hy] at a2
         have C1 := Aside0.mk (fun W (hW : Kd.C (Kd.int .i64) W A0_1 l0_1.length l0_1) => oct_full_at.calls n2 A0_1 c0_1 l0_1 i j x W hW HC1.out a1)
         have C2 := Aside0.mk (fun W (hW : Kd.C (Kd.int .i64) W A0_1 l0_1.length l0_1) => oct_full_at.calls n2 A0_1 c0_1 l0_1 p q y W hW HC1.out a2)
         have B1 := Aside0.mk (fun W => oct_bar.calls j p W b1)
         have B2 := Aside0.mk (fun W => oct_bar.calls i q W b2)
         have HXY : Aside0 (EntryOk n2 l0_1 i j ↔ (x = 4611686018427387904 ∨ (-1099511627776 ≤ x ∧ x ≤ 1099511627776)) ∧ (i = j → x = 0) ∧ x = y) := ⟨by unfold EntryOk; rw [hp, hq, hx, hy]⟩
         clear hi hj hil hjl h8 hm nj ni a1 a2 b1 b2 hx hy hp hq
         obtain ⟨hx0, hx1⟩ := HX.out.two
         go_upto_region 14 with (first | (go_at_call 93; (with_reducible refine (C1.out _ ?s1).mono ?_); (case s1 => exact Kd.C_below HR1.out HX.out.below); rintro e w1 ⟨rfl, hb⟩; have hY := Box1.next HX.out (show Below _ _ _ from hb); clear HX hx0 hx1; have HX := Aside0.mk hY; obtain ⟨hx0, hx1⟩ := hY.two; clear hY hb))
         go_cut [80] (fun s80 wx => ∃ b : Bool, s80 = .bool b ∧ (b = false ↔ (x = 4611686018427387904 ∨ (-1099511627776 ≤ x ∧ x ≤ 1099511627776)) ∧ (i = j → x = 0) ∧ x = y) ∧ Box1 w (w.heap.size + 1) #[.int .i64 n2, .slice A0_1 l0_1.length c0_1] 95 wx)
         case first =>
          by_cases c1 : x = 4611686018427387904
          ·
           have f1 : (x != 4611686018427387904) = false := by rw [c1]; rfl
           by_cases c4 : i = j
           ·
            have f4 : (i == j) = true := by simpa using c4
            by_cases c5 : x = 0
            ·
             have f5 : (x != 0) = false := by rw [c5]; rfl
             have HB : Aside0 ((x != y) = false ↔ (x = 4611686018427387904 ∨ (-1099511627776 ≤ x ∧ x ≤ 1099511627776)) ∧ (i = j → x = 0) ∧ x = y) := ⟨by simp only [bne_eq_false_iff_eq]; constructor <;> intro h <;> omega⟩
             clear c1 c4 c5
             have n_ := Aside0.mk HX.out.drew
             clear HX hx0 hx1
             have HX := n_
             clear n_
             refine start_ (n := 29) (S := fun w' => w'.cell? ⟨w.heap.size + 1, 0, none⟩ = some (.int .i64 n2) ∧ w'.cell? ⟨w.heap.size + 1, 1, none⟩ = some (.slice A0_1 l0_1.length c0_1)) (ds := []) FA0 (by kernel_rfl) rfl rfl HX.out.two (fun hHeld => ?_); refine with_tabW oct_Fit.tab14 oct_Fit.bits14 (fun HT_ HW_ => ?_)
             generalize w1.drew = w2 at HX hHeld ⊢
             refine pV_ 0 52 FA1 HT_ ?_
             refine pV_ 1 53 FA2 HT_ ?_
             refine pV_ 2 54 FA3 HT_ ?_
             refine pU_ 3 55 FA4 HT_ ?_
             refine pU_ 4 56 FA5 HT_ ?_
             refine pU_ 5 57 FA6 HT_ ?_
             refine pU_ 6 58 FA7 HT_ ?_
             refine pU_ 7 59 FA8 HT_ ?_
             refine pU_ 8 60 FA9 HT_ ?_
             refine pV_ 9 61 FA10 HT_ ?_
             refine pV_ 10 62 FA11 HT_ ?_
             refine pV_ 11 63 FA12 HT_ ?_
             refine pV_ 12 64 FA13 HT_ ?_
             refine pV_ 13 65 FA14 HT_ ?_
             refine pV_ 14 66 FA15 HT_ ?_
             refine pV_ 15 67 FA16 HT_ ?_
             refine pV_ 16 68 FA17 HT_ ?_
             refine pV_ 17 69 FA18 HT_ ?_
             refine pV_ 18 70 FA19 HT_ ?_
             refine pV_ 19 71 FA20 HT_ ?_
             refine pV_ 20 72 FA21 HT_ ?_
             refine pV_ 22 74 FA22 HT_ ?_
             refine pV_ 24 76 FA23 HT_ ?_
             refine tV_ 21 73 FA24 HT_ HW_ hHeld ?_
             refine one_ (i := 23) (N := some 75) FA25 rfl rfl (one_of HT_.out (by kernel_rfl)) (by decide) (fun K hK => ?_)
             refine gs_ Try.func94 #[.int .i64 j] ?_
             with_reducible refine (B1.out _).mono ?_
             rintro e w' ⟨rfl, ⟨nd, rfl⟩⟩
             refine ⟨_, rfl, ?_⟩
             have n_ := Aside0.mk (HX.out.drewN nd)
             clear HX
             have HX := n_
             clear n_
             refine hK.out _ _ HX.out.two (fun hHeld => ?_)
             clear hK K
             refine norm_ (a' := ?_) ?_ ?_
             rotate_left
             ·
              show Act.put _ (some 75) _ = _; simp only [Act.put, List.setIfInBounds_toArray, List.set_cons_zero, List.set_cons_succ, i64_w, i32_w]; rfl
             refine one_ (i := 25) (N := some 77) FA26 rfl rfl (one_of HT_.out (by kernel_rfl)) (by decide) (fun K hK => ?_)
             refine gs_ Try.func94 #[.int .i64 i] ?_
             with_reducible refine (B2.out _).mono ?_
             rintro e w' ⟨rfl, ⟨nd, rfl⟩⟩
             refine ⟨_, rfl, ?_⟩
             have n_ := Aside0.mk (HX.out.drewN nd)
             clear HX
             have HX := n_
             clear n_
             refine hK.out _ _ HX.out.two (fun hHeld => ?_)
             clear hK K
             refine norm_ (a' := ?_) ?_ ?_
             rotate_left
             ·
              show Act.put _ (some 77) _ = _; simp only [Act.put, List.setIfInBounds_toArray, List.set_cons_zero, List.set_cons_succ, i64_w, i32_w]; rfl
             refine one_ (i := 26) (N := some 78) FA27 rfl rfl (one_of HT_.out (by kernel_rfl)) (by decide) (fun K hK => ?_)
             refine gs_ Try.func93 #[.agg #[.int .i64 n2, .slice A0_1 l0_1.length c0_1], .int .i64 p, .int .i64 q] ?_
             with_reducible refine (C2.out _ ?s1).mono ?_
             (case s1 => exact Kd.C_below HR1.out HX.out.below)
             rintro e w3 ⟨rfl, hb⟩
             refine ⟨_, rfl, ?_⟩
             have n_ := Aside0.mk (HX.out.next hb)
             clear HX hb
             have HX := n_
             clear n_
             refine hK.out _ _ HX.out.two (fun hHeld => ?_)
             clear hK K
             refine norm_ (a' := ?_) ?_ ?_
             rotate_left
             ·
              show Act.put _ (some 78) _ = _; simp only [Act.put, List.setIfInBounds_toArray, List.set_cons_zero, List.set_cons_succ, i64_w, i32_w]; rfl
             refine pV_ 27 79 FA28 HT_ ?_
             refine pV_ 28 80 FA29 HT_ ?_
             refine dn_ HT_ ?_
             try (go_wp2_with fail)
             go_meet
             exact ⟨(x != y), rfl, (by have h := HB.out; first | exact h | simpa using h), HX.out⟩
            ·
             have f5 : (x != 0) = true := by simpa using c5
             have HB : Aside0 (true = false ↔ (x = 4611686018427387904 ∨ (-1099511627776 ≤ x ∧ x ≤ 1099511627776)) ∧ (i = j → x = 0) ∧ x = y) := ⟨by constructor; (intro h; cases h); intro h; exfalso; omega⟩
             clear c1 c4 c5
             go_quiet (fail)
             go_wp2_with fail
             go_meet
             exact ⟨true, rfl, (by have h := HB.out; first | exact h | simpa using h), (by repeat (first | exact HX.out | (with_reducible apply Box1.drewN) | (with_reducible apply Box1.drew) | (with_reducible apply Box1.alloc)))⟩
           ·
            have f4 : (i == j) = false := by simpa using c4
            have HB : Aside0 ((x != y) = false ↔ (x = 4611686018427387904 ∨ (-1099511627776 ≤ x ∧ x ≤ 1099511627776)) ∧ (i = j → x = 0) ∧ x = y) := ⟨by simp only [bne_eq_false_iff_eq]; constructor <;> intro h <;> omega⟩
            clear c1 c4
            have n_ := Aside0.mk HX.out.drew
            clear HX hx0 hx1
            have HX := n_
            clear n_
            refine start_ (n := 29) (S := fun w' => w'.cell? ⟨w.heap.size + 1, 0, none⟩ = some (.int .i64 n2) ∧ w'.cell? ⟨w.heap.size + 1, 1, none⟩ = some (.slice A0_1 l0_1.length c0_1)) (ds := []) FA0 (by kernel_rfl) rfl rfl HX.out.two (fun hHeld => ?_); refine with_tabW oct_Fit.tab14 oct_Fit.bits14 (fun HT_ HW_ => ?_)
            generalize w1.drew = w2 at HX hHeld ⊢
            refine pV_ 0 52 FA1 HT_ ?_
            refine pV_ 1 53 FA2 HT_ ?_
            refine pV_ 2 54 FA3 HT_ ?_
            refine pU_ 3 55 FA4 HT_ ?_
            refine pU_ 4 56 FA5 HT_ ?_
            refine pU_ 5 57 FA6 HT_ ?_
            refine pU_ 6 58 FA7 HT_ ?_
            refine pU_ 7 59 FA8 HT_ ?_
            refine pU_ 8 60 FA9 HT_ ?_
            refine pV_ 9 61 FA10 HT_ ?_
            refine pV_ 10 62 FA11 HT_ ?_
            refine pV_ 11 63 FA12 HT_ ?_
            refine pV_ 12 64 FA13 HT_ ?_
            refine pV_ 13 65 FA14 HT_ ?_
            refine pV_ 14 66 FA15 HT_ ?_
            refine pU_ 15 67 FA16 HT_ ?_
            refine pU_ 16 68 FA17 HT_ ?_
            refine pV_ 17 69 FA18 HT_ ?_
            refine pV_ 18 70 FA19 HT_ ?_
            refine pV_ 19 71 FA20 HT_ ?_
            refine pV_ 20 72 FA21 HT_ ?_
            refine pV_ 22 74 FA22 HT_ ?_
            refine pV_ 24 76 FA23 HT_ ?_
            refine tV_ 21 73 FA24 HT_ HW_ hHeld ?_
            refine one_ (i := 23) (N := some 75) FA25 rfl rfl (one_of HT_.out (by kernel_rfl)) (by decide) (fun K hK => ?_)
            refine gs_ Try.func94 #[.int .i64 j] ?_
            with_reducible refine (B1.out _).mono ?_
            rintro e w' ⟨rfl, ⟨nd, rfl⟩⟩
            refine ⟨_, rfl, ?_⟩
            have n_ := Aside0.mk (HX.out.drewN nd)
            clear HX
            have HX := n_
            clear n_
            refine hK.out _ _ HX.out.two (fun hHeld => ?_)
            clear hK K
            refine norm_ (a' := ?_) ?_ ?_
            rotate_left
            ·
             show Act.put _ (some 75) _ = _; simp only [Act.put, List.setIfInBounds_toArray, List.set_cons_zero, List.set_cons_succ, i64_w, i32_w]; rfl
            refine one_ (i := 25) (N := some 77) FA26 rfl rfl (one_of HT_.out (by kernel_rfl)) (by decide) (fun K hK => ?_)
            refine gs_ Try.func94 #[.int .i64 i] ?_
            with_reducible refine (B2.out _).mono ?_
            rintro e w' ⟨rfl, ⟨nd, rfl⟩⟩
            refine ⟨_, rfl, ?_⟩
            have n_ := Aside0.mk (HX.out.drewN nd)
            clear HX
            have HX := n_
            clear n_
            refine hK.out _ _ HX.out.two (fun hHeld => ?_)
            clear hK K
            refine norm_ (a' := ?_) ?_ ?_
            rotate_left
            ·
             show Act.put _ (some 77) _ = _; simp only [Act.put, List.setIfInBounds_toArray, List.set_cons_zero, List.set_cons_succ, i64_w, i32_w]; rfl
            refine one_ (i := 26) (N := some 78) FA27 rfl rfl (one_of HT_.out (by kernel_rfl)) (by decide) (fun K hK => ?_)
            refine gs_ Try.func93 #[.agg #[.int .i64 n2, .slice A0_1 l0_1.length c0_1], .int .i64 p, .int .i64 q] ?_
            with_reducible refine (C2.out _ ?s1).mono ?_
            (case s1 => exact Kd.C_below HR1.out HX.out.below)
            rintro e w3 ⟨rfl, hb⟩
            refine ⟨_, rfl, ?_⟩
            have n_ := Aside0.mk (HX.out.next hb)
            clear HX hb
            have HX := n_
            clear n_
            refine hK.out _ _ HX.out.two (fun hHeld => ?_)
            clear hK K
            refine norm_ (a' := ?_) ?_ ?_
            rotate_left
            ·
             show Act.put _ (some 78) _ = _; simp only [Act.put, List.setIfInBounds_toArray, List.set_cons_zero, List.set_cons_succ, i64_w, i32_w]; rfl
            refine pV_ 27 79 FA28 HT_ ?_
            refine pV_ 28 80 FA29 HT_ ?_
            refine dn_ HT_ ?_
            try (go_wp2_with fail)
            go_meet
            exact ⟨(x != y), rfl, (by have h := HB.out; first | exact h | simpa using h), HX.out⟩
          ·
           have f1 : (x != 4611686018427387904) = true := by simpa using c1
           by_cases c2 : x < -1099511627776
           ·
            have f2 : decide (x < -1099511627776) = true := decide_eq_true c2
            have HB : Aside0 (true = false ↔ (x = 4611686018427387904 ∨ (-1099511627776 ≤ x ∧ x ≤ 1099511627776)) ∧ (i = j → x = 0) ∧ x = y) := ⟨by constructor; (intro h; cases h); intro h; exfalso; omega⟩
            clear c1 c2
            go_quiet (fail)
            go_wp2_with fail
            go_meet
            exact ⟨true, rfl, (by have h := HB.out; first | exact h | simpa using h), (by repeat (first | exact HX.out | (with_reducible apply Box1.drewN) | (with_reducible apply Box1.drew) | (with_reducible apply Box1.alloc)))⟩
           ·
            have f2 : decide (x < -1099511627776) = false := decide_eq_false c2
            by_cases c3 : 1099511627776 < x
            ·
             have f3 : decide (1099511627776 < x) = true := decide_eq_true c3
             have HB : Aside0 (true = false ↔ (x = 4611686018427387904 ∨ (-1099511627776 ≤ x ∧ x ≤ 1099511627776)) ∧ (i = j → x = 0) ∧ x = y) := ⟨by constructor; (intro h; cases h); intro h; exfalso; omega⟩
             clear c1 c2 c3
             go_quiet (fail)
             go_wp2_with fail
             go_meet
             exact ⟨true, rfl, (by have h := HB.out; first | exact h | simpa using h), (by repeat (first | exact HX.out | (with_reducible apply Box1.drewN) | (with_reducible apply Box1.drew) | (with_reducible apply Box1.alloc)))⟩
            ·
             have f3 : decide (1099511627776 < x) = false := decide_eq_false c3
             by_cases c4 : i = j
             ·
              have f4 : (i == j) = true := by simpa using c4
              by_cases c5 : x = 0
              ·
               have f5 : (x != 0) = false := by rw [c5]; rfl
               have HB : Aside0 ((x != y) = false ↔ (x = 4611686018427387904 ∨ (-1099511627776 ≤ x ∧ x ≤ 1099511627776)) ∧ (i = j → x = 0) ∧ x = y) := ⟨by simp only [bne_eq_false_iff_eq]; constructor <;> intro h <;> omega⟩
               clear c1 c2 c3 c4 c5
               have n_ := Aside0.mk HX.out.drew
               clear HX hx0 hx1
               have HX := n_
               clear n_
               refine start_ (n := 29) (S := fun w' => w'.cell? ⟨w.heap.size + 1, 0, none⟩ = some (.int .i64 n2) ∧ w'.cell? ⟨w.heap.size + 1, 1, none⟩ = some (.slice A0_1 l0_1.length c0_1)) (ds := []) FA0 (by kernel_rfl) rfl rfl HX.out.two (fun hHeld => ?_); refine with_tabW oct_Fit.tab14 oct_Fit.bits14 (fun HT_ HW_ => ?_)
               generalize w1.drew = w2 at HX hHeld ⊢
               refine pV_ 0 52 FA1 HT_ ?_
               refine pV_ 1 53 FA2 HT_ ?_
               refine pV_ 2 54 FA3 HT_ ?_
               refine pV_ 3 55 FA4 HT_ ?_
               refine pV_ 4 56 FA5 HT_ ?_
               refine pV_ 5 57 FA6 HT_ ?_
               refine pV_ 6 58 FA7 HT_ ?_
               refine pV_ 7 59 FA8 HT_ ?_
               refine pV_ 8 60 FA9 HT_ ?_
               refine pV_ 9 61 FA10 HT_ ?_
               refine pV_ 10 62 FA11 HT_ ?_
               refine pV_ 11 63 FA12 HT_ ?_
               refine pV_ 12 64 FA13 HT_ ?_
               refine pV_ 13 65 FA14 HT_ ?_
               refine pV_ 14 66 FA15 HT_ ?_
               refine pV_ 15 67 FA16 HT_ ?_
               refine pV_ 16 68 FA17 HT_ ?_
               refine pV_ 17 69 FA18 HT_ ?_
               refine pV_ 18 70 FA19 HT_ ?_
               refine pV_ 19 71 FA20 HT_ ?_
               refine pV_ 20 72 FA21 HT_ ?_
               refine pV_ 22 74 FA22 HT_ ?_
               refine pV_ 24 76 FA23 HT_ ?_
               refine tV_ 21 73 FA24 HT_ HW_ hHeld ?_
               refine one_ (i := 23) (N := some 75) FA25 rfl rfl (one_of HT_.out (by kernel_rfl)) (by decide) (fun K hK => ?_)
               refine gs_ Try.func94 #[.int .i64 j] ?_
               with_reducible refine (B1.out _).mono ?_
               rintro e w' ⟨rfl, ⟨nd, rfl⟩⟩
               refine ⟨_, rfl, ?_⟩
               have n_ := Aside0.mk (HX.out.drewN nd)
               clear HX
               have HX := n_
               clear n_
               refine hK.out _ _ HX.out.two (fun hHeld => ?_)
               clear hK K
               refine norm_ (a' := ?_) ?_ ?_
               rotate_left
               ·
                show Act.put _ (some 75) _ = _; simp only [Act.put, List.setIfInBounds_toArray, List.set_cons_zero, List.set_cons_succ, i64_w, i32_w]; rfl
               refine one_ (i := 25) (N := some 77) FA26 rfl rfl (one_of HT_.out (by kernel_rfl)) (by decide) (fun K hK => ?_)
               refine gs_ Try.func94 #[.int .i64 i] ?_
               with_reducible refine (B2.out _).mono ?_
               rintro e w' ⟨rfl, ⟨nd, rfl⟩⟩
               refine ⟨_, rfl, ?_⟩
               have n_ := Aside0.mk (HX.out.drewN nd)
               clear HX
               have HX := n_
               clear n_
               refine hK.out _ _ HX.out.two (fun hHeld => ?_)
               clear hK K
               refine norm_ (a' := ?_) ?_ ?_
               rotate_left
               ·
                show Act.put _ (some 77) _ = _; simp only [Act.put, List.setIfInBounds_toArray, List.set_cons_zero, List.set_cons_succ, i64_w, i32_w]; rfl
               refine one_ (i := 26) (N := some 78) FA27 rfl rfl (one_of HT_.out (by kernel_rfl)) (by decide) (fun K hK => ?_)
               refine gs_ Try.func93 #[.agg #[.int .i64 n2, .slice A0_1 l0_1.length c0_1], .int .i64 p, .int .i64 q] ?_
               with_reducible refine (C2.out _ ?s1).mono ?_
               (case s1 => exact Kd.C_below HR1.out HX.out.below)
               rintro e w3 ⟨rfl, hb⟩
               refine ⟨_, rfl, ?_⟩
               have n_ := Aside0.mk (HX.out.next hb)
               clear HX hb
               have HX := n_
               clear n_
               refine hK.out _ _ HX.out.two (fun hHeld => ?_)
               clear hK K
               refine norm_ (a' := ?_) ?_ ?_
               rotate_left
               ·
                show Act.put _ (some 78) _ = _; simp only [Act.put, List.setIfInBounds_toArray, List.set_cons_zero, List.set_cons_succ, i64_w, i32_w]; rfl
               refine pV_ 27 79 FA28 HT_ ?_
               refine pV_ 28 80 FA29 HT_ ?_
               refine dn_ HT_ ?_
               try (go_wp2_with fail)
               go_meet
               exact ⟨(x != y), rfl, (by have h := HB.out; first | exact h | simpa using h), HX.out⟩
              ·
               have f5 : (x != 0) = true := by simpa using c5
               have HB : Aside0 (true = false ↔ (x = 4611686018427387904 ∨ (-1099511627776 ≤ x ∧ x ≤ 1099511627776)) ∧ (i = j → x = 0) ∧ x = y) := ⟨by constructor; (intro h; cases h); intro h; exfalso; omega⟩
               clear c1 c2 c3 c4 c5
               go_quiet (fail)
               go_wp2_with fail
               go_meet
               exact ⟨true, rfl, (by have h := HB.out; first | exact h | simpa using h), (by repeat (first | exact HX.out | (with_reducible apply Box1.drewN) | (with_reducible apply Box1.drew) | (with_reducible apply Box1.alloc)))⟩
             ·
              have f4 : (i == j) = false := by simpa using c4
              have HB : Aside0 ((x != y) = false ↔ (x = 4611686018427387904 ∨ (-1099511627776 ≤ x ∧ x ≤ 1099511627776)) ∧ (i = j → x = 0) ∧ x = y) := ⟨by simp only [bne_eq_false_iff_eq]; constructor <;> intro h <;> omega⟩
              clear c1 c2 c3 c4
              have n_ := Aside0.mk HX.out.drew
              clear HX hx0 hx1
              have HX := n_
              clear n_
              refine start_ (n := 29) (S := fun w' => w'.cell? ⟨w.heap.size + 1, 0, none⟩ = some (.int .i64 n2) ∧ w'.cell? ⟨w.heap.size + 1, 1, none⟩ = some (.slice A0_1 l0_1.length c0_1)) (ds := []) FA0 (by kernel_rfl) rfl rfl HX.out.two (fun hHeld => ?_); refine with_tabW oct_Fit.tab14 oct_Fit.bits14 (fun HT_ HW_ => ?_)
              generalize w1.drew = w2 at HX hHeld ⊢
              refine pV_ 0 52 FA1 HT_ ?_
              refine pV_ 1 53 FA2 HT_ ?_
              refine pV_ 2 54 FA3 HT_ ?_
              refine pV_ 3 55 FA4 HT_ ?_
              refine pV_ 4 56 FA5 HT_ ?_
              refine pV_ 5 57 FA6 HT_ ?_
              refine pV_ 6 58 FA7 HT_ ?_
              refine pV_ 7 59 FA8 HT_ ?_
              refine pV_ 8 60 FA9 HT_ ?_
              refine pV_ 9 61 FA10 HT_ ?_
              refine pV_ 10 62 FA11 HT_ ?_
              refine pV_ 11 63 FA12 HT_ ?_
              refine pV_ 12 64 FA13 HT_ ?_
              refine pV_ 13 65 FA14 HT_ ?_
              refine pV_ 14 66 FA15 HT_ ?_
              refine pU_ 15 67 FA16 HT_ ?_
              refine pU_ 16 68 FA17 HT_ ?_
              refine pV_ 17 69 FA18 HT_ ?_
              refine pV_ 18 70 FA19 HT_ ?_
              refine pV_ 19 71 FA20 HT_ ?_
              refine pV_ 20 72 FA21 HT_ ?_
              refine pV_ 22 74 FA22 HT_ ?_
              refine pV_ 24 76 FA23 HT_ ?_
              refine tV_ 21 73 FA24 HT_ HW_ hHeld ?_
              refine one_ (i := 23) (N := some 75) FA25 rfl rfl (one_of HT_.out (by kernel_rfl)) (by decide) (fun K hK => ?_)
              refine gs_ Try.func94 #[.int .i64 j] ?_
              with_reducible refine (B1.out _).mono ?_
              rintro e w' ⟨rfl, ⟨nd, rfl⟩⟩
              refine ⟨_, rfl, ?_⟩
              have n_ := Aside0.mk (HX.out.drewN nd)
              clear HX
              have HX := n_
              clear n_
              refine hK.out _ _ HX.out.two (fun hHeld => ?_)
              clear hK K
              refine norm_ (a' := ?_) ?_ ?_
              rotate_left
              ·
               show Act.put _ (some 75) _ = _; simp only [Act.put, List.setIfInBounds_toArray, List.set_cons_zero, List.set_cons_succ, i64_w, i32_w]; rfl
              refine one_ (i := 25) (N := some 77) FA26 rfl rfl (one_of HT_.out (by kernel_rfl)) (by decide) (fun K hK => ?_)
              refine gs_ Try.func94 #[.int .i64 i] ?_
              with_reducible refine (B2.out _).mono ?_
              rintro e w' ⟨rfl, ⟨nd, rfl⟩⟩
              refine ⟨_, rfl, ?_⟩
              have n_ := Aside0.mk (HX.out.drewN nd)
              clear HX
              have HX := n_
              clear n_
              refine hK.out _ _ HX.out.two (fun hHeld => ?_)
              clear hK K
              refine norm_ (a' := ?_) ?_ ?_
              rotate_left
              ·
               show Act.put _ (some 77) _ = _; simp only [Act.put, List.setIfInBounds_toArray, List.set_cons_zero, List.set_cons_succ, i64_w, i32_w]; rfl
              refine one_ (i := 26) (N := some 78) FA27 rfl rfl (one_of HT_.out (by kernel_rfl)) (by decide) (fun K hK => ?_)
              refine gs_ Try.func93 #[.agg #[.int .i64 n2, .slice A0_1 l0_1.length c0_1], .int .i64 p, .int .i64 q] ?_
              with_reducible refine (C2.out _ ?s1).mono ?_
              (case s1 => exact Kd.C_below HR1.out HX.out.below)
              rintro e w3 ⟨rfl, hb⟩
              refine ⟨_, rfl, ?_⟩
              have n_ := Aside0.mk (HX.out.next hb)
              clear HX hb
              have HX := n_
              clear n_
              refine hK.out _ _ HX.out.two (fun hHeld => ?_)
              clear hK K
              refine norm_ (a' := ?_) ?_ ?_
              rotate_left
              ·
               show Act.put _ (some 78) _ = _; simp only [Act.put, List.setIfInBounds_toArray, List.set_cons_zero, List.set_cons_succ, i64_w, i32_w]; rfl
              refine pV_ 27 79 FA28 HT_ ?_
              refine pV_ 28 80 FA29 HT_ ?_
              refine dn_ HT_ ?_
              try (go_wp2_with fail)
              go_meet
              exact ⟨(x != y), rfl, (by have h := HB.out; first | exact h | simpa using h), HX.out⟩
         case rest =>
          obtain ⟨b, rfl, hb, hX⟩ := hcut
          clear HX hx0 hx1 C1 C2 B1 B2
          have HX := Aside0.mk hX
          have HB := Aside0.mk (hb.trans HXY.out.symm)
          clear hX hb HXY
          cases b with
          | true =>
           go_wp2
           go_ret
           refine ⟨?_, HX.out.below⟩
           have h1 := HI.out; have h2 := HL.out; have h3 := HJ.out; have h4 := HK.out
           rw [← HV.out, ofitB_false.2 (fun h => by have := (h.2.2 rfl).2 i j h1.1 (by rw [HN.out]; exact h2) h3.1 (by rw [HN.out]; exact h4); rw [HN.out] at this; exact absurd (HB.out.2 this) (by simp))]
           rfl
          | false =>
           go_wp2
           go_roundg (n2.toNat - (j.toNat + 1))
           case measure => have h1 := HJ.out; have h2 := HK.out; omega
           case rel =>
            have h1 := HJ.out; have h2 := HK.out; have h3 := HT.out.1; have h4 := HN.out
            have hw : wrap64 (j + 1) = j + 1 := by unfold wrap64; omega
            refine ⟨wrap64 (j + 1), rfl, ⟨by omega, by omega, by omega⟩, ⟨HX.out⟩, ⟨fun b b0 b1 => ?_⟩⟩
            by_cases e : b = j
            ·
             subst e; exact HB.out.1 (by first | rfl | trivial)
            ·
             exact HE.out b b0 (by omega)
        ·
         have f3 : decide (j < n2) = false := decide_eq_false hlt
         have HK := Aside0.mk hlt
         clear hlt
         go_wp2
         go_roundg (n2.toNat - (i.toNat + 1))
         case measure => have h1 := HI.out; have h2 := HL.out; omega
         case rel =>
          have h1 := HI.out; have h2 := HL.out; have h3 := HT.out.1; have h4 := HN.out; have h5 := HK.out; have h6 := HJ.out
          have hw : wrap64 (i + 1) = i + 1 := by unfold wrap64; omega
          refine ⟨wrap64 (i + 1), rfl, ⟨by omega, by omega, by omega⟩, ⟨HX.out⟩, ⟨fun a b a0 a1 b0 b1 => ?_⟩⟩
          by_cases e : a = i
          ·
           subst e; exact HE.out b b0 (by omega)
          ·
           exact HA.out a b a0 (by omega) b0 b1
      ·
       have f2 : decide (i < n2) = false := decide_eq_false hlt
       have HL := Aside0.mk hlt
       clear hlt
       go_wp2
       go_ret
       have h1 := HI.out; have h2 := HL.out
       refine ⟨?_, HX.out.below⟩
       rw [← HV.out, ofitB_true.2 ⟨HT.out, fun h => (by cases h), fun _ => ⟨by rw [HN.out, HNN.out]; exact HZ.out, fun a b a0 a1 b0 b1 => by rw [HN.out] at a1 b1 ⊢; exact HA.out a b a0 (by omega) b0 b1⟩⟩]
       rfl
    ·
     have f1 : ((l0_1.length : Int) != nn) = true := by simpa using hz
     have HZ := Aside0.mk hz
     have HN := Aside0.mk hn2
     have HNN := Aside0.mk hnn
     clear hz hn2 hnn hnn2 hl8
     go_enter Try.func78, Try.ntmps78
     go_wp2_with (go_at_call 100; (with_reducible refine (HM.out _ ?side1).mono ?_); (case side1 => repeat (first | exact HR0.out | (with_reducible refine Kd.C_alloc ?_ _) | (with_reducible refine Kd.C_drewN ?_ _) | (with_reducible refine Kd.C_drew ?_))); rintro e w1 ⟨rfl, ⟨nd, rfl⟩⟩)
     go_ret
     refine ⟨?_, by repeat (first | exact Below.refl _ _ | (with_reducible apply below_alloc) | (with_reducible apply pw_below_drewN) | (with_reducible apply below_drew))⟩
     rw [← HV.out, ofitB_false.2 (fun h => HZ.out (by rw [(h.2.2 rfl).1, HN.out, HNN.out]))]
     rfl
 ·
  rw [if_neg hlen] at h
  cases h
end Go.Proofs.Ytphfchbggechhaa.QO
end
section
noncomputable section
namespace Go.Proofs.Ytphfchbggechhaa.QO
open Go.RowKit YtphfchbggechhaaW.PrintWords YtphfchbggechhaaW.PrintLast
set_option linter.unusedVariables false
set_option linter.unusedSimpArgs false
def tableV (n : Int) (A : Option Addr) (len cap : Nat) : Value := .iface 102 (.agg #[.int .i64 n, .slice A len cap])
theorem oct_of_any (A0 : Option Addr) (n0 c0 : Nat) (A1 : Option Addr) (n1 c1 : Nat) (b : Bool) (w : World) (hn : n0 ≤ 17592186044416) :
 Calls Try.prog 80 #[.agg #[.slice A0 n0 c0, .slice A1 n1 c1, .bool b]] w fun e w' => e = .returned (tableV (2 * (n0 : Int)) A1 n1 c1) ∧ Below w.heap.size w w' := by
 have hu25 := Try.underlying25
 have hw : wrap64 (2 * (n0 : Int)) = 2 * (n0 : Int) := by unfold wrap64; omega
 have hw2 : IntKind.i64.wrap (2 * (n0 : Int)) = 2 * (n0 : Int) := by rw [IntKind.wrap_i64]; omega
 clear hn
 go_enter Try.func80, Try.ntmps80
 go_wp2
 go_ret
 exact ⟨rfl, below_alloc (Below.refl _ _) _⟩
theorem meth_size (m : Int) (A : Option Addr) (n c : Nat) (w : World) : (method 234 102 (.agg #[.int .i64 m, .slice A n c]) "gimbal/oct.size").run Try.prog w = .ok (144, .agg #[.int .i64 m, .slice A n c]) w := by kernel_rfl
theorem meth_at (m : Int) (A : Option Addr) (n c : Nat) (w : World) : (method 234 102 (.agg #[.int .i64 m, .slice A n c]) "gimbal/oct.at").run Try.prog w = .ok (145, .agg #[.int .i64 m, .slice A n c]) w := by kernel_rfl
theorem oct_size_any (m : Int) (A : Option Addr) (n c : Nat) (w : World) :
 Calls Try.prog 144 #[.agg #[.int .i64 m, .slice A n c]] w fun e w' => e = .returned (.int .i64 m) ∧ Below w.heap.size w w' := by
 have hu58 := Try.underlying95
 go_enter Try.func144, Try.ntmps144
 go_wp2
 go_ret
 exact ⟨rfl, below_alloc (Below.refl _ _) _⟩
def lowAt (n2 : Int) (m : List Int) (i j : Int) : Int := if j / 2 > i / 2 then rd m (nbar j * n2 + nbar i) else rd m (i * n2 + j)
theorem oct_lower_at_any (n : Nat) (A : Option Addr) (c : Nat) (m : List Int) (i j : Int) (w : World) (hr : Kd.C (Kd.int .i64) w A m.length m) (hc : m.length ≤ c) (hn : n ≤ 8) (hm : (m.length : Int) = (2 * (n : Int)) * (2 * (n : Int)))
 (h0 : 0 ≤ i) (h1 : i < 2 * (n : Int)) (h2 : 0 ≤ j) (h3 : j < 2 * (n : Int)) :
 Calls Try.prog 145 #[.agg #[.int .i64 (2 * (n : Int)), .slice A m.length c], .int .i64 i, .int .i64 j] w fun e w' => e = .returned (.int .i64 (lowAt (2 * (n : Int)) m i j)) ∧ Below w.heap.size w w' := by
 have hu58 := Try.underlying95
 have hu85 := Try.underlying102
 have nj := nbar_in (i := j) (n := n) h2 h3
 have ni := nbar_in (i := i) (n := n) h0 h1
 have a1 := at_ok (n := n) (m := m) (i := i) (j := j) hn hm h0 h1 h2 h3
 have a2 := at_ok (n := n) (m := m) (i := nbar j) (j := nbar i) hn hm nj.1 nj.2 ni.1 ni.2
 have b1 : oct_bar.f j = some (nbar j) := by unfold oct_bar.f; rw [if_pos ⟨h2, by omega⟩]
 have b2 : oct_bar.f i = some (nbar i) := by unfold oct_bar.f; rw [if_pos ⟨h0, by omega⟩]
 have HR := Aside0.mk hr
 obtain ⟨i2, hi2⟩ : ∃ i2 : Int, i / 2 = i2 := ⟨_, rfl⟩
 obtain ⟨j2, hj2⟩ : ∃ j2 : Int, j / 2 = j2 := ⟨_, rfl⟩
 have d1 : i.tdiv 2 = i2 := by rw [Int.tdiv_eq_ediv_of_nonneg h0]; exact hi2
 have d2 : j.tdiv 2 = j2 := by rw [Int.tdiv_eq_ediv_of_nonneg h2]; exact hj2
 have d3 : wrap64 i2 = i2 := by unfold wrap64; omega
 have d4 : wrap64 j2 = j2 := by unfold wrap64; omega
 by_cases hlt : j / 2 > i / 2
 ·
  have e : lowAt (2 * (n : Int)) m i j = rd m (nbar j * (2 * (n : Int)) + nbar i) := by unfold lowAt; rw [if_pos hlt]
  rw [e]
  obtain ⟨n2, hn2⟩ : ∃ n2 : Int, 2 * (n : Int) = n2 := ⟨_, rfl⟩
  rw [hn2] at a2 ⊢
  obtain ⟨p, hp⟩ : ∃ p, nbar j = p := ⟨_, rfl⟩
  obtain ⟨q, hq⟩ : ∃ q, nbar i = q := ⟨_, rfl⟩
  rw [hp, hq] at a2 ⊢
  rw [hp] at b1
  rw [hq] at b2
  obtain ⟨y, hy⟩ : ∃ y, rd m (p * n2 + q) = y := ⟨_, rfl⟩
  rw [hy] at a2 ⊢
  have C2 := Aside0.mk (fun W (hW : Kd.C (Kd.int .i64) W A m.length m) => oct_full_at.calls n2 A c m p q y W hW hc a2)
  have B1 := Aside0.mk (fun W => oct_bar_still j p W b1)
  have B2 := Aside0.mk (fun W => oct_bar_still i q W b2)
  have f1 : decide (i2 < j2) = true := decide_eq_true (by omega)
  clear nj ni a1 a2 b1 b2 hr hlt hi2 hj2 e hy hp hq hm hn hn2 h1 h3 h0 h2 hc
  go_enter Try.func145, Try.ntmps145
  go_wp2_with (first | (go_at_call 94; (with_reducible refine (B1.out _).mono ?_); rintro e w' ⟨rfl, rfl⟩) | (go_at_call 94; (with_reducible refine (B2.out _).mono ?_); rintro e w' ⟨rfl, rfl⟩) | (go_at_call 93; (with_reducible refine (C2.out _ ?s1).mono ?_); (case s1 => exact Kd.C_alloc HR.out _); rintro e w1 ⟨rfl, hb⟩))
  go_ret
  exact ⟨rfl, (below_alloc (Below.refl _ _) _).trans (hb.mono (by simp))⟩
 ·
  have e : lowAt (2 * (n : Int)) m i j = rd m (i * (2 * (n : Int)) + j) := by unfold lowAt; rw [if_neg hlt]
  rw [e]
  obtain ⟨n2, hn2⟩ : ∃ n2 : Int, 2 * (n : Int) = n2 := ⟨_, rfl⟩
  rw [hn2] at a1 ⊢
  obtain ⟨y, hy⟩ : ∃ y, rd m (i * n2 + j) = y := ⟨_, rfl⟩
  rw [hy] at a1 ⊢
  have C1 := Aside0.mk (fun W (hW : Kd.C (Kd.int .i64) W A m.length m) => oct_full_at.calls n2 A c m i j y W hW hc a1)
  have f1 : decide (i2 < j2) = false := decide_eq_false (by omega)
  clear nj ni a1 a2 b1 b2 hr hlt hi2 hj2 e hy hm hn hn2 h1 h3 h0 h2 hc
  go_enter Try.func145, Try.ntmps145
  go_wp2_with (go_at_call 93; (with_reducible refine (C1.out _ ?s1).mono ?_); (case s1 => exact Kd.C_alloc HR.out _); rintro e w1 ⟨rfl, hb⟩)
  go_ret
  exact ⟨rfl, (below_alloc (Below.refl _ _) _).trans (hb.mono (by simp))⟩
def bfit (a : Int) : Int := if a < -4611686018427387904 then -4611686018427387904 else if a > 4611686018427387904 then 4611686018427387904 else a
theorem bfit_id {a : Int} (h : -4611686018427387904 ≤ a) (h' : a ≤ 4611686018427387904) : bfit a = a := by unfold bfit; rw [if_neg (by omega), if_neg (by omega)]
theorem bcell {W w1 : World} (hb : Below W.heap.size W w1) : (∀ b o, b < W.heap.size → w1.cell? ⟨b, o, none⟩ = W.cell? ⟨b, o, none⟩) ∧ (∀ b o, b < W.heap.size → w1.frozen? ⟨b, o, none⟩ = W.frozen? ⟨b, o, none⟩) :=
 ⟨fun b o h => hb.cell (p := ⟨b, o, none⟩) h, fun b o h => hb.frozen (p := ⟨b, o, none⟩) h⟩
def bound_Fit.f (a0 : Int) : Option (Int) := some (bfit a0)
theorem bound_Fit.calls (a0 : Int) (r : Int) (w : World) (h : bound_Fit.f a0 = some r) :
 Calls Try.prog 104 #[.int .i64 a0] w fun e w' => e = .returned (.int .i64 r) ∧ Drawn0 w w' := by
 obtain rfl := Option.some.inj h
 clear h
 go_enter Try.func104, Try.ntmps104
 go_wp2
 all_goals
  go_ret
  refine ⟨?_, Drawn0.refl _⟩
  first
   | (rw [show bfit a0 = 4611686018427387904 by unfold bfit; (repeat' split) <;> omega]; rfl)
   | (rw [show bfit a0 = -4611686018427387904 by unfold bfit; (repeat' split) <;> omega]; rfl)
   | (rw [show bfit a0 = a0 by unfold bfit; (repeat' split) <;> omega]; rfl)
def bound_Up.f (a0 : Int) (a1 : Int) : Option (Int) := (bound_Fit.f a0).bind fun t116 => ((bound_Fit.f a1).bind fun t117 => (if t116 = 4611686018427387904 then (some 4611686018427387904) else (if t117 = 4611686018427387904 then (some 4611686018427387904) else (some (mn (mx (wrap64 (t116 + t117)) (-4611686018427387903)) 4611686018427387904)))))
theorem bound_Up.calls (a0 : Int) (a1 : Int) (r : Int) (w : World) (h : bound_Up.f a0 a1 = some r) :
 Calls Try.prog 60 #[.int .i64 a0, .int .i64 a1] w fun e w' => e = .returned (.int .i64 r) ∧ Below w.heap.size w w' := by
 have HB := Aside0.mk (Below.refl w.heap.size w)
 have H := h
 unfold bound_Up.f at H
 clear h
 replace H := Option.bind_eq_some_iff.mp H
 obtain ⟨t116, A30, H⟩ := H
 try dsimp only at H
 have A3 := Aside0.mk A30
 clear A30
 replace H := Option.bind_eq_some_iff.mp H
 obtain ⟨t117, A40, H⟩ := H
 try dsimp only at H
 have A4 := Aside0.mk A40
 clear A40
 by_cases c5 : t116 = 4611686018427387904
 ·
  rw [if_pos c5] at H
  have c5b0 : (t116 == 4611686018427387904) = true := beq_iff_eq.mpr c5
  have c5b1 : (t116 != 4611686018427387904) = false := bne_eq_false_iff_eq.mpr c5
  clear c5
  obtain rfl := Option.some.inj H
  go_enter Try.func60, Try.ntmps60
  go_wp2_with (first | ((with_reducible refine gate_callee (f := 104) rfl ?_); refine gl_ (some 6) Try.func104 #[.int .i64 a0] ?_; (with_reducible refine (bound_Fit.calls a0 t116 _ A3.out).mono ?_); rintro e w' ⟨rfl, ⟨nd, rfl⟩⟩; refine ⟨_, rfl, ?_⟩) | ((with_reducible refine gate_callee (f := 104) rfl ?_); refine gl_ (some 8) Try.func104 #[.int .i64 a1] ?_; (with_reducible refine (bound_Fit.calls a1 t117 _ A4.out).mono ?_); rintro e w' ⟨rfl, ⟨nd, rfl⟩⟩; refine ⟨_, rfl, ?_⟩))
  go_ret
  exact ⟨vE, vW HB.out⟩
 ·
  rw [if_neg c5] at H
  have c5b0 : (t116 == 4611686018427387904) = false := beq_eq_false_iff_ne.mpr c5
  have c5b1 : (t116 != 4611686018427387904) = true := bne_iff_ne.mpr c5
  by_cases c6 : t117 = 4611686018427387904
  ·
   rw [if_pos c6] at H
   have c6b0 : (t117 == 4611686018427387904) = true := beq_iff_eq.mpr c6
   have c6b1 : (t117 != 4611686018427387904) = false := bne_eq_false_iff_eq.mpr c6
   clear c6
   obtain rfl := Option.some.inj H
   go_enter Try.func60, Try.ntmps60
   go_wp2_with (first | ((with_reducible refine gate_callee (f := 104) rfl ?_); refine gl_ (some 6) Try.func104 #[.int .i64 a0] ?_; (with_reducible refine (bound_Fit.calls a0 t116 _ A3.out).mono ?_); rintro e w' ⟨rfl, ⟨nd, rfl⟩⟩; refine ⟨_, rfl, ?_⟩) | ((with_reducible refine gate_callee (f := 104) rfl ?_); refine gl_ (some 8) Try.func104 #[.int .i64 a1] ?_; (with_reducible refine (bound_Fit.calls a1 t117 _ A4.out).mono ?_); rintro e w' ⟨rfl, ⟨nd, rfl⟩⟩; refine ⟨_, rfl, ?_⟩))
   go_ret
   exact ⟨vE, vW HB.out⟩
  ·
   rw [if_neg c6] at H
   have c6b0 : (t117 == 4611686018427387904) = false := beq_eq_false_iff_ne.mpr c6
   have c6b1 : (t117 != 4611686018427387904) = true := bne_iff_ne.mpr c6
   obtain ⟨ji7, hji7⟩ : ∃ j_ : Int, (mx (wrap64 (t116 + t117)) (-4611686018427387903)) = j_ := ⟨_, rfl⟩
   first | rw [hji7] at H | simp only [hji7] at H
   (try rw [hji7] at A3)
   (try rw [hji7] at A4)
   have hji7_ : (if (wrap64 (t116 + t117)) < (-4611686018427387903) then (-4611686018427387903) else (wrap64 (t116 + t117))) = ji7 := hji7
   obtain ⟨ji8, hji8⟩ : ∃ j_ : Int, (mn (ji7) 4611686018427387904) = j_ := ⟨_, rfl⟩
   first | rw [hji8] at H | simp only [hji8] at H
   (try rw [hji8] at A3)
   (try rw [hji8] at A4)
   have hji8_ : (if 4611686018427387904 < (ji7) then 4611686018427387904 else (ji7)) = ji8 := hji8
   obtain rfl := Option.some.inj H
   go_enter Try.func60, Try.ntmps60
   go_wp2_with (first | ((with_reducible refine gate_callee (f := 104) rfl ?_); refine gl_ (some 6) Try.func104 #[.int .i64 a0] ?_; (with_reducible refine (bound_Fit.calls a0 t116 _ A3.out).mono ?_); rintro e w' ⟨rfl, ⟨nd, rfl⟩⟩; refine ⟨_, rfl, ?_⟩) | ((with_reducible refine gate_callee (f := 104) rfl ?_); refine gl_ (some 8) Try.func104 #[.int .i64 a1] ?_; (with_reducible refine (bound_Fit.calls a1 t117 _ A4.out).mono ?_); rintro e w' ⟨rfl, ⟨nd, rfl⟩⟩; refine ⟨_, rfl, ?_⟩))
   go_ret
   exact ⟨by first | rfl | (simp [errW_none, errW_some] <;> rfl) | (simp only [← hji7, ← hji8]; first | rfl | (simp [errW_none, errW_some] <;> rfl)) | (simp [*, errW_none, errW_some] <;> rfl) | (simp [wrap64]; done), vW HB.out⟩
def slices_Clone_int_int.f (l0 : List Int) : Option (List Int) := if l0.length < 17592186044416 then some l0 else none
theorem R_lit_nil (W : World) (e : Nat) : Kd.R (Kd.int .i64) e (W.alloc (.cells #[] e)) W.heap.size (fun _ => True) (.slice (some ⟨W.heap.size, 0, none⟩) 0 0) [] := by
 have h := own_lit_of (enc := Value.int .i64) W W.heap.size e [] (Nat.le_refl _) (by simp)
 exact Kd.R_of_own (h1 := fun _ => rfl) h (fun _ _ => trivial)
theorem slices_Clone_int_int.calls (A0 : Option Addr) (c0 : Nat) (l0 : List Int) (r : List Int) (w : World) (hr0 : Kd.C (Kd.int .i64) w A0 l0.length l0) (hc0 : l0.length ≤ c0) (h : slices_Clone_int_int.f l0 = some r) :
 Calls Try.prog 96 #[.slice A0 l0.length c0] w fun e w' => ∃ v0_ : Value, e = .returned (v0_) ∧ Kd.R (Kd.int .i64) 3 w' w.heap.size (fun _ => True) v0_ r ∧ Below w.heap.size w w' := by
 have HR0 := Aside0.mk hr0
 have HB := Aside0.mk (Below.refl w.heap.size w)
 clear hc0
 unfold slices_Clone_int_int.f at h
 by_cases c2 : l0.length < 17592186044416
 ·
  rw [if_pos c2] at h
  obtain rfl := Option.some.inj h
  have LM := Aside0.mk c2
  clear h c2
  have qT : ∀ (w : World) (a : Option Addr) (n c n' c' : Nat), (binOp .eql 22 (.slice a n c) (.slice none n' c')).run Try.prog w = .ok (.bool a.isNone) w := fun w a n c n' c' => Lib.run_eql_slice_nil w _ _ a n c n' c' Try.underlying22
  cases A0 with
  | none =>
   have hl : l0 = [] := by
    obtain ⟨h1, _, h2⟩ := hr0
    by_cases hz : 0 < l0.length
    ·
     obtain ⟨ad, e, _⟩ := h2 hz; cases e
    ·
     exact List.eq_nil_of_length_eq_zero (by omega)
   subst hl
   clear hr0
   go_enter Try.func96, Try.ntmps96
   go_wp2
   go_ret
   exact ⟨_, rfl, Kd.R_nil _ _ _ _ _, HB.out⟩
  | some ad =>
   clear hr0
   go_enter Try.func96, Try.ntmps96
   go_wp2_with (first | ((with_reducible refine gate_builtin (b := .append) (xs := #[.tmp 5, .tmp 6]) rfl ?_); at_builtin; refine Kd.R_append_rows (Kd.int .i64) (w0 := w) w.heap.size rfl (.tmp 5) (.tmp 6) 22 3 (.int .i64 0) 8 rfl Try.underlying22 info3 rfl (by decide) (by omega) (.slice (some ⟨w.heap.size, 0, none⟩) 0 0) ([] : List Int) l0 _ _ _ (fun _ => True) (fun _ => False) rfl rfl ?aO ?aR (fun _ _ h => h) (fun _ h => h.elim) ?aF ?aB ?aS ?aL ?_; (case aR => exact Kd.C_alloc HR0.out _); (case aB => exact (by repeat (first | (with_reducible first | exact HB.out | apply below_alloc | apply pw_below_drewN | apply below_drew1) | exact HB.out))); (case aF => exact (fun _ _ => trivial)); (case aO => exact R_lit_nil _ _); (case aS => exact (below_size (by repeat (first | (with_reducible first | exact HB.out | apply below_alloc | apply pw_below_drewN | apply below_drew1) | exact HB.out)))); (case aL => have := LM.out; rw [List.length_nil]; omega); intro v174 w3 ho hb hg hat; have n0_ := Aside0.mk (hb); have n1_ := Aside0.mk (ho); clear HB; have HB := n0_; have HO := n1_; clear n0_ n1_; clear ho hb hg hat))
   go_ret
   exact ⟨_, rfl, HO.out, HB.out⟩
 ·
  rw [if_neg c2] at h
  exact absurd h (by simp)
def oct_Bottom.f (l0 : List Int) : Option (List Int × List Int × Bool) := (oct_may.f l0).bind fun t112 => (if t112 = true then ((slices_Clone_int_int.f l0).bind fun t113 => (some (t113, ([] : List Int), true))) else (some (([] : List Int), ([] : List Int), false)))
theorem oct_Bottom.calls (A0 : Option Addr) (c0 : Nat) (l0 : List Int) (r1 : List Int) (r2 : List Int) (r3 : Bool) (w : World) (hr0 : Kd.C (Kd.int .i64) w A0 l0.length l0) (hc0 : l0.length ≤ c0) (h : oct_Bottom.f l0 = some (r1, r2, r3)) :
 Calls Try.prog 58 #[.slice A0 l0.length c0] w fun e w' => ∃ v0_ v1_ : Value, e = .returned (.agg #[v0_, v1_, .bool r3]) ∧ Kd.R (Kd.int .i64) 3 w' w.heap.size (fun _ => True) v0_ r1 ∧ Kd.R (Kd.int .i64) 2 w' w.heap.size (fun _ => True) v1_ r2 ∧ Below w.heap.size w w' := by
 have hu25 := Try.underlying25
 have HR0 := Aside0.mk hr0
 have HC0 := Aside0.mk hc0
 clear hr0 hc0
 have HB := Aside0.mk (Below.refl w.heap.size w)
 have H := h
 unfold oct_Bottom.f at H
 clear h
 replace H := Option.bind_eq_some_iff.mp H
 obtain ⟨t112, A20, H⟩ := H
 try dsimp only at H
 have A2 := Aside0.mk A20
 clear A20
 by_cases c3 : t112 = true
 ·
  subst c3
  rw [if_pos rfl] at H
  try dsimp only at H
  replace H := Option.bind_eq_some_iff.mp H
  obtain ⟨t113, A40, H⟩ := H
  try dsimp only at H
  have A4 := Aside0.mk A40
  clear A40
  simp only [Option.some.injEq, Prod.mk.injEq] at H
  obtain ⟨rfl, rfl, rfl⟩ := H
  go_enter Try.func58, Try.ntmps58
  go_wp2_with (first | ((with_reducible refine gate_dst (N := 2) rfl ?_); refine bx_ 2 #[.slice none 0 0, .slice none 0 0, .bool false] 25 ?_; intro gb111 hg w5 hbox hb; have BK111 := Aside0.mk (hbox); have GW111 := vS hg HB; have GE111 := vS hg HB; replace HB := vWs HB hb; clear hb hbox hg) | ((with_reducible refine gate_callee (f := 100) rfl ?_); refine gl_ (some 4) Try.func100 #[.slice A0 l0.length c0] ?_; (with_reducible refine (oct_may.calls _ _ l0 true _ ?side1 ?side2 A2.out).mono ?_); (case side1 => exact vC (Kd.C_below HR0.out HB.out)); (case side2 => exact HC0.out); rintro e w' ⟨rfl, ⟨nd, rfl⟩⟩; refine ⟨_, rfl, ?_⟩; (try (rw [drewN_self w5]; generalize hq_ : World.drewN w5 _ = w5; have n0_ : Aside0 (w5.heap[gb111]? = some (.cells #[.slice none 0 0, .slice none 0 0, .bool false] 25 (0, 0))) := ⟨by rw [← hq_]; exact (vB BK111.out)⟩; have n1_ : Aside0 (Below w.heap.size w w5) := ⟨by rw [← hq_]; exact (vW HB.out)⟩; clear BK111 HB hq_; have BK111 := n0_; have HB := n1_; clear n0_ n1_))) | ((with_reducible refine gate_callee (f := 96) rfl ?_); refine gl_ (some 8) Try.func96 #[.slice A0 l0.length c0] ?_; (with_reducible refine (slices_Clone_int_int.calls _ _ l0 t113 _ ?side1 ?side2 A4.out).mono ?_); (case side1 => exact vC (Kd.C_below HR0.out HB.out)); (case side2 => exact HC0.out); rintro e w6 ⟨v114, rfl, ho0, hb⟩; refine ⟨_, rfl, ?_⟩; have HO115 := Aside0.mk (Kd.R_lower ho0 (below_size (vW HB.out))); replace BK111 := vBb BK111 hb; replace HB := vWs HB hb; (try clear hb); (try clear hb2); (try clear hk); (try clear hi); (try clear ho0); obtain ⟨Ao7, co7, eo7⟩ := Kd.R_slice HO115.out; subst eo7; obtain ⟨hcz8_0, hcz8_1, hcz8_2, hfz8_0, hfz8_1, hfz8_2⟩ := vF3 BK111.out))
  refine bodyPost_ret (results_cell_row rfl _ _ gb111 25 #[.slice Ao7 t113.length co7, .slice none 0 0, .bool true] (0, 0) _ rfl (vP3 BK111.out) Try.underlying25 rfl (by kernel_rfl)) rfl ?_
  exact ⟨_, _, vE, vTt HO115.out BK111.out, by first | exact Kd.R_nil _ _ _ _ _ | exact Kd.N_nil _ _ _ _ _ | exact Kd.V_nil _ _ _ _ _ | exact Kd.Q_nil _ _ _ _ _ | exact Kd.S_nil _ _ _ _ _, vW HB.out⟩
 ·
  replace c3 := Bool.eq_false_iff.mpr c3
  subst c3
  rw [if_neg (show ¬ (false = true) by decide)] at H
  try dsimp only at H
  simp only [Option.some.injEq, Prod.mk.injEq] at H
  obtain ⟨rfl, rfl, rfl⟩ := H
  go_enter Try.func58, Try.ntmps58
  go_wp2_with (first | ((with_reducible refine gate_dst (N := 2) rfl ?_); refine bx_ 2 #[.slice none 0 0, .slice none 0 0, .bool false] 25 ?_; intro gb111 hg w9 hbox hb; have BK111 := Aside0.mk (hbox); have GW111 := vS hg HB; have GE111 := vS hg HB; replace HB := vWs HB hb; clear hb hbox hg) | ((with_reducible refine gate_callee (f := 100) rfl ?_); refine gl_ (some 4) Try.func100 #[.slice A0 l0.length c0] ?_; (with_reducible refine (oct_may.calls _ _ l0 false _ ?side1 ?side2 A2.out).mono ?_); (case side1 => exact vC (Kd.C_below HR0.out HB.out)); (case side2 => exact HC0.out); rintro e w' ⟨rfl, ⟨nd, rfl⟩⟩; refine ⟨_, rfl, ?_⟩; (try (rw [drewN_self w9]; generalize hq_ : World.drewN w9 _ = w9; have n0_ : Aside0 (w9.heap[gb111]? = some (.cells #[.slice none 0 0, .slice none 0 0, .bool false] 25 (0, 0))) := ⟨by rw [← hq_]; exact (vB BK111.out)⟩; have n1_ : Aside0 (Below w.heap.size w w9) := ⟨by rw [← hq_]; exact (vW HB.out)⟩; clear BK111 HB hq_; have BK111 := n0_; have HB := n1_; clear n0_ n1_)); obtain ⟨hcz10_0, hcz10_1, hcz10_2, hfz10_0, hfz10_1, hfz10_2⟩ := vF3 BK111.out))
  refine bodyPost_ret (results_cell_row rfl _ _ gb111 25 #[.slice none 0 0, .slice none 0 0, .bool false] (0, 0) _ rfl (vP3 BK111.out) Try.underlying25 rfl (by kernel_rfl)) rfl ?_
  exact ⟨_, _, vE, by first | exact Kd.R_nil _ _ _ _ _ | exact Kd.N_nil _ _ _ _ _ | exact Kd.V_nil _ _ _ _ _ | exact Kd.Q_nil _ _ _ _ _ | exact Kd.S_nil _ _ _ _ _, by first | exact Kd.R_nil _ _ _ _ _ | exact Kd.N_nil _ _ _ _ _ | exact Kd.V_nil _ _ _ _ _ | exact Kd.Q_nil _ _ _ _ _ | exact Kd.S_nil _ _ _ _ _, vW HB.out⟩
def bound_kind.f (a0 : Int) : Option (Int) := if a0 ≥ 4611686018427387904 then (some 1) else (if a0 ≤ (-4611686018427387904) then (some (-1)) else (some 0))
theorem bound_kind.calls (a0 : Int) (r : Int) (w : World) (h : bound_kind.f a0 = some r) :
 Calls Try.prog 123 #[.int .i64 a0] w fun e w' => e = .returned (.int .i64 r) ∧ Drawn0 w w' := by
 have H : (if a0 ≥ 4611686018427387904 then (some 1) else (if a0 ≤ (-4611686018427387904) then (some (-1)) else (some 0))) = some r := h
 clear h
 by_cases c2 : a0 ≥ 4611686018427387904
 ·
  rw [if_pos c2] at H
  have c2b0 : decide (4611686018427387904 ≤ a0) = true := decide_eq_true c2
  clear c2
  obtain rfl := Option.some.inj H
  go_enter Try.func123, Try.ntmps123
  go_wp2
  go_ret
  exact ⟨by first | rfl | (simp; done) | (simp [*]; done), by repeat (first | exact Drawn0.refl _ | apply Drawn0.step)⟩
 ·
  rw [if_neg c2] at H
  have c2b0 : decide (4611686018427387904 ≤ a0) = false := decide_eq_false c2
  clear c2
  by_cases c3 : a0 ≤ (-4611686018427387904)
  ·
   rw [if_pos c3] at H
   have c3b0 : decide (a0 ≤ (-4611686018427387904)) = true := decide_eq_true c3
   clear c3
   obtain rfl := Option.some.inj H
   go_enter Try.func123, Try.ntmps123
   go_wp2
   go_ret
   exact ⟨by first | rfl | (simp; done) | (simp [*]; done), by repeat (first | exact Drawn0.refl _ | apply Drawn0.step)⟩
  ·
   rw [if_neg c3] at H
   have c3b0 : decide (a0 ≤ (-4611686018427387904)) = false := decide_eq_false c3
   clear c3
   obtain rfl := Option.some.inj H
   go_enter Try.func123, Try.ntmps123
   go_wp2
   go_ret
   exact ⟨by first | rfl | (simp; done) | (simp [*]; done), by repeat (first | exact Drawn0.refl _ | apply Drawn0.step)⟩
def bound_Half.f (a0 : Int) : Option (Int) := (bound_kind.f a0).bind fun t118 => (if t118 = 0 then (some (a0 / 2)) else ((bound_Fit.f a0).bind fun t119 => (some t119)))
theorem bound_Half.calls (a0 : Int) (r : Int) (w : World) (h : bound_Half.f a0 = some r) :
 Calls Try.prog 95 #[.int .i64 a0] w fun e w' => e = .returned (.int .i64 r) ∧ Drawn0 w w' := by
 have H : ((bound_kind.f a0).bind fun t118 => (if t118 = 0 then (some (a0 / 2)) else ((bound_Fit.f a0).bind fun t119 => (some t119)))) = some r := h
 clear h
 replace H := Option.bind_eq_some_iff.mp H
 obtain ⟨t118, A20, H⟩ := H
 replace H : (if t118 = 0 then (some (a0 / 2)) else ((bound_Fit.f a0).bind fun t119 => (some t119))) = some r := H
 have A2 := Aside0.mk A20
 clear A20
 by_cases c3 : t118 = 0
 ·
  rw [if_pos c3] at H
  have c3b0 : (t118 == 0) = true := beq_iff_eq.mpr c3
  have c3b1 : (t118 != 0) = false := bne_eq_false_iff_eq.mpr c3
  clear c3
  obtain rfl := Option.some.inj H
  go_enter Try.func95, Try.ntmps95
  go_wp2_with (first | ((with_reducible refine gate_callee (f := 123) rfl ?_); refine goesL_ (some 4) rfl rfl Try.func123 (by kernel_rfl) rfl #[.int .i64 a0] rfl (by (try simp only [List.map_toArray, List.map_cons, List.map_nil]); first | done | rfl | (simp only [List.length_drop, List.length_take]; rfl)) ?_; (with_reducible refine (bound_kind.calls a0 t118 _ A2.out).mono ?_); rintro e w' ⟨rfl, ⟨nd, rfl⟩⟩; refine ⟨_, rfl, ?_⟩))
  go_ret
  exact ⟨by first | rfl | (simp; done) | (simp [*]; done), by repeat (first | exact Drawn0.refl _ | apply Drawn0.step)⟩
 ·
  rw [if_neg c3] at H
  have c3b0 : (t118 == 0) = false := beq_eq_false_iff_ne.mpr c3
  have c3b1 : (t118 != 0) = true := bne_iff_ne.mpr c3
  replace H := Option.bind_eq_some_iff.mp H
  obtain ⟨t119, A40, H⟩ := H
  replace H : (some t119) = some r := H
  have A4 := Aside0.mk A40
  clear A40
  obtain rfl := Option.some.inj H
  go_enter Try.func95, Try.ntmps95
  go_wp2_with (first | ((with_reducible refine gate_callee (f := 123) rfl ?_); refine goesL_ (some 4) rfl rfl Try.func123 (by kernel_rfl) rfl #[.int .i64 a0] rfl (by (try simp only [List.map_toArray, List.map_cons, List.map_nil]); first | done | rfl | (simp only [List.length_drop, List.length_take]; rfl)) ?_; (with_reducible refine (bound_kind.calls a0 t118 _ A2.out).mono ?_); rintro e w' ⟨rfl, ⟨nd, rfl⟩⟩; refine ⟨_, rfl, ?_⟩) | ((with_reducible refine gate_callee (f := 104) rfl ?_); refine goesL_ (some 7) rfl rfl Try.func104 (by kernel_rfl) rfl #[.int .i64 a0] rfl (by (try simp only [List.map_toArray, List.map_cons, List.map_nil]); first | done | rfl | (simp only [List.length_drop, List.length_take]; rfl)) ?_; (with_reducible refine (bound_Fit.calls a0 t119 _ A4.out).mono ?_); rintro e w' ⟨rfl, ⟨nd, rfl⟩⟩; refine ⟨_, rfl, ?_⟩))
  go_ret
  exact ⟨by first | rfl | (simp; done) | (simp [*]; done), by repeat (first | exact Drawn0.refl _ | apply Drawn0.step)⟩
def oct_clip.f (a0 : Int) : Option (Int) := if a0 > 1099511627776 then (some 4611686018427387904) else (some (mx a0 (-1099511627776)))
theorem oct_clip.calls (a0 : Int) (r : Int) (w : World) (h : oct_clip.f a0 = some r) :
 Calls Try.prog 97 #[.int .i64 a0] w fun e w' => e = .returned (.int .i64 r) ∧ Below w.heap.size w w' := by
 have HB := Aside0.mk (Below.refl w.heap.size w)
 have H : (if a0 > 1099511627776 then (some 4611686018427387904) else (some (mx a0 (-1099511627776)))) = some r := h
 clear h
 by_cases c2 : a0 > 1099511627776
 ·
  rw [if_pos c2] at H
  have c2b0 : decide (1099511627776 < a0) = true := decide_eq_true c2
  clear c2
  obtain rfl := Option.some.inj H
  go_enter Try.func97, Try.ntmps97
  go_wp2
  go_ret
  exact ⟨vE, by repeat (first | (with_reducible first | exact HB.out | apply below_alloc | apply pw_below_drewN | apply below_drew1) | exact HB.out)⟩
 ·
  rw [if_neg c2] at H
  have c2b0 : decide (1099511627776 < a0) = false := decide_eq_false c2
  clear c2
  obtain ⟨ji3, hji3⟩ : ∃ j_ : Int, (mx a0 (-1099511627776)) = j_ := ⟨_, rfl⟩
  replace H : (some ji3) = some r := by first | (rw [hji3] at H; exact H) | (simp only [hji3] at H ⊢; exact H)
  have hji3_ : (if a0 < (-1099511627776) then (-1099511627776) else a0) = ji3 := hji3
  obtain rfl := Option.some.inj H
  go_enter Try.func97, Try.ntmps97
  go_wp2
  go_ret
  exact ⟨by first | rfl | (simp [errW_none, errW_some] <;> rfl) | (simp only [← hji3]; first | rfl | (simp [errW_none, errW_some] <;> rfl)) | (simp [*, errW_none, errW_some] <;> rfl) | (simp [wrap64]; done), by repeat (first | (with_reducible first | exact HB.out | apply below_alloc | apply pw_below_drewN | apply below_drew1) | exact HB.out)⟩
def octop_place.l0 : Nat → Int → List Int → Int → Int → Option (Int)
 | 0, _, _, _, _ => none
 | k + 1, x1, x8, x9, x10 => if x10 < x9 then (if 0 ≤ x10 then (if x10 < (x8.length : Int) then (if (rd x8 x10) = x1 then (some x10) else (octop_place.l0 k x1 x8 x9 (wrap64 (x10 + 1)))) else (none)) else (none)) else (some (-1))
def octop_place.f (k : Nat) (l0_0 : List Int) (l0_1 : List Int) (a0_2 : Bool) (a1 : Int) : Option (Int) := octop_place.l0 k a1 l0_0 (l0_0.length : Int) 0
theorem octop_place.mono_l : ∀ k, (∀ y0 y1 y2 y3, LeO (octop_place.l0 k y0 y1 y2 y3) (octop_place.l0 (k + 1) y0 y1 y2 y3))
 | 0 => fun _ _ _ _ r h => by simp [octop_place.l0] at h
 | k + 1 => by
  have ih0 := octop_place.mono_l k
  intros
  unfold octop_place.l0 <;> repeat' first | (with_reducible first | apply ih0 | apply LeO.refl | apply LeO.none | refine LeO.ite ?_ ?_ | refine LeO.bind ?_ (fun _ => ?_)) | apply ih0 | apply LeO.none | refine LeO.ite ?_ ?_ | refine LeO.bind ?_ (fun _ => ?_)
theorem octop_place.mono : ∀ a0 a1 a2 a3 k, LeO (octop_place.f k a0 a1 a2 a3) (octop_place.f (k + 1) a0 a1 a2 a3) := by
 intro a0 a1 a2 a3 k
 have ih0 := octop_place.mono_l k
 unfold octop_place.f
 repeat' first | (with_reducible first | apply ih0 | apply LeO.refl | apply LeO.none | refine LeO.ite ?_ ?_ | refine LeO.bind ?_ (fun _ => ?_)) | apply ih0 | apply LeO.none | refine LeO.ite ?_ ?_ | refine LeO.bind ?_ (fun _ => ?_)
theorem octop_place.calls (k : Nat) (A0_0 : Option Addr) (c0_0 : Nat) (l0_0 : List Int) (A0_1 : Option Addr) (c0_1 : Nat) (l0_1 : List Int) (a0_2 : Bool) (a1 : Int) (r : Int) (w : World) (hr0_0 : Kd.C (Kd.int .i64) w A0_0 l0_0.length l0_0) (hc0_0 : l0_0.length ≤ c0_0) (hr0_1 : Kd.C (Kd.int .i64) w A0_1 l0_1.length l0_1) (hc0_1 : l0_1.length ≤ c0_1) (h : octop_place.f k l0_0 l0_1 a0_2 a1 = some r) :
 Calls Try.prog 52 #[.agg #[.slice A0_0 l0_0.length c0_0, .slice A0_1 l0_1.length c0_1, .bool a0_2], .int .i64 a1] w fun e w' => e = .returned (.int .i64 r) ∧ Below w.heap.size w w' := by
 have hu25 := Try.underlying25
 have HR0_0 := Aside0.mk hr0_0
 have HC0_0 := Aside0.mk hc0_0
 clear hr0_0 hc0_0
 have HR0_1 := Aside0.mk hr0_1
 have HC0_1 := Aside0.mk hc0_1
 clear hr0_1 hc0_1
 have HB := Aside0.mk (Below.refl w.heap.size w)
 have H := h
 unfold octop_place.f at H
 clear h
 have H' := Aside0.mk H
 clear H
 go_enter Try.func52, Try.ntmps52
 go_wp2_with (first | ((with_reducible refine gate_dst (N := 2) rfl ?_); refine bx_ 2 #[.slice A0_0 l0_0.length c0_0, .slice A0_1 l0_1.length c0_1, .bool a0_2] 25 ?_; intro gb120 hg w3 hbox hb; have BK120 := Aside0.mk (hbox); have GW120 := vS hg HB; have GE120 := vS hg HB; replace HB := vWs HB hb; clear hb hbox hg; obtain ⟨hcz4_0, hcz4_1, hcz4_2, hfz4_0, hfz4_1, hfz4_2⟩ := vF3 BK120.out))
 go_loopg [10] k (fun kq v10 w' => ∃ (x10_1 : Int), v10 = .int .i64 x10_1 ∧ Aside0 (octop_place.l0 kq a1 l0_0 (l0_0.length : Int) x10_1 = some r) ∧ Aside0 (kq ≤ k) ∧ Aside0 (w'.heap[gb120]? = some (.cells #[(.slice A0_0 l0_0.length c0_0), (.slice A0_1 l0_1.length c0_1), .bool a0_2] 25 (0, 0))) ∧ Aside0 (Below w.heap.size w w'))
 case atStart => exact ⟨(0), (by first | rfl | (simp; done) | (simp [*]; done)), H', ⟨Nat.le_refl _⟩, ⟨vB BK120.out⟩, ⟨vW HB.out⟩⟩
 case round =>
  clear H'
  try clear p2
  try clear hcz4_0
  try clear hcz4_1
  try clear hcz4_2
  try clear hfz4_0
  try clear hfz4_1
  try clear hfz4_2
  obtain ⟨x10_1, rfl, HA, HK1, BK120, HB⟩ := hrel
  cases gk with
  | zero => exact absurd HA.out (by simp [octop_place.l0])
  | succ k1 =>
   have H := HA.out
   clear HA
   simp only [octop_place.l0] at H
   by_cases c5 : x10_1 < (l0_0.length : Int)
   ·
    rw [if_pos c5] at H
    have c5b0 : decide (x10_1 < (l0_0.length : Int)) = true := decide_eq_true c5
    clear c5
    by_cases c6 : 0 ≤ x10_1
    ·
     rw [if_pos c6] at H
     have c6b0 : decide (0 ≤ x10_1) = true := decide_eq_true c6
     clear c6
     by_cases c7 : x10_1 < (l0_0.length : Int)
     ·
      rw [if_pos c7] at H
      have c7b0 : decide (x10_1 < (l0_0.length : Int)) = true := decide_eq_true c7
      clear c7
      by_cases c8 : (rd l0_0 x10_1) = a1
      ·
       rw [if_pos c8] at H
       have c8b0 : ((rd l0_0 x10_1) == a1) = true := beq_iff_eq.mpr c8
       have c8b1 : ((rd l0_0 x10_1) != a1) = false := bne_eq_false_iff_eq.mpr c8
       clear c8
       obtain rfl := Option.some.inj H
       have p121 : 0 ≤ (x10_1 : Int) := of_decide_eq_true (by first | (with_reducible assumption) | assumption)
       have q121 : x10_1 < (l0_0.length : Int) := of_decide_eq_true (by first | (with_reducible assumption) | assumption)
       obtain ⟨ad121, e121, hx121_0⟩ := Kd.at_int HR0_0.out x10_1 p121 q121
       cases e121
       replace hx121_0 := (HB.out.cell (World.block_lt_of_cell? w _ hx121_0)).trans hx121_0
       replace p121 := eq_true p121
       replace q121 := eq_true q121
       go_wp2
       go_ret
       exact ⟨vE, vW HB.out⟩
      ·
       rw [if_neg c8] at H
       have c8b0 : ((rd l0_0 x10_1) == a1) = false := beq_eq_false_iff_ne.mpr c8
       have c8b1 : ((rd l0_0 x10_1) != a1) = true := bne_iff_ne.mpr c8
       have H' := Aside0.mk H
       clear H
       have p121 : 0 ≤ (x10_1 : Int) := of_decide_eq_true (by first | (with_reducible assumption) | assumption)
       have q121 : x10_1 < (l0_0.length : Int) := of_decide_eq_true (by first | (with_reducible assumption) | assumption)
       obtain ⟨ad121, e121, hx121_0⟩ := Kd.at_int HR0_0.out x10_1 p121 q121
       cases e121
       replace hx121_0 := (HB.out.cell (World.block_lt_of_cell? w _ hx121_0)).trans hx121_0
       replace p121 := eq_true p121
       replace q121 := eq_true q121
       go_wp2
       go_roundg k1
       case measure => have := HK1.out; omega
       case rel => exact ⟨(wrap64 (x10_1 + 1)), (by first | rfl | (simp; done) | (simp [*]; done)), H', ⟨by have := HK1.out; omega⟩, ⟨vB BK120.out⟩, ⟨vW HB.out⟩⟩
     ·
      rw [if_neg c7] at H
      exact absurd H (by simp)
    ·
     rw [if_neg c6] at H
     exact absurd H (by simp)
   ·
    rw [if_neg c5] at H
    have c5b0 : decide (x10_1 < (l0_0.length : Int)) = false := decide_eq_false c5
    clear c5
    obtain rfl := Option.some.inj H
    go_wp2
    go_ret
    exact ⟨vE, vW HB.out⟩
def gimbalref11_Place.l0 : Nat → Int → List Int → Int → Int → Option (Int)
 | 0, _, _, _, _ => none
 | k + 1, x1, x8, x9, x10 => if x10 < x9 then (if 0 ≤ x10 then (if x10 < (x8.length : Int) then (if (rd x8 x10) = x1 then (some x10) else (gimbalref11_Place.l0 k x1 x8 x9 (wrap64 (x10 + 1)))) else (none)) else (none)) else (some (-1))
def gimbalref11_Place.f (k : Nat) (l0_0 : List Int) (l0_1 : List Int) (a0_2 : Bool) (a1 : Int) : Option (Int) := gimbalref11_Place.l0 k a1 l0_0 (l0_0.length : Int) 0
theorem gimbalref11_Place.mono_l : ∀ k, (∀ y0 y1 y2 y3, LeO (gimbalref11_Place.l0 k y0 y1 y2 y3) (gimbalref11_Place.l0 (k + 1) y0 y1 y2 y3))
 | 0 => fun _ _ _ _ r h => by simp [gimbalref11_Place.l0] at h
 | k + 1 => by
  have ih0 := gimbalref11_Place.mono_l k
  intros
  unfold gimbalref11_Place.l0 <;> repeat' first | (with_reducible first | apply ih0 | apply LeO.refl | apply LeO.none | refine LeO.ite ?_ ?_ | refine LeO.bind ?_ (fun _ => ?_)) | apply ih0 | apply LeO.none | refine LeO.ite ?_ ?_ | refine LeO.bind ?_ (fun _ => ?_)
theorem gimbalref11_Place.mono : ∀ a0 a1 a2 a3 k, LeO (gimbalref11_Place.f k a0 a1 a2 a3) (gimbalref11_Place.f (k + 1) a0 a1 a2 a3) := by
 intro a0 a1 a2 a3 k
 have ih0 := gimbalref11_Place.mono_l k
 unfold gimbalref11_Place.f
 repeat' first | (with_reducible first | apply ih0 | apply LeO.refl | apply LeO.none | refine LeO.ite ?_ ?_ | refine LeO.bind ?_ (fun _ => ?_)) | apply ih0 | apply LeO.none | refine LeO.ite ?_ ?_ | refine LeO.bind ?_ (fun _ => ?_)
theorem gimbalref11_Place.calls (k : Nat) (A0_0 : Option Addr) (c0_0 : Nat) (l0_0 : List Int) (A0_1 : Option Addr) (c0_1 : Nat) (l0_1 : List Int) (a0_2 : Bool) (a1 : Int) (r : Int) (w : World) (hr0_0 : Kd.C (Kd.int .i64) w A0_0 l0_0.length l0_0) (hc0_0 : l0_0.length ≤ c0_0) (hr0_1 : Kd.C (Kd.int .i64) w A0_1 l0_1.length l0_1) (hc0_1 : l0_1.length ≤ c0_1) (h : gimbalref11_Place.f k l0_0 l0_1 a0_2 a1 = some r) :
 Calls Try.prog 28 #[.agg #[.slice A0_0 l0_0.length c0_0, .slice A0_1 l0_1.length c0_1, .bool a0_2], .int .i64 a1] w fun e w' => e = .returned (.int .i64 r) ∧ Below w.heap.size w w' := by
 have hu25 := Try.underlying25
 have HR0_0 := Aside0.mk hr0_0
 have HC0_0 := Aside0.mk hc0_0
 clear hr0_0 hc0_0
 have HR0_1 := Aside0.mk hr0_1
 have HC0_1 := Aside0.mk hc0_1
 clear hr0_1 hc0_1
 have HB := Aside0.mk (Below.refl w.heap.size w)
 have H := h
 unfold gimbalref11_Place.f at H
 clear h
 have H' := Aside0.mk H
 clear H
 go_enter Try.func28, Try.ntmps28
 go_wp2_with (first | ((with_reducible refine gate_dst (N := 2) rfl ?_); refine bx_ 2 #[.slice A0_0 l0_0.length c0_0, .slice A0_1 l0_1.length c0_1, .bool a0_2] 25 ?_; intro gb206 hg w3 hbox hb; have BK206 := Aside0.mk (hbox); have GW206 := vS hg HB; have GE206 := vS hg HB; replace HB := vWs HB hb; clear hb hbox hg; obtain ⟨hcz4_0, hcz4_1, hcz4_2, hfz4_0, hfz4_1, hfz4_2⟩ := vF3 BK206.out))
 go_loopg [10] k (fun kq v10 w' => ∃ (x10_1 : Int), v10 = .int .i64 x10_1 ∧ Aside0 (gimbalref11_Place.l0 kq a1 l0_0 (l0_0.length : Int) x10_1 = some r) ∧ Aside0 (kq ≤ k) ∧ Aside0 (w'.heap[gb206]? = some (.cells #[(.slice A0_0 l0_0.length c0_0), (.slice A0_1 l0_1.length c0_1), .bool a0_2] 25 (0, 0))) ∧ Aside0 (Below w.heap.size w w'))
 case atStart => exact ⟨(0), (by first | rfl | (simp; done) | (simp [*]; done)), H', ⟨Nat.le_refl _⟩, ⟨vB BK206.out⟩, ⟨vW HB.out⟩⟩
 case round =>
  clear H'
  try clear c2
  try clear p2
  try clear hcz4_0
  try clear hcz4_1
  try clear hcz4_2
  try clear hfz4_0
  try clear hfz4_1
  try clear hfz4_2
  obtain ⟨x10_1, rfl, HA, HK1, BK206, HB⟩ := hrel
  cases gk with
  | zero => exact absurd HA.out (by simp [gimbalref11_Place.l0])
  | succ k1 =>
   have H := HA.out
   clear HA
   simp only [gimbalref11_Place.l0] at H
   by_cases c5 : x10_1 < (l0_0.length : Int)
   ·
    rw [if_pos c5] at H
    have c5b0 : decide (x10_1 < (l0_0.length : Int)) = true := decide_eq_true c5
    clear c5
    by_cases c6 : 0 ≤ x10_1
    ·
     rw [if_pos c6] at H
     have c6b0 : decide (0 ≤ x10_1) = true := decide_eq_true c6
     clear c6
     by_cases c7 : x10_1 < (l0_0.length : Int)
     ·
      rw [if_pos c7] at H
      have c7b0 : decide (x10_1 < (l0_0.length : Int)) = true := decide_eq_true c7
      clear c7
      by_cases c8 : (rd l0_0 x10_1) = a1
      ·
       rw [if_pos c8] at H
       have c8b0 : ((rd l0_0 x10_1) == a1) = true := beq_iff_eq.mpr c8
       have c8b1 : ((rd l0_0 x10_1) != a1) = false := bne_eq_false_iff_eq.mpr c8
       clear c8
       obtain rfl := Option.some.inj H
       have p207 : 0 ≤ (x10_1 : Int) := of_decide_eq_true (by first | (with_reducible assumption) | assumption)
       have q207 : x10_1 < (l0_0.length : Int) := of_decide_eq_true (by first | (with_reducible assumption) | assumption)
       obtain ⟨ad207, e207, hx207_0⟩ := Kd.at_int HR0_0.out x10_1 p207 q207
       cases e207
       replace hx207_0 := (HB.out.cell (World.block_lt_of_cell? w _ hx207_0)).trans hx207_0
       replace p207 := eq_true p207
       replace q207 := eq_true q207
       go_wp2
       go_ret
       exact ⟨vE, vW HB.out⟩
      ·
       rw [if_neg c8] at H
       have c8b0 : ((rd l0_0 x10_1) == a1) = false := beq_eq_false_iff_ne.mpr c8
       have c8b1 : ((rd l0_0 x10_1) != a1) = true := bne_iff_ne.mpr c8
       have H' := Aside0.mk H
       clear H
       have p207 : 0 ≤ (x10_1 : Int) := of_decide_eq_true (by first | (with_reducible assumption) | assumption)
       have q207 : x10_1 < (l0_0.length : Int) := of_decide_eq_true (by first | (with_reducible assumption) | assumption)
       obtain ⟨ad207, e207, hx207_0⟩ := Kd.at_int HR0_0.out x10_1 p207 q207
       cases e207
       replace hx207_0 := (HB.out.cell (World.block_lt_of_cell? w _ hx207_0)).trans hx207_0
       replace p207 := eq_true p207
       replace q207 := eq_true q207
       go_wp2
       go_roundg k1
       case measure => have := HK1.out; omega
       case rel => exact ⟨(wrap64 (x10_1 + 1)), (by first | rfl | (simp; done) | (simp [*]; done)), H', ⟨by have := HK1.out; omega⟩, ⟨vB BK206.out⟩, ⟨vW HB.out⟩⟩
     ·
      rw [if_neg c7] at H
      exact absurd H (by simp)
    ·
     rw [if_neg c6] at H
     exact absurd H (by simp)
   ·
    rw [if_neg c5] at H
    have c5b0 : decide (x10_1 < (l0_0.length : Int)) = false := decide_eq_false c5
    clear c5
    obtain rfl := Option.some.inj H
    go_wp2
    go_ret
    exact ⟨vE, vW HB.out⟩
def slices_Index_int_int.l0 : Nat → List Int → Int → Int → Int → Option (Int)
 | 0, _, _, _, _ => none
 | k + 1, x0, x1, x7, x8 => if x8 < x7 then (if 0 ≤ x8 then (if x8 < (x0.length : Int) then (if x1 = (rd x0 x8) then (some x8) else (slices_Index_int_int.l0 k x0 x1 x7 (wrap64 (x8 + 1)))) else (none)) else (none)) else (some (-1))
def slices_Index_int_int.f (k : Nat) (l0 : List Int) (a1 : Int) : Option (Int) := slices_Index_int_int.l0 k l0 a1 (l0.length : Int) 0
theorem slices_Index_int_int.mono_l : ∀ k, (∀ y0 y1 y2 y3, LeO (slices_Index_int_int.l0 k y0 y1 y2 y3) (slices_Index_int_int.l0 (k + 1) y0 y1 y2 y3))
 | 0 => fun _ _ _ _ r h => by simp [slices_Index_int_int.l0] at h
 | k + 1 => by
  have ih0 := slices_Index_int_int.mono_l k
  intros
  unfold slices_Index_int_int.l0 <;> repeat' first | (with_reducible first | apply ih0 | apply LeO.refl | apply LeO.none | refine LeO.ite ?_ ?_ | refine LeO.bind ?_ (fun _ => ?_)) | apply ih0 | apply LeO.none | refine LeO.ite ?_ ?_ | refine LeO.bind ?_ (fun _ => ?_)
theorem slices_Index_int_int.mono : ∀ a0 a1 k, LeO (slices_Index_int_int.f k a0 a1) (slices_Index_int_int.f (k + 1) a0 a1) := by
 intro a0 a1 k
 have ih0 := slices_Index_int_int.mono_l k
 unfold slices_Index_int_int.f
 repeat' first | (with_reducible first | apply ih0 | apply LeO.refl | apply LeO.none | refine LeO.ite ?_ ?_ | refine LeO.bind ?_ (fun _ => ?_)) | apply ih0 | apply LeO.none | refine LeO.ite ?_ ?_ | refine LeO.bind ?_ (fun _ => ?_)
theorem slices_Index_int_int.calls (k : Nat) (A0 : Option Addr) (c0 : Nat) (l0 : List Int) (a1 : Int) (r : Int) (w : World) (hr0 : Kd.C (Kd.int .i64) w A0 l0.length l0) (hc0 : l0.length ≤ c0) (h : slices_Index_int_int.f k l0 a1 = some r) :
 Calls Try.prog 125 #[.slice A0 l0.length c0, .int .i64 a1] w fun e w' => e = .returned (.int .i64 r) ∧ Drawn0 w w' := by
 have HR0 := Aside0.mk hr0
 have HC0 := Aside0.mk hc0
 clear hr0 hc0
 have H := h
 unfold slices_Index_int_int.f at H
 clear h
 have H' := Aside0.mk H
 clear H
 go_enter Try.func125, Try.ntmps125
 go_wp2
 go_loopg [8] k (fun kq v8 w' => ∃ (x8_1 : Int), v8 = .int .i64 x8_1 ∧ Aside0 (slices_Index_int_int.l0 kq l0 a1 (l0.length : Int) x8_1 = some r) ∧ Aside0 (kq ≤ k) ∧ Drawn0 w w')
 case atStart => exact ⟨(0), (by first | rfl | (simp; done) | (simp [*]; done)), H', ⟨Nat.le_refl _⟩, by repeat (first | exact Drawn0.refl _ | apply Drawn0.step)⟩
 case round =>
  clear H'
  try clear c1
  try clear p2
  obtain ⟨x8_1, rfl, HA, HK1, ⟨m1, rfl⟩⟩ := hrel
  cases gk with
  | zero => exact absurd HA.out (by simp [slices_Index_int_int.l0])
  | succ k1 =>
   have H := HA.out
   clear HA
   simp only [slices_Index_int_int.l0] at H
   by_cases c3 : x8_1 < (l0.length : Int)
   ·
    rw [if_pos c3] at H
    have c3b0 : decide (x8_1 < (l0.length : Int)) = true := decide_eq_true c3
    clear c3
    by_cases c4 : 0 ≤ x8_1
    ·
     rw [if_pos c4] at H
     have c4b0 : decide (0 ≤ x8_1) = true := decide_eq_true c4
     clear c4
     by_cases c5 : x8_1 < (l0.length : Int)
     ·
      rw [if_pos c5] at H
      have c5b0 : decide (x8_1 < (l0.length : Int)) = true := decide_eq_true c5
      clear c5
      by_cases c6 : a1 = (rd l0 x8_1)
      ·
       rw [if_pos c6] at H
       have c6b0 : (a1 == (rd l0 x8_1)) = true := beq_iff_eq.mpr c6
       have c6b1 : (a1 != (rd l0 x8_1)) = false := bne_eq_false_iff_eq.mpr c6
       clear c6
       obtain rfl := Option.some.inj H
       have p152 : 0 ≤ (x8_1 : Int) := of_decide_eq_true (by first | (with_reducible assumption) | assumption)
       have q152 : x8_1 < (l0.length : Int) := of_decide_eq_true (by first | (with_reducible assumption) | assumption)
       obtain ⟨ad152, e152, hx152_0⟩ := Kd.at_int HR0.out x8_1 p152 q152
       cases e152
       replace p152 := eq_true p152
       replace q152 := eq_true q152
       go_wp2
       go_ret
       exact ⟨by first | rfl | (simp; done) | (simp [*]; done), by repeat (first | exact Drawn0.refl _ | apply Drawn0.step)⟩
      ·
       rw [if_neg c6] at H
       have c6b0 : (a1 == (rd l0 x8_1)) = false := beq_eq_false_iff_ne.mpr c6
       have c6b1 : (a1 != (rd l0 x8_1)) = true := bne_iff_ne.mpr c6
       have H' := Aside0.mk H
       clear H
       have p152 : 0 ≤ (x8_1 : Int) := of_decide_eq_true (by first | (with_reducible assumption) | assumption)
       have q152 : x8_1 < (l0.length : Int) := of_decide_eq_true (by first | (with_reducible assumption) | assumption)
       obtain ⟨ad152, e152, hx152_0⟩ := Kd.at_int HR0.out x8_1 p152 q152
       cases e152
       replace p152 := eq_true p152
       replace q152 := eq_true q152
       go_wp2
       go_roundg k1
       case measure => have := HK1.out; omega
       case rel => exact ⟨(wrap64 (x8_1 + 1)), (by first | rfl | (simp; done) | (simp [*]; done)), H', ⟨by have := HK1.out; omega⟩, by repeat (first | exact Drawn0.refl _ | apply Drawn0.step)⟩
     ·
      rw [if_neg c5] at H
      exact absurd H (by simp)
    ·
     rw [if_neg c4] at H
     exact absurd H (by simp)
   ·
    rw [if_neg c3] at H
    have c3b0 : decide (x8_1 < (l0.length : Int)) = false := decide_eq_false c3
    clear c3
    obtain rfl := Option.some.inj H
    go_wp2
    go_ret
    exact ⟨by first | rfl | (simp; done) | (simp [*]; done), by repeat (first | exact Drawn0.refl _ | apply Drawn0.step)⟩
def oct_node.f (k : Nat) (l0_0 : List Int) (l0_1 : List Int) (a0_2 : Bool) (a1 : Int) (a2 : Int) : Option (Int) := (slices_Index_int_int.f k l0_0 a1).bind fun t154 => (if t154 ≥ 0 then (if a2 < 0 then (some (wrap64 ((wrap64 (2 * t154)) + 1))) else (some (wrap64 (2 * t154)))) else (some (wrap64 (2 * t154))))
theorem oct_node.mono : ∀ a0 a1 a2 a3 a4 k, LeO (oct_node.f k a0 a1 a2 a3 a4) (oct_node.f (k + 1) a0 a1 a2 a3 a4) := by
 intro a0 a1 a2 a3 a4 k
 unfold oct_node.f
 repeat' first | (with_reducible first | apply slices_Index_int_int.mono | apply LeO.refl | apply LeO.none | refine LeO.ite ?_ ?_ | refine LeO.bind ?_ (fun _ => ?_)) | apply slices_Index_int_int.mono | apply LeO.none | refine LeO.ite ?_ ?_ | refine LeO.bind ?_ (fun _ => ?_)
theorem oct_node.calls (k : Nat) (A0_0 : Option Addr) (c0_0 : Nat) (l0_0 : List Int) (A0_1 : Option Addr) (c0_1 : Nat) (l0_1 : List Int) (a0_2 : Bool) (a1 : Int) (a2 : Int) (r : Int) (w : World) (hr0_0 : Kd.C (Kd.int .i64) w A0_0 l0_0.length l0_0) (hc0_0 : l0_0.length ≤ c0_0) (hr0_1 : Kd.C (Kd.int .i64) w A0_1 l0_1.length l0_1) (hc0_1 : l0_1.length ≤ c0_1) (h : oct_node.f k l0_0 l0_1 a0_2 a1 a2 = some r) :
 Calls Try.prog 112 #[.agg #[.slice A0_0 l0_0.length c0_0, .slice A0_1 l0_1.length c0_1, .bool a0_2], .int .i64 a1, .int .i64 a2] w fun e w' => e = .returned (.int .i64 r) ∧ Below w.heap.size w w' := by
 have hu25 := Try.underlying25
 have HR0_0 := Aside0.mk hr0_0
 have HC0_0 := Aside0.mk hc0_0
 clear hr0_0 hc0_0
 have HR0_1 := Aside0.mk hr0_1
 have HC0_1 := Aside0.mk hc0_1
 clear hr0_1 hc0_1
 have HB := Aside0.mk (Below.refl w.heap.size w)
 have H := h
 unfold oct_node.f at H
 clear h
 replace H := Option.bind_eq_some_iff.mp H
 obtain ⟨t154, A40, H⟩ := H
 try dsimp only at H
 have A4 := Aside0.mk A40
 clear A40
 by_cases c5 : t154 ≥ 0
 ·
  rw [if_pos c5] at H
  have c5b0 : decide (0 ≤ t154) = true := decide_eq_true c5
  clear c5
  by_cases c6 : a2 < 0
  ·
   rw [if_pos c6] at H
   have c6b0 : decide (a2 < 0) = true := decide_eq_true c6
   clear c6
   obtain rfl := Option.some.inj H
   go_enter Try.func112, Try.ntmps112
   go_wp2_with (first | ((with_reducible refine gate_dst (N := 3) rfl ?_); refine bx_ 3 #[.slice A0_0 l0_0.length c0_0, .slice A0_1 l0_1.length c0_1, .bool a0_2] 25 ?_; intro gb153 hg w7 hbox hb; have BK153 := Aside0.mk (hbox); have GW153 := vS hg HB; have GE153 := vS hg HB; replace HB := vWs HB hb; clear hb hbox hg; obtain ⟨hcz8_0, hcz8_1, hcz8_2, hfz8_0, hfz8_1, hfz8_2⟩ := vF3 BK153.out) | ((with_reducible refine gate_callee (f := 125) rfl ?_); refine gl_ (some 11) Try.func125 #[.slice A0_0 l0_0.length c0_0, .int .i64 a1] ?_; (with_reducible refine (slices_Index_int_int.calls k _ _ l0_0 a1 t154 _ ?side1 ?side2 A4.out).mono ?_); (case side1 => exact vC (Kd.C_below HR0_0.out HB.out)); (case side2 => exact HC0_0.out); rintro e w' ⟨rfl, ⟨nd, rfl⟩⟩; refine ⟨_, rfl, ?_⟩))
   go_ret
   exact ⟨vE, vW HB.out⟩
  ·
   rw [if_neg c6] at H
   have c6b0 : decide (a2 < 0) = false := decide_eq_false c6
   clear c6
   obtain rfl := Option.some.inj H
   go_enter Try.func112, Try.ntmps112
   go_wp2_with (first | ((with_reducible refine gate_dst (N := 3) rfl ?_); refine bx_ 3 #[.slice A0_0 l0_0.length c0_0, .slice A0_1 l0_1.length c0_1, .bool a0_2] 25 ?_; intro gb153 hg w9 hbox hb; have BK153 := Aside0.mk (hbox); have GW153 := vS hg HB; have GE153 := vS hg HB; replace HB := vWs HB hb; clear hb hbox hg; obtain ⟨hcz10_0, hcz10_1, hcz10_2, hfz10_0, hfz10_1, hfz10_2⟩ := vF3 BK153.out) | ((with_reducible refine gate_callee (f := 125) rfl ?_); refine gl_ (some 11) Try.func125 #[.slice A0_0 l0_0.length c0_0, .int .i64 a1] ?_; (with_reducible refine (slices_Index_int_int.calls k _ _ l0_0 a1 t154 _ ?side1 ?side2 A4.out).mono ?_); (case side1 => exact vC (Kd.C_below HR0_0.out HB.out)); (case side2 => exact HC0_0.out); rintro e w' ⟨rfl, ⟨nd, rfl⟩⟩; refine ⟨_, rfl, ?_⟩))
   go_ret
   exact ⟨vE, vW HB.out⟩
 ·
  rw [if_neg c5] at H
  have c5b0 : decide (0 ≤ t154) = false := decide_eq_false c5
  clear c5
  obtain rfl := Option.some.inj H
  go_enter Try.func112, Try.ntmps112
  go_wp2_with (first | ((with_reducible refine gate_dst (N := 3) rfl ?_); refine bx_ 3 #[.slice A0_0 l0_0.length c0_0, .slice A0_1 l0_1.length c0_1, .bool a0_2] 25 ?_; intro gb153 hg w11 hbox hb; have BK153 := Aside0.mk (hbox); have GW153 := vS hg HB; have GE153 := vS hg HB; replace HB := vWs HB hb; clear hb hbox hg; obtain ⟨hcz12_0, hcz12_1, hcz12_2, hfz12_0, hfz12_1, hfz12_2⟩ := vF3 BK153.out) | ((with_reducible refine gate_callee (f := 125) rfl ?_); refine gl_ (some 11) Try.func125 #[.slice A0_0 l0_0.length c0_0, .int .i64 a1] ?_; (with_reducible refine (slices_Index_int_int.calls k _ _ l0_0 a1 t154 _ ?side1 ?side2 A4.out).mono ?_); (case side1 => exact vC (Kd.C_below HR0_0.out HB.out)); (case side2 => exact HC0_0.out); rintro e w' ⟨rfl, ⟨nd, rfl⟩⟩; refine ⟨_, rfl, ?_⟩))
  go_ret
  exact ⟨vE, vW HB.out⟩
def gimbalref11_Node.f (a0 : Int) (a1 : Int) : Option (Int) := if a1 > 0 then (some (wrap64 (2 * a0))) else (some (wrap64 ((wrap64 (2 * a0)) + 1)))
theorem gimbalref11_Node.calls (a0 : Int) (a1 : Int) (r : Int) (w : World) (h : gimbalref11_Node.f a0 a1 = some r) :
 Calls Try.prog 107 #[.int .i64 a0, .int .i64 a1] w fun e w' => e = .returned (.int .i64 r) ∧ Drawn0 w w' := by
 have H : (if a1 > 0 then (some (wrap64 (2 * a0))) else (some (wrap64 ((wrap64 (2 * a0)) + 1)))) = some r := h
 clear h
 by_cases c3 : a1 > 0
 ·
  rw [if_pos c3] at H
  have c3b0 : decide (0 < a1) = true := decide_eq_true c3
  clear c3
  obtain rfl := Option.some.inj H
  go_enter Try.func107, Try.ntmps107
  go_wp2
  go_ret
  exact ⟨by first | rfl | (simp; done) | (simp [*]; done), by repeat (first | exact Drawn0.refl _ | apply Drawn0.step)⟩
 ·
  rw [if_neg c3] at H
  have c3b0 : decide (0 < a1) = false := decide_eq_false c3
  clear c3
  obtain rfl := Option.some.inj H
  go_enter Try.func107, Try.ntmps107
  go_wp2
  go_ret
  exact ⟨by first | rfl | (simp; done) | (simp [*]; done), by repeat (first | exact Drawn0.refl _ | apply Drawn0.step)⟩
def bound_Down.f (a0 : Int) (a1 : Int) : Option (Int) := (bound_Fit.f a0).bind fun t155 => ((bound_Fit.f a1).bind fun t156 => ((bound_Up.f (wrap64 (-t155)) (wrap64 (-t156))).bind fun t157 => (some (wrap64 (-t157)))))
theorem bound_Down.calls (a0 : Int) (a1 : Int) (r : Int) (w : World) (h : bound_Down.f a0 a1 = some r) :
 Calls Try.prog 113 #[.int .i64 a0, .int .i64 a1] w fun e w' => e = .returned (.int .i64 r) ∧ Below w.heap.size w w' := by
 have HB := Aside0.mk (Below.refl w.heap.size w)
 have H : ((bound_Fit.f a0).bind fun t155 => ((bound_Fit.f a1).bind fun t156 => ((bound_Up.f (wrap64 (-t155)) (wrap64 (-t156))).bind fun t157 => (some (wrap64 (-t157)))))) = some r := h
 clear h
 replace H := Option.bind_eq_some_iff.mp H
 obtain ⟨t155, A30, H⟩ := H
 replace H : ((bound_Fit.f a1).bind fun t156 => ((bound_Up.f (wrap64 (-t155)) (wrap64 (-t156))).bind fun t157 => (some (wrap64 (-t157))))) = some r := H
 have A3 := Aside0.mk A30
 clear A30
 replace H := Option.bind_eq_some_iff.mp H
 obtain ⟨t156, A40, H⟩ := H
 replace H : ((bound_Up.f (wrap64 (-t155)) (wrap64 (-t156))).bind fun t157 => (some (wrap64 (-t157)))) = some r := H
 have A4 := Aside0.mk A40
 clear A40
 replace H := Option.bind_eq_some_iff.mp H
 obtain ⟨t157, A50, H⟩ := H
 replace H : (some (wrap64 (-t157))) = some r := H
 have A5 := Aside0.mk A50
 clear A50
 obtain rfl := Option.some.inj H
 go_enter Try.func113, Try.ntmps113
 go_wp2_with (first | ((with_reducible refine gate_callee (f := 104) rfl ?_); refine goesL_ (some 6) rfl rfl Try.func104 (by kernel_rfl) rfl #[.int .i64 a0] rfl (by (try simp only [List.map_toArray, List.map_cons, List.map_nil]); first | done | rfl | (simp only [List.length_drop, List.length_take]; rfl)) ?_; (with_reducible refine (bound_Fit.calls a0 t155 _ A3.out).mono ?_); rintro e w' ⟨rfl, ⟨nd, rfl⟩⟩; refine ⟨_, rfl, ?_⟩) | ((with_reducible refine gate_callee (f := 104) rfl ?_); refine goesL_ (some 9) rfl rfl Try.func104 (by kernel_rfl) rfl #[.int .i64 a1] rfl (by (try simp only [List.map_toArray, List.map_cons, List.map_nil]); first | done | rfl | (simp only [List.length_drop, List.length_take]; rfl)) ?_; (with_reducible refine (bound_Fit.calls a1 t156 _ A4.out).mono ?_); rintro e w' ⟨rfl, ⟨nd, rfl⟩⟩; refine ⟨_, rfl, ?_⟩) | ((with_reducible refine gate_callee (f := 60) rfl ?_); refine goesL_ (some 11) rfl rfl Try.func60 (by kernel_rfl) rfl #[.int .i64 (wrap64 (-t155)), .int .i64 (wrap64 (-t156))] rfl (by (try simp only [List.map_toArray, List.map_cons, List.map_nil]); first | done | rfl | (simp only [List.length_drop, List.length_take]; rfl)) ?_; (with_reducible refine (bound_Up.calls (wrap64 (-t155)) (wrap64 (-t156)) t157 _ A5.out).mono ?_); rintro e w6 ⟨rfl, hb⟩; refine ⟨_, rfl, ?_⟩; have n0_ := Aside0.mk (below_step (by repeat (first | (with_reducible first | exact HB.out | apply below_alloc | apply pw_below_drewN | apply below_drew1) | exact HB.out)) hb); clear HB; have HB := n0_; clear n0_; (try clear hb); (try clear hb2); (try clear hk); (try clear hi)))
 go_ret
 exact ⟨vE, by repeat (first | (with_reducible first | exact HB.out | apply below_alloc | apply pw_below_drewN | apply below_drew1) | exact HB.out)⟩
def bound_Neg.f (a0 : Int) : Option (Int) := (bound_Fit.f a0).bind fun t126 => (some (wrap64 (-t126)))
theorem bound_Neg.calls (a0 : Int) (r : Int) (w : World) (h : bound_Neg.f a0 = some r) :
 Calls Try.prog 61 #[.int .i64 a0] w fun e w' => e = .returned (.int .i64 r) ∧ Drawn0 w w' := by
 have H : ((bound_Fit.f a0).bind fun t126 => (some (wrap64 (-t126)))) = some r := h
 clear h
 replace H := Option.bind_eq_some_iff.mp H
 obtain ⟨t126, A20, H⟩ := H
 replace H : (some (wrap64 (-t126))) = some r := H
 have A2 := Aside0.mk A20
 clear A20
 obtain rfl := Option.some.inj H
 go_enter Try.func61, Try.ntmps61
 go_wp2_with (first | ((with_reducible refine gate_callee (f := 104) rfl ?_); refine goesL_ (some 4) rfl rfl Try.func104 (by kernel_rfl) rfl #[.int .i64 a0] rfl (by (try simp only [List.map_toArray, List.map_cons, List.map_nil]); first | done | rfl | (simp only [List.length_drop, List.length_take]; rfl)) ?_; (with_reducible refine (bound_Fit.calls a0 t126 _ A2.out).mono ?_); rintro e w' ⟨rfl, ⟨nd, rfl⟩⟩; refine ⟨_, rfl, ?_⟩))
 go_ret
 exact ⟨by first | rfl | (simp; done) | (simp [*]; done), by repeat (first | exact Drawn0.refl _ | apply Drawn0.step)⟩
end Go.Proofs.Ytphfchbggechhaa.QO
end
end
section
namespace Go.Proofs.Ytphfchbggechhaa.QO
open Go.RowKit YtphfchbggechhaaW.PrintWords YtphfchbggechhaaW.PrintLast
set_option linter.unusedVariables false
set_option linter.unusedSimpArgs false
noncomputable def gimbalref11_VarsFit.f (l0 : List Int) : Option Bool := some (varsB l0)
theorem gimbalref11_VarsFit.calls (A0 : Option Addr) (c0 : Nat) (l0 : List Int) (r : Bool) (w : World) (hr0 : Kd.C (Kd.int .i64) w A0 l0.length l0) (hc0 : l0.length ≤ c0) (h : gimbalref11_VarsFit.f l0 = some r) :
 Calls Try.prog 46 #[.slice A0 l0.length c0] w fun e w' => e = .returned (.bool r) ∧ Drawn0 w w' := by
 have HR0 := Aside0.mk hr0
 have HV := Aside0.mk (Option.some.inj h)
 clear hr0 hc0 h
 by_cases c1 : (8 : Int) < (l0.length : Int)
 ·
  have f1 : decide ((8 : Int) < (l0.length : Int)) = true := decide_eq_true c1
  have f2 : decide (8 < l0.length) = true := decide_eq_true (by omega)
  have HC := Aside0.mk c1
  clear c1
  go_enter Try.func46, Try.ntmps46
  go_wp2
  go_ret
  refine ⟨?_, Drawn0.refl _⟩
  rw [← HV.out, varsB_false.2 (fun h => by have := h.1; have := HC.out; omega)]
  rfl
 ·
  have f1 : decide ((8 : Int) < (l0.length : Int)) = false := decide_eq_false c1
  have f2 : decide (8 < l0.length) = false := decide_eq_false (by omega)
  have HC := Aside0.mk c1
  clear c1
  go_enter Try.func46, Try.ntmps46
  go_wp2
  go_loopg [3, 4, 10] l0.length (fun gg _ _ s10 wr => ∃ i : Int, s10 = .int .i64 i ∧ Aside0 (0 ≤ i ∧ i ≤ l0.length ∧ l0.length - i.toNat ≤ gg) ∧ Aside0 (∀ j : Int, 0 ≤ j → j < i → 0 ≤ rd l0 j ∧ (0 < j → rd l0 (j - 1) < rd l0 j)) ∧ Drawn0 w wr)
  case atStart => exact ⟨0, rfl, ⟨by omega, by omega, by omega⟩, ⟨fun j h0 h1 => absurd h1 (by omega)⟩, Drawn0.refl _⟩
  case round =>
   obtain ⟨i, rfl, HI, HA, ⟨m1, rfl⟩⟩ := hrel
   by_cases hlt : i < (l0.length : Int)
   ·
    have p0 : 0 ≤ i := HI.out.1
    have hC : Kd.C (Kd.int .i64) (w.drewN m1) A0 l0.length l0 := Kd.C_drewN HR0.out _
    obtain ⟨ad, e0, hx⟩ := Kd.at_int hC i p0 hlt
    cases e0
    clear hC
    have HL := Aside0.mk hlt
    have c6b0 : decide (i < (l0.length : Int)) = true := decide_eq_true hlt
    by_cases c3 : rd l0 i < 0
    ·
     have f3 : decide (rd l0 i < 0) = true := decide_eq_true c3
     have H3 := Aside0.mk c3
     clear c3
     replace p0 := eq_true p0
     replace hlt := eq_true hlt
     go_wp2
     go_ret
     refine ⟨?_, by repeat (first | exact Drawn0.refl _ | apply Drawn0.step)⟩
     have h1 := HI.out; have h2 := HL.out; have h3 := H3.out
     rw [← HV.out, varsB_false.2 (fun h => by have := (h.2 i h1.1 h2).1; omega)]
     rfl
    ·
     have f3 : decide (rd l0 i < 0) = false := decide_eq_false c3
     have H3 := Aside0.mk c3
     clear c3
     by_cases c4 : 0 < i
     ·
      have f4 : decide (0 < i) = true := decide_eq_true c4
      have hm1 : wrap64 (i - 1) = i - 1 := by have := HC.out; unfold wrap64; omega
      obtain ⟨j, hj⟩ : ∃ j : Int, i - 1 = j := ⟨_, rfl⟩
      have q0 : 0 ≤ j := by omega
      have q1 : j < (l0.length : Int) := by omega
      obtain ⟨ad', e0, hy⟩ := Kd.at_int (Kd.C_drewN HR0.out m1) j q0 q1
      cases e0
      rw [hj] at hm1
      have hm2 : IntKind.i64.wrap (i - 1) = j := by rw [IntKind.wrap_i64, ← hj]; unfold wrap64 at hm1; omega
      have HJ := Aside0.mk hj
      have H4 := Aside0.mk c4
      by_cases c5 : rd l0 i ≤ rd l0 j
      ·
       have f5 : decide (rd l0 i ≤ rd l0 j) = true := decide_eq_true c5
       have H5 := Aside0.mk c5
       clear c5 c4
       replace p0 := eq_true p0
       replace hlt := eq_true hlt
       replace q0 := eq_true q0
       replace q1 := eq_true q1
       go_wp2
       go_ret
       refine ⟨?_, by repeat (first | exact Drawn0.refl _ | apply Drawn0.step)⟩
       have h1 := HI.out; have h2 := HL.out; have h5 := H5.out; have h4 := H4.out
       rw [← HV.out, varsB_false.2 (fun h => by have := (h.2 i h1.1 h2).2 h4; rw [HJ.out] at this; omega)]
       rfl
      ·
       have f5 : decide (rd l0 i ≤ rd l0 j) = false := decide_eq_false c5
       have H5 := Aside0.mk c5
       clear c5 c4
       replace p0 := eq_true p0
       replace hlt := eq_true hlt
       replace q0 := eq_true q0
       replace q1 := eq_true q1
       go_wp2
       go_roundg (l0.length - (i.toNat + 1))
       case measure => have h1 := HI.out; have h2 := HL.out; omega
       case rel =>
        have h1 := HI.out; have h2 := HL.out; have h3 := H3.out; have h4 := HC.out; have h5 := H5.out; have hj := HJ.out
        have hw : wrap64 (i + 1) = i + 1 := by unfold wrap64; omega
        refine ⟨wrap64 (i + 1), rfl, ⟨by omega, by omega, by omega⟩, ⟨fun k k0 k1 => ?_⟩, by repeat (first | exact Drawn0.refl _ | apply Drawn0.step)⟩
        by_cases e : k = i
        ·
         subst e; exact ⟨by omega, fun _ => by rw [hj]; omega⟩
        ·
         exact HA.out k k0 (by omega)
     ·
      have f4 : decide (0 < i) = false := decide_eq_false c4
      have H4 := Aside0.mk c4
      clear c4
      replace p0 := eq_true p0
      replace hlt := eq_true hlt
      go_wp2
      go_roundg (l0.length - (i.toNat + 1))
      case measure => have h1 := HI.out; have h2 := HL.out; omega
      case rel =>
       have h1 := HI.out; have h2 := HL.out; have h3 := H3.out; have h4 := HC.out; have h5 := H4.out
       have hw : wrap64 (i + 1) = i + 1 := by unfold wrap64; omega
       refine ⟨wrap64 (i + 1), rfl, ⟨by omega, by omega, by omega⟩, ⟨fun k k0 k1 => ?_⟩, by repeat (first | exact Drawn0.refl _ | apply Drawn0.step)⟩
       by_cases e : k = i
       ·
        subst e; exact ⟨by omega, fun h => absurd h (by omega)⟩
       ·
        exact HA.out k k0 (by omega)
   ·
    have c6b0 : decide (i < (l0.length : Int)) = false := decide_eq_false hlt
    have HL := Aside0.mk hlt
    clear hlt
    go_wp2
    go_ret
    have h1 := HI.out; have h2 := HL.out; have h4 := HC.out
    refine ⟨?_, by repeat (first | exact Drawn0.refl _ | apply Drawn0.step)⟩
    rw [← HV.out, varsB_true.2 ⟨by omega, fun k k0 k1 => HA.out k k0 (by omega)⟩]
    rfl
end Go.Proofs.Ytphfchbggechhaa.QO
end
section
noncomputable section
namespace Go.Proofs.Ytphfchbggechhaa.QO
open Go.RowKit YtphfchbggechhaaW.PrintWords YtphfchbggechhaaW.PrintLast
set_option linter.unusedVariables false
set_option linter.unusedSimpArgs false
def gimbalref11_copied.f (l0 : List Int) : Option (List Int) := if ([] : List Int).length + l0.length < 17592186044416 then (some (([] : List Int) ++ l0)) else (none)
theorem gimbalref11_copied.calls (A0 : Option Addr) (c0 : Nat) (l0 : List Int) (r : List Int) (w : World) (hr0 : Kd.C (Kd.int .i64) w A0 l0.length l0) (hc0 : l0.length ≤ c0) (h : gimbalref11_copied.f l0 = some r) :
 Calls Try.prog 83 #[.slice A0 l0.length c0] w fun e w' => ∃ v0_ : Value, e = .returned (v0_) ∧ Kd.R (Kd.int .i64) 3 w' w.heap.size (fun _ => True) v0_ r ∧ Below w.heap.size w w' := by
 have HR0 := Aside0.mk hr0
 have HC0 := Aside0.mk hc0
 clear hr0 hc0
 have HB := Aside0.mk (Below.refl w.heap.size w)
 have H : (if ([] : List Int).length + l0.length < 17592186044416 then (some (([] : List Int) ++ l0)) else (none)) = some r := h
 clear h
 by_cases c2 : ([] : List Int).length + l0.length < 17592186044416
 ·
  rw [if_pos c2] at H
  have LMc2 := Aside0.mk c2
  clear c2
  obtain ⟨y190, hy190⟩ : ∃ y_ : List Int, y_ = (([] : List Int) ++ l0) := ⟨_, rfl⟩
  replace H : (some y190) = some r := by first | (rw [hy190]; with_reducible exact H) | (have H2_ := (Option.bind_some _ _).symm.trans H; rw [hy190]; with_reducible exact H2_) | (have H2_ := (Option.bind_some _ _).symm.trans H; with_reducible exact H2_) | with_reducible exact H | (rw [hy190]; exact H) | exact H
  have Ny190 := Aside0.mk hy190
  clear hy190
  obtain rfl := Option.some.inj H
  go_enter Try.func83, Try.ntmps83
  go_wp2_with (first | ((with_reducible refine gate_builtin (b := .append) (xs := #[.tmp 4, .tmp 5]) rfl ?_); at_builtin; refine Kd.R_append_rows (Kd.int .i64) (w0 := w) w.heap.size rfl (.tmp 4) (.tmp 5) 22 3 (.int .i64 0) 8 rfl Try.underlying22 info3 rfl (by decide) (by omega) (.slice none 0 0) ([] : List Int) l0 _ _ _ (fun _ => True) (fun _ => False) rfl rfl ?aO ?aR (fun _ _ h => h) (fun _ h => h.elim) ?aF ?aB ?aS ?aL ?_; (case aR => repeat (first | exact HR0.out | (with_reducible refine Kd.C_alloc ?_ _) | (with_reducible refine Kd.C_drewN ?_ _) | (with_reducible refine Kd.C_drew ?_))); (case aB => exact (by repeat (first | (with_reducible first | exact HB.out | apply below_alloc | apply pw_below_drewN | apply below_drew1) | exact HB.out))); (case aF => exact (fun _ _ => trivial)); (case aO => exact ((Kd.R_nil _ _ _ _ (fun _ => True)))); (case aS => exact (below_size (by repeat (first | (with_reducible first | exact HB.out | apply below_alloc | apply pw_below_drewN | apply below_drew1) | exact HB.out)))); (case aL => have := LMc2.out; omega); intro v191 w3 ho hb hg hat; rw [← Ny190.out] at ho; have n0_ := Aside0.mk (hb); have n1_ := Aside0.mk (ho); clear HB; have HB := n0_; have HO192 := n1_; clear n0_ n1_; clear ho hb hg hat))
  go_ret
  exact ⟨_, vE, by (with_reducible repeat (first | apply Kd.R_alloc | apply Kd.R_drewN | apply Kd.R_drew)); exact HO192.out, by repeat (first | (with_reducible first | exact HB.out | apply below_alloc | apply pw_below_drewN | apply below_drew1) | exact HB.out)⟩
 ·
  rw [if_neg c2] at H
  exact absurd H (by simp)
def gimbalref11_Bottom.f (l0 : List Int) : Option (List Int × List Int × Bool) := (gimbalref11_VarsFit.f l0).bind fun t209 => (if t209 = true then ((gimbalref11_copied.f l0).bind fun t210 => (some (t210, ([] : List Int), true))) else (some (([] : List Int), ([] : List Int), false)))
theorem gimbalref11_Bottom.calls (A0 : Option Addr) (c0 : Nat) (l0 : List Int) (r1 : List Int) (r2 : List Int) (r3 : Bool) (w : World) (hr0 : Kd.C (Kd.int .i64) w A0 l0.length l0) (hc0 : l0.length ≤ c0) (h : gimbalref11_Bottom.f l0 = some (r1, r2, r3)) :
 Calls Try.prog 65 #[.slice A0 l0.length c0] w fun e w' => ∃ v0_ v1_ : Value, e = .returned (.agg #[v0_, v1_, .bool r3]) ∧ Kd.R (Kd.int .i64) 3 w' w.heap.size (fun _ => True) v0_ r1 ∧ Kd.R (Kd.int .i64) 2 w' w.heap.size (fun _ => True) v1_ r2 ∧ Below w.heap.size w w' := by
 have hu25 := Try.underlying25
 have HR0 := Aside0.mk hr0
 have HC0 := Aside0.mk hc0
 clear hr0 hc0
 have HB := Aside0.mk (Below.refl w.heap.size w)
 have H := h
 unfold gimbalref11_Bottom.f at H
 clear h
 replace H := Option.bind_eq_some_iff.mp H
 obtain ⟨t209, A20, H⟩ := H
 try dsimp only at H
 have A2 := Aside0.mk A20
 clear A20
 by_cases c3 : t209 = true
 ·
  subst c3
  rw [if_pos rfl] at H
  try dsimp only at H
  replace H := Option.bind_eq_some_iff.mp H
  obtain ⟨t210, A40, H⟩ := H
  try dsimp only at H
  have A4 := Aside0.mk A40
  clear A40
  simp only [Option.some.injEq, Prod.mk.injEq] at H
  obtain ⟨rfl, rfl, rfl⟩ := H
  go_enter Try.func65, Try.ntmps65
  go_wp2_with (first | ((with_reducible refine gate_dst (N := 2) rfl ?_); refine bx_ 2 #[.slice none 0 0, .slice none 0 0, .bool false] 25 ?_; intro gb208 hg w5 hbox hb; have BK208 := Aside0.mk (hbox); have GW208 := vS hg HB; have GE208 := vS hg HB; replace HB := vWs HB hb; clear hb hbox hg) | ((with_reducible refine gate_callee (f := 46) rfl ?_); refine gl_ (some 4) Try.func46 #[.slice A0 l0.length c0] ?_; (with_reducible refine (gimbalref11_VarsFit.calls _ _ l0 true _ ?side1 ?side2 A2.out).mono ?_); (case side1 => exact vC (Kd.C_below HR0.out HB.out)); (case side2 => exact HC0.out); rintro e w' ⟨rfl, ⟨nd, rfl⟩⟩; refine ⟨_, rfl, ?_⟩; (try (rw [drewN_self w5]; generalize hq_ : World.drewN w5 _ = w5; have n0_ : Aside0 (w5.heap[gb208]? = some (.cells #[.slice none 0 0, .slice none 0 0, .bool false] 25 (0, 0))) := ⟨by rw [← hq_]; exact (vB BK208.out)⟩; have n1_ : Aside0 (Below w.heap.size w w5) := ⟨by rw [← hq_]; exact (vW HB.out)⟩; clear BK208 HB hq_; have BK208 := n0_; have HB := n1_; clear n0_ n1_))) | ((with_reducible refine gate_callee (f := 83) rfl ?_); refine gl_ (some 8) Try.func83 #[.slice A0 l0.length c0] ?_; (with_reducible refine (gimbalref11_copied.calls _ _ l0 t210 _ ?side1 ?side2 A4.out).mono ?_); (case side1 => exact vC (Kd.C_below HR0.out HB.out)); (case side2 => exact HC0.out); rintro e w6 ⟨v211, rfl, ho0, hb⟩; refine ⟨_, rfl, ?_⟩; have HO212 := Aside0.mk (Kd.R_lower ho0 (below_size (vW HB.out))); replace BK208 := vBb BK208 hb; replace HB := vWs HB hb; (try clear hb); (try clear hb2); (try clear hk); (try clear hi); (try clear ho0); obtain ⟨Ao7, co7, eo7⟩ := Kd.R_slice HO212.out; subst eo7; obtain ⟨hcz8_0, hcz8_1, hcz8_2, hfz8_0, hfz8_1, hfz8_2⟩ := vF3 BK208.out))
  refine bodyPost_ret (results_cell_row rfl _ _ gb208 25 #[.slice Ao7 t210.length co7, .slice none 0 0, .bool true] (0, 0) _ rfl (vP3 BK208.out) Try.underlying25 rfl (by kernel_rfl)) rfl ?_
  exact ⟨_, _, vE, vTt HO212.out BK208.out, by first | exact Kd.R_nil _ _ _ _ _ | exact Kd.N_nil _ _ _ _ _ | exact Kd.V_nil _ _ _ _ _ | exact Kd.Q_nil _ _ _ _ _ | exact Kd.S_nil _ _ _ _ _, vW HB.out⟩
 ·
  replace c3 := Bool.eq_false_iff.mpr c3
  subst c3
  rw [if_neg (show ¬ (false = true) by decide)] at H
  try dsimp only at H
  simp only [Option.some.injEq, Prod.mk.injEq] at H
  obtain ⟨rfl, rfl, rfl⟩ := H
  go_enter Try.func65, Try.ntmps65
  go_wp2_with (first | ((with_reducible refine gate_dst (N := 2) rfl ?_); refine bx_ 2 #[.slice none 0 0, .slice none 0 0, .bool false] 25 ?_; intro gb208 hg w9 hbox hb; have BK208 := Aside0.mk (hbox); have GW208 := vS hg HB; have GE208 := vS hg HB; replace HB := vWs HB hb; clear hb hbox hg) | ((with_reducible refine gate_callee (f := 46) rfl ?_); refine gl_ (some 4) Try.func46 #[.slice A0 l0.length c0] ?_; (with_reducible refine (gimbalref11_VarsFit.calls _ _ l0 false _ ?side1 ?side2 A2.out).mono ?_); (case side1 => exact vC (Kd.C_below HR0.out HB.out)); (case side2 => exact HC0.out); rintro e w' ⟨rfl, ⟨nd, rfl⟩⟩; refine ⟨_, rfl, ?_⟩; (try (rw [drewN_self w9]; generalize hq_ : World.drewN w9 _ = w9; have n0_ : Aside0 (w9.heap[gb208]? = some (.cells #[.slice none 0 0, .slice none 0 0, .bool false] 25 (0, 0))) := ⟨by rw [← hq_]; exact (vB BK208.out)⟩; have n1_ : Aside0 (Below w.heap.size w w9) := ⟨by rw [← hq_]; exact (vW HB.out)⟩; clear BK208 HB hq_; have BK208 := n0_; have HB := n1_; clear n0_ n1_)); obtain ⟨hcz10_0, hcz10_1, hcz10_2, hfz10_0, hfz10_1, hfz10_2⟩ := vF3 BK208.out))
  refine bodyPost_ret (results_cell_row rfl _ _ gb208 25 #[.slice none 0 0, .slice none 0 0, .bool false] (0, 0) _ rfl (vP3 BK208.out) Try.underlying25 rfl (by kernel_rfl)) rfl ?_
  exact ⟨_, _, vE, by first | exact Kd.R_nil _ _ _ _ _ | exact Kd.N_nil _ _ _ _ _ | exact Kd.V_nil _ _ _ _ _ | exact Kd.Q_nil _ _ _ _ _ | exact Kd.S_nil _ _ _ _ _, by first | exact Kd.R_nil _ _ _ _ _ | exact Kd.N_nil _ _ _ _ _ | exact Kd.V_nil _ _ _ _ _ | exact Kd.Q_nil _ _ _ _ _ | exact Kd.S_nil _ _ _ _ _, vW HB.out⟩
def gimbalref11_bar.f (a0 : Int) : Option Int := if 0 ≤ a0 ∧ a0 < 16 then some (nbar a0) else none
theorem gimbalref11_bar.calls (a0 : Int) (r : Int) (w : World) (h : gimbalref11_bar.f a0 = some r) :
 Calls Try.prog 47 #[.int .i64 a0] w fun e w' => e = .returned (.int .i64 r) ∧ Drawn0 w w' := by
 have hr : r = Go.bits .xor .i64 a0 1 := by
  unfold gimbalref11_bar.f at h; split at h
  ·
   rename_i hc; rw [xor_one a0 hc.1 hc.2]; exact (Option.some.inj h).symm
  ·
   cases h
 subst hr
 clear h
 go_enter Try.func47, Try.ntmps47
 go_wp2
 go_ret
 exact ⟨rfl, Drawn0.refl _⟩
theorem gimbalref11_bar_still (a0 : Int) (r : Int) (w : World) (h : gimbalref11_bar.f a0 = some r) :
 Calls Try.prog 47 #[.int .i64 a0] w fun e w' => e = .returned (.int .i64 r) ∧ w' = w := by
 have hr : r = Go.bits .xor .i64 a0 1 := by
  unfold gimbalref11_bar.f at h; split at h
  ·
   rename_i hc; rw [xor_one a0 hc.1 hc.2]; exact (Option.some.inj h).symm
  ·
   cases h
 subst hr
 clear h
 go_enter Try.func47, Try.ntmps47
 go_wp2
 go_ret
 exact ⟨rfl, rfl⟩
def gimbalref11_plus.f (a0 : Int) (a1 : Int) : Option (Int) := if a0 = 4611686018427387904 then (some 4611686018427387904) else (if a1 = 4611686018427387904 then (some 4611686018427387904) else (some (wrap64 (a0 + a1))))
theorem gimbalref11_plus.calls (a0 : Int) (a1 : Int) (r : Int) (w : World) (h : gimbalref11_plus.f a0 a1 = some r) :
 Calls Try.prog 118 #[.int .i64 a0, .int .i64 a1] w fun e w' => e = .returned (.int .i64 r) ∧ Drawn0 w w' := by
 have H : (if a0 = 4611686018427387904 then (some 4611686018427387904) else (if a1 = 4611686018427387904 then (some 4611686018427387904) else (some (wrap64 (a0 + a1))))) = some r := h
 clear h
 by_cases c3 : a0 = 4611686018427387904
 ·
  rw [if_pos c3] at H
  have c3b0 : (a0 == 4611686018427387904) = true := beq_iff_eq.mpr c3
  have c3b1 : (a0 != 4611686018427387904) = false := bne_eq_false_iff_eq.mpr c3
  clear c3
  obtain rfl := Option.some.inj H
  go_enter Try.func118, Try.ntmps118
  go_wp2
  go_ret
  exact ⟨by first | rfl | (simp; done) | (simp [*]; done), by repeat (first | exact Drawn0.refl _ | apply Drawn0.step)⟩
 ·
  rw [if_neg c3] at H
  have c3b0 : (a0 == 4611686018427387904) = false := beq_eq_false_iff_ne.mpr c3
  have c3b1 : (a0 != 4611686018427387904) = true := bne_iff_ne.mpr c3
  by_cases c4 : a1 = 4611686018427387904
  ·
   rw [if_pos c4] at H
   have c4b0 : (a1 == 4611686018427387904) = true := beq_iff_eq.mpr c4
   have c4b1 : (a1 != 4611686018427387904) = false := bne_eq_false_iff_eq.mpr c4
   clear c4
   obtain rfl := Option.some.inj H
   go_enter Try.func118, Try.ntmps118
   go_wp2
   go_ret
   exact ⟨by first | rfl | (simp; done) | (simp [*]; done), by repeat (first | exact Drawn0.refl _ | apply Drawn0.step)⟩
  ·
   rw [if_neg c4] at H
   have c4b0 : (a1 == 4611686018427387904) = false := beq_eq_false_iff_ne.mpr c4
   have c4b1 : (a1 != 4611686018427387904) = true := bne_iff_ne.mpr c4
   obtain rfl := Option.some.inj H
   go_enter Try.func118, Try.ntmps118
   go_wp2
   go_ret
   exact ⟨by first | rfl | (simp; done) | (simp [*]; done), by repeat (first | exact Drawn0.refl _ | apply Drawn0.step)⟩
def gimbalref11_halved.f (a0 : Int) : Option (Int) := if a0 ≥ 0 then (some (wrap64 (Int.tdiv a0 2))) else (some (wrap64 (-(wrap64 (Int.tdiv (wrap64 (1 - a0)) 2)))))
theorem gimbalref11_halved.calls (a0 : Int) (r : Int) (w : World) (h : gimbalref11_halved.f a0 = some r) :
 Calls Try.prog 119 #[.int .i64 a0] w fun e w' => e = .returned (.int .i64 r) ∧ Drawn0 w w' := by
 have H : (if a0 ≥ 0 then (some (wrap64 (Int.tdiv a0 2))) else (some (wrap64 (-(wrap64 (Int.tdiv (wrap64 (1 - a0)) 2)))))) = some r := h
 clear h
 by_cases c2 : a0 ≥ 0
 ·
  rw [if_pos c2] at H
  have c2b0 : decide (0 ≤ a0) = true := decide_eq_true c2
  clear c2
  obtain rfl := Option.some.inj H
  go_enter Try.func119, Try.ntmps119
  go_wp2
  go_ret
  exact ⟨by first | rfl | (simp; done) | (simp [*]; done), by repeat (first | exact Drawn0.refl _ | apply Drawn0.step)⟩
 ·
  rw [if_neg c2] at H
  have c2b0 : decide (0 ≤ a0) = false := decide_eq_false c2
  clear c2
  obtain rfl := Option.some.inj H
  go_enter Try.func119, Try.ntmps119
  go_wp2
  go_ret
  exact ⟨by first | rfl | (simp; done) | (simp [*]; done), by repeat (first | exact Drawn0.refl _ | apply Drawn0.step)⟩
def gimbalref11_clip.f (a0 : Int) : Option (Int) := if a0 > 1099511627776 then (some 4611686018427387904) else (if a0 < (-1099511627776) then (some (-1099511627776)) else (some a0))
theorem gimbalref11_clip.calls (a0 : Int) (r : Int) (w : World) (h : gimbalref11_clip.f a0 = some r) :
 Calls Try.prog 84 #[.int .i64 a0] w fun e w' => e = .returned (.int .i64 r) ∧ Drawn0 w w' := by
 have H : (if a0 > 1099511627776 then (some 4611686018427387904) else (if a0 < (-1099511627776) then (some (-1099511627776)) else (some a0))) = some r := h
 clear h
 by_cases c2 : a0 > 1099511627776
 ·
  rw [if_pos c2] at H
  have c2b0 : decide (1099511627776 < a0) = true := decide_eq_true c2
  clear c2
  obtain rfl := Option.some.inj H
  go_enter Try.func84, Try.ntmps84
  go_wp2
  go_ret
  exact ⟨by first | rfl | (simp; done) | (simp [*]; done), by repeat (first | exact Drawn0.refl _ | apply Drawn0.step)⟩
 ·
  rw [if_neg c2] at H
  have c2b0 : decide (1099511627776 < a0) = false := decide_eq_false c2
  clear c2
  by_cases c3 : a0 < (-1099511627776)
  ·
   rw [if_pos c3] at H
   have c3b0 : decide (a0 < (-1099511627776)) = true := decide_eq_true c3
   clear c3
   obtain rfl := Option.some.inj H
   go_enter Try.func84, Try.ntmps84
   go_wp2
   go_ret
   exact ⟨by first | rfl | (simp; done) | (simp [*]; done), by repeat (first | exact Drawn0.refl _ | apply Drawn0.step)⟩
  ·
   rw [if_neg c3] at H
   have c3b0 : decide (a0 < (-1099511627776)) = false := decide_eq_false c3
   clear c3
   obtain rfl := Option.some.inj H
   go_enter Try.func84, Try.ntmps84
   go_wp2
   go_ret
   exact ⟨by first | rfl | (simp; done) | (simp [*]; done), by repeat (first | exact Drawn0.refl _ | apply Drawn0.step)⟩
def oct_most.f (k : Nat) (l0_0 : List Int) (l0_1 : List Int) (a0_2 : Bool) (a1_0 a1_1 a1_2 a1_3 a1_4 : Int) : Option Int :=
 if a1_1 = 0 then some 0 else (oct_node.f k l0_0 l0_1 a0_2 a1_0 a1_1).bind fun x =>
  if l0_0.length ≤ 8 ∧ (l0_1.length : Int) = (2 * (l0_0.length : Int)) * (2 * (l0_0.length : Int)) ∧ 0 ≤ x ∧ x < 2 * (l0_0.length : Int) then
   (if a1_3 = 0 then bound_Half.f (lowAt (2 * (l0_0.length : Int)) l0_1 (nbar x) x)
    else (oct_node.f k l0_0 l0_1 a0_2 a1_2 a1_3).bind fun y => if 0 ≤ y ∧ y < 2 * (l0_0.length : Int) then some (lowAt (2 * (l0_0.length : Int)) l0_1 (nbar x) y) else none)
  else none
theorem oct_most.mono : ∀ a0 a1 a2 a3 a4 a5 a6 a7 k, LeO (oct_most.f k a0 a1 a2 a3 a4 a5 a6 a7) (oct_most.f (k + 1) a0 a1 a2 a3 a4 a5 a6 a7) := by
 intro a0 a1 a2 a3 a4 a5 a6 a7 k
 unfold oct_most.f
 repeat' first
  | (with_reducible exact oct_node.mono _ _ _ _ _ _)
  | (with_reducible exact LeO.refl _)
  | (with_reducible exact LeO.none _)
  | (with_reducible refine LeO.ite ?_ ?_)
  | (with_reducible refine LeO.bind ?_ (fun _ => ?_))
theorem nil_at (m : Int) (A : Option Addr) (n c : Nat) (w : World) : (nilAhead 234 102 (.agg #[.int .i64 m, .slice A n c]) "gimbal/oct.at").run Try.prog w = .ok (some false) w := by kernel_rfl
structure MB (w : World) (bo bl : Nat) (A0 : Option Addr) (n0 c0 : Nat) (A1 : Option Addr) (n1 c1 : Nat) (e : Bool) (x0 x1 x2 x3 x4 : Int) (W : World) : Prop where
 below : Below w.heap.size w W
 bo : W.heap[bo]? = some (.cells #[.slice A0 n0 c0, .slice A1 n1 c1, .bool e] 25 (0, 0))
 bl : W.heap[bl]? = some (.cells #[.int .i64 x0, .int .i64 x1, .int .i64 x2, .int .i64 x3, .int .i64 x4] 34 (0, 0))
theorem MB.next {w : World} {bo bl : Nat} {A0 : Option Addr} {n0 c0 : Nat} {A1 : Option Addr} {n1 c1 : Nat} {e : Bool} {x0 x1 x2 x3 x4 : Int} {W W' : World} (h : MB w bo bl A0 n0 c0 A1 n1 c1 e x0 x1 x2 x3 x4 W) (hb : Below W.heap.size W W') : MB w bo bl A0 n0 c0 A1 n1 c1 e x0 x1 x2 x3 x4 W' :=
 ⟨h.below.trans (hb.mono h.below.size), (hb.block _ (Array.getElem?_eq_some_iff.1 h.bo).1).trans h.bo, (hb.block _ (Array.getElem?_eq_some_iff.1 h.bl).1).trans h.bl⟩
theorem MB.cells {w : World} {bo bl : Nat} {A0 : Option Addr} {n0 c0 : Nat} {A1 : Option Addr} {n1 c1 : Nat} {e : Bool} {x0 x1 x2 x3 x4 : Int} {W : World} (h : MB w bo bl A0 n0 c0 A1 n1 c1 e x0 x1 x2 x3 x4 W) :
 W.cell? ⟨bo, 0, none⟩ = some (.slice A0 n0 c0) ∧ W.cell? ⟨bo, 1, none⟩ = some (.slice A1 n1 c1) ∧ W.cell? ⟨bo, 2, none⟩ = some (.bool e) ∧ W.cell? ⟨bl, 0, none⟩ = some (.int .i64 x0) ∧ W.cell? ⟨bl, 1, none⟩ = some (.int .i64 x1) ∧ W.cell? ⟨bl, 2, none⟩ = some (.int .i64 x2) ∧ W.cell? ⟨bl, 3, none⟩ = some (.int .i64 x3) := by
 refine ⟨?_, ?_, ?_, ?_, ?_, ?_, ?_⟩ <;> first | (simp only [World.cell?, h.bo]; rfl) | (simp only [World.cell?, h.bl]; rfl)
theorem oct_most.calls (k : Nat) (A0_0 : Option Addr) (c0_0 : Nat) (l0_0 : List Int) (A0_1 : Option Addr) (c0_1 : Nat) (l0_1 : List Int) (a0_2 : Bool) (a1_0 a1_1 a1_2 a1_3 a1_4 : Int) (r : Int) (w : World) (hr0_0 : Kd.C (Kd.int .i64) w A0_0 l0_0.length l0_0) (hc0_0 : l0_0.length ≤ c0_0) (hr0_1 : Kd.C (Kd.int .i64) w A0_1 l0_1.length l0_1) (hc0_1 : l0_1.length ≤ c0_1) (h : oct_most.f k l0_0 l0_1 a0_2 a1_0 a1_1 a1_2 a1_3 a1_4 = some r) :
 Calls Try.prog 114 #[.agg #[.slice A0_0 l0_0.length c0_0, .slice A0_1 l0_1.length c0_1, .bool a0_2], .agg #[.int .i64 a1_0, .int .i64 a1_1, .int .i64 a1_2, .int .i64 a1_3, .int .i64 a1_4]] w fun e w' => e = .returned (.int .i64 r) ∧ Below w.heap.size w w' := by
 have hu25 := Try.underlying25
 have hu49 := Try.underlying34
 have HR0 := Aside0.mk hr0_0
 have HR1 := Aside0.mk hr0_1
 have HC0 := Aside0.mk hc0_0
 have HC1 := Aside0.mk hc0_1
 clear hr0_0 hr0_1 hc0_0 hc0_1
 unfold oct_most.f at h
 by_cases c1 : a1_1 = 0
 ·
  rw [if_pos c1] at h
  obtain rfl := Option.some.inj h
  have b1 : (a1_1 == 0) = true := by simpa using c1
  clear h c1
  go_enter Try.func114, Try.ntmps114
  go_wp2
  go_ret
  exact ⟨rfl, by repeat (first | exact Below.refl _ _ | apply below_alloc | apply pw_below_drewN)⟩
 ·
  rw [if_neg c1] at h
  have b1 : (a1_1 == 0) = false := by simpa using c1
  clear c1
  obtain ⟨x, hx, h⟩ := Option.bind_eq_some_iff.mp h
  have HX := Aside0.mk hx
  clear hx
  by_cases c2 : l0_0.length ≤ 8 ∧ (l0_1.length : Int) = (2 * (l0_0.length : Int)) * (2 * (l0_0.length : Int)) ∧ 0 ≤ x ∧ x < 2 * (l0_0.length : Int)
  ·
   rw [if_pos c2] at h
   obtain ⟨hn, hm, x0, x1⟩ := c2
   have CN := Aside0.mk (fun W (hW : Below w.heap.size w W) => oct_node.calls k A0_0 c0_0 l0_0 A0_1 c0_1 l0_1 a0_2 a1_0 a1_1 x W (Kd.C_below HR0.out hW) HC0.out (Kd.C_below HR1.out hW) HC1.out HX.out)
   have CO := Aside0.mk (fun W => oct_of_any A0_0 l0_0.length c0_0 A0_1 l0_1.length c0_1 a0_2 W (by omega))
   have b0 : oct_bar.f x = some (nbar x) := by unfold oct_bar.f; rw [if_pos ⟨x0, by omega⟩]
   have CB := Aside0.mk (fun W => oct_bar_still x (nbar x) W b0)
   have nx := nbar_in (i := x) (n := l0_0.length) x0 x1
   have hma := meth_at
   have hna := nil_at
   obtain ⟨nn, hnn⟩ : ∃ nn : Int, 2 * (l0_0.length : Int) = nn := ⟨_, rfl⟩
   by_cases c3 : a1_3 = 0
   ·
    rw [if_pos c3] at h
    have b3 : (a1_3 == 0) = true := by simpa using c3
    obtain ⟨v, hv⟩ : ∃ v, lowAt (2 * (l0_0.length : Int)) l0_1 (nbar x) x = v := ⟨_, rfl⟩
    have CA := Aside0.mk (fun W (hW : Below w.heap.size w W) => oct_lower_at_any l0_0.length A0_1 c0_1 l0_1 (nbar x) x W (Kd.C_below HR1.out hW) HC1.out hn hm nx.1 nx.2 x0 x1)
    rw [hv] at h CA
    have CH := Aside0.mk (fun W => bound_Half.calls v r W h)
    unfold tableV at CO
    rw [hnn] at CO CA
    clear h c3 hn hm x0 x1 b0 nx hnn hv hu49
    go_enter Try.func114, Try.ntmps114
    go_wp2
    obtain ⟨W2, hW2⟩ : ∃ W2, (w.alloc (.cells #[.slice A0_0 l0_0.length c0_0, .slice A0_1 l0_1.length c0_1, .bool a0_2] 25)).alloc (.cells #[.int .i64 a1_0, .int .i64 a1_1, .int .i64 a1_2, .int .i64 a1_3, .int .i64 a1_4] 34) = W2 := ⟨_, rfl⟩
    obtain ⟨bo, hbo⟩ : ∃ bo, w.heap.size = bo := ⟨_, rfl⟩
    obtain ⟨bl, hbl⟩ : ∃ bl, w.heap.size + 1 = bl := ⟨_, rfl⟩
    have HM : Aside0 (MB w bo bl A0_0 l0_0.length c0_0 A0_1 l0_1.length c0_1 a0_2 a1_0 a1_1 a1_2 a1_3 a1_4 W2) := ⟨by
     refine ⟨?_, ?_, ?_⟩
     ·
      rw [← hW2]; exact below_alloc (below_alloc (Below.refl _ _) _) _
     ·
      rw [← hW2, ← hbo]; exact ((below_alloc (Below.refl _ _) _).block _ (by simp)).trans (blk_new _ _)
     ·
      rw [← hW2, ← hbl]; have h := blk_new (w.alloc (.cells #[.slice A0_0 l0_0.length c0_0, .slice A0_1 l0_1.length c0_1, .bool a0_2] 25)) (.cells #[.int .i64 a1_0, .int .i64 a1_1, .int .i64 a1_2, .int .i64 a1_3, .int .i64 a1_4] 34); rw [World.size_alloc] at h; exact h⟩
    obtain ⟨k0, k1, k2, k3, k4, k5, k6⟩ := HM.out.cells
    rw [hW2, hbl, hbo]
    clear hW2 hbl hbo
    go_region_held3 (fun w' => w'.cell? ⟨bo, 0, none⟩ = some (.slice A0_0 l0_0.length c0_0) ∧ w'.cell? ⟨bo, 1, none⟩ = some (.slice A0_1 l0_1.length c0_1) ∧ w'.cell? ⟨bo, 2, none⟩ = some (.bool a0_2) ∧ w'.cell? ⟨bl, 0, none⟩ = some (.int .i64 a1_0) ∧ w'.cell? ⟨bl, 1, none⟩ = some (.int .i64 a1_1)) (first | go_keep | exact KS)
     (first
      | (go_at_call 80; (with_reducible refine (CO.out _).mono ?_); rintro e w1 ⟨rfl, hb⟩; have HM1 := Aside0.mk (MB.next (MB.next HM.out (below_drew (Below.refl _ _))) hb); have KS := (⟨HM1.out.cells.1, HM1.out.cells.2.1, HM1.out.cells.2.2.1, HM1.out.cells.2.2.2.1, HM1.out.cells.2.2.2.2.1⟩ : _ ∧ _ ∧ _ ∧ _ ∧ _); clear hb)
      | (go_at_call 112; (with_reducible refine (CN.out _ HM1.out.below).mono ?_); rintro e w2 ⟨rfl, hb⟩; have HM2 := Aside0.mk (MB.next HM1.out hb); clear KS; have KS := (⟨HM2.out.cells.1, HM2.out.cells.2.1, HM2.out.cells.2.2.1, HM2.out.cells.2.2.2.1, HM2.out.cells.2.2.2.2.1⟩ : _ ∧ _ ∧ _ ∧ _ ∧ _); clear hb))
    clear KS k0 k1 k2 k3 k4 k5 k6
    obtain ⟨k0, k1, k2, k3, k4, k5, k6⟩ := HM2.out.cells
    clear CN CO HM HM1
    go_wp2
    go_region_held3 (fun w' => True) (first | go_keep | trivial)
     (first
      | (go_at_call 94; (with_reducible refine (CB.out _).mono ?_); rintro e w' ⟨rfl, rfl⟩)
      | (go_at_call 145; (with_reducible refine (CA.out _ (MB.next HM2.out (below_drew (Below.refl _ _))).below).mono ?_); rintro e w3 ⟨rfl, hb⟩; have HM3 := Aside0.mk (MB.next (MB.next HM2.out (below_drew (Below.refl _ _))) hb); clear hb)
      | (go_at_call 95; (with_reducible refine (CH.out _).mono ?_); rintro e w4 ⟨rfl, hb⟩; have HM4 := Aside0.mk (MB.next HM3.out hb.below); clear hb))
    all_goals go_wp2
    all_goals go_ret
    all_goals exact ⟨rfl, HM4.out.below⟩
   ·
    rw [if_neg c3] at h
    have b3 : (a1_3 == 0) = false := by simpa using c3
    obtain ⟨y, hy, h⟩ := Option.bind_eq_some_iff.mp h
    by_cases c4 : 0 ≤ y ∧ y < 2 * (l0_0.length : Int)
    ·
     rw [if_pos c4] at h
     obtain ⟨y0, y1⟩ := c4
     have hv := Option.some.inj h
     have CA := Aside0.mk (fun W (hW : Below w.heap.size w W) => oct_lower_at_any l0_0.length A0_1 c0_1 l0_1 (nbar x) y W (Kd.C_below HR1.out hW) HC1.out hn hm nx.1 nx.2 y0 y1)
     have CN2 := Aside0.mk (fun W (hW : Below w.heap.size w W) => oct_node.calls k A0_0 c0_0 l0_0 A0_1 c0_1 l0_1 a0_2 a1_2 a1_3 y W (Kd.C_below HR0.out hW) HC0.out (Kd.C_below HR1.out hW) HC1.out hy)
     rw [hv] at CA
     unfold tableV at CO
     rw [hnn] at CO CA
     clear h c3 hn hm x0 x1 b0 nx hnn hv hu49 y0 y1 hy
     go_enter Try.func114, Try.ntmps114
     go_wp2
     obtain ⟨W2, hW2⟩ : ∃ W2, (w.alloc (.cells #[.slice A0_0 l0_0.length c0_0, .slice A0_1 l0_1.length c0_1, .bool a0_2] 25)).alloc (.cells #[.int .i64 a1_0, .int .i64 a1_1, .int .i64 a1_2, .int .i64 a1_3, .int .i64 a1_4] 34) = W2 := ⟨_, rfl⟩
     obtain ⟨bo, hbo⟩ : ∃ bo, w.heap.size = bo := ⟨_, rfl⟩
     obtain ⟨bl, hbl⟩ : ∃ bl, w.heap.size + 1 = bl := ⟨_, rfl⟩
     have HM : Aside0 (MB w bo bl A0_0 l0_0.length c0_0 A0_1 l0_1.length c0_1 a0_2 a1_0 a1_1 a1_2 a1_3 a1_4 W2) := ⟨by
      refine ⟨?_, ?_, ?_⟩
      ·
       rw [← hW2]; exact below_alloc (below_alloc (Below.refl _ _) _) _
      ·
       rw [← hW2, ← hbo]; exact ((below_alloc (Below.refl _ _) _).block _ (by simp)).trans (blk_new _ _)
      ·
       rw [← hW2, ← hbl]; have h := blk_new (w.alloc (.cells #[.slice A0_0 l0_0.length c0_0, .slice A0_1 l0_1.length c0_1, .bool a0_2] 25)) (.cells #[.int .i64 a1_0, .int .i64 a1_1, .int .i64 a1_2, .int .i64 a1_3, .int .i64 a1_4] 34); rw [World.size_alloc] at h; exact h⟩
     obtain ⟨k0, k1, k2, k3, k4, k5, k6⟩ := HM.out.cells
     rw [hW2, hbl, hbo]
     clear hW2 hbl hbo
     go_region_held3 (fun w' => w'.cell? ⟨bo, 0, none⟩ = some (.slice A0_0 l0_0.length c0_0) ∧ w'.cell? ⟨bo, 1, none⟩ = some (.slice A0_1 l0_1.length c0_1) ∧ w'.cell? ⟨bo, 2, none⟩ = some (.bool a0_2) ∧ w'.cell? ⟨bl, 0, none⟩ = some (.int .i64 a1_0) ∧ w'.cell? ⟨bl, 1, none⟩ = some (.int .i64 a1_1)) (first | go_keep | exact KS)
      (first
       | (go_at_call 80; (with_reducible refine (CO.out _).mono ?_); rintro e w1 ⟨rfl, hb⟩; have HM1 := Aside0.mk (MB.next (MB.next HM.out (below_drew (Below.refl _ _))) hb); have KS := (⟨HM1.out.cells.1, HM1.out.cells.2.1, HM1.out.cells.2.2.1, HM1.out.cells.2.2.2.1, HM1.out.cells.2.2.2.2.1⟩ : _ ∧ _ ∧ _ ∧ _ ∧ _); clear hb)
       | (go_at_call 112; (with_reducible refine (CN.out _ HM1.out.below).mono ?_); rintro e w2 ⟨rfl, hb⟩; have HM2 := Aside0.mk (MB.next HM1.out hb); clear KS; have KS := (⟨HM2.out.cells.1, HM2.out.cells.2.1, HM2.out.cells.2.2.1, HM2.out.cells.2.2.2.1, HM2.out.cells.2.2.2.2.1⟩ : _ ∧ _ ∧ _ ∧ _ ∧ _); clear hb))
     clear KS k0 k1 k2 k3 k4 k5 k6
     obtain ⟨k0, k1, k2, k3, k4, k5, k6⟩ := HM2.out.cells
     clear CN CO HM HM1
     go_wp2
     go_region_held3 (fun w' => w'.cell? ⟨bo, 0, none⟩ = some (.slice A0_0 l0_0.length c0_0) ∧ w'.cell? ⟨bo, 1, none⟩ = some (.slice A0_1 l0_1.length c0_1) ∧ w'.cell? ⟨bo, 2, none⟩ = some (.bool a0_2) ∧ w'.cell? ⟨bl, 2, none⟩ = some (.int .i64 a1_2) ∧ w'.cell? ⟨bl, 3, none⟩ = some (.int .i64 a1_3)) (first | go_keep | exact KS)
      (first
       | (go_at_call 94; (with_reducible refine (CB.out _).mono ?_); rintro e w' ⟨rfl, rfl⟩)
       | (go_at_call 112; (with_reducible refine (CN2.out _ (MB.next HM2.out (below_drew (Below.refl _ _))).below).mono ?_); rintro e w3 ⟨rfl, hb⟩; have HM3 := Aside0.mk (MB.next (MB.next HM2.out (below_drew (Below.refl _ _))) hb); have KS := (⟨HM3.out.cells.1, HM3.out.cells.2.1, HM3.out.cells.2.2.1, HM3.out.cells.2.2.2.2.2.1, HM3.out.cells.2.2.2.2.2.2⟩ : _ ∧ _ ∧ _ ∧ _ ∧ _); clear hb)
       | (go_at_call 145; (with_reducible refine (CA.out _ HM3.out.below).mono ?_); rintro e w4 ⟨rfl, hb⟩; have HM4 := Aside0.mk (MB.next HM3.out hb); clear KS; have KS := (⟨HM4.out.cells.1, HM4.out.cells.2.1, HM4.out.cells.2.2.1, HM4.out.cells.2.2.2.2.2.1, HM4.out.cells.2.2.2.2.2.2⟩ : _ ∧ _ ∧ _ ∧ _ ∧ _); clear hb))
     all_goals go_wp2
     all_goals go_ret
     all_goals exact ⟨rfl, HM4.out.below⟩
    ·
     rw [if_neg c4] at h; cases h
  ·
   rw [if_neg c2] at h; cases h
def gimbalref11_greatest.f (k : Nat) (l0_0 : List Int) (l0_1 : List Int) (a0_2 : Bool) (a1_0 : Int) (a1_1 : Int) (a1_2 : Int) (a1_3 : Int) (a1_4 : Int) : Option (Int) := if a1_1 = 0 then (some 0) else ((gimbalref11_Place.f k l0_0 l0_1 a0_2 a1_0).bind fun t279 => ((gimbalref11_Node.f t279 a1_1).bind fun t280 => (if a1_3 = 0 then ((gimbalref11_bar.f t280).bind fun t281 => (if 0 ≤ (wrap64 ((wrap64 (t281 * (wrap64 (2 * (l0_0.length : Int))))) + t280)) then (if (wrap64 ((wrap64 (t281 * (wrap64 (2 * (l0_0.length : Int))))) + t280)) < (l0_1.length : Int) then (if (rd l0_1 (wrap64 ((wrap64 (t281 * (wrap64 (2 * (l0_0.length : Int))))) + t280))) = 4611686018427387904 then (some 4611686018427387904) else ((gimbalref11_halved.f (rd l0_1 (wrap64 ((wrap64 (t281 * (wrap64 (2 * (l0_0.length : Int))))) + t280)))).bind fun t283 => (some t283))) else (none)) else (none))) else ((gimbalref11_Place.f k l0_0 l0_1 a0_2 a1_2).bind fun t284 => ((gimbalref11_Node.f t284 a1_3).bind fun t285 => ((gimbalref11_bar.f t280).bind fun t286 => (if 0 ≤ (wrap64 ((wrap64 (t286 * (wrap64 (2 * (l0_0.length : Int))))) + t285)) then (if (wrap64 ((wrap64 (t286 * (wrap64 (2 * (l0_0.length : Int))))) + t285)) < (l0_1.length : Int) then (some (rd l0_1 (wrap64 ((wrap64 (t286 * (wrap64 (2 * (l0_0.length : Int))))) + t285)))) else (none)) else (none))))))))
theorem gimbalref11_greatest.mono : ∀ a0 a1 a2 a3 a4 a5 a6 a7 k, LeO (gimbalref11_greatest.f k a0 a1 a2 a3 a4 a5 a6 a7) (gimbalref11_greatest.f (k + 1) a0 a1 a2 a3 a4 a5 a6 a7) := by
 intro a0 a1 a2 a3 a4 a5 a6 a7 k
 unfold gimbalref11_greatest.f
 repeat' first | (with_reducible first | apply gimbalref11_Place.mono | apply LeO.refl | apply LeO.none | refine LeO.ite ?_ ?_ | refine LeO.bind ?_ (fun _ => ?_)) | apply gimbalref11_Place.mono | apply LeO.none | refine LeO.ite ?_ ?_ | refine LeO.bind ?_ (fun _ => ?_)
def gimbalref11_greatest.T4 : Bool × List (List Nat × List Nat) := (true, [([], []), ([], []), ([1], [1]), ([0, 2], [0, 2]), ([], []), ([4], [4]), ([3, 5, 3], [3, 5]), ([6, 6, 0, 1, 2, 3, 4, 5, 6], [6])])
def gimbalref11_greatest.B4 : List Nat := [0, 0, 2, 7, 0, 16, 63, 127]
theorem gimbalref11_greatest.tab4 : rtab .any (opsOf Try.f91 4) = gimbalref11_greatest.T4 := by kernel_rfl
theorem gimbalref11_greatest.bits4 : waitsOk gimbalref11_greatest.T4.2 gimbalref11_greatest.B4 = true := by kernel_rfl
def gimbalref11_greatest.T6 : Bool × List (List Nat × List Nat) := (true, [([], []), ([0], [0]), ([], []), ([2], [2]), ([], []), ([3, 4], [3, 4]), ([], []), ([5, 6], [5, 6]), ([1, 7], [1, 7]), ([8], [8]), ([9, 3, 0, 1, 2, 3, 4, 5, 6, 7, 8, 9], [9])])
def gimbalref11_greatest.B6 : List Nat := [0, 1, 0, 4, 0, 28, 0, 124, 255, 511, 1023]
theorem gimbalref11_greatest.tab6 : rtab .any (opsOf Try.f91 6) = gimbalref11_greatest.T6 := by kernel_rfl
theorem gimbalref11_greatest.bits6 : waitsOk gimbalref11_greatest.T6.2 gimbalref11_greatest.B6 = true := by kernel_rfl
def gimbalref11_greatest.T10 : Bool × List (List Nat × List Nat) := (true, [([], []), ([], []), ([1], [1]), ([0, 2], [0, 2]), ([], []), ([4], [4]), ([3, 5, 3], [3, 5]), ([6, 6, 0, 1, 2, 3, 4, 5, 6], [6])])
def gimbalref11_greatest.B10 : List Nat := [0, 0, 2, 7, 0, 16, 63, 127]
theorem gimbalref11_greatest.tab10 : rtab .any (opsOf Try.f91 10) = gimbalref11_greatest.T10 := by kernel_rfl
theorem gimbalref11_greatest.bits10 : waitsOk gimbalref11_greatest.T10.2 gimbalref11_greatest.B10 = true := by kernel_rfl
def gimbalref11_greatest.T11 : Bool × List (List Nat × List Nat) := (true, [([], []), ([0], [0]), ([], []), ([2], [2]), ([], []), ([3, 4], [3, 4]), ([], []), ([5, 6], [5, 6]), ([1, 7], [1, 7]), ([8], [8]), ([9, 3, 0, 1, 2, 3, 4, 5, 6, 7, 8, 9], [9])])
def gimbalref11_greatest.B11 : List Nat := [0, 1, 0, 4, 0, 28, 0, 124, 255, 511, 1023]
theorem gimbalref11_greatest.tab11 : rtab .any (opsOf Try.f91 11) = gimbalref11_greatest.T11 := by kernel_rfl
theorem gimbalref11_greatest.bits11 : waitsOk gimbalref11_greatest.T11.2 gimbalref11_greatest.B11 = true := by kernel_rfl
theorem gimbalref11_greatest.calls (k : Nat) (A0_0 : Option Addr) (c0_0 : Nat) (l0_0 : List Int) (A0_1 : Option Addr) (c0_1 : Nat) (l0_1 : List Int) (a0_2 : Bool) (a1_0 : Int) (a1_1 : Int) (a1_2 : Int) (a1_3 : Int) (a1_4 : Int) (r : Int) (w : World) (hr0_0 : Kd.C (Kd.int .i64) w A0_0 l0_0.length l0_0) (hc0_0 : l0_0.length ≤ c0_0) (hr0_1 : Kd.C (Kd.int .i64) w A0_1 l0_1.length l0_1) (hc0_1 : l0_1.length ≤ c0_1) (h : gimbalref11_greatest.f k l0_0 l0_1 a0_2 a1_0 a1_1 a1_2 a1_3 a1_4 = some r) :
 Calls Try.prog 91 #[.agg #[.slice A0_0 l0_0.length c0_0, .slice A0_1 l0_1.length c0_1, .bool a0_2], .agg #[.int .i64 a1_0, .int .i64 a1_1, .int .i64 a1_2, .int .i64 a1_3, .int .i64 a1_4]] w fun e w' => e = .returned (.int .i64 r) ∧ Below w.heap.size w w' := by
 have hu25 := Try.underlying25
 have hu34 := Try.underlying34
 have HR0_0 := Aside0.mk hr0_0
 have HC0_0 := Aside0.mk hc0_0
 clear hr0_0 hc0_0
 have HR0_1 := Aside0.mk hr0_1
 have HC0_1 := Aside0.mk hc0_1
 clear hr0_1 hc0_1
 have HB := Aside0.mk (Below.refl w.heap.size w)
 have H := h
 unfold gimbalref11_greatest.f at H
 clear h
 by_cases c3 : a1_1 = 0
 ·
  rw [if_pos c3] at H
  have c3b0 : (a1_1 == 0) = true := beq_iff_eq.mpr c3
  have c3b1 : (a1_1 != 0) = false := bne_eq_false_iff_eq.mpr c3
  clear c3
  obtain rfl := Option.some.inj H
  go_enter Try.func91, Try.ntmps91
  go_wp2_with (first | ((with_reducible refine gate_dst (N := 2) rfl ?_); refine bx_ 2 #[.slice A0_0 l0_0.length c0_0, .slice A0_1 l0_1.length c0_1, .bool a0_2] 25 ?_; intro gb277 hg w4 hbox hb; have BK277 := Aside0.mk (hbox); have GW277 := vS hg HB; have GE277 := vS hg HB; replace HB := vWs HB hb; clear hb hbox hg) | ((with_reducible refine gate_dst (N := 3) rfl ?_); refine bx_ 3 #[.int .i64 a1_0, .int .i64 a1_1, .int .i64 a1_2, .int .i64 a1_3, .int .i64 a1_4] 34 ?_; intro gb278 hg w5 hbox hb; have BK278 := Aside0.mk (hbox); have GW278 := vS hg HB; have GE278 := vS hg HB; replace HB := vWs HB hb; have NB277_278 := vNl hg BK277; have NB278_277 := vNg hg BK277; replace BK277 := vBb BK277 hb; clear hb hbox hg; have hnb6 := NB277_278.out; have hnc6 := NB278_277.out; obtain ⟨hcz7_0, hcz7_1, hcz7_2, hfz7_0, hfz7_1, hfz7_2⟩ := vF3 BK277.out; obtain ⟨hcz8_0, hcz8_1, hcz8_2, hcz8_3, hcz8_4, hfz8_0, hfz8_1, hfz8_2, hfz8_3, hfz8_4⟩ := vF5 BK278.out))
  go_ret
  exact ⟨vE, vW HB.out⟩
 ·
  rw [if_neg c3] at H
  have c3b0 : (a1_1 == 0) = false := beq_eq_false_iff_ne.mpr c3
  have c3b1 : (a1_1 != 0) = true := bne_iff_ne.mpr c3
  replace H := Option.bind_eq_some_iff.mp H
  obtain ⟨t279, A90, H⟩ := H
  try dsimp only at H
  have A9 := Aside0.mk A90
  clear A90
  replace H := Option.bind_eq_some_iff.mp H
  obtain ⟨t280, A100, H⟩ := H
  try dsimp only at H
  have A10 := Aside0.mk A100
  clear A100
  by_cases c11 : a1_3 = 0
  ·
   rw [if_pos c11] at H
   have c11b0 : (a1_3 == 0) = true := beq_iff_eq.mpr c11
   have c11b1 : (a1_3 != 0) = false := bne_eq_false_iff_eq.mpr c11
   clear c11
   replace H := Option.bind_eq_some_iff.mp H
   obtain ⟨t281, A120, H⟩ := H
   try dsimp only at H
   have A12 := Aside0.mk A120
   clear A120
   obtain ⟨ji13, hji13⟩ : ∃ j_ : Int, (wrap64 ((wrap64 (t281 * (wrap64 (2 * (l0_0.length : Int))))) + t280)) = j_ := ⟨_, rfl⟩
   first | rw [hji13] at H | simp only [hji13] at H
   (try rw [hji13] at A9)
   (try rw [hji13] at A10)
   (try rw [hji13] at A12)
   have hji13w : (IntKind.i64.wrap ((wrap64 (t281 * (wrap64 (2 * (l0_0.length : Int))))) + t280)) = ji13 := (i64_w _).trans hji13
   by_cases c14 : 0 ≤ (ji13)
   ·
    rw [if_pos c14] at H
    have c14b0 : decide (0 ≤ (ji13)) = true := decide_eq_true c14
    clear c14
    by_cases c15 : (ji13) < (l0_1.length : Int)
    ·
     rw [if_pos c15] at H
     have c15b0 : decide ((ji13) < (l0_1.length : Int)) = true := decide_eq_true c15
     clear c15
     by_cases c16 : (rd l0_1 (ji13)) = 4611686018427387904
     ·
      rw [if_pos c16] at H
      have c16b0 : ((rd l0_1 (ji13)) == 4611686018427387904) = true := beq_iff_eq.mpr c16
      have c16b1 : ((rd l0_1 (ji13)) != 4611686018427387904) = false := bne_eq_false_iff_eq.mpr c16
      clear c16
      obtain rfl := Option.some.inj H
      go_enter Try.func91, Try.ntmps91
      try go_wp2_with (first | ((with_reducible refine gate_dst (N := 2) rfl ?_); refine bx_ 2 #[.slice A0_0 l0_0.length c0_0, .slice A0_1 l0_1.length c0_1, .bool a0_2] 25 ?_; intro gb277 hg w17 hbox hb; have BK277 := Aside0.mk (hbox); have GW277 := vS hg HB; have GE277 := vS hg HB; replace HB := vWs HB hb; clear hb hbox hg) | ((with_reducible refine gate_dst (N := 3) rfl ?_); refine bx_ 3 #[.int .i64 a1_0, .int .i64 a1_1, .int .i64 a1_2, .int .i64 a1_3, .int .i64 a1_4] 34 ?_; intro gb278 hg w18 hbox hb; have BK278 := Aside0.mk (hbox); have GW278 := vS hg HB; have GE278 := vS hg HB; replace HB := vWs HB hb; have NB277_278 := vNl hg BK277; have NB278_277 := vNg hg BK277; replace BK277 := vBb BK277 hb; clear hb hbox hg; have hnb19 := NB277_278.out; have hnc19 := NB278_277.out; obtain ⟨hcz20_0, hcz20_1, hcz20_2, hfz20_0, hfz20_1, hfz20_2⟩ := vF3 BK277.out; obtain ⟨hcz21_0, hcz21_1, hcz21_2, hcz21_3, hcz21_4, hfz21_0, hfz21_1, hfz21_2, hfz21_3, hfz21_4⟩ := vF5 BK278.out))
      replace BK277 := Aside0.mk (blk_drew BK277.out)
      replace BK278 := Aside0.mk (blk_drew BK278.out)
      replace HB := Aside0.mk (below_drew1 HB.out)
      refine start_ (n := 8) (S := fun w' => w'.cell? ⟨gb277, 0, none⟩ = some (.slice A0_0 l0_0.length c0_0) ∧ w'.cell? ⟨gb277, 1, none⟩ = some (.slice A0_1 l0_1.length c0_1) ∧ w'.cell? ⟨gb277, 2, none⟩ = some (.bool a0_2) ∧ w'.cell? ⟨gb278, 0, none⟩ = some (.int .i64 a1_0) ∧ w'.cell? ⟨gb278, 1, none⟩ = some (.int .i64 a1_1) ∧ w'.cell? ⟨gb278, 2, none⟩ = some (.int .i64 a1_2) ∧ w'.cell? ⟨gb278, 3, none⟩ = some (.int .i64 a1_3) ∧ w'.cell? ⟨gb278, 4, none⟩ = some (.int .i64 a1_4)) (ds := []) (mB 8 0) (by kernel_rfl) rfl rfl ⟨(blk_cell BK277.out 0).trans rfl, (blk_cell BK277.out 1).trans rfl, (blk_cell BK277.out 2).trans rfl, (blk_cell BK278.out 0).trans rfl, (blk_cell BK278.out 1).trans rfl, (blk_cell BK278.out 2).trans rfl, (blk_cell BK278.out 3).trans rfl, (blk_cell BK278.out 4).trans rfl⟩ (fun hHeld => ?_); refine with_tabW gimbalref11_greatest.tab4 gimbalref11_greatest.bits4 (fun HT_ HW_ => ?_)
      generalize w18.drew = w22 at BK277 BK278 HB hHeld ⊢
      refine pV_ 1 17 (mB 8 2) HT_ ?_
      refine pV_ 4 20 (mB 8 18) HT_ ?_
      refine tV_ 0 16 (mB 8 19) HT_ HW_ hHeld ?_
      refine tV_ 2 18 (mB 8 23) HT_ HW_ hHeld ?_
      refine tV_ 5 21 (mB 8 55) HT_ HW_ hHeld ?_
      refine on_ 3 (some 19) (mB 8 63) HT_ (fun K hK => ?_)
      refine gs_ Try.func28 #[.agg #[.slice A0_0 l0_0.length c0_0, .slice A0_1 l0_1.length c0_1, .bool a0_2], .int .i64 a1_0] ?_
      with_reducible refine (gimbalref11_Place.calls k _ _ l0_0 _ _ l0_1 a0_2 a1_0 t279 _ ?side1 ?side2 ?side3 ?side4 A9.out).mono ?_
      (case side1 => exact vC (Kd.C_below HR0_0.out HB.out))
      (case side2 => exact HC0_0.out)
      (case side3 => exact vC (Kd.C_below HR0_1.out HB.out))
      (case side4 => exact HC0_1.out)
      rintro e w23 ⟨rfl, hb⟩
      refine ⟨_, rfl, ?_⟩
      replace BK277 := vBb BK277 hb
      replace BK278 := vBb BK278 hb
      replace HB := vWs HB hb
      (try clear hb)
      (try clear hb2)
      (try clear hk)
      (try clear hi)
      refine hK.out _ _ ⟨(blk_cell BK277.out 0).trans rfl, (blk_cell BK277.out 1).trans rfl, (blk_cell BK277.out 2).trans rfl, (blk_cell BK278.out 0).trans rfl, (blk_cell BK278.out 1).trans rfl, (blk_cell BK278.out 2).trans rfl, (blk_cell BK278.out 3).trans rfl, (blk_cell BK278.out 4).trans rfl⟩ (fun hHeld => ?_)
      clear hK K
      refine norm_ (a' := ?_) ?_ ?_
      rotate_left
      ·
       show Act.put _ (some 19) _ = _
       simp only [Act.put, List.setIfInBounds_toArray, List.set_cons_zero, List.set_cons_succ, i64_w, i32_w]
       rfl
      refine on_ 6 (some 22) (mB 8 127) HT_ (fun K hK => ?_)
      refine gs_ Try.func107 #[.int .i64 t279, .int .i64 a1_1] ?_
      with_reducible refine (gimbalref11_Node.calls t279 a1_1 t280 _ A10.out).mono ?_
      rintro e w' ⟨rfl, ⟨nd, rfl⟩⟩
      refine ⟨_, rfl, ?_⟩
      refine hK.out _ _ ⟨(blk_cell BK277.out 0).trans rfl, (blk_cell BK277.out 1).trans rfl, (blk_cell BK277.out 2).trans rfl, (blk_cell BK278.out 0).trans rfl, (blk_cell BK278.out 1).trans rfl, (blk_cell BK278.out 2).trans rfl, (blk_cell BK278.out 3).trans rfl, (blk_cell BK278.out 4).trans rfl⟩ (fun hHeld => ?_)
      clear hK K
      refine norm_ (a' := ?_) ?_ ?_
      rotate_left
      ·
       show Act.put _ (some 22) _ = _
       simp only [Act.put, List.setIfInBounds_toArray, List.set_cons_zero, List.set_cons_succ, i64_w, i32_w]
       rfl
      refine pV_ 7 6 (mB 8 255) HT_ ?_
      refine dn_ HT_ ?_
      obtain ⟨hcz24_0, hcz24_1, hcz24_2, hcz24_3, hcz24_4, hfz24_0, hfz24_1, hfz24_2, hfz24_3, hfz24_4⟩ := vF5 BK278.out
      try go_wp2
      (try (rw [drewN_self w23]; generalize hq_ : World.drewN w23 _ = w23; have n0_ : Aside0 (w23.heap[gb277]? = some (.cells #[.slice A0_0 l0_0.length c0_0, .slice A0_1 l0_1.length c0_1, .bool a0_2] 25 (0, 0))) := ⟨by rw [← hq_]; exact (vB BK277.out)⟩; have n1_ : Aside0 (w23.heap[gb278]? = some (.cells #[.int .i64 a1_0, .int .i64 a1_1, .int .i64 a1_2, .int .i64 a1_3, .int .i64 a1_4] 34 (0, 0))) := ⟨by rw [← hq_]; exact (vB BK278.out)⟩; have n2_ : Aside0 (Below w.heap.size w w23) := ⟨by rw [← hq_]; exact (vW HB.out)⟩; clear BK277 BK278 HB hq_; have BK277 := n0_; have BK278 := n1_; have HB := n2_; clear n0_ n1_ n2_))
      replace BK277 := Aside0.mk (blk_drew BK277.out)
      replace BK278 := Aside0.mk (blk_drew BK278.out)
      replace HB := Aside0.mk (below_drew1 HB.out)
      have p282 : 0 ≤ ((ji13) : Int) := of_decide_eq_true (by first | (with_reducible assumption) | assumption)
      have q282 : (ji13) < (l0_1.length : Int) := of_decide_eq_true (by first | (with_reducible assumption) | assumption)
      obtain ⟨ad282, e282, hx282_0⟩ := Kd.at_int HR0_1.out (ji13) p282 q282
      have hw282_0 := hx282_0
      cases e282
      replace hx282_0 := (HB.out.cell (World.block_lt_of_cell? w _ hx282_0)).trans hx282_0
      replace p282 := eq_true p282
      replace q282 := eq_true q282
      refine start_ (n := 11) (S := fun w' => w'.cell? ⟨gb277, 0, none⟩ = some (.slice A0_0 l0_0.length c0_0) ∧ w'.cell? ⟨gb277, 1, none⟩ = some (.slice (some ad282) l0_1.length c0_1) ∧ w'.cell? ⟨gb277, 2, none⟩ = some (.bool a0_2) ∧ w'.cell? (ad282.add ((ji13)).toNat) = some (.int .i64 (rd l0_1 (ji13)))) (ds := []) (mB 11 0) (by kernel_rfl) rfl rfl ⟨(blk_cell BK277.out 0).trans rfl, (blk_cell BK277.out 1).trans rfl, (blk_cell BK277.out 2).trans rfl, ((HB.out.cell (World.block_lt_of_cell? w _ hw282_0)).trans hw282_0)⟩ (fun hHeld => ?_); refine with_tabW gimbalref11_greatest.tab6 gimbalref11_greatest.bits6 (fun HT_ HW_ => ?_)
      generalize w23.drew = w25 at BK277 BK278 HB hx282_0 hHeld ⊢
      refine pV_ 0 26 (mB 11 1) HT_ ?_
      refine pV_ 2 28 (mB 11 5) HT_ ?_
      refine pV_ 4 30 (mB 11 21) HT_ ?_
      refine pV_ 6 32 (mB 11 85) HT_ ?_
      refine tV_ 1 27 (mB 11 87) HT_ HW_ hHeld ?_
      refine on_ 3 (some 29) (mB 11 95) HT_ (fun K hK => ?_)
      refine gs_ Try.func47 #[.int .i64 t280] ?_
      with_reducible refine (gimbalref11_bar.calls t280 t281 _ A12.out).mono ?_
      rintro e w' ⟨rfl, ⟨nd, rfl⟩⟩
      refine ⟨_, rfl, ?_⟩
      refine hK.out _ _ ⟨(blk_cell BK277.out 0).trans rfl, (blk_cell BK277.out 1).trans rfl, (blk_cell BK277.out 2).trans rfl, ((HB.out.cell (World.block_lt_of_cell? w _ hw282_0)).trans hw282_0)⟩ (fun hHeld => ?_)
      clear hK K
      refine norm_ (a' := ?_) ?_ ?_
      rotate_left
      ·
       show Act.put _ (some 29) _ = _
       simp only [Act.put, List.setIfInBounds_toArray, List.set_cons_zero, List.set_cons_succ, i64_w, i32_w]
       rfl
      refine pV_ 5 31 (mB 11 127) HT_ ?_
      refine pV_ 7 33 (mB 11 255) HT_ ?_
      refine pV_ 8 34 (mB 11 511) HT_ ?_
      refine tV_ 9 35 (mB 11 1023) HT_ HW_ hHeld ?_
      refine pV_ 10 7 (mB 11 2047) HT_ ?_
      refine dn_ HT_ ?_
      try go_wp2
      go_ret
      exact ⟨by first | rfl | (simp [errW_none, errW_some] <;> rfl) | (simp only [← hji13]; first | rfl | (simp [errW_none, errW_some] <;> rfl)) | (simp [*, errW_none, errW_some] <;> rfl) | (simp [wrap64]; done), vW HB.out⟩
     ·
      rw [if_neg c16] at H
      have c16b0 : ((rd l0_1 (ji13)) == 4611686018427387904) = false := beq_eq_false_iff_ne.mpr c16
      have c16b1 : ((rd l0_1 (ji13)) != 4611686018427387904) = true := bne_iff_ne.mpr c16
      replace H := Option.bind_eq_some_iff.mp H
      obtain ⟨t283, A260, H⟩ := H
      try dsimp only at H
      have A26 := Aside0.mk A260
      clear A260
      obtain rfl := Option.some.inj H
      go_enter Try.func91, Try.ntmps91
      try go_wp2_with (first | ((with_reducible refine gate_dst (N := 2) rfl ?_); refine bx_ 2 #[.slice A0_0 l0_0.length c0_0, .slice A0_1 l0_1.length c0_1, .bool a0_2] 25 ?_; intro gb277 hg w27 hbox hb; have BK277 := Aside0.mk (hbox); have GW277 := vS hg HB; have GE277 := vS hg HB; replace HB := vWs HB hb; clear hb hbox hg) | ((with_reducible refine gate_dst (N := 3) rfl ?_); refine bx_ 3 #[.int .i64 a1_0, .int .i64 a1_1, .int .i64 a1_2, .int .i64 a1_3, .int .i64 a1_4] 34 ?_; intro gb278 hg w28 hbox hb; have BK278 := Aside0.mk (hbox); have GW278 := vS hg HB; have GE278 := vS hg HB; replace HB := vWs HB hb; have NB277_278 := vNl hg BK277; have NB278_277 := vNg hg BK277; replace BK277 := vBb BK277 hb; clear hb hbox hg; have hnb29 := NB277_278.out; have hnc29 := NB278_277.out; obtain ⟨hcz30_0, hcz30_1, hcz30_2, hfz30_0, hfz30_1, hfz30_2⟩ := vF3 BK277.out; obtain ⟨hcz31_0, hcz31_1, hcz31_2, hcz31_3, hcz31_4, hfz31_0, hfz31_1, hfz31_2, hfz31_3, hfz31_4⟩ := vF5 BK278.out))
      replace BK277 := Aside0.mk (blk_drew BK277.out)
      replace BK278 := Aside0.mk (blk_drew BK278.out)
      replace HB := Aside0.mk (below_drew1 HB.out)
      refine start_ (n := 8) (S := fun w' => w'.cell? ⟨gb277, 0, none⟩ = some (.slice A0_0 l0_0.length c0_0) ∧ w'.cell? ⟨gb277, 1, none⟩ = some (.slice A0_1 l0_1.length c0_1) ∧ w'.cell? ⟨gb277, 2, none⟩ = some (.bool a0_2) ∧ w'.cell? ⟨gb278, 0, none⟩ = some (.int .i64 a1_0) ∧ w'.cell? ⟨gb278, 1, none⟩ = some (.int .i64 a1_1) ∧ w'.cell? ⟨gb278, 2, none⟩ = some (.int .i64 a1_2) ∧ w'.cell? ⟨gb278, 3, none⟩ = some (.int .i64 a1_3) ∧ w'.cell? ⟨gb278, 4, none⟩ = some (.int .i64 a1_4)) (ds := []) (mB 8 0) (by kernel_rfl) rfl rfl ⟨(blk_cell BK277.out 0).trans rfl, (blk_cell BK277.out 1).trans rfl, (blk_cell BK277.out 2).trans rfl, (blk_cell BK278.out 0).trans rfl, (blk_cell BK278.out 1).trans rfl, (blk_cell BK278.out 2).trans rfl, (blk_cell BK278.out 3).trans rfl, (blk_cell BK278.out 4).trans rfl⟩ (fun hHeld => ?_); refine with_tabW gimbalref11_greatest.tab4 gimbalref11_greatest.bits4 (fun HT_ HW_ => ?_)
      generalize w28.drew = w32 at BK277 BK278 HB hHeld ⊢
      refine pV_ 1 17 (mB 8 2) HT_ ?_
      refine pV_ 4 20 (mB 8 18) HT_ ?_
      refine tV_ 0 16 (mB 8 19) HT_ HW_ hHeld ?_
      refine tV_ 2 18 (mB 8 23) HT_ HW_ hHeld ?_
      refine tV_ 5 21 (mB 8 55) HT_ HW_ hHeld ?_
      refine on_ 3 (some 19) (mB 8 63) HT_ (fun K hK => ?_)
      refine gs_ Try.func28 #[.agg #[.slice A0_0 l0_0.length c0_0, .slice A0_1 l0_1.length c0_1, .bool a0_2], .int .i64 a1_0] ?_
      with_reducible refine (gimbalref11_Place.calls k _ _ l0_0 _ _ l0_1 a0_2 a1_0 t279 _ ?side1 ?side2 ?side3 ?side4 A9.out).mono ?_
      (case side1 => exact vC (Kd.C_below HR0_0.out HB.out))
      (case side2 => exact HC0_0.out)
      (case side3 => exact vC (Kd.C_below HR0_1.out HB.out))
      (case side4 => exact HC0_1.out)
      rintro e w33 ⟨rfl, hb⟩
      refine ⟨_, rfl, ?_⟩
      replace BK277 := vBb BK277 hb
      replace BK278 := vBb BK278 hb
      replace HB := vWs HB hb
      (try clear hb)
      (try clear hb2)
      (try clear hk)
      (try clear hi)
      refine hK.out _ _ ⟨(blk_cell BK277.out 0).trans rfl, (blk_cell BK277.out 1).trans rfl, (blk_cell BK277.out 2).trans rfl, (blk_cell BK278.out 0).trans rfl, (blk_cell BK278.out 1).trans rfl, (blk_cell BK278.out 2).trans rfl, (blk_cell BK278.out 3).trans rfl, (blk_cell BK278.out 4).trans rfl⟩ (fun hHeld => ?_)
      clear hK K
      refine norm_ (a' := ?_) ?_ ?_
      rotate_left
      ·
       show Act.put _ (some 19) _ = _
       simp only [Act.put, List.setIfInBounds_toArray, List.set_cons_zero, List.set_cons_succ, i64_w, i32_w]
       rfl
      refine on_ 6 (some 22) (mB 8 127) HT_ (fun K hK => ?_)
      refine gs_ Try.func107 #[.int .i64 t279, .int .i64 a1_1] ?_
      with_reducible refine (gimbalref11_Node.calls t279 a1_1 t280 _ A10.out).mono ?_
      rintro e w' ⟨rfl, ⟨nd, rfl⟩⟩
      refine ⟨_, rfl, ?_⟩
      refine hK.out _ _ ⟨(blk_cell BK277.out 0).trans rfl, (blk_cell BK277.out 1).trans rfl, (blk_cell BK277.out 2).trans rfl, (blk_cell BK278.out 0).trans rfl, (blk_cell BK278.out 1).trans rfl, (blk_cell BK278.out 2).trans rfl, (blk_cell BK278.out 3).trans rfl, (blk_cell BK278.out 4).trans rfl⟩ (fun hHeld => ?_)
      clear hK K
      refine norm_ (a' := ?_) ?_ ?_
      rotate_left
      ·
       show Act.put _ (some 22) _ = _
       simp only [Act.put, List.setIfInBounds_toArray, List.set_cons_zero, List.set_cons_succ, i64_w, i32_w]
       rfl
      refine pV_ 7 6 (mB 8 255) HT_ ?_
      refine dn_ HT_ ?_
      obtain ⟨hcz34_0, hcz34_1, hcz34_2, hcz34_3, hcz34_4, hfz34_0, hfz34_1, hfz34_2, hfz34_3, hfz34_4⟩ := vF5 BK278.out
      try go_wp2
      (try (rw [drewN_self w33]; generalize hq_ : World.drewN w33 _ = w33; have n0_ : Aside0 (w33.heap[gb277]? = some (.cells #[.slice A0_0 l0_0.length c0_0, .slice A0_1 l0_1.length c0_1, .bool a0_2] 25 (0, 0))) := ⟨by rw [← hq_]; exact (vB BK277.out)⟩; have n1_ : Aside0 (w33.heap[gb278]? = some (.cells #[.int .i64 a1_0, .int .i64 a1_1, .int .i64 a1_2, .int .i64 a1_3, .int .i64 a1_4] 34 (0, 0))) := ⟨by rw [← hq_]; exact (vB BK278.out)⟩; have n2_ : Aside0 (Below w.heap.size w w33) := ⟨by rw [← hq_]; exact (vW HB.out)⟩; clear BK277 BK278 HB hq_; have BK277 := n0_; have BK278 := n1_; have HB := n2_; clear n0_ n1_ n2_))
      replace BK277 := Aside0.mk (blk_drew BK277.out)
      replace BK278 := Aside0.mk (blk_drew BK278.out)
      replace HB := Aside0.mk (below_drew1 HB.out)
      have p282 : 0 ≤ ((ji13) : Int) := of_decide_eq_true (by first | (with_reducible assumption) | assumption)
      have q282 : (ji13) < (l0_1.length : Int) := of_decide_eq_true (by first | (with_reducible assumption) | assumption)
      obtain ⟨ad282, e282, hx282_0⟩ := Kd.at_int HR0_1.out (ji13) p282 q282
      have hw282_0 := hx282_0
      cases e282
      replace hx282_0 := (HB.out.cell (World.block_lt_of_cell? w _ hx282_0)).trans hx282_0
      replace p282 := eq_true p282
      replace q282 := eq_true q282
      refine start_ (n := 11) (S := fun w' => w'.cell? ⟨gb277, 0, none⟩ = some (.slice A0_0 l0_0.length c0_0) ∧ w'.cell? ⟨gb277, 1, none⟩ = some (.slice (some ad282) l0_1.length c0_1) ∧ w'.cell? ⟨gb277, 2, none⟩ = some (.bool a0_2) ∧ w'.cell? (ad282.add ((ji13)).toNat) = some (.int .i64 (rd l0_1 (ji13)))) (ds := []) (mB 11 0) (by kernel_rfl) rfl rfl ⟨(blk_cell BK277.out 0).trans rfl, (blk_cell BK277.out 1).trans rfl, (blk_cell BK277.out 2).trans rfl, ((HB.out.cell (World.block_lt_of_cell? w _ hw282_0)).trans hw282_0)⟩ (fun hHeld => ?_); refine with_tabW gimbalref11_greatest.tab6 gimbalref11_greatest.bits6 (fun HT_ HW_ => ?_)
      generalize w33.drew = w35 at BK277 BK278 HB hx282_0 hHeld ⊢
      refine pV_ 0 26 (mB 11 1) HT_ ?_
      refine pV_ 2 28 (mB 11 5) HT_ ?_
      refine pV_ 4 30 (mB 11 21) HT_ ?_
      refine pV_ 6 32 (mB 11 85) HT_ ?_
      refine tV_ 1 27 (mB 11 87) HT_ HW_ hHeld ?_
      refine on_ 3 (some 29) (mB 11 95) HT_ (fun K hK => ?_)
      refine gs_ Try.func47 #[.int .i64 t280] ?_
      with_reducible refine (gimbalref11_bar.calls t280 t281 _ A12.out).mono ?_
      rintro e w' ⟨rfl, ⟨nd, rfl⟩⟩
      refine ⟨_, rfl, ?_⟩
      refine hK.out _ _ ⟨(blk_cell BK277.out 0).trans rfl, (blk_cell BK277.out 1).trans rfl, (blk_cell BK277.out 2).trans rfl, ((HB.out.cell (World.block_lt_of_cell? w _ hw282_0)).trans hw282_0)⟩ (fun hHeld => ?_)
      clear hK K
      refine norm_ (a' := ?_) ?_ ?_
      rotate_left
      ·
       show Act.put _ (some 29) _ = _
       simp only [Act.put, List.setIfInBounds_toArray, List.set_cons_zero, List.set_cons_succ, i64_w, i32_w]
       rfl
      refine pV_ 5 31 (mB 11 127) HT_ ?_
      refine pV_ 7 33 (mB 11 255) HT_ ?_
      refine pV_ 8 34 (mB 11 511) HT_ ?_
      refine tV_ 9 35 (mB 11 1023) HT_ HW_ hHeld ?_
      refine pV_ 10 7 (mB 11 2047) HT_ ?_
      refine dn_ HT_ ?_
      try go_wp2_with (first | ((with_reducible refine gate_callee (f := 119) rfl ?_); refine goesL_ (some 39) rfl rfl Try.func119 (by kernel_rfl) rfl #[.int .i64 (rd l0_1 (ji13))] rfl (by (try simp only [List.map_toArray, List.map_cons, List.map_nil]); first | done | (simp only [hji13]; rfl) | rfl | (simp only [List.length_drop, List.length_take]; rfl)) ?_; (with_reducible refine (gimbalref11_halved.calls (rd l0_1 (ji13)) t283 _ A26.out).mono ?_); rintro e w' ⟨rfl, ⟨nd, rfl⟩⟩; refine ⟨_, rfl, ?_⟩))
      go_ret
      exact ⟨by first | rfl | (simp [errW_none, errW_some] <;> rfl) | (simp only [← hji13]; first | rfl | (simp [errW_none, errW_some] <;> rfl)) | (simp [*, errW_none, errW_some] <;> rfl) | (simp [wrap64]; done), vW HB.out⟩
    ·
     rw [if_neg c15] at H
     exact absurd H (by simp)
   ·
    rw [if_neg c14] at H
    exact absurd H (by simp)
  ·
   rw [if_neg c11] at H
   have c11b0 : (a1_3 == 0) = false := beq_eq_false_iff_ne.mpr c11
   have c11b1 : (a1_3 != 0) = true := bne_iff_ne.mpr c11
   replace H := Option.bind_eq_some_iff.mp H
   obtain ⟨t284, A360, H⟩ := H
   try dsimp only at H
   have A36 := Aside0.mk A360
   clear A360
   replace H := Option.bind_eq_some_iff.mp H
   obtain ⟨t285, A370, H⟩ := H
   try dsimp only at H
   have A37 := Aside0.mk A370
   clear A370
   replace H := Option.bind_eq_some_iff.mp H
   obtain ⟨t286, A380, H⟩ := H
   try dsimp only at H
   have A38 := Aside0.mk A380
   clear A380
   obtain ⟨ji39, hji39⟩ : ∃ j_ : Int, (wrap64 ((wrap64 (t286 * (wrap64 (2 * (l0_0.length : Int))))) + t285)) = j_ := ⟨_, rfl⟩
   first | rw [hji39] at H | simp only [hji39] at H
   (try rw [hji39] at A9)
   (try rw [hji39] at A10)
   (try rw [hji39] at A36)
   (try rw [hji39] at A37)
   (try rw [hji39] at A38)
   have hji39w : (IntKind.i64.wrap ((wrap64 (t286 * (wrap64 (2 * (l0_0.length : Int))))) + t285)) = ji39 := (i64_w _).trans hji39
   by_cases c40 : 0 ≤ (ji39)
   ·
    rw [if_pos c40] at H
    have c40b0 : decide (0 ≤ (ji39)) = true := decide_eq_true c40
    clear c40
    by_cases c41 : (ji39) < (l0_1.length : Int)
    ·
     rw [if_pos c41] at H
     have c41b0 : decide ((ji39) < (l0_1.length : Int)) = true := decide_eq_true c41
     clear c41
     obtain rfl := Option.some.inj H
     go_enter Try.func91, Try.ntmps91
     try go_wp2_with (first | ((with_reducible refine gate_dst (N := 2) rfl ?_); refine bx_ 2 #[.slice A0_0 l0_0.length c0_0, .slice A0_1 l0_1.length c0_1, .bool a0_2] 25 ?_; intro gb277 hg w42 hbox hb; have BK277 := Aside0.mk (hbox); have GW277 := vS hg HB; have GE277 := vS hg HB; replace HB := vWs HB hb; clear hb hbox hg) | ((with_reducible refine gate_dst (N := 3) rfl ?_); refine bx_ 3 #[.int .i64 a1_0, .int .i64 a1_1, .int .i64 a1_2, .int .i64 a1_3, .int .i64 a1_4] 34 ?_; intro gb278 hg w43 hbox hb; have BK278 := Aside0.mk (hbox); have GW278 := vS hg HB; have GE278 := vS hg HB; replace HB := vWs HB hb; have NB277_278 := vNl hg BK277; have NB278_277 := vNg hg BK277; replace BK277 := vBb BK277 hb; clear hb hbox hg; have hnb44 := NB277_278.out; have hnc44 := NB278_277.out; obtain ⟨hcz45_0, hcz45_1, hcz45_2, hfz45_0, hfz45_1, hfz45_2⟩ := vF3 BK277.out; obtain ⟨hcz46_0, hcz46_1, hcz46_2, hcz46_3, hcz46_4, hfz46_0, hfz46_1, hfz46_2, hfz46_3, hfz46_4⟩ := vF5 BK278.out))
     replace BK277 := Aside0.mk (blk_drew BK277.out)
     replace BK278 := Aside0.mk (blk_drew BK278.out)
     replace HB := Aside0.mk (below_drew1 HB.out)
     refine start_ (n := 8) (S := fun w' => w'.cell? ⟨gb277, 0, none⟩ = some (.slice A0_0 l0_0.length c0_0) ∧ w'.cell? ⟨gb277, 1, none⟩ = some (.slice A0_1 l0_1.length c0_1) ∧ w'.cell? ⟨gb277, 2, none⟩ = some (.bool a0_2) ∧ w'.cell? ⟨gb278, 0, none⟩ = some (.int .i64 a1_0) ∧ w'.cell? ⟨gb278, 1, none⟩ = some (.int .i64 a1_1) ∧ w'.cell? ⟨gb278, 2, none⟩ = some (.int .i64 a1_2) ∧ w'.cell? ⟨gb278, 3, none⟩ = some (.int .i64 a1_3) ∧ w'.cell? ⟨gb278, 4, none⟩ = some (.int .i64 a1_4)) (ds := []) (mB 8 0) (by kernel_rfl) rfl rfl ⟨(blk_cell BK277.out 0).trans rfl, (blk_cell BK277.out 1).trans rfl, (blk_cell BK277.out 2).trans rfl, (blk_cell BK278.out 0).trans rfl, (blk_cell BK278.out 1).trans rfl, (blk_cell BK278.out 2).trans rfl, (blk_cell BK278.out 3).trans rfl, (blk_cell BK278.out 4).trans rfl⟩ (fun hHeld => ?_); refine with_tabW gimbalref11_greatest.tab4 gimbalref11_greatest.bits4 (fun HT_ HW_ => ?_)
     generalize w43.drew = w47 at BK277 BK278 HB hHeld ⊢
     refine pV_ 1 17 (mB 8 2) HT_ ?_
     refine pV_ 4 20 (mB 8 18) HT_ ?_
     refine tV_ 0 16 (mB 8 19) HT_ HW_ hHeld ?_
     refine tV_ 2 18 (mB 8 23) HT_ HW_ hHeld ?_
     refine tV_ 5 21 (mB 8 55) HT_ HW_ hHeld ?_
     refine on_ 3 (some 19) (mB 8 63) HT_ (fun K hK => ?_)
     refine gs_ Try.func28 #[.agg #[.slice A0_0 l0_0.length c0_0, .slice A0_1 l0_1.length c0_1, .bool a0_2], .int .i64 a1_0] ?_
     with_reducible refine (gimbalref11_Place.calls k _ _ l0_0 _ _ l0_1 a0_2 a1_0 t279 _ ?side1 ?side2 ?side3 ?side4 A9.out).mono ?_
     (case side1 => exact vC (Kd.C_below HR0_0.out HB.out))
     (case side2 => exact HC0_0.out)
     (case side3 => exact vC (Kd.C_below HR0_1.out HB.out))
     (case side4 => exact HC0_1.out)
     rintro e w48 ⟨rfl, hb⟩
     refine ⟨_, rfl, ?_⟩
     replace BK277 := vBb BK277 hb
     replace BK278 := vBb BK278 hb
     replace HB := vWs HB hb
     (try clear hb)
     (try clear hb2)
     (try clear hk)
     (try clear hi)
     refine hK.out _ _ ⟨(blk_cell BK277.out 0).trans rfl, (blk_cell BK277.out 1).trans rfl, (blk_cell BK277.out 2).trans rfl, (blk_cell BK278.out 0).trans rfl, (blk_cell BK278.out 1).trans rfl, (blk_cell BK278.out 2).trans rfl, (blk_cell BK278.out 3).trans rfl, (blk_cell BK278.out 4).trans rfl⟩ (fun hHeld => ?_)
     clear hK K
     refine norm_ (a' := ?_) ?_ ?_
     rotate_left
     ·
      show Act.put _ (some 19) _ = _
      simp only [Act.put, List.setIfInBounds_toArray, List.set_cons_zero, List.set_cons_succ, i64_w, i32_w]
      rfl
     refine on_ 6 (some 22) (mB 8 127) HT_ (fun K hK => ?_)
     refine gs_ Try.func107 #[.int .i64 t279, .int .i64 a1_1] ?_
     with_reducible refine (gimbalref11_Node.calls t279 a1_1 t280 _ A10.out).mono ?_
     rintro e w' ⟨rfl, ⟨nd, rfl⟩⟩
     refine ⟨_, rfl, ?_⟩
     refine hK.out _ _ ⟨(blk_cell BK277.out 0).trans rfl, (blk_cell BK277.out 1).trans rfl, (blk_cell BK277.out 2).trans rfl, (blk_cell BK278.out 0).trans rfl, (blk_cell BK278.out 1).trans rfl, (blk_cell BK278.out 2).trans rfl, (blk_cell BK278.out 3).trans rfl, (blk_cell BK278.out 4).trans rfl⟩ (fun hHeld => ?_)
     clear hK K
     refine norm_ (a' := ?_) ?_ ?_
     rotate_left
     ·
      show Act.put _ (some 22) _ = _
      simp only [Act.put, List.setIfInBounds_toArray, List.set_cons_zero, List.set_cons_succ, i64_w, i32_w]
      rfl
     refine pV_ 7 6 (mB 8 255) HT_ ?_
     refine dn_ HT_ ?_
     obtain ⟨hcz49_0, hcz49_1, hcz49_2, hcz49_3, hcz49_4, hfz49_0, hfz49_1, hfz49_2, hfz49_3, hfz49_4⟩ := vF5 BK278.out
     try go_wp2
     (try (rw [drewN_self w48]; generalize hq_ : World.drewN w48 _ = w48; have n0_ : Aside0 (w48.heap[gb277]? = some (.cells #[.slice A0_0 l0_0.length c0_0, .slice A0_1 l0_1.length c0_1, .bool a0_2] 25 (0, 0))) := ⟨by rw [← hq_]; exact (vB BK277.out)⟩; have n1_ : Aside0 (w48.heap[gb278]? = some (.cells #[.int .i64 a1_0, .int .i64 a1_1, .int .i64 a1_2, .int .i64 a1_3, .int .i64 a1_4] 34 (0, 0))) := ⟨by rw [← hq_]; exact (vB BK278.out)⟩; have n2_ : Aside0 (Below w.heap.size w w48) := ⟨by rw [← hq_]; exact (vW HB.out)⟩; clear BK277 BK278 HB hq_; have BK277 := n0_; have BK278 := n1_; have HB := n2_; clear n0_ n1_ n2_))
     replace BK277 := Aside0.mk (blk_drew BK277.out)
     replace BK278 := Aside0.mk (blk_drew BK278.out)
     replace HB := Aside0.mk (below_drew1 HB.out)
     refine start_ (n := 8) (S := fun w' => w'.cell? ⟨gb277, 0, none⟩ = some (.slice A0_0 l0_0.length c0_0) ∧ w'.cell? ⟨gb277, 1, none⟩ = some (.slice A0_1 l0_1.length c0_1) ∧ w'.cell? ⟨gb277, 2, none⟩ = some (.bool a0_2) ∧ w'.cell? ⟨gb278, 0, none⟩ = some (.int .i64 a1_0) ∧ w'.cell? ⟨gb278, 1, none⟩ = some (.int .i64 a1_1) ∧ w'.cell? ⟨gb278, 2, none⟩ = some (.int .i64 a1_2) ∧ w'.cell? ⟨gb278, 3, none⟩ = some (.int .i64 a1_3) ∧ w'.cell? ⟨gb278, 4, none⟩ = some (.int .i64 a1_4)) (ds := []) (mB 8 0) (by kernel_rfl) rfl rfl ⟨(blk_cell BK277.out 0).trans rfl, (blk_cell BK277.out 1).trans rfl, (blk_cell BK277.out 2).trans rfl, (blk_cell BK278.out 0).trans rfl, (blk_cell BK278.out 1).trans rfl, (blk_cell BK278.out 2).trans rfl, (blk_cell BK278.out 3).trans rfl, (blk_cell BK278.out 4).trans rfl⟩ (fun hHeld => ?_); refine with_tabW gimbalref11_greatest.tab10 gimbalref11_greatest.bits10 (fun HT_ HW_ => ?_)
     generalize w48.drew = w50 at BK277 BK278 HB hHeld ⊢
     refine pV_ 1 41 (mB 8 2) HT_ ?_
     refine pV_ 4 44 (mB 8 18) HT_ ?_
     refine tV_ 0 40 (mB 8 19) HT_ HW_ hHeld ?_
     refine tV_ 2 42 (mB 8 23) HT_ HW_ hHeld ?_
     refine tV_ 5 45 (mB 8 55) HT_ HW_ hHeld ?_
     refine on_ 3 (some 43) (mB 8 63) HT_ (fun K hK => ?_)
     refine gs_ Try.func28 #[.agg #[.slice A0_0 l0_0.length c0_0, .slice A0_1 l0_1.length c0_1, .bool a0_2], .int .i64 a1_2] ?_
     with_reducible refine (gimbalref11_Place.calls k _ _ l0_0 _ _ l0_1 a0_2 a1_2 t284 _ ?side1 ?side2 ?side3 ?side4 A36.out).mono ?_
     (case side1 => exact vC (Kd.C_below HR0_0.out HB.out))
     (case side2 => exact HC0_0.out)
     (case side3 => exact vC (Kd.C_below HR0_1.out HB.out))
     (case side4 => exact HC0_1.out)
     rintro e w51 ⟨rfl, hb⟩
     refine ⟨_, rfl, ?_⟩
     replace BK277 := vBb BK277 hb
     replace BK278 := vBb BK278 hb
     replace HB := vWs HB hb
     (try clear hb)
     (try clear hb2)
     (try clear hk)
     (try clear hi)
     refine hK.out _ _ ⟨(blk_cell BK277.out 0).trans rfl, (blk_cell BK277.out 1).trans rfl, (blk_cell BK277.out 2).trans rfl, (blk_cell BK278.out 0).trans rfl, (blk_cell BK278.out 1).trans rfl, (blk_cell BK278.out 2).trans rfl, (blk_cell BK278.out 3).trans rfl, (blk_cell BK278.out 4).trans rfl⟩ (fun hHeld => ?_)
     clear hK K
     refine norm_ (a' := ?_) ?_ ?_
     rotate_left
     ·
      show Act.put _ (some 43) _ = _
      simp only [Act.put, List.setIfInBounds_toArray, List.set_cons_zero, List.set_cons_succ, i64_w, i32_w]
      rfl
     refine on_ 6 (some 46) (mB 8 127) HT_ (fun K hK => ?_)
     refine gs_ Try.func107 #[.int .i64 t284, .int .i64 a1_3] ?_
     with_reducible refine (gimbalref11_Node.calls t284 a1_3 t285 _ A37.out).mono ?_
     rintro e w' ⟨rfl, ⟨nd, rfl⟩⟩
     refine ⟨_, rfl, ?_⟩
     refine hK.out _ _ ⟨(blk_cell BK277.out 0).trans rfl, (blk_cell BK277.out 1).trans rfl, (blk_cell BK277.out 2).trans rfl, (blk_cell BK278.out 0).trans rfl, (blk_cell BK278.out 1).trans rfl, (blk_cell BK278.out 2).trans rfl, (blk_cell BK278.out 3).trans rfl, (blk_cell BK278.out 4).trans rfl⟩ (fun hHeld => ?_)
     clear hK K
     refine norm_ (a' := ?_) ?_ ?_
     rotate_left
     ·
      show Act.put _ (some 46) _ = _
      simp only [Act.put, List.setIfInBounds_toArray, List.set_cons_zero, List.set_cons_succ, i64_w, i32_w]
      rfl
     refine pV_ 7 8 (mB 8 255) HT_ ?_
     refine dn_ HT_ ?_
     try go_wp2
     (try (rw [drewN_self w51]; generalize hq_ : World.drewN w51 _ = w51; have n0_ : Aside0 (w51.heap[gb277]? = some (.cells #[.slice A0_0 l0_0.length c0_0, .slice A0_1 l0_1.length c0_1, .bool a0_2] 25 (0, 0))) := ⟨by rw [← hq_]; exact (vB BK277.out)⟩; have n1_ : Aside0 (w51.heap[gb278]? = some (.cells #[.int .i64 a1_0, .int .i64 a1_1, .int .i64 a1_2, .int .i64 a1_3, .int .i64 a1_4] 34 (0, 0))) := ⟨by rw [← hq_]; exact (vB BK278.out)⟩; have n2_ : Aside0 (Below w.heap.size w w51) := ⟨by rw [← hq_]; exact (vW HB.out)⟩; clear BK277 BK278 HB hq_; have BK277 := n0_; have BK278 := n1_; have HB := n2_; clear n0_ n1_ n2_))
     replace BK277 := Aside0.mk (blk_drew BK277.out)
     replace BK278 := Aside0.mk (blk_drew BK278.out)
     replace HB := Aside0.mk (below_drew1 HB.out)
     have p287 : 0 ≤ ((ji39) : Int) := of_decide_eq_true (by first | (with_reducible assumption) | assumption)
     have q287 : (ji39) < (l0_1.length : Int) := of_decide_eq_true (by first | (with_reducible assumption) | assumption)
     obtain ⟨ad287, e287, hx287_0⟩ := Kd.at_int HR0_1.out (ji39) p287 q287
     have hw287_0 := hx287_0
     cases e287
     replace hx287_0 := (HB.out.cell (World.block_lt_of_cell? w _ hx287_0)).trans hx287_0
     replace p287 := eq_true p287
     replace q287 := eq_true q287
     refine start_ (n := 11) (S := fun w' => w'.cell? ⟨gb277, 0, none⟩ = some (.slice A0_0 l0_0.length c0_0) ∧ w'.cell? ⟨gb277, 1, none⟩ = some (.slice (some ad287) l0_1.length c0_1) ∧ w'.cell? ⟨gb277, 2, none⟩ = some (.bool a0_2) ∧ w'.cell? (ad287.add ((ji39)).toNat) = some (.int .i64 (rd l0_1 (ji39)))) (ds := []) (mB 11 0) (by kernel_rfl) rfl rfl ⟨(blk_cell BK277.out 0).trans rfl, (blk_cell BK277.out 1).trans rfl, (blk_cell BK277.out 2).trans rfl, ((HB.out.cell (World.block_lt_of_cell? w _ hw287_0)).trans hw287_0)⟩ (fun hHeld => ?_); refine with_tabW gimbalref11_greatest.tab11 gimbalref11_greatest.bits11 (fun HT_ HW_ => ?_)
     generalize w51.drew = w52 at BK277 BK278 HB hx287_0 hHeld ⊢
     refine pV_ 0 47 (mB 11 1) HT_ ?_
     refine pV_ 2 49 (mB 11 5) HT_ ?_
     refine pV_ 4 51 (mB 11 21) HT_ ?_
     refine pV_ 6 53 (mB 11 85) HT_ ?_
     refine tV_ 1 48 (mB 11 87) HT_ HW_ hHeld ?_
     refine on_ 3 (some 50) (mB 11 95) HT_ (fun K hK => ?_)
     refine gs_ Try.func47 #[.int .i64 t280] ?_
     with_reducible refine (gimbalref11_bar.calls t280 t286 _ A38.out).mono ?_
     rintro e w' ⟨rfl, ⟨nd, rfl⟩⟩
     refine ⟨_, rfl, ?_⟩
     refine hK.out _ _ ⟨(blk_cell BK277.out 0).trans rfl, (blk_cell BK277.out 1).trans rfl, (blk_cell BK277.out 2).trans rfl, ((HB.out.cell (World.block_lt_of_cell? w _ hw287_0)).trans hw287_0)⟩ (fun hHeld => ?_)
     clear hK K
     refine norm_ (a' := ?_) ?_ ?_
     rotate_left
     ·
      show Act.put _ (some 50) _ = _
      simp only [Act.put, List.setIfInBounds_toArray, List.set_cons_zero, List.set_cons_succ, i64_w, i32_w]
      rfl
     refine pV_ 5 52 (mB 11 127) HT_ ?_
     refine pV_ 7 54 (mB 11 255) HT_ ?_
     refine pV_ 8 55 (mB 11 511) HT_ ?_
     refine tV_ 9 56 (mB 11 1023) HT_ HW_ hHeld ?_
     refine pV_ 10 4 (mB 11 2047) HT_ ?_
     refine dn_ HT_ ?_
     try go_wp2
     go_ret
     exact ⟨by first | rfl | (simp [errW_none, errW_some] <;> rfl) | (simp only [← hji39]; first | rfl | (simp [errW_none, errW_some] <;> rfl)) | (simp [*, errW_none, errW_some] <;> rfl) | (simp [wrap64]; done), vW HB.out⟩
    ·
     rw [if_neg c41] at H
     exact absurd H (by simp)
   ·
    rw [if_neg c40] at H
    exact absurd H (by simp)
def octop_node.f (a0 : Int) (a1 : Int) : Option (Int) := if a1 < 0 then (some (wrap64 ((wrap64 (2 * a0)) + 1))) else (some (wrap64 (2 * a0)))
theorem octop_node.calls (a0 : Int) (a1 : Int) (r : Int) (w : World) (h : octop_node.f a0 a1 = some r) :
 Calls Try.prog 101 #[.int .i64 a0, .int .i64 a1] w fun e w' => e = .returned (.int .i64 r) ∧ Drawn0 w w' := by
 have H : (if a1 < 0 then (some (wrap64 ((wrap64 (2 * a0)) + 1))) else (some (wrap64 (2 * a0)))) = some r := h
 clear h
 by_cases c3 : a1 < 0
 ·
  rw [if_pos c3] at H
  have c3b0 : decide (a1 < 0) = true := decide_eq_true c3
  clear c3
  obtain rfl := Option.some.inj H
  go_enter Try.func101, Try.ntmps101
  go_wp2
  go_ret
  exact ⟨by first | rfl | (simp; done) | (simp [*]; done), by repeat (first | exact Drawn0.refl _ | apply Drawn0.step)⟩
 ·
  rw [if_neg c3] at H
  have c3b0 : decide (a1 < 0) = false := decide_eq_false c3
  clear c3
  obtain rfl := Option.some.inj H
  go_enter Try.func101, Try.ntmps101
  go_wp2
  go_ret
  exact ⟨by first | rfl | (simp; done) | (simp [*]; done), by repeat (first | exact Drawn0.refl _ | apply Drawn0.step)⟩
def octop_taken.f (a0 : Int) : Option (Int) := if a0 > 1099511627776 then (some 4611686018427387904) else (some (mx a0 (-1099511627776)))
theorem octop_taken.calls (a0 : Int) (r : Int) (w : World) (h : octop_taken.f a0 = some r) :
 Calls Try.prog 102 #[.int .i64 a0] w fun e w' => e = .returned (.int .i64 r) ∧ Below w.heap.size w w' := by
 have HB := Aside0.mk (Below.refl w.heap.size w)
 have H : (if a0 > 1099511627776 then (some 4611686018427387904) else (some (mx a0 (-1099511627776)))) = some r := h
 clear h
 by_cases c2 : a0 > 1099511627776
 ·
  rw [if_pos c2] at H
  have c2b0 : decide (1099511627776 < a0) = true := decide_eq_true c2
  clear c2
  obtain rfl := Option.some.inj H
  go_enter Try.func102, Try.ntmps102
  go_wp2
  go_ret
  exact ⟨vE, by repeat (first | (with_reducible first | exact HB.out | apply below_alloc | apply pw_below_drewN | apply below_drew1) | exact HB.out)⟩
 ·
  rw [if_neg c2] at H
  have c2b0 : decide (1099511627776 < a0) = false := decide_eq_false c2
  clear c2
  obtain ⟨ji3, hji3⟩ : ∃ j_ : Int, (mx a0 (-1099511627776)) = j_ := ⟨_, rfl⟩
  replace H : (some ji3) = some r := by first | (rw [hji3] at H; exact H) | (simp only [hji3] at H ⊢; exact H)
  have hji3_ : (if a0 < (-1099511627776) then (-1099511627776) else a0) = ji3 := hji3
  obtain rfl := Option.some.inj H
  go_enter Try.func102, Try.ntmps102
  go_wp2
  go_ret
  exact ⟨by first | rfl | (simp [errW_none, errW_some] <;> rfl) | (simp only [← hji3]; first | rfl | (simp [errW_none, errW_some] <;> rfl)) | (simp [*, errW_none, errW_some] <;> rfl) | (simp [wrap64]; done), by repeat (first | (with_reducible first | exact HB.out | apply below_alloc | apply pw_below_drewN | apply below_drew1) | exact HB.out)⟩
def itv_None.f (a0_0 : Int) (a0_1 : Int) : Option (Bool) := some (decide (a0_0 > a0_1))
theorem itv_None.calls (a0_0 : Int) (a0_1 : Int) (r : Bool) (w : World) (h : itv_None.f a0_0 a0_1 = some r) :
 Calls Try.prog 57 #[.agg #[.int .i64 a0_0, .int .i64 a0_1]] w fun e w' => e = .returned (.bool r) ∧ Below w.heap.size w w' := by
 have hu36 := Try.underlying36
 have HB := Aside0.mk (Below.refl w.heap.size w)
 have H : (some (decide (a0_0 > a0_1))) = some r := h
 clear h
 obtain rfl := Option.some.inj H
 go_enter Try.func57, Try.ntmps57
 go_wp2_with (first | ((with_reducible refine gate_dst (N := 1) rfl ?_); refine bx_ 1 #[.int .i64 a0_0, .int .i64 a0_1] 36 ?_; intro gb101 hg w2 hbox hb; have n0_ := Aside0.mk (below_step (by repeat (first | (with_reducible first | exact HB.out | apply below_alloc | apply pw_below_drewN | apply below_drew1) | exact HB.out)) hb); have n1_ := Aside0.mk (hbox); have n2_ := Aside0.mk ((by rw [hg]; exact (below_size (by repeat (first | (with_reducible first | exact HB.out | apply below_alloc | apply pw_below_drewN | apply below_drew1) | exact HB.out))) : w.heap.size ≤ gb101)); have n3_ := Aside0.mk ((by rw [hg]; exact (below_size (by repeat (first | (with_reducible first | exact HB.out | apply below_alloc | apply pw_below_drewN | apply below_drew1) | exact HB.out))) : w.heap.size ≤ gb101)); clear HB; have HB := n0_; have BK101 := n1_; have GW101 := n2_; have GE101 := n3_; clear n0_ n1_ n2_ n3_; clear hb hbox hg; have hcz3_0 : w2.cell? ⟨gb101, 0, none⟩ = some (.int .i64 a0_0) := (blk_cell BK101.out 0).trans rfl; have hcz3_1 : w2.cell? ⟨gb101, 1, none⟩ = some (.int .i64 a0_1) := (blk_cell BK101.out 1).trans rfl; have hfz3_0 := blk_frozen BK101.out 0; have hfz3_1 := blk_frozen BK101.out 1))
 go_ret
 exact ⟨vE, by repeat (first | (with_reducible first | exact HB.out | apply below_alloc | apply pw_below_drewN | apply below_drew1 | refine below_set ?_ GE101.out) | exact HB.out)⟩
def octop_less.f (a0 : Int) (a1 : Int) (a2 : Int) : Option (Int × Int × Int × Int × Int) := if a0 < a2 then (some (a0, 1, a2, wrap64 (-a1), 0)) else (some (a2, wrap64 (-a1), a0, 1, 0))
theorem octop_less.calls (a0 : Int) (a1 : Int) (a2 : Int) (r1 : Int) (r2 : Int) (r3 : Int) (r4 : Int) (r5 : Int) (w : World) (h : octop_less.f a0 a1 a2 = some (r1, r2, r3, r4, r5)) :
 Calls Try.prog 70 #[.int .i64 a0, .int .i64 a1, .int .i64 a2] w fun e w' => e = .returned (.agg #[.int .i64 r1, .int .i64 r2, .int .i64 r3, .int .i64 r4, .int .i64 r5]) ∧ Below w.heap.size w w' := by
 have hu34 := Try.underlying34
 have HB := Aside0.mk (Below.refl w.heap.size w)
 have H := h
 unfold octop_less.f at H
 clear h
 by_cases c4 : a0 < a2
 ·
  rw [if_pos c4] at H
  have c4b0 : decide (a0 < a2) = true := decide_eq_true c4
  clear c4
  simp only [Option.some.injEq, Prod.mk.injEq] at H
  obtain ⟨rfl, rfl, rfl, rfl, rfl⟩ := H
  go_enter Try.func70, Try.ntmps70
  go_wp2_with (first | ((with_reducible refine gate_dst (N := 6) rfl ?_); refine bx_ 6 #[.int .i64 0, .int .i64 0, .int .i64 0, .int .i64 0, .int .i64 0] 34 ?_; intro gb151 hg w5 hbox hb; have BK151 := Aside0.mk (hbox); have GW151 := vS hg HB; have GE151 := vS hg HB; replace HB := vWs HB hb; clear hb hbox hg; obtain ⟨hcz6_0, hcz6_1, hcz6_2, hcz6_3, hcz6_4, hfz6_0, hfz6_1, hfz6_2, hfz6_3, hfz6_4⟩ := vF5 BK151.out))
  refine bodyPost_ret (results_cell_row rfl _ _ gb151 34 #[.int .i64 a0, .int .i64 1, .int .i64 a2, .int .i64 (wrap64 (-a1)), .int .i64 0] (0, 0) _ rfl (by (with_reducible repeat (first | refine blk_drewN ?_ _ | refine blk_drew ?_ | refine blk_alloc ?_ _)); refine blk_put (cs := #[.int .i64 a0, .int .i64 1, .int .i64 a2, .int .i64 (wrap64 (-a1)), .int .i64 0]) ?_ 4 _ rfl; (with_reducible repeat (first | refine blk_drewN ?_ _ | refine blk_drew ?_ | refine blk_alloc ?_ _)); refine blk_put (cs := #[.int .i64 a0, .int .i64 1, .int .i64 a2, .int .i64 0, .int .i64 0]) ?_ 3 _ rfl; (with_reducible repeat (first | refine blk_drewN ?_ _ | refine blk_drew ?_ | refine blk_alloc ?_ _)); refine blk_put (cs := #[.int .i64 a0, .int .i64 1, .int .i64 0, .int .i64 0, .int .i64 0]) ?_ 2 _ rfl; (with_reducible repeat (first | refine blk_drewN ?_ _ | refine blk_drew ?_ | refine blk_alloc ?_ _)); refine blk_put (cs := #[.int .i64 a0, .int .i64 0, .int .i64 0, .int .i64 0, .int .i64 0]) ?_ 1 _ rfl; (with_reducible repeat (first | refine blk_drewN ?_ _ | refine blk_drew ?_ | refine blk_alloc ?_ _)); refine blk_put (cs := #[.int .i64 0, .int .i64 0, .int .i64 0, .int .i64 0, .int .i64 0]) ?_ 0 _ rfl; (with_reducible repeat (first | refine blk_drewN ?_ _ | refine blk_drew ?_ | refine blk_alloc ?_ _)); exact BK151.out) Try.underlying34 rfl (by kernel_rfl)) rfl ?_
  exact ⟨vE, vW HB.out⟩
 ·
  rw [if_neg c4] at H
  have c4b0 : decide (a0 < a2) = false := decide_eq_false c4
  clear c4
  simp only [Option.some.injEq, Prod.mk.injEq] at H
  obtain ⟨rfl, rfl, rfl, rfl, rfl⟩ := H
  go_enter Try.func70, Try.ntmps70
  go_wp2_with (first | ((with_reducible refine gate_dst (N := 6) rfl ?_); refine bx_ 6 #[.int .i64 0, .int .i64 0, .int .i64 0, .int .i64 0, .int .i64 0] 34 ?_; intro gb151 hg w7 hbox hb; have BK151 := Aside0.mk (hbox); have GW151 := vS hg HB; have GE151 := vS hg HB; replace HB := vWs HB hb; clear hb hbox hg; obtain ⟨hcz8_0, hcz8_1, hcz8_2, hcz8_3, hcz8_4, hfz8_0, hfz8_1, hfz8_2, hfz8_3, hfz8_4⟩ := vF5 BK151.out))
  refine bodyPost_ret (results_cell_row rfl _ _ gb151 34 #[.int .i64 a2, .int .i64 (wrap64 (-a1)), .int .i64 a0, .int .i64 1, .int .i64 0] (0, 0) _ rfl (by (with_reducible repeat (first | refine blk_drewN ?_ _ | refine blk_drew ?_ | refine blk_alloc ?_ _)); refine blk_put (cs := #[.int .i64 a2, .int .i64 (wrap64 (-a1)), .int .i64 a0, .int .i64 1, .int .i64 0]) ?_ 4 _ rfl; (with_reducible repeat (first | refine blk_drewN ?_ _ | refine blk_drew ?_ | refine blk_alloc ?_ _)); refine blk_put (cs := #[.int .i64 a2, .int .i64 (wrap64 (-a1)), .int .i64 a0, .int .i64 0, .int .i64 0]) ?_ 3 _ rfl; (with_reducible repeat (first | refine blk_drewN ?_ _ | refine blk_drew ?_ | refine blk_alloc ?_ _)); refine blk_put (cs := #[.int .i64 a2, .int .i64 (wrap64 (-a1)), .int .i64 0, .int .i64 0, .int .i64 0]) ?_ 2 _ rfl; (with_reducible repeat (first | refine blk_drewN ?_ _ | refine blk_drew ?_ | refine blk_alloc ?_ _)); refine blk_put (cs := #[.int .i64 a2, .int .i64 0, .int .i64 0, .int .i64 0, .int .i64 0]) ?_ 1 _ rfl; (with_reducible repeat (first | refine blk_drewN ?_ _ | refine blk_drew ?_ | refine blk_alloc ?_ _)); refine blk_put (cs := #[.int .i64 0, .int .i64 0, .int .i64 0, .int .i64 0, .int .i64 0]) ?_ 0 _ rfl; (with_reducible repeat (first | refine blk_drewN ?_ _ | refine blk_drew ?_ | refine blk_alloc ?_ _)); exact BK151.out) Try.underlying34 rfl (by kernel_rfl)) rfl ?_
  exact ⟨vE, vW HB.out⟩
def sub64Row : Array Value → Sem Value := fun args => do
 let (x, y, b) ← Extern.MathBitsCarry.three "Sub64" args
 pure (Extern.MathBitsCarry.pair ((x + Extern.MathBitsCarry.m64 - y - b) % Extern.MathBitsCarry.m64) (if x < y + b then 1 else 0))
theorem run_sub64Row (x y b : Nat) (hb : b ≤ 1) (w : World) :
 (sub64Row #[.int .u64 x, .int .u64 y, .int .u64 b]).run Try.prog w =
  .ok (.tuple #[.int .u64 (((x + 18446744073709551616 - y - b) % 18446744073709551616 : Nat) : Int), .int .u64 ((if x < y + b then 1 else 0 : Nat) : Int)]) w := by
 have : b = 0 ∨ b = 1 := by omega
 rcases this with rfl | rfl <;> rfl
theorem sub64_call (x y b : Nat) (hb : b ≤ 1) (w : World) :
 (callFunc 126 #[.int .u64 x, .int .u64 y, .int .u64 b]).run Try.prog w =
  .ok (.value (.tuple #[.int .u64 (((x + 18446744073709551616 - y - b) % 18446744073709551616 : Nat) : Int), .int .u64 ((if x < y + b then 1 else 0 : Nat) : Int)])) w := by
 rw [run_callFunc_extern Try.func126 (by kernel_rfl) (by kernel_rfl) (by kernel_rfl) (e := sub64Row) (by kernel_rfl), run_sub64Row x y b hb]
 rfl
theorem sub64_int (x y c : Int) (w : World) (hx : 0 ≤ x) (hx' : x < 18446744073709551616) (hy : 0 ≤ y) (hy' : y < 18446744073709551616) (hc : 0 ≤ c) (hc' : c ≤ 1) :
 (callFunc 126 #[.int .u64 x, .int .u64 y, .int .u64 c]).run Try.prog w = .ok (.value (.tuple #[.int .u64 ((x - y - c) % 18446744073709551616), .int .u64 (if x < y + c then 1 else 0)])) w := by
 obtain ⟨x, rfl⟩ := Int.eq_ofNat_of_zero_le hx
 obtain ⟨y, rfl⟩ := Int.eq_ofNat_of_zero_le hy
 obtain ⟨c, rfl⟩ := Int.eq_ofNat_of_zero_le hc
 rw [sub64_call x y c (by omega) w]
 have e1 : (((x + 18446744073709551616 - y - c) % 18446744073709551616 : Nat) : Int) = ((x : Int) - y - c) % 18446744073709551616 := by omega
 have e2 : ((if x < y + c then 1 else 0 : Nat) : Int) = if (x : Int) < y + c then 1 else 0 := by split <;> split <;> omega
 rw [e1, e2]
theorem u64_in (x : Int) : 0 ≤ IntKind.u64.wrap x ∧ IntKind.u64.wrap x < 18446744073709551616 := by rw [IntKind.wrap_u64]; omega
theorem less_lo (a b : Int) : (IntKind.u64.wrap b - IntKind.u64.wrap a - 0) % 18446744073709551616 = (b - a) % 18446744073709551616 := by
 rw [IntKind.wrap_u64, IntKind.wrap_u64, Int.sub_zero, ← Int.sub_emod]
theorem less_num (a b hi bo : Int) (ha : -9223372036854775808 ≤ a ∧ a ≤ 9223372036854775807) (hb : -9223372036854775808 ≤ b ∧ b ≤ 9223372036854775807)
 (hb0 : IntKind.u64.wrap b = b % 18446744073709551616) (ha0 : IntKind.u64.wrap a = a % 18446744073709551616)
 (hb1 : IntKind.u64.wrap (b / 9223372036854775808) = b / 9223372036854775808 % 18446744073709551616) (ha1 : IntKind.u64.wrap (a / 9223372036854775808) = a / 9223372036854775808 % 18446744073709551616)
 (hbo : (if IntKind.u64.wrap b < IntKind.u64.wrap a then 1 else 0) = bo)
 (hhi : (IntKind.u64.wrap (b / 9223372036854775808) - IntKind.u64.wrap (a / 9223372036854775808) - bo) % 18446744073709551616 = hi) :
 IntKind.i64.wrap hi = (b - a) / 18446744073709551616 := by
 rw [hb0, ha0] at hbo
 rw [hb1, ha1] at hhi
 have B : (b < 0 ∧ b % 18446744073709551616 = b + 18446744073709551616 ∧ b / 9223372036854775808 % 18446744073709551616 = 18446744073709551615) ∨ (0 ≤ b ∧ b % 18446744073709551616 = b ∧ b / 9223372036854775808 % 18446744073709551616 = 0) := by omega
 have A : (a < 0 ∧ a % 18446744073709551616 = a + 18446744073709551616 ∧ a / 9223372036854775808 % 18446744073709551616 = 18446744073709551615) ∨ (0 ≤ a ∧ a % 18446744073709551616 = a ∧ a / 9223372036854775808 % 18446744073709551616 = 0) := by omega
 have D : (b - a) / 18446744073709551616 = if b < a then -1 else 0 := by split <;> omega
 rw [D, IntKind.wrap_i64]
 clear D hb0 ha0 hb1 ha1
 generalize b / 9223372036854775808 % 18446744073709551616 = b1 at *
 generalize a / 9223372036854775808 % 18446744073709551616 = a1 at *
 generalize b % 18446744073709551616 = b2 at *
 generalize a % 18446744073709551616 = a2 at *
 rcases B with ⟨B1, rfl, rfl⟩ | ⟨B1, rfl, rfl⟩ <;> rcases A with ⟨A1, rfl, rfl⟩ | ⟨A1, rfl, rfl⟩ <;> split at hbo <;> subst hbo <;> subst hhi <;> split <;> omega
theorem oct_less_any (a b : Int) (w : World) (ha : -9223372036854775808 ≤ a ∧ a ≤ 9223372036854775807) (hb : -9223372036854775808 ≤ b ∧ b ≤ 9223372036854775807) :
 Calls Try.prog 117 #[.int .i64 a, .int .i64 b] w fun e w' => e = .returned (.tuple #[.int .i64 ((b - a) / 18446744073709551616), .int .u64 ((b - a) % 18446744073709551616)]) ∧ Drawn0 w w' := by
 have hb0 := IntKind.wrap_u64 b
 have ha0 := IntKind.wrap_u64 a
 have hb1 := IntKind.wrap_u64 (b / 9223372036854775808)
 have ha1 := IntKind.wrap_u64 (a / 9223372036854775808)
 obtain ⟨lo, hlo⟩ : ∃ lo : Int, (IntKind.u64.wrap b - IntKind.u64.wrap a - 0) % 18446744073709551616 = lo := ⟨_, rfl⟩
 obtain ⟨bo, hbo⟩ : ∃ bo : Int, (if IntKind.u64.wrap b < IntKind.u64.wrap a + 0 then 1 else 0) = bo := ⟨_, rfl⟩
 obtain ⟨hi, hhi⟩ : ∃ hi : Int, (IntKind.u64.wrap (b / 9223372036854775808) - IntKind.u64.wrap (a / 9223372036854775808) - bo) % 18446744073709551616 = hi := ⟨_, rfl⟩
 obtain ⟨bp, hbp⟩ : ∃ bp : Int, (if IntKind.u64.wrap (b / 9223372036854775808) < IntKind.u64.wrap (a / 9223372036854775808) + bo then 1 else 0) = bp := ⟨_, rfl⟩
 have hbo2 : 0 ≤ bo ∧ bo ≤ 1 := by rw [← hbo]; split <;> decide
 have h1 : ∀ w, (callFunc 126 #[.int .u64 (IntKind.u64.wrap b), .int .u64 (IntKind.u64.wrap a), .int .u64 0]).run Try.prog w = .ok (.value (.tuple #[.int .u64 lo, .int .u64 bo])) w := by
  intro w
  rw [sub64_int _ _ 0 w (u64_in _).1 (u64_in _).2 (u64_in _).1 (u64_in _).2 (by decide) (by decide), hlo, hbo]
 have h2 : ∀ w, (callFunc 126 #[.int .u64 (IntKind.u64.wrap (b / 9223372036854775808)), .int .u64 (IntKind.u64.wrap (a / 9223372036854775808)), .int .u64 bo]).run Try.prog w = .ok (.value (.tuple #[.int .u64 hi, .int .u64 bp])) w := by
  intro w
  rw [sub64_int _ _ bo w (u64_in _).1 (u64_in _).2 (u64_in _).1 (u64_in _).2 hbo2.1 hbo2.2, hhi, hbp]
 have e1 : lo = (b - a) % 18446744073709551616 := by rw [← hlo]; exact less_lo a b
 have e2 : wrap64 hi = (b - a) / 18446744073709551616 := by
  rw [Int.add_zero] at hbo
  unfold wrap64
  rw [← IntKind.wrap_i64]
  exact less_num a b hi bo ha hb hb0 ha0 hb1 ha1 hbo hhi
 have E1 := Aside0.mk e1
 have E2 := Aside0.mk e2
 clear hb0 ha0 hb1 ha1 hlo hbo hhi hbp hbo2 e1 e2 ha hb
 go_enter Try.func117, Try.ntmps117
 go_wp2
 go_ret2
 refine ⟨?_, Drawn0.refl _⟩
 rw [← E1.out, ← E2.out]
 rfl
def oct_above.f (a0 : Int) (a1 : Int) (a2 : Int) : Option Bool :=
 if (-9223372036854775808 ≤ a0 ∧ a0 ≤ 9223372036854775807) ∧ (-9223372036854775808 ≤ a1 ∧ a1 ≤ 9223372036854775807) ∧ (-9223372036854775808 ≤ a2 ∧ a2 ≤ 9223372036854775807) then some (decide (a1 - a0 > a2)) else none
theorem oct_above.calls (a0 : Int) (a1 : Int) (a2 : Int) (r : Bool) (w : World) (h : oct_above.f a0 a1 a2 = some r) :
 Calls Try.prog 81 #[.int .i64 a0, .int .i64 a1, .int .i64 a2] w fun e w' => e = .returned (.bool r) ∧ Drawn0 w w' := by
 unfold oct_above.f at h
 by_cases hc : (-9223372036854775808 ≤ a0 ∧ a0 ≤ 9223372036854775807) ∧ (-9223372036854775808 ≤ a1 ∧ a1 ≤ 9223372036854775807) ∧ (-9223372036854775808 ≤ a2 ∧ a2 ≤ 9223372036854775807)
 ·
  rw [if_pos hc] at h
  obtain rfl := Option.some.inj h
  clear h
  obtain ⟨h0, h1, h2⟩ := hc
  have hw := IntKind.wrap_u64 a2
  obtain ⟨hi, hhi⟩ : ∃ hi : Int, (a1 - a0) / 18446744073709551616 = hi := ⟨_, rfl⟩
  obtain ⟨lo, hlo⟩ : ∃ lo : Int, (a1 - a0) % 18446744073709551616 = lo := ⟨_, rfl⟩
  have HL := fun W => oct_less_any a0 a1 W h0 h1
  rw [hhi, hlo] at HL
  have HC := Aside0.mk HL
  clear HL
  by_cases hne : hi = a2 / 9223372036854775808
  ·
   have f1 : (hi != a2 / 9223372036854775808) = false := by rw [hne]; simp
   have E : Aside0 (decide (IntKind.u64.wrap a2 < lo) = decide (a1 - a0 > a2)) := ⟨by rw [decide_eq_decide]; omega⟩
   clear hw hhi hlo h0 h1 h2 hne
   go_enter Try.func81, Try.ntmps81
   go_wp2_with (go_at_call 117; (with_reducible refine (HC.out _).mono ?_); rintro e w1 ⟨rfl, ⟨nd, rfl⟩⟩)
   go_ret
   refine ⟨?_, ⟨_, rfl⟩⟩
   rw [← E.out]; rfl
  ·
   have f1 : (hi != a2 / 9223372036854775808) = true := by simpa using hne
   have E : Aside0 (decide (a2 / 9223372036854775808 < hi) = decide (a1 - a0 > a2)) := ⟨by rw [decide_eq_decide]; omega⟩
   clear hw hhi hlo h0 h1 h2 hne
   go_enter Try.func81, Try.ntmps81
   go_wp2_with (go_at_call 117; (with_reducible refine (HC.out _).mono ?_); rintro e w1 ⟨rfl, ⟨nd, rfl⟩⟩)
   go_ret
   refine ⟨?_, ⟨_, rfl⟩⟩
   rw [← E.out]; rfl
 ·
  rw [if_neg hc] at h
  exact absurd h (by simp)
end Go.Proofs.Ytphfchbggechhaa.QO
end
end
section
namespace Go.Proofs.Ytphfchbggechhaa.QO
open Go.RowKit YtphfchbggechhaaW.PrintWords YtphfchbggechhaaW.PrintLast
set_option linter.unusedVariables false
set_option linter.unusedSimpArgs false
def sgn (v : List Int) (i : Int) : Int := if i % 2 = 1 then - rd v (i / 2) else rd v (i / 2)
def HasP (vars m : List Int) (empty : Bool) (v : List Int) : Prop :=
 empty = false ∧ OFit vars m empty ∧ v.length = vars.length ∧ (∀ k : Int, 0 ≤ k → k < v.length → -4611686018427387904 < rd v k ∧ rd v k < 4611686018427387904) ∧
 ∀ i j : Int, 0 ≤ i → i < 2 * (vars.length : Int) → 0 ≤ j → j < 2 * (vars.length : Int) → rd m (i * (2 * (vars.length : Int)) + j) = 4611686018427387904 ∨ sgn v j - sgn v i ≤ rd m (i * (2 * (vars.length : Int)) + j)
theorem Box1.one {w W : World} {g : Nat} {a : Value} {t : Nat} (h : Box1 w g #[a] t W) : W.cell? ⟨g, 0, none⟩ = some a := (blk_cell h.box 0).trans rfl
theorem Box1.three' {w W : World} {g : Nat} {a b c : Value} {t : Nat} (h : Box1 w g #[a, b, c] t W) : W.cell? ⟨g, 0, none⟩ = some a ∧ W.cell? ⟨g, 1, none⟩ = some b ∧ W.cell? ⟨g, 2, none⟩ = some c := ⟨(blk_cell h.box 0).trans rfl, (blk_cell h.box 1).trans rfl, (blk_cell h.box 2).trans rfl⟩
noncomputable def hasB (vars m : List Int) (empty : Bool) (v : List Int) : Bool := @decide (HasP vars m empty v) (Classical.propDecidable _)
theorem hasB_true {vars m : List Int} {empty : Bool} {v : List Int} : hasB vars m empty v = true ↔ HasP vars m empty v := by unfold hasB; exact @decide_eq_true_iff _ (Classical.propDecidable _)
theorem hasB_false {vars m : List Int} {empty : Bool} {v : List Int} : hasB vars m empty v = false ↔ ¬ HasP vars m empty v := by unfold hasB; exact @decide_eq_false_iff_not _ (Classical.propDecidable _)
noncomputable def oct_Has.f (l0_0 : List Int) (l0_1 : List Int) (a0_2 : Bool) (l1 : List Int) : Option Bool := if l0_0.length ≤ 17592186044416 ∧ l1.length ≤ 17592186044416 then some (hasB l0_0 l0_1 a0_2 l1) else none
theorem lowAt_eq {vars m : List Int} (h : OFit vars m false) {i j : Int} (h0 : 0 ≤ i) (h1 : i < 2 * (vars.length : Int)) (h2 : 0 ≤ j) (h3 : j < 2 * (vars.length : Int)) : lowAt (2 * (vars.length : Int)) m i j = rd m (i * (2 * (vars.length : Int)) + j) := by
 unfold lowAt; split
 ·
  exact (((h.2.2 rfl).2 i j h0 h1 h2 h3).2.2).symm
 ·
  rfl
theorem oct_sgn_any (A : Option Addr) (c : Nat) (v : List Int) (i : Int) (B : Nat) (W : World) (hr : Kd.C (Kd.int .i64) W A v.length v) (hb : W.cell? ⟨B, 0, none⟩ = some (.slice A v.length c)) (h0 : 0 ≤ i) (h1 : i < 16) (h2 : i / 2 < v.length) (h3 : -4611686018427387904 < rd v (i / 2) ∧ rd v (i / 2) < 4611686018427387904) :
 Calls Try.prog 79 #[.int .i64 i, .pointer (some ⟨B, 0, none⟩)] W fun e w' => e = .returned (.int .i64 (sgn v i)) ∧ w' = W := by
 obtain ⟨k, hk⟩ : ∃ k : Int, i / 2 = k := ⟨_, rfl⟩
 rw [hk] at h2 h3
 have k0 : 0 ≤ k := by omega
 obtain ⟨ad, e0, hx⟩ := Kd.at_int hr k k0 h2
 cases e0
 have d1 : i.tdiv 2 = k := by rw [Int.tdiv_eq_ediv_of_nonneg h0]; exact hk
 have d3 : wrap64 k = k := by unfold wrap64; omega
 obtain ⟨m, hm⟩ : ∃ m : Int, i % 2 = m := ⟨_, rfl⟩
 have d2 : i.tmod 2 = m := by rw [Int.tmod_eq_emod_of_nonneg h0]; exact hm
 have d4 : wrap64 m = m := by unfold wrap64; omega
 have hs : sgn v i = if m = 1 then - rd v k else rd v k := by unfold sgn; rw [hm, hk]
 rw [hs]
 obtain ⟨x, hxx⟩ : ∃ x, rd v k = x := ⟨_, rfl⟩
 rw [hxx] at hx h3 ⊢
 have d5 : wrap64 (-x) = -x := by unfold wrap64; omega
 have k1 := eq_true k0
 have k2 := eq_true h2
 by_cases hc : m = 1
 ·
  rw [if_pos hc]
  have f1 : (m == 1) = true := by simpa using hc
  clear hr h0 h1 h2 h3 k0 hk hm hs hxx hc
  go_enter Try.func79, Try.ntmps79
  go_wp2
  go_ret
  refine ⟨?_, rfl⟩
  first | rfl | (show Ending.returned (Value.int IntKind.i64 (wrap64 (-x))) = _; rw [d5])
 ·
  rw [if_neg hc]
  have f1 : (m == 1) = false := by simpa using hc
  clear hr h0 h1 h2 h3 k0 hk hm hs hxx hc
  go_enter Try.func79, Try.ntmps79
  go_wp2
  go_ret
  refine ⟨?_, rfl⟩
  first | rfl | (show Ending.returned (Value.int IntKind.i64 (wrap64 (-x))) = _; rw [d5])
theorem oct_Has.calls (A0_0 : Option Addr) (c0_0 : Nat) (l0_0 : List Int) (A0_1 : Option Addr) (c0_1 : Nat) (l0_1 : List Int) (a0_2 : Bool) (A1 : Option Addr) (c1 : Nat) (l1 : List Int) (r : Bool) (w : World) (hr0_0 : Kd.C (Kd.int .i64) w A0_0 l0_0.length l0_0) (hc0_0 : l0_0.length ≤ c0_0) (hr0_1 : Kd.C (Kd.int .i64) w A0_1 l0_1.length l0_1) (hc0_1 : l0_1.length ≤ c0_1) (hr1 : Kd.C (Kd.int .i64) w A1 l1.length l1) (hc1 : l1.length ≤ c1) (h : oct_Has.f l0_0 l0_1 a0_2 l1 = some r) :
 Calls Try.prog 33 #[.agg #[.slice A0_0 l0_0.length c0_0, .slice A0_1 l0_1.length c0_1, .bool a0_2], .slice A1 l1.length c1] w fun e w' => e = .returned (.bool r) ∧ Below w.heap.size w w' := by
 have hu25 := Try.underlying25
 have HR0 := Aside0.mk hr0_0
 have HR1 := Aside0.mk hr0_1
 have HR2 := Aside0.mk hr1
 have HC0 := Aside0.mk hc0_0
 have HC1 := Aside0.mk hc0_1
 have HC2 := Aside0.mk hc1
 clear hr0_0 hr0_1 hc0_0 hc0_1 hr1 hc1
 unfold oct_Has.f at h
 by_cases hlen : l0_0.length ≤ 17592186044416 ∧ l1.length ≤ 17592186044416
 ·
  rw [if_pos hlen] at h
  have HV := Aside0.mk (Option.some.inj h)
  clear h
  have HLEN := Aside0.mk hlen
  clear hlen
  cases a0_2 with
  | true =>
   go_enter Try.func33, Try.ntmps33
   go_wp2
   go_ret
   refine ⟨?_, by repeat (first | exact Below.refl _ _ | (with_reducible apply below_alloc) | (with_reducible apply pw_below_drewN) | (with_reducible apply below_drew))⟩
   rw [← HV.out, hasB_false.2 (fun h => by cases h.1)]
   rfl
  | false =>
   cases hf : ofitB l0_0 l0_1 false with
   | false =>
    have HF := Aside0.mk (fun W (h0 : Kd.C (Kd.int .i64) W A0_0 l0_0.length l0_0) (h1 : Kd.C (Kd.int .i64) W A0_1 l0_1.length l0_1) => oct_Fit.calls A0_0 c0_0 l0_0 A0_1 c0_1 l0_1 false false W h0 HC0.out h1 HC1.out (by unfold oct_Fit.f; rw [if_pos HLEN.out.1, hf]))
    have HN := Aside0.mk (ofitB_false.1 hf)
    clear hf
    go_enter Try.func33, Try.ntmps33
    go_wp2_with (go_at_call 78; (with_reducible refine (HF.out _ ?s1 ?s2).mono ?_); (case s1 => repeat (first | exact HR0.out | (with_reducible refine Kd.C_alloc ?_ _))); (case s2 => repeat (first | exact HR1.out | (with_reducible refine Kd.C_alloc ?_ _))); rintro e w1 ⟨rfl, hb⟩)
    go_ret
    refine ⟨?_, (below_alloc (below_alloc (Below.refl _ _) _) _).trans (hb.mono (by simp; omega))⟩
    rw [← HV.out, hasB_false.2 (fun h => HN.out h.2.1)]
    rfl
   | true =>
    have HF := Aside0.mk (fun W (h0 : Kd.C (Kd.int .i64) W A0_0 l0_0.length l0_0) (h1 : Kd.C (Kd.int .i64) W A0_1 l0_1.length l0_1) => oct_Fit.calls A0_0 c0_0 l0_0 A0_1 c0_1 l0_1 false true W h0 HC0.out h1 HC1.out (by unfold oct_Fit.f; rw [if_pos HLEN.out.1, hf]))
    have HT := Aside0.mk (ofitB_true.1 hf)
    clear hf
    by_cases hl : l1.length = l0_0.length
    ·
     have f1 : ((l1.length : Int) != (l0_0.length : Int)) = false := by rw [hl]; simp
     have f2 : (l1.length != l0_0.length) = false := by rw [hl]; simp
     have HL := Aside0.mk hl
     clear hl
     go_enter Try.func33, Try.ntmps33
     have hB0 : Box1 w w.heap.size #[.slice A0_0 l0_0.length c0_0, .slice A0_1 l0_1.length c0_1, .bool false] 25 ((w.alloc (.cells #[.slice A0_0 l0_0.length c0_0, .slice A0_1 l0_1.length c0_1, .bool false] 25)).alloc (.cells #[.slice A1 l1.length c1] 23)) := Box1.alloc (box1_new (Below.refl _ _) rfl) _
     have hB1 : Box1 w (w.heap.size + 1) #[.slice A1 l1.length c1] 23 ((w.alloc (.cells #[.slice A0_0 l0_0.length c0_0, .slice A0_1 l0_1.length c0_1, .bool false] 25)).alloc (.cells #[.slice A1 l1.length c1] 23)) := box1_new (below_alloc (Below.refl _ _) _) (by simp)
     have HX := Aside0.mk hB0
     have HY := Aside0.mk hB1
     clear hB0 hB1
     go_upto_region 3 with (go_at_call 78; (with_reducible refine (HF.out _ ?s1 ?s2).mono ?_); (case s1 => repeat (first | exact HR0.out | (with_reducible refine Kd.C_alloc ?_ _))); (case s2 => repeat (first | exact HR1.out | (with_reducible refine Kd.C_alloc ?_ _))); rintro e w1 ⟨rfl, hb⟩; obtain ⟨hcc, hff⟩ := bcell hb; have hz := hb.size; rw [World.size_alloc, World.size_alloc] at hz)
     have nX := Aside0.mk (HX.out.next hb)
     have nY := Aside0.mk (HY.out.next hb)
     clear HX HY hb hcc hff hz
     have HX := nX
     have HY := nY
     clear nX nY
     obtain ⟨hx0, hx1, hx2⟩ := HX.out.three'
     have hy0 := HY.out.one
     go_wp2_with fail
     go_loopg [6, 29] l1.length (fun gg _ s29 wr => ∃ k : Int, s29 = .int .i64 k ∧ Aside0 (0 ≤ k ∧ k ≤ l1.length ∧ l1.length - k.toNat ≤ gg) ∧ Aside0 (Box1 w w.heap.size #[.slice A0_0 l0_0.length c0_0, .slice A0_1 l0_1.length c0_1, .bool false] 25 wr) ∧ Aside0 (Box1 w (w.heap.size + 1) #[.slice A1 l1.length c1] 23 wr) ∧ Aside0 (∀ a : Int, 0 ≤ a → a < k → -4611686018427387904 < rd l1 a ∧ rd l1 a < 4611686018427387904))
     case atStart => exact ⟨0, rfl, ⟨by omega, by omega, by omega⟩, HX, HY, ⟨fun a h0 h1 => absurd h1 (by omega)⟩⟩
     case round =>
      clear HX HY hx0 hx1 hx2 hy0
      obtain ⟨k, rfl, HK, HX, HY, HA⟩ := hrel
      by_cases hlt : k < (l1.length : Int)
      ·
       have c6b0 : decide (k < (l1.length : Int)) = true := decide_eq_true hlt
       have p0 : 0 ≤ k := HK.out.1
       obtain ⟨ad, e0, hx⟩ := Kd.at_int (Kd.C_below HR2.out HX.out.below) k p0 hlt
       cases e0
       have HQ := Aside0.mk hlt
       obtain ⟨x, hxx⟩ : ∃ x, rd l1 k = x := ⟨_, rfl⟩
       rw [hxx] at hx
       have HXX := Aside0.mk hxx
       clear hxx
       replace p0 := eq_true p0
       replace hlt := eq_true hlt
       by_cases c1 : 4611686018427387904 ≤ x
       ·
        have f3 : decide (4611686018427387904 ≤ x) = true := decide_eq_true c1
        have HC := Aside0.mk c1
        clear c1
        go_wp2
        go_ret
        refine ⟨?_, HX.out.below⟩
        rw [← HV.out, hasB_false.2 (fun h => by have h1 := HK.out; have h2 := HQ.out; have h3 := (h.2.2.2.1 k h1.1 h2).2; rw [HXX.out] at h3; have := HC.out; omega)]
        rfl
       ·
        have f3 : decide (4611686018427387904 ≤ x) = false := decide_eq_false c1
        have HC := Aside0.mk c1
        clear c1
        by_cases c2 : x ≤ -4611686018427387904
        ·
         have f4 : decide (x ≤ -4611686018427387904) = true := decide_eq_true c2
         have HD := Aside0.mk c2
         clear c2
         go_wp2
         go_ret
         refine ⟨?_, HX.out.below⟩
         rw [← HV.out, hasB_false.2 (fun h => by have h1 := HK.out; have h2 := HQ.out; have h3 := (h.2.2.2.1 k h1.1 h2).1; rw [HXX.out] at h3; have := HD.out; omega)]
         rfl
        ·
         have f4 : decide (x ≤ -4611686018427387904) = false := decide_eq_false c2
         have HD := Aside0.mk c2
         clear c2
         go_wp2
         go_roundg (l1.length - (k.toNat + 1))
         case measure => have h1 := HK.out; have h2 := HQ.out; omega
         case rel =>
          have h1 := HK.out; have h2 := HQ.out; have h3 := HC.out; have h4 := HD.out; have h5 := HLEN.out.2
          have hw : wrap64 (k + 1) = k + 1 := by unfold wrap64; omega
          refine ⟨wrap64 (k + 1), rfl, ⟨by omega, by omega, by omega⟩, HX, HY, ⟨fun a a0 a1 => ?_⟩⟩
          by_cases e : a = k
          ·
           subst e; rw [HXX.out]; omega
          ·
           exact HA.out a a0 (by omega)
      ·
       have c6b0 : decide (k < (l1.length : Int)) = false := decide_eq_false hlt
       have HALL : Aside0 (∀ a : Int, 0 ≤ a → a < l1.length → -4611686018427387904 < rd l1 a ∧ rd l1 a < 4611686018427387904) := ⟨fun a a0 a1 => HA.out a a0 (by omega)⟩
       clear hlt HA HK
       obtain ⟨hx0, hx1, hx2⟩ := HX.out.three'
       have hy0 := HY.out.one
       have hm0 := meth_size
       have hm1 := meth_at
       go_wp2_with (first | (go_at_call 80; (with_reducible refine (oct_of_any _ _ _ _ _ _ _ _ HLEN.out.1).mono ?_); rintro e w1 ⟨rfl, hb⟩; unfold tableV; clear hx0 hx1 hx2 hy0; have nX : Aside0 (Box1 w w.heap.size #[.slice A0_0 l0_0.length c0_0, .slice A0_1 l0_1.length c0_1, .bool false] 25 w1) := ⟨Box1.next HX.out hb⟩; have nY : Aside0 (Box1 w (w.heap.size + 1) #[.slice A1 l1.length c1] 23 w1) := ⟨Box1.next HY.out hb⟩; clear HX HY hb; have HX := nX; have HY := nY; clear nX nY) | (go_at_call 144; (with_reducible refine (oct_size_any _ _ _ _ _).mono ?_); rintro e w1 ⟨rfl, hb⟩; have nX : Aside0 (Box1 w w.heap.size #[.slice A0_0 l0_0.length c0_0, .slice A0_1 l0_1.length c0_1, .bool false] 25 w1) := ⟨Box1.next HX.out hb⟩; have nY : Aside0 (Box1 w (w.heap.size + 1) #[.slice A1 l1.length c1] 23 w1) := ⟨Box1.next HY.out hb⟩; clear HX HY hb; have HX := nX; have HY := nY; clear nX nY))
       go_loopg [9, 10, 11, 45, 49, 50] (2 * l0_0.length) (fun gg _ _ _ s45 _ _ wr => ∃ i : Int, s45 = .int .i64 i ∧ Aside0 (0 ≤ i ∧ i ≤ 2 * (l0_0.length : Int) ∧ 2 * l0_0.length - i.toNat ≤ gg) ∧ Aside0 (Box1 w w.heap.size #[.slice A0_0 l0_0.length c0_0, .slice A0_1 l0_1.length c0_1, .bool false] 25 wr) ∧ Aside0 (Box1 w (w.heap.size + 1) #[.slice A1 l1.length c1] 23 wr) ∧ Aside0 (∀ a b : Int, 0 ≤ a → a < i → 0 ≤ b → b < 2 * (l0_0.length : Int) → rd l0_1 (a * (2 * (l0_0.length : Int)) + b) = 4611686018427387904 ∨ sgn l1 b - sgn l1 a ≤ rd l0_1 (a * (2 * (l0_0.length : Int)) + b)))
       case atStart => exact ⟨0, rfl, ⟨by omega, by omega, by omega⟩, HX, HY, ⟨fun a b h0 h1 => absurd h1 (by omega)⟩⟩
       case round =>
        clear HX HY
        obtain ⟨i, rfl, HI, HX, HY, HA⟩ := hrel
        by_cases hlt : i < 2 * (l0_0.length : Int)
        ·
         have f3 : decide (i < 2 * (l0_0.length : Int)) = true := decide_eq_true hlt
         have HIL := Aside0.mk hlt
         clear hlt
         go_wp2_with (go_at_call 144; (with_reducible refine (oct_size_any _ _ _ _ _).mono ?_); rintro e w1 ⟨rfl, hb⟩; have nX : Aside0 (Box1 w w.heap.size #[.slice A0_0 l0_0.length c0_0, .slice A0_1 l0_1.length c0_1, .bool false] 25 w1) := ⟨Box1.next HX.out hb⟩; have nY : Aside0 (Box1 w (w.heap.size + 1) #[.slice A1 l1.length c1] 23 w1) := ⟨Box1.next HY.out hb⟩; clear HX HY hb; have HX := nX; have HY := nY; clear nX nY)
         go_loopg [10, 11, 50] (2 * l0_0.length) (fun hh _ _ s50 wr => ∃ j : Int, s50 = .int .i64 j ∧ Aside0 (0 ≤ j ∧ j ≤ 2 * (l0_0.length : Int) ∧ 2 * l0_0.length - j.toNat ≤ hh) ∧ Aside0 (Box1 w w.heap.size #[.slice A0_0 l0_0.length c0_0, .slice A0_1 l0_1.length c0_1, .bool false] 25 wr) ∧ Aside0 (Box1 w (w.heap.size + 1) #[.slice A1 l1.length c1] 23 wr) ∧ Aside0 (∀ b : Int, 0 ≤ b → b < j → rd l0_1 (i * (2 * (l0_0.length : Int)) + b) = 4611686018427387904 ∨ sgn l1 b - sgn l1 i ≤ rd l0_1 (i * (2 * (l0_0.length : Int)) + b)))
         case atStart => exact ⟨0, rfl, ⟨by omega, by omega, by omega⟩, HX, HY, ⟨fun b h0 h1 => absurd h1 (by omega)⟩⟩
         case round =>
          clear HX HY
          obtain ⟨j, rfl, HJ, HX, HY, HE⟩ := hrel
          by_cases hlt : j < 2 * (l0_0.length : Int)
          ·
           have f4 : decide (j < 2 * (l0_0.length : Int)) = true := decide_eq_true hlt
           have HJL := Aside0.mk hlt
           clear hlt
           have hi := HI.out; have hj := HJ.out; have hil := HIL.out; have hjl := HJL.out; have hle := HL.out; have h8 := HT.out.1.1
           have hm := ((HT.out.2.2 rfl).1)
           have cq1 := fun W (hW : Kd.C (Kd.int .i64) W A0_1 l0_1.length l0_1) => oct_lower_at_any l0_0.length A0_1 c0_1 l0_1 i j W hW HC1.out h8 hm hi.1 hil hj.1 hjl
           have s1 := fun W (hW : Kd.C (Kd.int .i64) W A1 l1.length l1) (hb : W.cell? ⟨w.heap.size + 1, 0, none⟩ = some (.slice A1 l1.length c1)) => oct_sgn_any A1 c1 l1 i (w.heap.size + 1) W hW hb hi.1 (by omega) (by omega) (HALL.out (i / 2) (by omega) (by omega))
           have s2 := fun W (hW : Kd.C (Kd.int .i64) W A1 l1.length l1) (hb : W.cell? ⟨w.heap.size + 1, 0, none⟩ = some (.slice A1 l1.length c1)) => oct_sgn_any A1 c1 l1 j (w.heap.size + 1) W hW hb hj.1 (by omega) (by omega) (HALL.out (j / 2) (by omega) (by omega))
           have bi : -4611686018427387904 < sgn l1 i ∧ sgn l1 i < 4611686018427387904 := by have := HALL.out (i / 2) (by omega) (by omega); unfold sgn; split <;> omega
           have bj : -4611686018427387904 < sgn l1 j ∧ sgn l1 j < 4611686018427387904 := by have := HALL.out (j / 2) (by omega) (by omega); unfold sgn; split <;> omega
           have hx := lowAt_eq HT.out hi.1 hil hj.1 hjl
           have hxb := ((HT.out.2.2 rfl).2 i j hi.1 hil hj.1 hjl).1
           obtain ⟨x, hxx⟩ : ∃ x, lowAt (2 * (l0_0.length : Int)) l0_1 i j = x := ⟨_, rfl⟩
           rw [hxx] at hx
           rw [← hx] at hxb
           obtain ⟨si, hsi⟩ : ∃ si, sgn l1 i = si := ⟨_, rfl⟩
           obtain ⟨sj, hsj⟩ : ∃ sj, sgn l1 j = sj := ⟨_, rfl⟩
           simp only [hxx] at cq1
           simp only [hsi] at s1
           simp only [hsj] at s2
           rw [hsi] at bi
           rw [hsj] at bj
           have HXI : Aside0 ((rd l0_1 (i * (2 * (l0_0.length : Int)) + j) = 4611686018427387904 ∨ sgn l1 j - sgn l1 i ≤ rd l0_1 (i * (2 * (l0_0.length : Int)) + j)) ↔ (x = 4611686018427387904 ∨ sj - si ≤ x)) := ⟨by rw [← hx, hsi, hsj]⟩
           have C1 := Aside0.mk cq1
           have S1 := Aside0.mk s1
           have S2 := Aside0.mk s2
           have ab := fun W => oct_above.calls si sj x (decide (sj - si > x)) W (by unfold oct_above.f; rw [if_pos ⟨by omega, by omega, by omega⟩])
           clear hi hj hil hjl hle h8 hm cq1 s1 s2 bi bj hx hxb hxx hsi hsj
           by_cases cx : x = 4611686018427387904
           ·
            have f5 : (x != 4611686018427387904) = false := by rw [cx]; simp
            have HCX := Aside0.mk cx
            clear cx ab
            go_wp2_with (go_at_call 145; (with_reducible refine (C1.out _ ?s1).mono ?_); (case s1 => exact Kd.C_below HR1.out HX.out.below); rintro e w1 ⟨rfl, hb⟩; have nX : Aside0 (Box1 w w.heap.size #[.slice A0_0 l0_0.length c0_0, .slice A0_1 l0_1.length c0_1, .bool false] 25 w1) := ⟨Box1.next HX.out hb⟩; have nY : Aside0 (Box1 w (w.heap.size + 1) #[.slice A1 l1.length c1] 23 w1) := ⟨Box1.next HY.out hb⟩; clear HX HY hb; have HX := nX; have HY := nY; clear nX nY)
            go_roundg (2 * l0_0.length - (j.toNat + 1))
            case measure => have h1 := HJ.out; have h2 := HJL.out; omega
            case rel =>
             have h1 := HJ.out; have h2 := HJL.out; have h3 := HLEN.out
             have hw : wrap64 (j + 1) = j + 1 := by unfold wrap64; omega
             refine ⟨wrap64 (j + 1), rfl, ⟨by omega, by omega, by omega⟩, ⟨HX.out⟩, ⟨HY.out⟩, ⟨fun b b0 b1 => ?_⟩⟩
             by_cases e : b = j
             ·
              subst e; exact HXI.out.2 (Or.inl HCX.out)
             ·
              exact HE.out b b0 (by omega)
           ·
            have f5 : (x != 4611686018427387904) = true := by simpa using cx
            have HCX := Aside0.mk cx
            clear cx
            by_cases cy : sj - si > x
            ·
             rw [decide_eq_true cy] at ab
             have AB := Aside0.mk ab
             have HCY := Aside0.mk cy
             clear cy ab
             go_wp2_with (first | (go_at_call 145; (with_reducible refine (C1.out _ ?s1).mono ?_); (case s1 => exact Kd.C_below HR1.out HX.out.below); rintro e w1 ⟨rfl, hb⟩; have nX : Aside0 (Box1 w w.heap.size #[.slice A0_0 l0_0.length c0_0, .slice A0_1 l0_1.length c0_1, .bool false] 25 w1) := ⟨Box1.next HX.out hb⟩; have nY : Aside0 (Box1 w (w.heap.size + 1) #[.slice A1 l1.length c1] 23 w1) := ⟨Box1.next HY.out hb⟩; clear HX HY hb; have HX := nX; have HY := nY; clear nX nY) | (go_at_call 79; (with_reducible refine (S1.out _ ?s1 ?s2).mono ?_); (case s1 => exact Kd.C_below HR2.out HX.out.below); (case s2 => exact HY.out.one); rintro e w1 ⟨rfl, rfl⟩) | (go_at_call 79; (with_reducible refine (S2.out _ ?s1 ?s2).mono ?_); (case s1 => exact Kd.C_below HR2.out HX.out.below); (case s2 => exact HY.out.one); rintro e w1 ⟨rfl, rfl⟩) | (go_at_call 81; (with_reducible refine (AB.out _).mono ?_); rintro e w1 ⟨rfl, ⟨nd, rfl⟩⟩))
             go_ret
             refine ⟨?_, (HX.out.drewN _).below⟩
             rw [← HV.out, hasB_false.2 (fun h => by have h1 := HI.out; have h2 := HIL.out; have h3 := HJ.out; have h4 := HJL.out; have h5 := HXI.out.1 (h.2.2.2.2 i j h1.1 h2 h3.1 h4); have h6 := HCX.out; have h7 := HCY.out; omega)]
             rfl
            ·
             rw [decide_eq_false cy] at ab
             have AB := Aside0.mk ab
             have HCY := Aside0.mk cy
             clear cy ab
             go_wp2_with (first | (go_at_call 145; (with_reducible refine (C1.out _ ?s1).mono ?_); (case s1 => exact Kd.C_below HR1.out HX.out.below); rintro e w1 ⟨rfl, hb⟩; have nX : Aside0 (Box1 w w.heap.size #[.slice A0_0 l0_0.length c0_0, .slice A0_1 l0_1.length c0_1, .bool false] 25 w1) := ⟨Box1.next HX.out hb⟩; have nY : Aside0 (Box1 w (w.heap.size + 1) #[.slice A1 l1.length c1] 23 w1) := ⟨Box1.next HY.out hb⟩; clear HX HY hb; have HX := nX; have HY := nY; clear nX nY) | (go_at_call 79; (with_reducible refine (S1.out _ ?s1 ?s2).mono ?_); (case s1 => exact Kd.C_below HR2.out HX.out.below); (case s2 => exact HY.out.one); rintro e w1 ⟨rfl, rfl⟩) | (go_at_call 79; (with_reducible refine (S2.out _ ?s1 ?s2).mono ?_); (case s1 => exact Kd.C_below HR2.out HX.out.below); (case s2 => exact HY.out.one); rintro e w1 ⟨rfl, rfl⟩) | (go_at_call 81; (with_reducible refine (AB.out _).mono ?_); rintro e w1 ⟨rfl, ⟨nd, rfl⟩⟩))
             go_roundg (2 * l0_0.length - (j.toNat + 1))
             case measure => have h1 := HJ.out; have h2 := HJL.out; omega
             case rel =>
              have h1 := HJ.out; have h2 := HJL.out; have h3 := HLEN.out
              have hw : wrap64 (j + 1) = j + 1 := by unfold wrap64; omega
              refine ⟨wrap64 (j + 1), rfl, ⟨by omega, by omega, by omega⟩, ⟨HX.out.drewN _⟩, ⟨HY.out.drewN _⟩, ⟨fun b b0 b1 => ?_⟩⟩
              by_cases e : b = j
              ·
               subst e; exact HXI.out.2 (Or.inr (by have := HCY.out; omega))
              ·
               exact HE.out b b0 (by omega)
          ·
           have f4 : decide (j < 2 * (l0_0.length : Int)) = false := decide_eq_false hlt
           have HJL := Aside0.mk hlt
           clear hlt
           go_wp2
           go_roundg (2 * l0_0.length - (i.toNat + 1))
           case measure => have h1 := HI.out; have h2 := HIL.out; omega
           case rel =>
            have h1 := HI.out; have h2 := HIL.out; have h3 := HLEN.out; have h5 := HJL.out; have h6 := HJ.out
            have hw : wrap64 (i + 1) = i + 1 := by unfold wrap64; omega
            refine ⟨wrap64 (i + 1), rfl, ⟨by omega, by omega, by omega⟩, HX, HY, ⟨fun a b a0 a1 b0 b1 => ?_⟩⟩
            by_cases e : a = i
            ·
             subst e; exact HE.out b b0 (by omega)
            ·
             exact HA.out a b a0 (by omega) b0 b1
        ·
         have f3 : decide (i < 2 * (l0_0.length : Int)) = false := decide_eq_false hlt
         have HIL := Aside0.mk hlt
         clear hlt
         go_wp2
         go_ret
         have h1 := HI.out; have h2 := HIL.out
         refine ⟨?_, HX.out.below⟩
         rw [← HV.out, (hasB_true (vars := l0_0) (m := l0_1) (empty := false) (v := l1)).2 ⟨rfl, HT.out, HL.out, HALL.out, fun a b a0 a1 b0 b1 => HA.out a b a0 (by omega) b0 b1⟩]
         rfl
    ·
     have f1 : ((l1.length : Int) != (l0_0.length : Int)) = true := by simpa using (by omega : ¬ ((l1.length : Int) = (l0_0.length : Int)))
     have f2 : (l1.length != l0_0.length) = true := by simpa using hl
     have HL := Aside0.mk hl
     clear hl
     go_enter Try.func33, Try.ntmps33
     go_wp2_with (go_at_call 78; (with_reducible refine (HF.out _ ?s1 ?s2).mono ?_); (case s1 => repeat (first | exact HR0.out | (with_reducible refine Kd.C_alloc ?_ _))); (case s2 => repeat (first | exact HR1.out | (with_reducible refine Kd.C_alloc ?_ _))); rintro e w1 ⟨rfl, hb⟩; obtain ⟨hcc, hff⟩ := bcell hb; have hz := hb.size; rw [World.size_alloc, World.size_alloc] at hz)
     go_ret
     refine ⟨?_, (below_alloc (below_alloc (Below.refl _ _) _) _).trans (hb.mono (by simp; omega))⟩
     rw [← HV.out, hasB_false.2 (fun h => HL.out h.2.2.1)]
     rfl
 ·
  rw [if_neg hlen] at h
  cases h
end Go.Proofs.Ytphfchbggechhaa.QO
end
section
noncomputable section
namespace Go.Proofs.Ytphfchbggechhaa.QO
open Go.RowKit YtphfchbggechhaaW.PrintWords YtphfchbggechhaaW.PrintLast
set_option linter.unusedVariables false
set_option linter.unusedSimpArgs false
def gimbalref11_beyond.f (a0 : Int) (a1 : Int) (a2 : Int) : Option Bool :=
 if (-9223372036854775808 ≤ a0 ∧ a0 ≤ 9223372036854775807) ∧ (-9223372036854775808 ≤ a1 ∧ a1 ≤ 9223372036854775807) ∧ (-9223372036854775808 ≤ a2 ∧ a2 ≤ 9223372036854775807) then some (decide (a1 - a0 > a2)) else none
theorem gimbalref11_beyond.calls (a0 : Int) (a1 : Int) (a2 : Int) (r : Bool) (w : World) (h : gimbalref11_beyond.f a0 a1 a2 = some r) :
 Calls Try.prog 76 #[.int .i64 a0, .int .i64 a1, .int .i64 a2] w fun e w' => e = .returned (.bool r) ∧ Below w.heap.size w w' := by
 unfold gimbalref11_beyond.f at h
 by_cases hc : (-9223372036854775808 ≤ a0 ∧ a0 ≤ 9223372036854775807) ∧ (-9223372036854775808 ≤ a1 ∧ a1 ≤ 9223372036854775807) ∧ (-9223372036854775808 ≤ a2 ∧ a2 ≤ 9223372036854775807)
 ·
  rw [if_pos hc] at h
  obtain rfl := Option.some.inj h
  clear h
  obtain ⟨h0, h1, h2⟩ := hc
  by_cases ha : a0 < 0 <;> by_cases hb : a1 < 0
  ·
   have f1 : decide (a0 < 0) = true := decide_eq_true ha
   have f2 : decide (a1 < 0) = true := decide_eq_true hb
   have f3 : wrap64 (a1 - a0) = a1 - a0 := by unfold wrap64; omega
   clear ha hb h0 h1 h2
   go_enter Try.func76, Try.ntmps76
   go_wp2
   go_ret
   exact ⟨rfl, Below.refl _ _⟩
  ·
   have f1 : decide (a0 < 0) = true := decide_eq_true ha
   have f2 : decide (a1 < 0) = false := decide_eq_false hb
   have f4 : wrap64 (-a0) = -a0 ∨ a0 = -9223372036854775808 := by unfold wrap64; omega
   by_cases hc : a2 < 0
   ·
    have f3 : decide (a2 < 0) = true := decide_eq_true hc
    have E : decide (a1 - a0 > a2) = true := decide_eq_true (by omega)
    rw [E]
    clear ha hb h0 h1 h2 hc f4
    go_enter Try.func76, Try.ntmps76
    go_wp2
    go_ret
    exact ⟨rfl, Below.refl _ _⟩
   ·
    have f3 : decide (a2 < 0) = false := decide_eq_false hc
    have g1 : IntKind.u64.wrap a1 = a1 := by rw [IntKind.wrap_u64]; omega
    have g2 : IntKind.u64.wrap (wrap64 (-a0)) = -a0 := by rw [IntKind.wrap_u64]; unfold wrap64; omega
    have g3 : IntKind.u64.wrap a2 = a2 := by rw [IntKind.wrap_u64]; omega
    have g4 : IntKind.u64.wrap (a1 + -a0) = a1 + -a0 := by rw [IntKind.wrap_u64]; omega
    have E : decide (a1 - a0 > a2) = decide (a2 < a1 + -a0) := by rw [decide_eq_decide]; omega
    rw [E]
    clear ha hb h0 h1 h2 hc f4
    go_enter Try.func76, Try.ntmps76
    go_wp2
    go_ret
    exact ⟨rfl, Below.refl _ _⟩
  ·
   have f1 : decide (a0 < 0) = false := decide_eq_false ha
   have f2 : decide (a1 < 0) = true := decide_eq_true hb
   have g1 : IntKind.u64.wrap a0 = a0 := by rw [IntKind.wrap_u64]; omega
   have g2 : IntKind.u64.wrap (wrap64 (-a1)) = -a1 := by rw [IntKind.wrap_u64]; unfold wrap64; omega
   have g4 : IntKind.u64.wrap (-a1 + a0) = -a1 + a0 := by rw [IntKind.wrap_u64]; omega
   by_cases hc : a2 < 0
   ·
    have f3 : decide (a2 < 0) = true := decide_eq_true hc
    have g3 : IntKind.u64.wrap (wrap64 (-a2)) = -a2 := by rw [IntKind.wrap_u64]; unfold wrap64; omega
    by_cases hd : a1 - a0 > a2
    ·
     have E : decide (a1 - a0 > a2) = true := decide_eq_true hd
     have f5 : decide (-a1 + a0 < -a2) = true := decide_eq_true (by omega)
     rw [E]
     clear ha hb h0 h1 h2 hc hd
     go_enter Try.func76, Try.ntmps76
     go_wp2
     go_ret
     exact ⟨rfl, Below.refl _ _⟩
    ·
     have E : decide (a1 - a0 > a2) = false := decide_eq_false hd
     have f5 : decide (-a1 + a0 < -a2) = false := decide_eq_false (by omega)
     rw [E]
     clear ha hb h0 h1 h2 hc hd
     go_enter Try.func76, Try.ntmps76
     go_wp2
     go_ret
     exact ⟨rfl, Below.refl _ _⟩
   ·
    have f3 : decide (a2 < 0) = false := decide_eq_false hc
    have E : decide (a1 - a0 > a2) = false := decide_eq_false (by omega)
    obtain ⟨z, hz⟩ : ∃ z, IntKind.u64.wrap (wrap64 (-a2)) = z := ⟨_, rfl⟩
    have f5 : decide (-a1 + a0 < z) = true ∨ decide (-a1 + a0 < z) = false := by cases decide (-a1 + a0 < z) <;> simp
    rw [E]
    clear ha hb h0 h1 h2 hc
    rcases f5 with f5 | f5
    ·
     go_enter Try.func76, Try.ntmps76
     go_wp2
     go_ret
     exact ⟨rfl, Below.refl _ _⟩
    ·
     go_enter Try.func76, Try.ntmps76
     go_wp2
     go_ret
     exact ⟨rfl, Below.refl _ _⟩
  ·
   have f1 : decide (a0 < 0) = false := decide_eq_false ha
   have f2 : decide (a1 < 0) = false := decide_eq_false hb
   have f3 : wrap64 (a1 - a0) = a1 - a0 := by unfold wrap64; omega
   clear ha hb h0 h1 h2
   go_enter Try.func76, Try.ntmps76
   go_wp2
   go_ret
   exact ⟨rfl, Below.refl _ _⟩
 ·
  rw [if_neg hc] at h
  exact absurd h (by simp)
def gimbalref11_value.f (l0 : List Int) (a1 : Int) : Option (Int) := if (Int.tmod a1 2) = 0 then (if 0 ≤ (wrap64 (Int.tdiv a1 2)) then (if (wrap64 (Int.tdiv a1 2)) < (l0.length : Int) then (some (rd l0 (wrap64 (Int.tdiv a1 2)))) else (none)) else (none)) else (if 0 ≤ (wrap64 (Int.tdiv a1 2)) then (if (wrap64 (Int.tdiv a1 2)) < (l0.length : Int) then (some (wrap64 (-(rd l0 (wrap64 (Int.tdiv a1 2)))))) else (none)) else (none))
theorem gimbalref11_value.calls (A0 : Option Addr) (c0 : Nat) (l0 : List Int) (a1 : Int) (r : Int) (w : World) (hr0 : Kd.C (Kd.int .i64) w A0 l0.length l0) (hc0 : l0.length ≤ c0) (h : gimbalref11_value.f l0 a1 = some r) :
 Calls Try.prog 77 #[.slice A0 l0.length c0, .int .i64 a1] w fun e w' => e = .returned (.int .i64 r) ∧ Drawn0 w w' := by
 have HR0 := Aside0.mk hr0
 have HC0 := Aside0.mk hc0
 clear hr0 hc0
 have H : (if (Int.tmod a1 2) = 0 then (if 0 ≤ (wrap64 (Int.tdiv a1 2)) then (if (wrap64 (Int.tdiv a1 2)) < (l0.length : Int) then (some (rd l0 (wrap64 (Int.tdiv a1 2)))) else (none)) else (none)) else (if 0 ≤ (wrap64 (Int.tdiv a1 2)) then (if (wrap64 (Int.tdiv a1 2)) < (l0.length : Int) then (some (wrap64 (-(rd l0 (wrap64 (Int.tdiv a1 2)))))) else (none)) else (none))) = some r := h
 clear h
 by_cases c3 : (Int.tmod a1 2) = 0
 ·
  rw [if_pos c3] at H
  have c3b0 : ((Int.tmod a1 2) == 0) = true := beq_iff_eq.mpr c3
  have c3b1 : ((Int.tmod a1 2) != 0) = false := bne_eq_false_iff_eq.mpr c3
  clear c3
  obtain ⟨ji4, hji4⟩ : ∃ j_ : Int, (wrap64 (Int.tdiv a1 2)) = j_ := ⟨_, rfl⟩
  replace H : (if 0 ≤ (ji4) then (if (ji4) < (l0.length : Int) then (some (rd l0 (ji4))) else (none)) else (none)) = some r := by first | (rw [hji4] at H; exact H) | (simp only [hji4] at H ⊢; exact H)
  have hji4w : (IntKind.i64.wrap (Int.tdiv a1 2)) = ji4 := (i64_w _).trans hji4
  by_cases c5 : 0 ≤ (ji4)
  ·
   rw [if_pos c5] at H
   have c5b0 : decide (0 ≤ (ji4)) = true := decide_eq_true c5
   clear c5
   by_cases c6 : (ji4) < (l0.length : Int)
   ·
    rw [if_pos c6] at H
    have c6b0 : decide ((ji4) < (l0.length : Int)) = true := decide_eq_true c6
    clear c6
    obtain rfl := Option.some.inj H
    have p666 : 0 ≤ ((ji4) : Int) := of_decide_eq_true (by first | (with_reducible assumption) | assumption)
    have q666 : (ji4) < (l0.length : Int) := of_decide_eq_true (by first | (with_reducible assumption) | assumption)
    obtain ⟨ad666, e666, hx666_0⟩ := Kd.at_int HR0.out (ji4) p666 q666
    cases e666
    replace p666 := eq_true p666
    replace q666 := eq_true q666
    go_enter Try.func77, Try.ntmps77
    go_wp2
    go_ret
    exact ⟨by first | rfl | (simp; done) | (simp only [← hji4] <;> (first | rfl | simp)) | (simp [*]; done), by repeat (first | exact Drawn0.refl _ | apply Drawn0.step)⟩
   ·
    rw [if_neg c6] at H
    exact absurd H (by simp)
  ·
   rw [if_neg c5] at H
   exact absurd H (by simp)
 ·
  rw [if_neg c3] at H
  have c3b0 : ((Int.tmod a1 2) == 0) = false := beq_eq_false_iff_ne.mpr c3
  have c3b1 : ((Int.tmod a1 2) != 0) = true := bne_iff_ne.mpr c3
  obtain ⟨ji7, hji7⟩ : ∃ j_ : Int, (wrap64 (Int.tdiv a1 2)) = j_ := ⟨_, rfl⟩
  replace H : (if 0 ≤ (ji7) then (if (ji7) < (l0.length : Int) then (some (wrap64 (-(rd l0 (ji7))))) else (none)) else (none)) = some r := by first | (rw [hji7] at H; exact H) | (simp only [hji7] at H ⊢; exact H)
  have hji7w : (IntKind.i64.wrap (Int.tdiv a1 2)) = ji7 := (i64_w _).trans hji7
  by_cases c8 : 0 ≤ (ji7)
  ·
   rw [if_pos c8] at H
   have c8b0 : decide (0 ≤ (ji7)) = true := decide_eq_true c8
   clear c8
   by_cases c9 : (ji7) < (l0.length : Int)
   ·
    rw [if_pos c9] at H
    have c9b0 : decide ((ji7) < (l0.length : Int)) = true := decide_eq_true c9
    clear c9
    obtain rfl := Option.some.inj H
    have p667 : 0 ≤ ((ji7) : Int) := of_decide_eq_true (by first | (with_reducible assumption) | assumption)
    have q667 : (ji7) < (l0.length : Int) := of_decide_eq_true (by first | (with_reducible assumption) | assumption)
    obtain ⟨ad667, e667, hx667_0⟩ := Kd.at_int HR0.out (ji7) p667 q667
    cases e667
    replace p667 := eq_true p667
    replace q667 := eq_true q667
    go_enter Try.func77, Try.ntmps77
    go_wp2
    go_ret
    exact ⟨by first | rfl | (simp; done) | (simp only [← hji7] <;> (first | rfl | simp)) | (simp [*]; done), by repeat (first | exact Drawn0.refl _ | apply Drawn0.step)⟩
   ·
    rw [if_neg c9] at H
    exact absurd H (by simp)
  ·
   rw [if_neg c8] at H
   exact absurd H (by simp)
end Go.Proofs.Ytphfchbggechhaa.QO
end
end
