/- Own texts of this claim, joined: QOx0, QOx1046, QOx1051, QOx1052, QOx1018, QOx1055, QOx1083, QOx1057, QOx1047, QOx1014, QOx1082, QOx1056, QOx1058, QOx1067, QOx1033, QOx1035, QOx1090, QOx1069, QOx1034, QOx1049, QOx1053, QOx1019, QOx1032, QOx1048, QOx1013, QOx1020, QOx1015, QOx1021, QOx1024, QOx1050, QOx1017, QOx1084, QOx1085 -/
import Derived.Test.YtomgebmimgaojaaBTC0
import Derived.Test.YtomgebmimgaojaaProg
import Derived.Below
import Derived.Deep.Draws
import Derived.Deep.AppendLies
import Derived.Maps.AppendAt
import Derived.OwnWalk
import Derived.Laws.BytesArg
import Derived.Laws.MakeOwn
import Derived.Laws.OwnMore
import Derived.Deep.OwnRows
import Derived.Tactics
import Derived.Lib.ConvBytes
import Derived.Laws.Slices
import Derived.WalkKit
import Derived.KernelRfl
import Derived.RowKit3
import Derived.Deep.LoopGhost
import Derived.Deep.QuietTactic
import Derived.BigQuiet
import Derived.WideLaws
import Derived.Deep.DeepCutAuto
import Derived.Deep.CutBlock
import Derived.Deep.RegionHeld3
import Derived.Laws.Rows
import Derived.Lib.AppendStr
import Derived.ArgAppend
import Derived.Laws.IdiomCopy
import Derived.OrdersHeld
import Derived.Laws.BitsLemmas
import Derived.RowKit
import Derived.Deep.Cut
import Derived.Shelf.Abstract
import Derived.Lib.SliceRun
import Derived.WalkSpells
import Derived.Laws.Externs
import Derived.StillTailTactics
import GoSem.Extern.MathBitsCarry
section
namespace Go.Proofs.Ytomgebmimgaojaa.QO
open Go.RowKit Go.Proofs.YtomgebmimgaojaaW.PrintWords Go.Proofs.YtomgebmimgaojaaW.PrintLast
set_option linter.unusedVariables false
set_option linter.unusedSimpArgs false
def errW : Option Int → Value
  | none => .nilIface
  | some c => .iface 0 (.int .i64 c)
theorem errW_none : errW none = .nilIface := rfl
theorem errW_some (c : Int) : errW (some c) = .iface 0 (.int .i64 c) := rfl
theorem info2 : (Try.prog.info? 2).map (fun i => (i.zero, i.size, i.bytes)) = some (some (.int .i64 0), 1, 8) := by kernel_rfl
theorem info3 : (Try.prog.info? 3).map (fun i => (i.zero, i.size, i.bytes)) = some (some (.int .i64 0), 1, 8) := by kernel_rfl
-- the values' own types
end Go.Proofs.Ytomgebmimgaojaa.QO
end
section
namespace Go.Proofs.Ytomgebmimgaojaa.QO
open Go.RowKit Go.Proofs.YtomgebmimgaojaaW.PrintWords Go.Proofs.YtomgebmimgaojaaW.PrintLast
set_option linter.unusedVariables false
set_option linter.unusedSimpArgs false
def VarsOk (l : List Int) : Prop := l.length ≤ 8 ∧ ∀ i : Int, 0 ≤ i → i < l.length → 0 ≤ rd l i ∧ (0 < i → rd l (i - 1) < rd l i)
noncomputable def varsB (l : List Int) : Bool := @decide (VarsOk l) (Classical.propDecidable _)
theorem varsB_true {l : List Int} : varsB l = true ↔ VarsOk l := by unfold varsB; exact @decide_eq_true_iff _ (Classical.propDecidable _)
theorem varsB_false {l : List Int} : varsB l = false ↔ ¬ VarsOk l := by unfold varsB; exact @decide_eq_false_iff_not _ (Classical.propDecidable _)
noncomputable def oct_may.f (l0 : List Int) : Option Bool := some (varsB l0)
set_option maxHeartbeats 8000000 in
set_option maxRecDepth 100000 in
theorem oct_may.calls (A0 : Option Addr) (c0 : Nat) (l0 : List Int) (r : Bool) (w : World) (hr0 : Kd.C (Kd.int .i64) w A0 l0.length l0) (hc0 : l0.length ≤ c0) (h : oct_may.f l0 = some r) :
 Calls Try.prog 46 #[.slice A0 l0.length c0] w fun e w' => e = .returned (.bool r) ∧ Drawn0 w w' := by
 have HR0 := Aside0.mk hr0
 have HV := Aside0.mk (Option.some.inj h)
 clear hr0 hc0 h
 by_cases c1 : (8 : Int) < (l0.length : Int)
 ·
  have f1 : decide ((8 : Int) < (l0.length : Int)) = true := decide_eq_true c1
  have f2 : decide (8 < l0.length) = true := decide_eq_true (by omega)
  have HC := Aside0.mk c1
  clear c1
  go_enter Try.func46, Try.ntmps46
  go_wp2
  go_ret
  refine ⟨?_, Drawn0.refl _⟩
  rw [← HV.out, varsB_false.2 (fun h => by have := h.1; have := HC.out; omega)]
  rfl
 ·
  have f1 : decide ((8 : Int) < (l0.length : Int)) = false := decide_eq_false c1
  have f2 : decide (8 < l0.length) = false := decide_eq_false (by omega)
  have HC := Aside0.mk c1
  clear c1
  go_enter Try.func46, Try.ntmps46
  go_wp2
  go_loopg [3, 4, 10] l0.length (fun gg _ _ s10 wr => ∃ i : Int, s10 = .int .i64 i ∧ Aside0 (0 ≤ i ∧ i ≤ l0.length ∧ l0.length - i.toNat ≤ gg) ∧ Aside0 (∀ j : Int, 0 ≤ j → j < i → 0 ≤ rd l0 j ∧ (0 < j → rd l0 (j - 1) < rd l0 j)) ∧ Drawn0 w wr)
  case atStart => exact ⟨0, rfl, ⟨by omega, by omega, by omega⟩, ⟨fun j h0 h1 => absurd h1 (by omega)⟩, Drawn0.refl _⟩
  case round =>
   obtain ⟨i, rfl, HI, HA, ⟨m1, rfl⟩⟩ := hrel
   by_cases hlt : i < (l0.length : Int)
   ·
    have p0 : 0 ≤ i := HI.out.1
    have hC : Kd.C (Kd.int .i64) (w.drewN m1) A0 l0.length l0 := Kd.C_drewN HR0.out _
    obtain ⟨ad, e0, hx⟩ := Kd.at_int hC i p0 hlt
    cases e0
    clear hC
    have HL := Aside0.mk hlt
    have c6b0 : decide (i < (l0.length : Int)) = true := decide_eq_true hlt
    by_cases c3 : rd l0 i < 0
    ·
     have f3 : decide (rd l0 i < 0) = true := decide_eq_true c3
     have H3 := Aside0.mk c3
     clear c3
     replace p0 := eq_true p0
     replace hlt := eq_true hlt
     go_wp2
     go_ret
     refine ⟨?_, by repeat (first | exact Drawn0.refl _ | apply Drawn0.step)⟩
     have h1 := HI.out; have h2 := HL.out; have h3 := H3.out
     rw [← HV.out, varsB_false.2 (fun h => by have := (h.2 i h1.1 h2).1; omega)]
     rfl
    ·
     have f3 : decide (rd l0 i < 0) = false := decide_eq_false c3
     have H3 := Aside0.mk c3
     clear c3
     by_cases c4 : 0 < i
     ·
      have f4 : decide (0 < i) = true := decide_eq_true c4
      have hm1 : wrap64 (i - 1) = i - 1 := by have := HC.out; unfold wrap64; omega
      obtain ⟨j, hj⟩ : ∃ j : Int, i - 1 = j := ⟨_, rfl⟩
      have q0 : 0 ≤ j := by omega
      have q1 : j < (l0.length : Int) := by omega
      obtain ⟨ad', e0, hy⟩ := Kd.at_int (Kd.C_drewN HR0.out m1) j q0 q1
      cases e0
      rw [hj] at hm1
      have hm2 : IntKind.i64.wrap (i - 1) = j := by rw [IntKind.wrap_i64, ← hj]; unfold wrap64 at hm1; omega
      have HJ := Aside0.mk hj
      have H4 := Aside0.mk c4
      by_cases c5 : rd l0 i ≤ rd l0 j
      ·
       have f5 : decide (rd l0 i ≤ rd l0 j) = true := decide_eq_true c5
       have H5 := Aside0.mk c5
       clear c5 c4
       replace p0 := eq_true p0
       replace hlt := eq_true hlt
       replace q0 := eq_true q0
       replace q1 := eq_true q1
       go_wp2
       go_ret
       refine ⟨?_, by repeat (first | exact Drawn0.refl _ | apply Drawn0.step)⟩
       have h1 := HI.out; have h2 := HL.out; have h5 := H5.out; have h4 := H4.out
       rw [← HV.out, varsB_false.2 (fun h => by have := (h.2 i h1.1 h2).2 h4; rw [HJ.out] at this; omega)]
       rfl
      ·
       have f5 : decide (rd l0 i ≤ rd l0 j) = false := decide_eq_false c5
       have H5 := Aside0.mk c5
       clear c5 c4
       replace p0 := eq_true p0
       replace hlt := eq_true hlt
       replace q0 := eq_true q0
       replace q1 := eq_true q1
       go_wp2
       go_roundg (l0.length - (i.toNat + 1))
       case measure => have h1 := HI.out; have h2 := HL.out; omega
       case rel =>
        have h1 := HI.out; have h2 := HL.out; have h3 := H3.out; have h4 := HC.out; have h5 := H5.out; have hj := HJ.out
        have hw : wrap64 (i + 1) = i + 1 := by unfold wrap64; omega
        refine ⟨wrap64 (i + 1), rfl, ⟨by omega, by omega, by omega⟩, ⟨fun k k0 k1 => ?_⟩, by repeat (first | exact Drawn0.refl _ | apply Drawn0.step)⟩
        by_cases e : k = i
        ·
         subst e; exact ⟨by omega, fun _ => by rw [hj]; omega⟩
        ·
         exact HA.out k k0 (by omega)
     ·
      have f4 : decide (0 < i) = false := decide_eq_false c4
      have H4 := Aside0.mk c4
      clear c4
      replace p0 := eq_true p0
      replace hlt := eq_true hlt
      go_wp2
      go_roundg (l0.length - (i.toNat + 1))
      case measure => have h1 := HI.out; have h2 := HL.out; omega
      case rel =>
       have h1 := HI.out; have h2 := HL.out; have h3 := H3.out; have h4 := HC.out; have h5 := H4.out
       have hw : wrap64 (i + 1) = i + 1 := by unfold wrap64; omega
       refine ⟨wrap64 (i + 1), rfl, ⟨by omega, by omega, by omega⟩, ⟨fun k k0 k1 => ?_⟩, by repeat (first | exact Drawn0.refl _ | apply Drawn0.step)⟩
       by_cases e : k = i
       ·
        subst e; exact ⟨by omega, fun h => absurd h (by omega)⟩
       ·
        exact HA.out k k0 (by omega)
   ·
    have c6b0 : decide (i < (l0.length : Int)) = false := decide_eq_false hlt
    have HL := Aside0.mk hlt
    clear hlt
    go_wp2
    go_ret
    have h1 := HI.out; have h2 := HL.out; have h4 := HC.out
    refine ⟨?_, by repeat (first | exact Drawn0.refl _ | apply Drawn0.step)⟩
    rw [← HV.out, varsB_true.2 ⟨by omega, fun k k0 k1 => HA.out k k0 (by omega)⟩]
    rfl
end Go.Proofs.Ytomgebmimgaojaa.QO
end
section
noncomputable section
namespace Go.Proofs.Ytomgebmimgaojaa.QO
open Go.RowKit Go.Proofs.YtomgebmimgaojaaW.PrintWords Go.Proofs.YtomgebmimgaojaaW.PrintLast
set_option linter.unusedVariables false
set_option linter.unusedSimpArgs false
def oct_full_at.f (a0_0 : Int) (l0_1 : List Int) (a1 : Int) (a2 : Int) : Option Int :=
 if 0 ≤ a0_0 ∧ a0_0 ≤ 16 ∧ 0 ≤ a1 ∧ a1 < 16 ∧ 0 ≤ a2 ∧ a2 < 16 ∧ a1 * a0_0 + a2 < l0_1.length then some (rd l0_1 (a1 * a0_0 + a2)) else none
theorem mul_in {a b : Int} (h0 : 0 ≤ a) (h1 : a ≤ 16) (h2 : 0 ≤ b) (h3 : b ≤ 16) : 0 ≤ b * a ∧ b * a ≤ 256 :=
 ⟨Int.mul_nonneg h2 h0, Int.le_trans (Int.mul_le_mul_of_nonneg_left h1 h2) (by omega)⟩
set_option maxHeartbeats 8000000 in
set_option maxRecDepth 100000 in
theorem oct_full_at.calls (a0_0 : Int) (A0_1 : Option Addr) (c0_1 : Nat) (l0_1 : List Int) (a1 : Int) (a2 : Int) (r : Int) (w : World) (hr0_1 : Kd.C (Kd.int .i64) w A0_1 l0_1.length l0_1) (hc0_1 : l0_1.length ≤ c0_1) (h : oct_full_at.f a0_0 l0_1 a1 a2 = some r) :
 Calls Try.prog 51 #[.agg #[.int .i64 a0_0, .slice A0_1 l0_1.length c0_1], .int .i64 a1, .int .i64 a2] w fun e w' => e = .returned (.int .i64 r) ∧ Below w.heap.size w w' := by
 have hu25 := Try.underlying58
 clear hc0_1
 unfold oct_full_at.f at h
 by_cases hc : 0 ≤ a0_0 ∧ a0_0 ≤ 16 ∧ 0 ≤ a1 ∧ a1 < 16 ∧ 0 ≤ a2 ∧ a2 < 16 ∧ a1 * a0_0 + a2 < l0_1.length
 ·
  rw [if_pos hc] at h
  obtain rfl := Option.some.inj h
  clear h
  obtain ⟨h0, h1, h2, h3, h4, h5, h6⟩ := hc
  have hm := mul_in h0 h1 h2 (by omega)
  obtain ⟨p, hp⟩ : ∃ p : Int, a1 * a0_0 = p := ⟨_, rfl⟩
  rw [hp] at hm h6 ⊢
  obtain ⟨q, hq⟩ : ∃ q : Int, p + a2 = q := ⟨_, rfl⟩
  rw [hq] at h6 ⊢
  have q0 : 0 ≤ q := by omega
  obtain ⟨ad, e0, hx⟩ := Kd.at_int hr0_1 q q0 h6
  cases e0
  have e1 : IntKind.i64.wrap (a1 * a0_0) = p := by rw [hp, IntKind.wrap_i64]; omega
  have e2 : IntKind.i64.wrap (p + a2) = q := by rw [hq, IntKind.wrap_i64]; omega
  have e3 : wrap64 (a1 * a0_0) = p := by rw [hp]; unfold wrap64; omega
  have e4 : wrap64 (p + a2) = q := by rw [hq]; unfold wrap64; omega
  have hx' := pw_cell_below (below_alloc (Below.refl w.heap.size w) (.cells #[.int .i64 a0_0, .slice (some ad) l0_1.length c0_1] 58)) hx
  replace q0 := eq_true q0
  replace h6 := eq_true h6
  clear hr0_1 h0 h1 h2 h3 h4 h5 hm hp hq hx
  go_enter Try.func51, Try.ntmps51
  go_wp2
  go_ret
  exact ⟨rfl, below_alloc (Below.refl _ _) _⟩
 ·
  rw [if_neg hc] at h
  cases h
end Go.Proofs.Ytomgebmimgaojaa.QO
end
end
section
noncomputable section
namespace Go.Proofs.Ytomgebmimgaojaa.QO
open Go.RowKit Go.Proofs.YtomgebmimgaojaaW.PrintWords Go.Proofs.YtomgebmimgaojaaW.PrintLast
set_option linter.unusedVariables false
set_option linter.unusedSimpArgs false
def nbar (i : Int) : Int := if i % 2 = 0 then i + 1 else i - 1
theorem xor_one (i : Int) (h0 : 0 ≤ i) (h1 : i < 16) : Go.bits .xor .i64 i 1 = nbar i := by
 have h : i = 0 ∨ i = 1 ∨ i = 2 ∨ i = 3 ∨ i = 4 ∨ i = 5 ∨ i = 6 ∨ i = 7 ∨ i = 8 ∨ i = 9 ∨ i = 10 ∨ i = 11 ∨ i = 12 ∨ i = 13 ∨ i = 14 ∨ i = 15 := by omega
 rcases h with rfl | rfl | rfl | rfl | rfl | rfl | rfl | rfl | rfl | rfl | rfl | rfl | rfl | rfl | rfl | rfl <;> decide
def oct_bar.f (a0 : Int) : Option Int := if 0 ≤ a0 ∧ a0 < 16 then some (nbar a0) else none
set_option maxHeartbeats 8000000 in
set_option maxRecDepth 100000 in
theorem oct_bar.calls (a0 : Int) (r : Int) (w : World) (h : oct_bar.f a0 = some r) :
 Calls Try.prog 52 #[.int .i64 a0] w fun e w' => e = .returned (.int .i64 r) ∧ Drawn0 w w' := by
 have hr : r = Go.bits .xor .i64 a0 1 := by
  unfold oct_bar.f at h; split at h
  ·
   rename_i hc; rw [xor_one a0 hc.1 hc.2]; exact (Option.some.inj h).symm
  ·
   cases h
 subst hr
 clear h
 go_enter Try.func52, Try.ntmps52
 go_wp2
 go_ret
 exact ⟨rfl, Drawn0.refl _⟩
set_option maxHeartbeats 8000000 in
set_option maxRecDepth 100000 in
theorem oct_bar_still (a0 : Int) (r : Int) (w : World) (h : oct_bar.f a0 = some r) :
 Calls Try.prog 52 #[.int .i64 a0] w fun e w' => e = .returned (.int .i64 r) ∧ w' = w := by
 have hr : r = Go.bits .xor .i64 a0 1 := by
  unfold oct_bar.f at h; split at h
  ·
   rename_i hc; rw [xor_one a0 hc.1 hc.2]; exact (Option.some.inj h).symm
  ·
   cases h
 subst hr
 clear h
 go_enter Try.func52, Try.ntmps52
 go_wp2
 go_ret
 exact ⟨rfl, rfl⟩
end Go.Proofs.Ytomgebmimgaojaa.QO
end
end
section
namespace Go.Proofs.Ytomgebmimgaojaa.QO
open Go.RowKit Go.Proofs.YtomgebmimgaojaaW.PrintWords Go.Proofs.YtomgebmimgaojaaW.PrintLast
set_option linter.unusedVariables false
set_option linter.unusedSimpArgs false
def EntryOk (n2 : Int) (m : List Int) (i j : Int) : Prop :=
 (rd m (i * n2 + j) = 4611686018427387904 ∨ (-1099511627776 ≤ rd m (i * n2 + j) ∧ rd m (i * n2 + j) ≤ 1099511627776)) ∧ (i = j → rd m (i * n2 + j) = 0) ∧ rd m (i * n2 + j) = rd m (nbar j * n2 + nbar i)
def OFit (vars m : List Int) (empty : Bool) : Prop :=
 VarsOk vars ∧ (empty = true → m = []) ∧ (empty = false → (m.length : Int) = (2 * (vars.length : Int)) * (2 * (vars.length : Int)) ∧ ∀ i j : Int, 0 ≤ i → i < 2 * (vars.length : Int) → 0 ≤ j → j < 2 * (vars.length : Int) → EntryOk (2 * (vars.length : Int)) m i j)
noncomputable def ofitB (vars m : List Int) (empty : Bool) : Bool := @decide (OFit vars m empty) (Classical.propDecidable _)
theorem ofitB_true {vars m : List Int} {empty : Bool} : ofitB vars m empty = true ↔ OFit vars m empty := by unfold ofitB; exact @decide_eq_true_iff _ (Classical.propDecidable _)
theorem ofitB_false {vars m : List Int} {empty : Bool} : ofitB vars m empty = false ↔ ¬ OFit vars m empty := by unfold ofitB; exact @decide_eq_false_iff_not _ (Classical.propDecidable _)
theorem nbar_in {i n : Int} (h0 : 0 ≤ i) (h1 : i < 2 * n) : 0 ≤ nbar i ∧ nbar i < 2 * n := by unfold nbar; split <;> omega
theorem place_in {i j n : Int} (h0 : 0 ≤ i) (h1 : i < n) (h2 : 0 ≤ j) (h3 : j < n) : 0 ≤ i * n + j ∧ i * n + j < n * n := by
 have h5 := Int.mul_nonneg h0 (by omega : 0 ≤ n)
 have h6 : i * n ≤ (n - 1) * n := Int.mul_le_mul_of_nonneg_right (by omega) (by omega)
 have h7 : (n - 1) * n = n * n - n := by rw [Int.sub_mul]; omega
 omega
theorem at_ok {n : Nat} {m : List Int} {i j : Int} (hn : n ≤ 8) (hm : (m.length : Int) = (2 * (n : Int)) * (2 * (n : Int))) (h0 : 0 ≤ i) (h1 : i < 2 * (n : Int)) (h2 : 0 ≤ j) (h3 : j < 2 * (n : Int)) :
 oct_full_at.f (2 * (n : Int)) m i j = some (rd m (i * (2 * (n : Int)) + j)) := by
 unfold oct_full_at.f
 have := place_in h0 h1 h2 h3
 rw [if_pos ⟨by omega, by omega, h0, by omega, h2, by omega, by omega⟩]
noncomputable def oct_Fit.f (l0_0 : List Int) (l0_1 : List Int) (a0_2 : Bool) : Option Bool := if l0_0.length ≤ 17592186044416 then some (ofitB l0_0 l0_1 a0_2) else none
structure Box1 (w : World) (g : Nat) (cs : Array Value) (t : Nat) (W : World) : Prop where
 below : Below w.heap.size w W
 box : W.heap[g]? = some (.cells cs t (0, 0))
theorem Box1.next {w W W1 : World} {g : Nat} {cs : Array Value} {t : Nat} (h : Box1 w g cs t W) (hb : Below W.heap.size W W1) : Box1 w g cs t W1 :=
 ⟨h.below.trans (hb.mono h.below.size), (hb.block _ (blk_lt h.box)).trans h.box⟩
theorem box1_new {w W : World} {g : Nat} {cs : Array Value} {t : Nat} (hB : Below w.heap.size w W) (hs : W.heap.size = g) : Box1 w g cs t (W.alloc (.cells cs t)) :=
 ⟨below_alloc hB _, by rw [← hs]; exact heap_alloc_new W _⟩
theorem Box1.two {w W : World} {g : Nat} {a b : Value} {t : Nat} (h : Box1 w g #[a, b] t W) : W.cell? ⟨g, 0, none⟩ = some a ∧ W.cell? ⟨g, 1, none⟩ = some b := ⟨(blk_cell h.box 0).trans rfl, (blk_cell h.box 1).trans rfl⟩
theorem Box1.drew {w W : World} {g : Nat} {cs : Array Value} {t : Nat} (h : Box1 w g cs t W) : Box1 w g cs t W.drew := h.next (below_drew (Below.refl _ _))
theorem Box1.drewN {w W : World} {g : Nat} {cs : Array Value} {t : Nat} (h : Box1 w g cs t W) (n : Nat) : Box1 w g cs t (W.drewN n) := h.next (pw_below_drewN (Below.refl _ _) n)
theorem Box1.alloc {w W : World} {g : Nat} {cs : Array Value} {t : Nat} (h : Box1 w g cs t W) (o : Obj) : Box1 w g cs t (W.alloc o) := h.next (below_alloc (Below.refl _ _) o)
def oct_Fit.T14 : Bool × List (List Nat × List Nat) := (true, [([], []), ([0], [0]), ([1], [1]), ([2], [2]), ([3, 2], [2, 3]), ([4, 2, 2], [2, 4]), ([5], [5]), ([6, 5], [5, 6]), ([5, 7, 2], [2, 5, 7]), ([2, 8], [2, 8]), ([9, 5], [9]), ([10], [10]), ([10], [10]), ([11, 12, 10], [10, 11, 12]), ([13, 10, 10], [10, 13]), ([14], [14]), ([15, 14], [14, 15]), ([14, 16, 10], [10, 14, 16]), ([10, 17], [10, 17]), ([18, 14], [18]), ([19], [19]), ([19], [19]), ([19], [19]), ([22, 19, 19], [19, 22]), ([19], [19]), ([24, 23, 19], [19, 24]), ([21, 23, 25, 25, 19], [19, 21, 23, 25]), ([20, 26, 19], [19, 20, 26]), ([19, 27], [19, 27])])
def oct_Fit.B14 : List Nat := [0, 1, 3, 7, 15, 31, 63, 127, 255, 511, 1023, 2047, 2047, 8191, 16383, 32767, 65535, 131071, 262143, 524287, 1048575, 1048575, 1048575, 5242879, 1048575, 30408703, 66060287, 134217727, 268435455]
def FA0 : Array Bool := (mB 29 0)
def FA1 : Array Bool := (mB 29 1)
def FA2 : Array Bool := (mB 29 3)
def FA3 : Array Bool := (mB 29 7)
def FA4 : Array Bool := (mB 29 15)
def FA5 : Array Bool := (mB 29 31)
def FA6 : Array Bool := (mB 29 63)
def FA7 : Array Bool := (mB 29 127)
def FA8 : Array Bool := (mB 29 255)
def FA9 : Array Bool := (mB 29 511)
def FA10 : Array Bool := (mB 29 1023)
def FA11 : Array Bool := (mB 29 2047)
def FA12 : Array Bool := (mB 29 4095)
def FA13 : Array Bool := (mB 29 8191)
def FA14 : Array Bool := (mB 29 16383)
def FA15 : Array Bool := (mB 29 32767)
def FA16 : Array Bool := (mB 29 65535)
def FA17 : Array Bool := (mB 29 131071)
def FA18 : Array Bool := (mB 29 262143)
def FA19 : Array Bool := (mB 29 524287)
def FA20 : Array Bool := (mB 29 1048575)
def FA21 : Array Bool := (mB 29 2097151)
def FA22 : Array Bool := (mB 29 6291455)
def FA23 : Array Bool := (mB 29 23068671)
def FA24 : Array Bool := (mB 29 25165823)
def FA25 : Array Bool := (mB 29 33554431)
def FA26 : Array Bool := (mB 29 67108863)
def FA27 : Array Bool := (mB 29 134217727)
def FA28 : Array Bool := (mB 29 268435455)
def FA29 : Array Bool := (mB 29 536870911)
theorem oct_Fit.tab14 : rtab .any (opsOf Try.f18 14) = oct_Fit.T14 := by kernel_rfl
theorem oct_Fit.bits14 : waitsOk oct_Fit.T14.2 oct_Fit.B14 = true := by kernel_rfl
set_option maxHeartbeats 8000000 in
set_option maxRecDepth 100000 in
theorem oct_Fit.calls (A0_0 : Option Addr) (c0_0 : Nat) (l0_0 : List Int) (A0_1 : Option Addr) (c0_1 : Nat) (l0_1 : List Int) (a0_2 : Bool) (r : Bool) (w : World) (hr0_0 : Kd.C (Kd.int .i64) w A0_0 l0_0.length l0_0) (hc0_0 : l0_0.length ≤ c0_0) (hr0_1 : Kd.C (Kd.int .i64) w A0_1 l0_1.length l0_1) (hc0_1 : l0_1.length ≤ c0_1) (h : oct_Fit.f l0_0 l0_1 a0_2 = some r) :
 Calls Try.prog 18 #[.agg #[.slice A0_0 l0_0.length c0_0, .slice A0_1 l0_1.length c0_1, .bool a0_2]] w fun e w' => e = .returned (.bool r) ∧ Below w.heap.size w w' := by
 have hu25 := Try.underlying25
 have hu58 := Try.underlying58
 have HR0 := Aside0.mk hr0_0
 have HR1 := Aside0.mk hr0_1
 have HC0 := Aside0.mk hc0_0
 have HC1 := Aside0.mk hc0_1
 clear hr0_0 hr0_1 hc0_0 hc0_1
 unfold oct_Fit.f at h
 by_cases hlen : l0_0.length ≤ 17592186044416
 ·
  rw [if_pos hlen] at h
  have HV := Aside0.mk (Option.some.inj h)
  clear h
  have e1 : wrap64 (2 * (l0_0.length : Int)) = 2 * (l0_0.length : Int) := by unfold wrap64; omega
  have e2 : IntKind.i64.wrap (2 * (l0_0.length : Int)) = 2 * (l0_0.length : Int) := by rw [IntKind.wrap_i64]; omega
  cases hv : varsB l0_0 with
  | false =>
   have HM := fun W (hW : Kd.C (Kd.int .i64) W A0_0 l0_0.length l0_0) => oct_may.calls A0_0 c0_0 l0_0 false W hW HC0.out (by unfold oct_may.f; rw [hv])
   replace HM := Aside0.mk HM
   have HF := Aside0.mk (varsB_false.1 hv)
   clear hv hlen
   go_enter Try.func18, Try.ntmps18
   go_wp2_with (go_at_call 46; (with_reducible refine (HM.out _ ?side1).mono ?_); (case side1 => repeat (first | exact HR0.out | (with_reducible refine Kd.C_alloc ?_ _) | (with_reducible refine Kd.C_drewN ?_ _) | (with_reducible refine Kd.C_drew ?_))); rintro e w1 ⟨rfl, ⟨nd, rfl⟩⟩)
   go_ret
   refine ⟨?_, by repeat (first | exact Below.refl _ _ | (with_reducible apply below_alloc) | (with_reducible apply pw_below_drewN) | (with_reducible apply below_drew))⟩
   rw [← HV.out, ofitB_false.2 (fun h => HF.out h.1)]
   rfl
  | true =>
   have HM := fun W (hW : Kd.C (Kd.int .i64) W A0_0 l0_0.length l0_0) => oct_may.calls A0_0 c0_0 l0_0 true W hW HC0.out (by unfold oct_may.f; rw [hv])
   replace HM := Aside0.mk HM
   have HT := Aside0.mk (varsB_true.1 hv)
   clear hv hlen
   cases a0_2 with
   | true =>
    by_cases hz : l0_1.length = 0
    ·
     have f1 : ((l0_1.length : Int) == 0) = true := by rw [hz]; rfl
     have f2 : (l0_1.length == 0) = true := by rw [hz]; rfl
     have HZ := Aside0.mk hz
     clear hz
     go_enter Try.func18, Try.ntmps18
     go_wp2_with (go_at_call 46; (with_reducible refine (HM.out _ ?side1).mono ?_); (case side1 => repeat (first | exact HR0.out | (with_reducible refine Kd.C_alloc ?_ _) | (with_reducible refine Kd.C_drewN ?_ _) | (with_reducible refine Kd.C_drew ?_))); rintro e w1 ⟨rfl, ⟨nd, rfl⟩⟩)
     go_ret
     refine ⟨?_, by repeat (first | exact Below.refl _ _ | (with_reducible apply below_alloc) | (with_reducible apply pw_below_drewN) | (with_reducible apply below_drew))⟩
     rw [← HV.out, ofitB_true.2 ⟨HT.out, fun _ => List.eq_nil_of_length_eq_zero HZ.out, fun h => by cases h⟩]
     rfl
    ·
     have f1 : ((l0_1.length : Int) == 0) = false := by simpa using (by omega : ¬ ((l0_1.length : Int) = 0))
     have f2 : (l0_1.length == 0) = false := by simpa using hz
     have HZ := Aside0.mk hz
     clear hz
     go_enter Try.func18, Try.ntmps18
     go_wp2_with (go_at_call 46; (with_reducible refine (HM.out _ ?side1).mono ?_); (case side1 => repeat (first | exact HR0.out | (with_reducible refine Kd.C_alloc ?_ _) | (with_reducible refine Kd.C_drewN ?_ _) | (with_reducible refine Kd.C_drew ?_))); rintro e w1 ⟨rfl, ⟨nd, rfl⟩⟩)
     go_ret
     refine ⟨?_, by repeat (first | exact Below.refl _ _ | (with_reducible apply below_alloc) | (with_reducible apply pw_below_drewN) | (with_reducible apply below_drew))⟩
     rw [← HV.out, ofitB_false.2 (fun h => HZ.out (by rw [h.2.1 rfl]; rfl))]
     rfl
   | false =>
    obtain ⟨n2, hn2⟩ : ∃ n2 : Int, 2 * (l0_0.length : Int) = n2 := ⟨_, rfl⟩
    replace e1 : wrap64 (2 * (l0_0.length : Int)) = n2 := e1.trans hn2
    replace e2 : IntKind.i64.wrap (2 * (l0_0.length : Int)) = n2 := e2.trans hn2
    have hl8 := HT.out.1
    obtain ⟨nn, hnn⟩ : ∃ nn : Int, n2 * n2 = nn := ⟨_, rfl⟩
    have hnn2 : 0 ≤ nn ∧ nn ≤ 256 := by rw [← hnn]; exact mul_in (a := n2) (b := n2) (by omega) (by omega) (by omega) (by omega)
    have e3 : wrap64 (n2 * n2) = nn := by rw [hnn]; unfold wrap64; omega
    have e4 : IntKind.i64.wrap (n2 * n2) = nn := by rw [hnn, IntKind.wrap_i64]; omega
    by_cases hz : (l0_1.length : Int) = nn
    ·
     have f1 : ((l0_1.length : Int) != nn) = false := by rw [hz]; simp
     have HZ := Aside0.mk hz
     have HN := Aside0.mk hn2
     have HNN := Aside0.mk hnn
     clear hz hn2 hnn hnn2 hl8
     go_enter Try.func18, Try.ntmps18
     go_wp2_with (go_at_call 46; (with_reducible refine (HM.out _ ?side1).mono ?_); (case side1 => repeat (first | exact HR0.out | (with_reducible refine Kd.C_alloc ?_ _) | (with_reducible refine Kd.C_drewN ?_ _) | (with_reducible refine Kd.C_drew ?_))); rintro e w1 ⟨rfl, ⟨nd, rfl⟩⟩)
     go_loopg [5, 6, 7, 41, 44, 45] n2.toNat (fun gg _ _ _ s41 _ _ wr => ∃ i : Int, s41 = .int .i64 i ∧ Aside0 (0 ≤ i ∧ i ≤ n2 ∧ n2.toNat - i.toNat ≤ gg) ∧ Aside0 (Box1 w (w.heap.size + 1) #[.int .i64 n2, .slice A0_1 l0_1.length c0_1] 58 wr) ∧ Aside0 (∀ a b : Int, 0 ≤ a → a < i → 0 ≤ b → b < n2 → EntryOk n2 l0_1 a b))
     case atStart => exact ⟨0, rfl, ⟨by have := HN.out; omega, by have := HN.out; omega, by omega⟩, ⟨box1_new (by repeat (first | exact Below.refl _ _ | (with_reducible apply below_alloc) | (with_reducible apply pw_below_drewN) | (with_reducible apply below_drew))) (by simp)⟩, ⟨fun a b h0 h1 => absurd h1 (by omega)⟩⟩
     case round =>
      obtain ⟨i, rfl, HI, HX, HA⟩ := hrel
      by_cases hlt : i < n2
      ·
       have f2 : decide (i < n2) = true := decide_eq_true hlt
       have HL := Aside0.mk hlt
       clear hlt
       go_wp2
       obtain ⟨wo, rfl⟩ : ∃ wo : World, wo = wr := ⟨_, rfl⟩
       go_loopg [6, 7, 45] n2.toNat (fun hh _ _ s45 wr => ∃ j : Int, s45 = .int .i64 j ∧ Aside0 (0 ≤ j ∧ j ≤ n2 ∧ n2.toNat - j.toNat ≤ hh) ∧ Aside0 (Box1 w (w.heap.size + 1) #[.int .i64 n2, .slice A0_1 l0_1.length c0_1] 58 wr) ∧ Aside0 (∀ b : Int, 0 ≤ b → b < j → EntryOk n2 l0_1 i b))
       case atStart => exact ⟨0, rfl, ⟨by have := HN.out; omega, by have := HN.out; omega, by omega⟩, ⟨HX.out⟩, ⟨fun b h0 h1 => absurd h1 (by omega)⟩⟩
       case round =>
        clear HX
        obtain ⟨j, rfl, HJ, HX, HE⟩ := hrel
        by_cases hlt : j < n2
        ·
         have f3 : decide (j < n2) = true := decide_eq_true hlt
         have HK := Aside0.mk hlt
         clear hlt
         have hi := HI.out; have hj := HJ.out; have hil := HL.out; have hjl := HK.out
         have h8 := HT.out.1
         have hm : (l0_1.length : Int) = (2 * (l0_0.length : Int)) * (2 * (l0_0.length : Int)) := by rw [HN.out, HNN.out]; exact HZ.out
         have nj := nbar_in (i := j) (n := l0_0.length) hj.1 (by rw [HN.out]; exact hjl)
         have ni := nbar_in (i := i) (n := l0_0.length) hi.1 (by rw [HN.out]; exact hil)
         have a1 := at_ok (n := l0_0.length) (m := l0_1) (i := i) (j := j) h8 hm hi.1 (by rw [HN.out]; exact hil) hj.1 (by rw [HN.out]; exact hjl)
         have a2 := at_ok (n := l0_0.length) (m := l0_1) (i := nbar j) (j := nbar i) h8 hm nj.1 nj.2 ni.1 ni.2
         rw [HN.out] at a1 a2
         have b1 : oct_bar.f j = some (nbar j) := by unfold oct_bar.f; rw [if_pos ⟨hj.1, by have := HN.out; omega⟩]
         have b2 : oct_bar.f i = some (nbar i) := by unfold oct_bar.f; rw [if_pos ⟨hi.1, by have := HN.out; omega⟩]
         obtain ⟨x, hx⟩ : ∃ x, rd l0_1 (i * n2 + j) = x := ⟨_, rfl⟩
         obtain ⟨y, hy⟩ : ∃ y, rd l0_1 (nbar j * n2 + nbar i) = y := ⟨_, rfl⟩
         obtain ⟨p, hp⟩ : ∃ p, nbar j = p := ⟨_, rfl⟩
         obtain ⟨q, hq⟩ : ∃ q, nbar i = q := ⟨_, rfl⟩
         rw [hp, hq] at hy a2
         rw [hp] at b1
         rw [hq] at b2
         rw [hx] at a1
         rw [hy] at a2
         have C1 := Aside0.mk (fun W (hW : Kd.C (Kd.int .i64) W A0_1 l0_1.length l0_1) => oct_full_at.calls n2 A0_1 c0_1 l0_1 i j x W hW HC1.out a1)
         have C2 := Aside0.mk (fun W (hW : Kd.C (Kd.int .i64) W A0_1 l0_1.length l0_1) => oct_full_at.calls n2 A0_1 c0_1 l0_1 p q y W hW HC1.out a2)
         have B1 := Aside0.mk (fun W => oct_bar.calls j p W b1)
         have B2 := Aside0.mk (fun W => oct_bar.calls i q W b2)
         have HXY : Aside0 (EntryOk n2 l0_1 i j ↔ (x = 4611686018427387904 ∨ (-1099511627776 ≤ x ∧ x ≤ 1099511627776)) ∧ (i = j → x = 0) ∧ x = y) := ⟨by unfold EntryOk; rw [hp, hq, hx, hy]⟩
         clear hi hj hil hjl h8 hm nj ni a1 a2 b1 b2 hx hy hp hq
         obtain ⟨hx0, hx1⟩ := HX.out.two
         go_upto_region 14 with (go_at_call 51; (with_reducible refine (C1.out _ ?s1).mono ?_); (case s1 => exact Kd.C_below HR1.out HX.out.below); rintro e w1 ⟨rfl, hb⟩; have hY := Box1.next HX.out (show Below _ _ _ from hb); clear HX hx0 hx1; have HX := Aside0.mk hY; obtain ⟨hx0, hx1⟩ := hY.two; clear hY hb)
         go_cut [80] (fun s80 wx => ∃ b : Bool, s80 = .bool b ∧ (b = false ↔ (x = 4611686018427387904 ∨ (-1099511627776 ≤ x ∧ x ≤ 1099511627776)) ∧ (i = j → x = 0) ∧ x = y) ∧ Box1 w (w.heap.size + 1) #[.int .i64 n2, .slice A0_1 l0_1.length c0_1] 58 wx)
         case first =>
          by_cases c1 : x = 4611686018427387904
          ·
           have f1 : (x != 4611686018427387904) = false := by rw [c1]; rfl
           by_cases c4 : i = j
           ·
            have f4 : (i == j) = true := by simpa using c4
            by_cases c5 : x = 0
            ·
             have f5 : (x != 0) = false := by rw [c5]; rfl
             have HB : Aside0 ((x != y) = false ↔ (x = 4611686018427387904 ∨ (-1099511627776 ≤ x ∧ x ≤ 1099511627776)) ∧ (i = j → x = 0) ∧ x = y) := ⟨by simp only [bne_eq_false_iff_eq]; constructor <;> intro h <;> omega⟩
             clear c1 c4 c5
             have n_ := Aside0.mk HX.out.drew
             clear HX hx0 hx1
             have HX := n_
             clear n_
             refine start_ (n := 29) (S := fun w' => w'.cell? ⟨w.heap.size + 1, 0, none⟩ = some (.int .i64 n2) ∧ w'.cell? ⟨w.heap.size + 1, 1, none⟩ = some (.slice A0_1 l0_1.length c0_1)) (ds := []) FA0 (by kernel_rfl) rfl rfl HX.out.two (fun hHeld => ?_); refine with_tabW oct_Fit.tab14 oct_Fit.bits14 (fun HT_ HW_ => ?_)
             generalize w1.drew = w2 at HX hHeld ⊢
             refine pV_ 0 52 FA1 HT_ ?_
             refine pV_ 1 53 FA2 HT_ ?_
             refine pV_ 2 54 FA3 HT_ ?_
             refine pU_ 3 55 FA4 HT_ ?_
             refine pU_ 4 56 FA5 HT_ ?_
             refine pU_ 5 57 FA6 HT_ ?_
             refine pU_ 6 58 FA7 HT_ ?_
             refine pU_ 7 59 FA8 HT_ ?_
             refine pU_ 8 60 FA9 HT_ ?_
             refine pV_ 9 61 FA10 HT_ ?_
             refine pV_ 10 62 FA11 HT_ ?_
             refine pV_ 11 63 FA12 HT_ ?_
             refine pV_ 12 64 FA13 HT_ ?_
             refine pV_ 13 65 FA14 HT_ ?_
             refine pV_ 14 66 FA15 HT_ ?_
             refine pV_ 15 67 FA16 HT_ ?_
             refine pV_ 16 68 FA17 HT_ ?_
             refine pV_ 17 69 FA18 HT_ ?_
             refine pV_ 18 70 FA19 HT_ ?_
             refine pV_ 19 71 FA20 HT_ ?_
             refine pV_ 20 72 FA21 HT_ ?_
             refine pV_ 22 74 FA22 HT_ ?_
             refine pV_ 24 76 FA23 HT_ ?_
             refine tV_ 21 73 FA24 HT_ HW_ hHeld ?_
             refine one_ (i := 23) (N := some 75) FA25 rfl rfl (one_of HT_.out (by kernel_rfl)) (by decide) (fun K hK => ?_)
             refine goes_ Try.func52 (by kernel_rfl) rfl #[.int .i64 j] (by rfl) rfl rfl vL ?_
             with_reducible refine (B1.out _).mono ?_
             rintro e w' ⟨rfl, ⟨nd, rfl⟩⟩
             refine ⟨_, rfl, ?_⟩
             have n_ := Aside0.mk (HX.out.drewN nd)
             clear HX
             have HX := n_
             clear n_
             refine hK.out _ _ HX.out.two (fun hHeld => ?_)
             clear hK K
             refine norm_ (a' := ?_) ?_ ?_
             rotate_left
             ·
              show Act.put _ (some 75) _ = _; simp only [Act.put, List.setIfInBounds_toArray, List.set_cons_zero, List.set_cons_succ, i64_w, i32_w]; rfl
             refine one_ (i := 25) (N := some 77) FA26 rfl rfl (one_of HT_.out (by kernel_rfl)) (by decide) (fun K hK => ?_)
             refine goes_ Try.func52 (by kernel_rfl) rfl #[.int .i64 i] (by rfl) rfl rfl vL ?_
             with_reducible refine (B2.out _).mono ?_
             rintro e w' ⟨rfl, ⟨nd, rfl⟩⟩
             refine ⟨_, rfl, ?_⟩
             have n_ := Aside0.mk (HX.out.drewN nd)
             clear HX
             have HX := n_
             clear n_
             refine hK.out _ _ HX.out.two (fun hHeld => ?_)
             clear hK K
             refine norm_ (a' := ?_) ?_ ?_
             rotate_left
             ·
              show Act.put _ (some 77) _ = _; simp only [Act.put, List.setIfInBounds_toArray, List.set_cons_zero, List.set_cons_succ, i64_w, i32_w]; rfl
             refine one_ (i := 26) (N := some 78) FA27 rfl rfl (one_of HT_.out (by kernel_rfl)) (by decide) (fun K hK => ?_)
             refine goes_ Try.func51 (by kernel_rfl) rfl #[.agg #[.int .i64 n2, .slice A0_1 l0_1.length c0_1], .int .i64 p, .int .i64 q] (by rfl) rfl rfl vL ?_
             with_reducible refine (C2.out _ ?s1).mono ?_
             (case s1 => exact Kd.C_below HR1.out HX.out.below)
             rintro e w3 ⟨rfl, hb⟩
             refine ⟨_, rfl, ?_⟩
             have n_ := Aside0.mk (HX.out.next hb)
             clear HX hb
             have HX := n_
             clear n_
             refine hK.out _ _ HX.out.two (fun hHeld => ?_)
             clear hK K
             refine norm_ (a' := ?_) ?_ ?_
             rotate_left
             ·
              show Act.put _ (some 78) _ = _; simp only [Act.put, List.setIfInBounds_toArray, List.set_cons_zero, List.set_cons_succ, i64_w, i32_w]; rfl
             refine pV_ 27 79 FA28 HT_ ?_
             refine pV_ 28 80 FA29 HT_ ?_
             refine done_ (done_of HT_.out (by kernel_rfl)) ?_
             try (go_wp2_with fail)
             go_meet
             exact ⟨(x != y), rfl, (by have h := HB.out; first | exact h | simpa using h), HX.out⟩
            ·
             have f5 : (x != 0) = true := by simpa using c5
             have HB : Aside0 (true = false ↔ (x = 4611686018427387904 ∨ (-1099511627776 ≤ x ∧ x ≤ 1099511627776)) ∧ (i = j → x = 0) ∧ x = y) := ⟨by constructor; (intro h; cases h); intro h; exfalso; omega⟩
             clear c1 c4 c5
             go_quiet (fail)
             go_wp2_with fail
             go_meet
             exact ⟨true, rfl, (by have h := HB.out; first | exact h | simpa using h), (by repeat (first | exact HX.out | (with_reducible apply Box1.drewN) | (with_reducible apply Box1.drew) | (with_reducible apply Box1.alloc)))⟩
           ·
            have f4 : (i == j) = false := by simpa using c4
            have HB : Aside0 ((x != y) = false ↔ (x = 4611686018427387904 ∨ (-1099511627776 ≤ x ∧ x ≤ 1099511627776)) ∧ (i = j → x = 0) ∧ x = y) := ⟨by simp only [bne_eq_false_iff_eq]; constructor <;> intro h <;> omega⟩
            clear c1 c4
            have n_ := Aside0.mk HX.out.drew
            clear HX hx0 hx1
            have HX := n_
            clear n_
            refine start_ (n := 29) (S := fun w' => w'.cell? ⟨w.heap.size + 1, 0, none⟩ = some (.int .i64 n2) ∧ w'.cell? ⟨w.heap.size + 1, 1, none⟩ = some (.slice A0_1 l0_1.length c0_1)) (ds := []) FA0 (by kernel_rfl) rfl rfl HX.out.two (fun hHeld => ?_); refine with_tabW oct_Fit.tab14 oct_Fit.bits14 (fun HT_ HW_ => ?_)
            generalize w1.drew = w2 at HX hHeld ⊢
            refine pV_ 0 52 FA1 HT_ ?_
            refine pV_ 1 53 FA2 HT_ ?_
            refine pV_ 2 54 FA3 HT_ ?_
            refine pU_ 3 55 FA4 HT_ ?_
            refine pU_ 4 56 FA5 HT_ ?_
            refine pU_ 5 57 FA6 HT_ ?_
            refine pU_ 6 58 FA7 HT_ ?_
            refine pU_ 7 59 FA8 HT_ ?_
            refine pU_ 8 60 FA9 HT_ ?_
            refine pV_ 9 61 FA10 HT_ ?_
            refine pV_ 10 62 FA11 HT_ ?_
            refine pV_ 11 63 FA12 HT_ ?_
            refine pV_ 12 64 FA13 HT_ ?_
            refine pV_ 13 65 FA14 HT_ ?_
            refine pV_ 14 66 FA15 HT_ ?_
            refine pU_ 15 67 FA16 HT_ ?_
            refine pU_ 16 68 FA17 HT_ ?_
            refine pV_ 17 69 FA18 HT_ ?_
            refine pV_ 18 70 FA19 HT_ ?_
            refine pV_ 19 71 FA20 HT_ ?_
            refine pV_ 20 72 FA21 HT_ ?_
            refine pV_ 22 74 FA22 HT_ ?_
            refine pV_ 24 76 FA23 HT_ ?_
            refine tV_ 21 73 FA24 HT_ HW_ hHeld ?_
            refine one_ (i := 23) (N := some 75) FA25 rfl rfl (one_of HT_.out (by kernel_rfl)) (by decide) (fun K hK => ?_)
            refine goes_ Try.func52 (by kernel_rfl) rfl #[.int .i64 j] (by rfl) rfl rfl vL ?_
            with_reducible refine (B1.out _).mono ?_
            rintro e w' ⟨rfl, ⟨nd, rfl⟩⟩
            refine ⟨_, rfl, ?_⟩
            have n_ := Aside0.mk (HX.out.drewN nd)
            clear HX
            have HX := n_
            clear n_
            refine hK.out _ _ HX.out.two (fun hHeld => ?_)
            clear hK K
            refine norm_ (a' := ?_) ?_ ?_
            rotate_left
            ·
             show Act.put _ (some 75) _ = _; simp only [Act.put, List.setIfInBounds_toArray, List.set_cons_zero, List.set_cons_succ, i64_w, i32_w]; rfl
            refine one_ (i := 25) (N := some 77) FA26 rfl rfl (one_of HT_.out (by kernel_rfl)) (by decide) (fun K hK => ?_)
            refine goes_ Try.func52 (by kernel_rfl) rfl #[.int .i64 i] (by rfl) rfl rfl vL ?_
            with_reducible refine (B2.out _).mono ?_
            rintro e w' ⟨rfl, ⟨nd, rfl⟩⟩
            refine ⟨_, rfl, ?_⟩
            have n_ := Aside0.mk (HX.out.drewN nd)
            clear HX
            have HX := n_
            clear n_
            refine hK.out _ _ HX.out.two (fun hHeld => ?_)
            clear hK K
            refine norm_ (a' := ?_) ?_ ?_
            rotate_left
            ·
             show Act.put _ (some 77) _ = _; simp only [Act.put, List.setIfInBounds_toArray, List.set_cons_zero, List.set_cons_succ, i64_w, i32_w]; rfl
            refine one_ (i := 26) (N := some 78) FA27 rfl rfl (one_of HT_.out (by kernel_rfl)) (by decide) (fun K hK => ?_)
            refine goes_ Try.func51 (by kernel_rfl) rfl #[.agg #[.int .i64 n2, .slice A0_1 l0_1.length c0_1], .int .i64 p, .int .i64 q] (by rfl) rfl rfl vL ?_
            with_reducible refine (C2.out _ ?s1).mono ?_
            (case s1 => exact Kd.C_below HR1.out HX.out.below)
            rintro e w3 ⟨rfl, hb⟩
            refine ⟨_, rfl, ?_⟩
            have n_ := Aside0.mk (HX.out.next hb)
            clear HX hb
            have HX := n_
            clear n_
            refine hK.out _ _ HX.out.two (fun hHeld => ?_)
            clear hK K
            refine norm_ (a' := ?_) ?_ ?_
            rotate_left
            ·
             show Act.put _ (some 78) _ = _; simp only [Act.put, List.setIfInBounds_toArray, List.set_cons_zero, List.set_cons_succ, i64_w, i32_w]; rfl
            refine pV_ 27 79 FA28 HT_ ?_
            refine pV_ 28 80 FA29 HT_ ?_
            refine done_ (done_of HT_.out (by kernel_rfl)) ?_
            try (go_wp2_with fail)
            go_meet
            exact ⟨(x != y), rfl, (by have h := HB.out; first | exact h | simpa using h), HX.out⟩
          ·
           have f1 : (x != 4611686018427387904) = true := by simpa using c1
           by_cases c2 : x < -1099511627776
           ·
            have f2 : decide (x < -1099511627776) = true := decide_eq_true c2
            have HB : Aside0 (true = false ↔ (x = 4611686018427387904 ∨ (-1099511627776 ≤ x ∧ x ≤ 1099511627776)) ∧ (i = j → x = 0) ∧ x = y) := ⟨by constructor; (intro h; cases h); intro h; exfalso; omega⟩
            clear c1 c2
            go_quiet (fail)
            go_wp2_with fail
            go_meet
            exact ⟨true, rfl, (by have h := HB.out; first | exact h | simpa using h), (by repeat (first | exact HX.out | (with_reducible apply Box1.drewN) | (with_reducible apply Box1.drew) | (with_reducible apply Box1.alloc)))⟩
           ·
            have f2 : decide (x < -1099511627776) = false := decide_eq_false c2
            by_cases c3 : 1099511627776 < x
            ·
             have f3 : decide (1099511627776 < x) = true := decide_eq_true c3
             have HB : Aside0 (true = false ↔ (x = 4611686018427387904 ∨ (-1099511627776 ≤ x ∧ x ≤ 1099511627776)) ∧ (i = j → x = 0) ∧ x = y) := ⟨by constructor; (intro h; cases h); intro h; exfalso; omega⟩
             clear c1 c2 c3
             go_quiet (fail)
             go_wp2_with fail
             go_meet
             exact ⟨true, rfl, (by have h := HB.out; first | exact h | simpa using h), (by repeat (first | exact HX.out | (with_reducible apply Box1.drewN) | (with_reducible apply Box1.drew) | (with_reducible apply Box1.alloc)))⟩
            ·
             have f3 : decide (1099511627776 < x) = false := decide_eq_false c3
             by_cases c4 : i = j
             ·
              have f4 : (i == j) = true := by simpa using c4
              by_cases c5 : x = 0
              ·
               have f5 : (x != 0) = false := by rw [c5]; rfl
               have HB : Aside0 ((x != y) = false ↔ (x = 4611686018427387904 ∨ (-1099511627776 ≤ x ∧ x ≤ 1099511627776)) ∧ (i = j → x = 0) ∧ x = y) := ⟨by simp only [bne_eq_false_iff_eq]; constructor <;> intro h <;> omega⟩
               clear c1 c2 c3 c4 c5
               have n_ := Aside0.mk HX.out.drew
               clear HX hx0 hx1
               have HX := n_
               clear n_
               refine start_ (n := 29) (S := fun w' => w'.cell? ⟨w.heap.size + 1, 0, none⟩ = some (.int .i64 n2) ∧ w'.cell? ⟨w.heap.size + 1, 1, none⟩ = some (.slice A0_1 l0_1.length c0_1)) (ds := []) FA0 (by kernel_rfl) rfl rfl HX.out.two (fun hHeld => ?_); refine with_tabW oct_Fit.tab14 oct_Fit.bits14 (fun HT_ HW_ => ?_)
               generalize w1.drew = w2 at HX hHeld ⊢
               refine pV_ 0 52 FA1 HT_ ?_
               refine pV_ 1 53 FA2 HT_ ?_
               refine pV_ 2 54 FA3 HT_ ?_
               refine pV_ 3 55 FA4 HT_ ?_
               refine pV_ 4 56 FA5 HT_ ?_
               refine pV_ 5 57 FA6 HT_ ?_
               refine pV_ 6 58 FA7 HT_ ?_
               refine pV_ 7 59 FA8 HT_ ?_
               refine pV_ 8 60 FA9 HT_ ?_
               refine pV_ 9 61 FA10 HT_ ?_
               refine pV_ 10 62 FA11 HT_ ?_
               refine pV_ 11 63 FA12 HT_ ?_
               refine pV_ 12 64 FA13 HT_ ?_
               refine pV_ 13 65 FA14 HT_ ?_
               refine pV_ 14 66 FA15 HT_ ?_
               refine pV_ 15 67 FA16 HT_ ?_
               refine pV_ 16 68 FA17 HT_ ?_
               refine pV_ 17 69 FA18 HT_ ?_
               refine pV_ 18 70 FA19 HT_ ?_
               refine pV_ 19 71 FA20 HT_ ?_
               refine pV_ 20 72 FA21 HT_ ?_
               refine pV_ 22 74 FA22 HT_ ?_
               refine pV_ 24 76 FA23 HT_ ?_
               refine tV_ 21 73 FA24 HT_ HW_ hHeld ?_
               refine one_ (i := 23) (N := some 75) FA25 rfl rfl (one_of HT_.out (by kernel_rfl)) (by decide) (fun K hK => ?_)
               refine goes_ Try.func52 (by kernel_rfl) rfl #[.int .i64 j] (by rfl) rfl rfl vL ?_
               with_reducible refine (B1.out _).mono ?_
               rintro e w' ⟨rfl, ⟨nd, rfl⟩⟩
               refine ⟨_, rfl, ?_⟩
               have n_ := Aside0.mk (HX.out.drewN nd)
               clear HX
               have HX := n_
               clear n_
               refine hK.out _ _ HX.out.two (fun hHeld => ?_)
               clear hK K
               refine norm_ (a' := ?_) ?_ ?_
               rotate_left
               ·
                show Act.put _ (some 75) _ = _; simp only [Act.put, List.setIfInBounds_toArray, List.set_cons_zero, List.set_cons_succ, i64_w, i32_w]; rfl
               refine one_ (i := 25) (N := some 77) FA26 rfl rfl (one_of HT_.out (by kernel_rfl)) (by decide) (fun K hK => ?_)
               refine goes_ Try.func52 (by kernel_rfl) rfl #[.int .i64 i] (by rfl) rfl rfl vL ?_
               with_reducible refine (B2.out _).mono ?_
               rintro e w' ⟨rfl, ⟨nd, rfl⟩⟩
               refine ⟨_, rfl, ?_⟩
               have n_ := Aside0.mk (HX.out.drewN nd)
               clear HX
               have HX := n_
               clear n_
               refine hK.out _ _ HX.out.two (fun hHeld => ?_)
               clear hK K
               refine norm_ (a' := ?_) ?_ ?_
               rotate_left
               ·
                show Act.put _ (some 77) _ = _; simp only [Act.put, List.setIfInBounds_toArray, List.set_cons_zero, List.set_cons_succ, i64_w, i32_w]; rfl
               refine one_ (i := 26) (N := some 78) FA27 rfl rfl (one_of HT_.out (by kernel_rfl)) (by decide) (fun K hK => ?_)
               refine goes_ Try.func51 (by kernel_rfl) rfl #[.agg #[.int .i64 n2, .slice A0_1 l0_1.length c0_1], .int .i64 p, .int .i64 q] (by rfl) rfl rfl vL ?_
               with_reducible refine (C2.out _ ?s1).mono ?_
               (case s1 => exact Kd.C_below HR1.out HX.out.below)
               rintro e w3 ⟨rfl, hb⟩
               refine ⟨_, rfl, ?_⟩
               have n_ := Aside0.mk (HX.out.next hb)
               clear HX hb
               have HX := n_
               clear n_
               refine hK.out _ _ HX.out.two (fun hHeld => ?_)
               clear hK K
               refine norm_ (a' := ?_) ?_ ?_
               rotate_left
               ·
                show Act.put _ (some 78) _ = _; simp only [Act.put, List.setIfInBounds_toArray, List.set_cons_zero, List.set_cons_succ, i64_w, i32_w]; rfl
               refine pV_ 27 79 FA28 HT_ ?_
               refine pV_ 28 80 FA29 HT_ ?_
               refine done_ (done_of HT_.out (by kernel_rfl)) ?_
               try (go_wp2_with fail)
               go_meet
               exact ⟨(x != y), rfl, (by have h := HB.out; first | exact h | simpa using h), HX.out⟩
              ·
               have f5 : (x != 0) = true := by simpa using c5
               have HB : Aside0 (true = false ↔ (x = 4611686018427387904 ∨ (-1099511627776 ≤ x ∧ x ≤ 1099511627776)) ∧ (i = j → x = 0) ∧ x = y) := ⟨by constructor; (intro h; cases h); intro h; exfalso; omega⟩
               clear c1 c2 c3 c4 c5
               go_quiet (fail)
               go_wp2_with fail
               go_meet
               exact ⟨true, rfl, (by have h := HB.out; first | exact h | simpa using h), (by repeat (first | exact HX.out | (with_reducible apply Box1.drewN) | (with_reducible apply Box1.drew) | (with_reducible apply Box1.alloc)))⟩
             ·
              have f4 : (i == j) = false := by simpa using c4
              have HB : Aside0 ((x != y) = false ↔ (x = 4611686018427387904 ∨ (-1099511627776 ≤ x ∧ x ≤ 1099511627776)) ∧ (i = j → x = 0) ∧ x = y) := ⟨by simp only [bne_eq_false_iff_eq]; constructor <;> intro h <;> omega⟩
              clear c1 c2 c3 c4
              have n_ := Aside0.mk HX.out.drew
              clear HX hx0 hx1
              have HX := n_
              clear n_
              refine start_ (n := 29) (S := fun w' => w'.cell? ⟨w.heap.size + 1, 0, none⟩ = some (.int .i64 n2) ∧ w'.cell? ⟨w.heap.size + 1, 1, none⟩ = some (.slice A0_1 l0_1.length c0_1)) (ds := []) FA0 (by kernel_rfl) rfl rfl HX.out.two (fun hHeld => ?_); refine with_tabW oct_Fit.tab14 oct_Fit.bits14 (fun HT_ HW_ => ?_)
              generalize w1.drew = w2 at HX hHeld ⊢
              refine pV_ 0 52 FA1 HT_ ?_
              refine pV_ 1 53 FA2 HT_ ?_
              refine pV_ 2 54 FA3 HT_ ?_
              refine pV_ 3 55 FA4 HT_ ?_
              refine pV_ 4 56 FA5 HT_ ?_
              refine pV_ 5 57 FA6 HT_ ?_
              refine pV_ 6 58 FA7 HT_ ?_
              refine pV_ 7 59 FA8 HT_ ?_
              refine pV_ 8 60 FA9 HT_ ?_
              refine pV_ 9 61 FA10 HT_ ?_
              refine pV_ 10 62 FA11 HT_ ?_
              refine pV_ 11 63 FA12 HT_ ?_
              refine pV_ 12 64 FA13 HT_ ?_
              refine pV_ 13 65 FA14 HT_ ?_
              refine pV_ 14 66 FA15 HT_ ?_
              refine pU_ 15 67 FA16 HT_ ?_
              refine pU_ 16 68 FA17 HT_ ?_
              refine pV_ 17 69 FA18 HT_ ?_
              refine pV_ 18 70 FA19 HT_ ?_
              refine pV_ 19 71 FA20 HT_ ?_
              refine pV_ 20 72 FA21 HT_ ?_
              refine pV_ 22 74 FA22 HT_ ?_
              refine pV_ 24 76 FA23 HT_ ?_
              refine tV_ 21 73 FA24 HT_ HW_ hHeld ?_
              refine one_ (i := 23) (N := some 75) FA25 rfl rfl (one_of HT_.out (by kernel_rfl)) (by decide) (fun K hK => ?_)
              refine goes_ Try.func52 (by kernel_rfl) rfl #[.int .i64 j] (by rfl) rfl rfl vL ?_
              with_reducible refine (B1.out _).mono ?_
              rintro e w' ⟨rfl, ⟨nd, rfl⟩⟩
              refine ⟨_, rfl, ?_⟩
              have n_ := Aside0.mk (HX.out.drewN nd)
              clear HX
              have HX := n_
              clear n_
              refine hK.out _ _ HX.out.two (fun hHeld => ?_)
              clear hK K
              refine norm_ (a' := ?_) ?_ ?_
              rotate_left
              ·
               show Act.put _ (some 75) _ = _; simp only [Act.put, List.setIfInBounds_toArray, List.set_cons_zero, List.set_cons_succ, i64_w, i32_w]; rfl
              refine one_ (i := 25) (N := some 77) FA26 rfl rfl (one_of HT_.out (by kernel_rfl)) (by decide) (fun K hK => ?_)
              refine goes_ Try.func52 (by kernel_rfl) rfl #[.int .i64 i] (by rfl) rfl rfl vL ?_
              with_reducible refine (B2.out _).mono ?_
              rintro e w' ⟨rfl, ⟨nd, rfl⟩⟩
              refine ⟨_, rfl, ?_⟩
              have n_ := Aside0.mk (HX.out.drewN nd)
              clear HX
              have HX := n_
              clear n_
              refine hK.out _ _ HX.out.two (fun hHeld => ?_)
              clear hK K
              refine norm_ (a' := ?_) ?_ ?_
              rotate_left
              ·
               show Act.put _ (some 77) _ = _; simp only [Act.put, List.setIfInBounds_toArray, List.set_cons_zero, List.set_cons_succ, i64_w, i32_w]; rfl
              refine one_ (i := 26) (N := some 78) FA27 rfl rfl (one_of HT_.out (by kernel_rfl)) (by decide) (fun K hK => ?_)
              refine goes_ Try.func51 (by kernel_rfl) rfl #[.agg #[.int .i64 n2, .slice A0_1 l0_1.length c0_1], .int .i64 p, .int .i64 q] (by rfl) rfl rfl vL ?_
              with_reducible refine (C2.out _ ?s1).mono ?_
              (case s1 => exact Kd.C_below HR1.out HX.out.below)
              rintro e w3 ⟨rfl, hb⟩
              refine ⟨_, rfl, ?_⟩
              have n_ := Aside0.mk (HX.out.next hb)
              clear HX hb
              have HX := n_
              clear n_
              refine hK.out _ _ HX.out.two (fun hHeld => ?_)
              clear hK K
              refine norm_ (a' := ?_) ?_ ?_
              rotate_left
              ·
               show Act.put _ (some 78) _ = _; simp only [Act.put, List.setIfInBounds_toArray, List.set_cons_zero, List.set_cons_succ, i64_w, i32_w]; rfl
              refine pV_ 27 79 FA28 HT_ ?_
              refine pV_ 28 80 FA29 HT_ ?_
              refine done_ (done_of HT_.out (by kernel_rfl)) ?_
              try (go_wp2_with fail)
              go_meet
              exact ⟨(x != y), rfl, (by have h := HB.out; first | exact h | simpa using h), HX.out⟩
         case rest =>
          obtain ⟨b, rfl, hb, hX⟩ := hcut
          clear HX hx0 hx1 C1 C2 B1 B2
          have HX := Aside0.mk hX
          have HB := Aside0.mk (hb.trans HXY.out.symm)
          clear hX hb HXY
          cases b with
          | true =>
           go_wp2
           go_ret
           refine ⟨?_, HX.out.below⟩
           have h1 := HI.out; have h2 := HL.out; have h3 := HJ.out; have h4 := HK.out
           rw [← HV.out, ofitB_false.2 (fun h => by have := (h.2.2 rfl).2 i j h1.1 (by rw [HN.out]; exact h2) h3.1 (by rw [HN.out]; exact h4); rw [HN.out] at this; exact absurd (HB.out.2 this) (by simp))]
           rfl
          | false =>
           go_wp2
           go_roundg (n2.toNat - (j.toNat + 1))
           case measure => have h1 := HJ.out; have h2 := HK.out; omega
           case rel =>
            have h1 := HJ.out; have h2 := HK.out; have h3 := HT.out.1; have h4 := HN.out
            have hw : wrap64 (j + 1) = j + 1 := by unfold wrap64; omega
            refine ⟨wrap64 (j + 1), rfl, ⟨by omega, by omega, by omega⟩, ⟨HX.out⟩, ⟨fun b b0 b1 => ?_⟩⟩
            by_cases e : b = j
            ·
             subst e; exact HB.out.1 (by first | rfl | trivial)
            ·
             exact HE.out b b0 (by omega)
        ·
         have f3 : decide (j < n2) = false := decide_eq_false hlt
         have HK := Aside0.mk hlt
         clear hlt
         go_wp2
         go_roundg (n2.toNat - (i.toNat + 1))
         case measure => have h1 := HI.out; have h2 := HL.out; omega
         case rel =>
          have h1 := HI.out; have h2 := HL.out; have h3 := HT.out.1; have h4 := HN.out; have h5 := HK.out; have h6 := HJ.out
          have hw : wrap64 (i + 1) = i + 1 := by unfold wrap64; omega
          refine ⟨wrap64 (i + 1), rfl, ⟨by omega, by omega, by omega⟩, ⟨HX.out⟩, ⟨fun a b a0 a1 b0 b1 => ?_⟩⟩
          by_cases e : a = i
          ·
           subst e; exact HE.out b b0 (by omega)
          ·
           exact HA.out a b a0 (by omega) b0 b1
      ·
       have f2 : decide (i < n2) = false := decide_eq_false hlt
       have HL := Aside0.mk hlt
       clear hlt
       go_wp2
       go_ret
       have h1 := HI.out; have h2 := HL.out
       refine ⟨?_, HX.out.below⟩
       rw [← HV.out, ofitB_true.2 ⟨HT.out, fun h => (by cases h), fun _ => ⟨by rw [HN.out, HNN.out]; exact HZ.out, fun a b a0 a1 b0 b1 => by rw [HN.out] at a1 b1 ⊢; exact HA.out a b a0 (by omega) b0 b1⟩⟩]
       rfl
    ·
     have f1 : ((l0_1.length : Int) != nn) = true := by simpa using hz
     have HZ := Aside0.mk hz
     have HN := Aside0.mk hn2
     have HNN := Aside0.mk hnn
     clear hz hn2 hnn hnn2 hl8
     go_enter Try.func18, Try.ntmps18
     go_wp2_with (go_at_call 46; (with_reducible refine (HM.out _ ?side1).mono ?_); (case side1 => repeat (first | exact HR0.out | (with_reducible refine Kd.C_alloc ?_ _) | (with_reducible refine Kd.C_drewN ?_ _) | (with_reducible refine Kd.C_drew ?_))); rintro e w1 ⟨rfl, ⟨nd, rfl⟩⟩)
     go_ret
     refine ⟨?_, by repeat (first | exact Below.refl _ _ | (with_reducible apply below_alloc) | (with_reducible apply pw_below_drewN) | (with_reducible apply below_drew))⟩
     rw [← HV.out, ofitB_false.2 (fun h => HZ.out (by rw [(h.2.2 rfl).1, HN.out, HNN.out]))]
     rfl
 ·
  rw [if_neg hlen] at h
  cases h
end Go.Proofs.Ytomgebmimgaojaa.QO
end
section
noncomputable section
namespace Go.Proofs.Ytomgebmimgaojaa.QO
open Go.RowKit Go.Proofs.YtomgebmimgaojaaW.PrintWords Go.Proofs.YtomgebmimgaojaaW.PrintLast
set_option linter.unusedVariables false
set_option linter.unusedSimpArgs false
def tableV (n : Int) (A : Option Addr) (len cap : Nat) : Value := .iface 85 (.agg #[.int .i64 n, .slice A len cap])
set_option maxHeartbeats 8000000 in
set_option maxRecDepth 100000 in
theorem oct_of_any (A0 : Option Addr) (n0 c0 : Nat) (A1 : Option Addr) (n1 c1 : Nat) (b : Bool) (w : World) (hn : n0 ≤ 17592186044416) :
 Calls Try.prog 55 #[.agg #[.slice A0 n0 c0, .slice A1 n1 c1, .bool b]] w fun e w' => e = .returned (tableV (2 * (n0 : Int)) A1 n1 c1) ∧ Below w.heap.size w w' := by
 have hu25 := Try.underlying25
 have hw : wrap64 (2 * (n0 : Int)) = 2 * (n0 : Int) := by unfold wrap64; omega
 have hw2 : IntKind.i64.wrap (2 * (n0 : Int)) = 2 * (n0 : Int) := by rw [IntKind.wrap_i64]; omega
 clear hn
 go_enter Try.func55, Try.ntmps55
 go_wp2
 go_ret
 exact ⟨rfl, below_alloc (Below.refl _ _) _⟩
theorem meth_size (m : Int) (A : Option Addr) (n c : Nat) (w : World) : (method 213 85 (.agg #[.int .i64 m, .slice A n c]) "gimbal/oct.size").run Try.prog w = .ok (110, .agg #[.int .i64 m, .slice A n c]) w := by kernel_rfl
theorem meth_at (m : Int) (A : Option Addr) (n c : Nat) (w : World) : (method 213 85 (.agg #[.int .i64 m, .slice A n c]) "gimbal/oct.at").run Try.prog w = .ok (111, .agg #[.int .i64 m, .slice A n c]) w := by kernel_rfl
set_option maxHeartbeats 8000000 in
set_option maxRecDepth 100000 in
theorem oct_size_any (m : Int) (A : Option Addr) (n c : Nat) (w : World) :
 Calls Try.prog 110 #[.agg #[.int .i64 m, .slice A n c]] w fun e w' => e = .returned (.int .i64 m) ∧ Below w.heap.size w w' := by
 have hu58 := Try.underlying58
 go_enter Try.func110, Try.ntmps110
 go_wp2
 go_ret
 exact ⟨rfl, below_alloc (Below.refl _ _) _⟩
def lowAt (n2 : Int) (m : List Int) (i j : Int) : Int := if j / 2 > i / 2 then rd m (nbar j * n2 + nbar i) else rd m (i * n2 + j)
set_option maxHeartbeats 8000000 in
set_option maxRecDepth 100000 in
theorem oct_lower_at_any (n : Nat) (A : Option Addr) (c : Nat) (m : List Int) (i j : Int) (w : World) (hr : Kd.C (Kd.int .i64) w A m.length m) (hc : m.length ≤ c) (hn : n ≤ 8) (hm : (m.length : Int) = (2 * (n : Int)) * (2 * (n : Int)))
 (h0 : 0 ≤ i) (h1 : i < 2 * (n : Int)) (h2 : 0 ≤ j) (h3 : j < 2 * (n : Int)) :
 Calls Try.prog 111 #[.agg #[.int .i64 (2 * (n : Int)), .slice A m.length c], .int .i64 i, .int .i64 j] w fun e w' => e = .returned (.int .i64 (lowAt (2 * (n : Int)) m i j)) ∧ Below w.heap.size w w' := by
 have hu58 := Try.underlying58
 have hu85 := Try.underlying85
 have nj := nbar_in (i := j) (n := n) h2 h3
 have ni := nbar_in (i := i) (n := n) h0 h1
 have a1 := at_ok (n := n) (m := m) (i := i) (j := j) hn hm h0 h1 h2 h3
 have a2 := at_ok (n := n) (m := m) (i := nbar j) (j := nbar i) hn hm nj.1 nj.2 ni.1 ni.2
 have b1 : oct_bar.f j = some (nbar j) := by unfold oct_bar.f; rw [if_pos ⟨h2, by omega⟩]
 have b2 : oct_bar.f i = some (nbar i) := by unfold oct_bar.f; rw [if_pos ⟨h0, by omega⟩]
 have HR := Aside0.mk hr
 obtain ⟨i2, hi2⟩ : ∃ i2 : Int, i / 2 = i2 := ⟨_, rfl⟩
 obtain ⟨j2, hj2⟩ : ∃ j2 : Int, j / 2 = j2 := ⟨_, rfl⟩
 have d1 : i.tdiv 2 = i2 := by rw [Int.tdiv_eq_ediv_of_nonneg h0]; exact hi2
 have d2 : j.tdiv 2 = j2 := by rw [Int.tdiv_eq_ediv_of_nonneg h2]; exact hj2
 have d3 : wrap64 i2 = i2 := by unfold wrap64; omega
 have d4 : wrap64 j2 = j2 := by unfold wrap64; omega
 by_cases hlt : j / 2 > i / 2
 ·
  have e : lowAt (2 * (n : Int)) m i j = rd m (nbar j * (2 * (n : Int)) + nbar i) := by unfold lowAt; rw [if_pos hlt]
  rw [e]
  obtain ⟨n2, hn2⟩ : ∃ n2 : Int, 2 * (n : Int) = n2 := ⟨_, rfl⟩
  rw [hn2] at a2 ⊢
  obtain ⟨p, hp⟩ : ∃ p, nbar j = p := ⟨_, rfl⟩
  obtain ⟨q, hq⟩ : ∃ q, nbar i = q := ⟨_, rfl⟩
  rw [hp, hq] at a2 ⊢
  rw [hp] at b1
  rw [hq] at b2
  obtain ⟨y, hy⟩ : ∃ y, rd m (p * n2 + q) = y := ⟨_, rfl⟩
  rw [hy] at a2 ⊢
  have C2 := Aside0.mk (fun W (hW : Kd.C (Kd.int .i64) W A m.length m) => oct_full_at.calls n2 A c m p q y W hW hc a2)
  have B1 := Aside0.mk (fun W => oct_bar_still j p W b1)
  have B2 := Aside0.mk (fun W => oct_bar_still i q W b2)
  have f1 : decide (i2 < j2) = true := decide_eq_true (by omega)
  clear nj ni a1 a2 b1 b2 hr hlt hi2 hj2 e hy hp hq hm hn hn2 h1 h3 h0 h2 hc
  go_enter Try.func111, Try.ntmps111
  go_wp2_with (first | (go_at_call 52; (with_reducible refine (B1.out _).mono ?_); rintro e w' ⟨rfl, rfl⟩) | (go_at_call 52; (with_reducible refine (B2.out _).mono ?_); rintro e w' ⟨rfl, rfl⟩) | (go_at_call 51; (with_reducible refine (C2.out _ ?s1).mono ?_); (case s1 => exact Kd.C_alloc HR.out _); rintro e w1 ⟨rfl, hb⟩))
  go_ret
  exact ⟨rfl, (below_alloc (Below.refl _ _) _).trans (hb.mono (by simp))⟩
 ·
  have e : lowAt (2 * (n : Int)) m i j = rd m (i * (2 * (n : Int)) + j) := by unfold lowAt; rw [if_neg hlt]
  rw [e]
  obtain ⟨n2, hn2⟩ : ∃ n2 : Int, 2 * (n : Int) = n2 := ⟨_, rfl⟩
  rw [hn2] at a1 ⊢
  obtain ⟨y, hy⟩ : ∃ y, rd m (i * n2 + j) = y := ⟨_, rfl⟩
  rw [hy] at a1 ⊢
  have C1 := Aside0.mk (fun W (hW : Kd.C (Kd.int .i64) W A m.length m) => oct_full_at.calls n2 A c m i j y W hW hc a1)
  have f1 : decide (i2 < j2) = false := decide_eq_false (by omega)
  clear nj ni a1 a2 b1 b2 hr hlt hi2 hj2 e hy hm hn hn2 h1 h3 h0 h2 hc
  go_enter Try.func111, Try.ntmps111
  go_wp2_with (go_at_call 51; (with_reducible refine (C1.out _ ?s1).mono ?_); (case s1 => exact Kd.C_alloc HR.out _); rintro e w1 ⟨rfl, hb⟩)
  go_ret
  exact ⟨rfl, (below_alloc (Below.refl _ _) _).trans (hb.mono (by simp))⟩
end Go.Proofs.Ytomgebmimgaojaa.QO
end
end
section
noncomputable section
namespace Go.Proofs.Ytomgebmimgaojaa.QO
open Go.RowKit Go.Proofs.YtomgebmimgaojaaW.PrintWords Go.Proofs.YtomgebmimgaojaaW.PrintLast
set_option linter.unusedVariables false
set_option linter.unusedSimpArgs false
def bfit (a : Int) : Int := if a < -4611686018427387904 then -4611686018427387904 else if a > 4611686018427387904 then 4611686018427387904 else a
theorem bfit_in (a : Int) : -4611686018427387904 ≤ bfit a ∧ bfit a ≤ 4611686018427387904 := by unfold bfit; split <;> (try split) <;> omega
theorem bfit_id {a : Int} (h : -4611686018427387904 ≤ a) (h' : a ≤ 4611686018427387904) : bfit a = a := by unfold bfit; rw [if_neg (by omega), if_neg (by omega)]
theorem w64 {x : Int} (h : -9223372036854775808 ≤ x) (h' : x ≤ 9223372036854775807) : wrap64 x = x := by unfold wrap64; omega
def bound_Fit.f (a0 : Int) : Option (Int) := some (bfit a0)
set_option maxHeartbeats 8000000 in
set_option maxRecDepth 100000 in
theorem bound_Fit.calls (a0 : Int) (r : Int) (w : World) (h : bound_Fit.f a0 = some r) :
 Calls Try.prog 83 #[.int .i64 a0] w fun e w' => e = .returned (.int .i64 r) ∧ Drawn0 w w' := by
 obtain rfl := Option.some.inj h
 clear h
 go_enter Try.func83, Try.ntmps83
 go_wp2
 all_goals
  go_ret
  refine ⟨?_, Drawn0.refl _⟩
  first
   | (rw [show bfit a0 = 4611686018427387904 by unfold bfit; (repeat' split) <;> omega]; rfl)
   | (rw [show bfit a0 = -4611686018427387904 by unfold bfit; (repeat' split) <;> omega]; rfl)
   | (rw [show bfit a0 = a0 by unfold bfit; (repeat' split) <;> omega]; rfl)
end Go.Proofs.Ytomgebmimgaojaa.QO
end
end
section
noncomputable section
namespace Go.Proofs.Ytomgebmimgaojaa.QO
open Go.RowKit Go.Proofs.YtomgebmimgaojaaW.PrintWords Go.Proofs.YtomgebmimgaojaaW.PrintLast
set_option linter.unusedVariables false
set_option linter.unusedSimpArgs false
def bound_Up.f (a0 : Int) (a1 : Int) : Option (Int) := (bound_Fit.f a0).bind fun t227 => ((bound_Fit.f a1).bind fun t228 => (if t227 = 4611686018427387904 then (some 4611686018427387904) else (if t228 = 4611686018427387904 then (some 4611686018427387904) else (some (mn (mx (wrap64 (t227 + t228)) (-4611686018427387903)) 4611686018427387904)))))
set_option maxHeartbeats 8000000 in
set_option maxRecDepth 100000 in
theorem bound_Up.calls (a0 : Int) (a1 : Int) (r : Int) (w : World) (h : bound_Up.f a0 a1 = some r) :
 Calls Try.prog 57 #[.int .i64 a0, .int .i64 a1] w fun e w' => e = .returned (.int .i64 r) ∧ Below w.heap.size w w' := by
 have HB := Aside0.mk (Below.refl w.heap.size w)
 have H : ((bound_Fit.f a0).bind fun t227 => ((bound_Fit.f a1).bind fun t228 => (if t227 = 4611686018427387904 then (some 4611686018427387904) else (if t228 = 4611686018427387904 then (some 4611686018427387904) else (some (mn (mx (wrap64 (t227 + t228)) (-4611686018427387903)) 4611686018427387904)))))) = some r := h
 clear h
 replace H := Option.bind_eq_some_iff.mp H
 obtain ⟨t227, A30, H⟩ := H
 replace H : ((bound_Fit.f a1).bind fun t228 => (if t227 = 4611686018427387904 then (some 4611686018427387904) else (if t228 = 4611686018427387904 then (some 4611686018427387904) else (some (mn (mx (wrap64 (t227 + t228)) (-4611686018427387903)) 4611686018427387904))))) = some r := H
 have A3 := Aside0.mk A30
 clear A30
 replace H := Option.bind_eq_some_iff.mp H
 obtain ⟨t228, A40, H⟩ := H
 replace H : (if t227 = 4611686018427387904 then (some 4611686018427387904) else (if t228 = 4611686018427387904 then (some 4611686018427387904) else (some (mn (mx (wrap64 (t227 + t228)) (-4611686018427387903)) 4611686018427387904)))) = some r := H
 have A4 := Aside0.mk A40
 clear A40
 by_cases c5 : t227 = 4611686018427387904
 ·
  rw [if_pos c5] at H
  have c5b0 : (t227 == 4611686018427387904) = true := beq_iff_eq.mpr c5
  have c5b1 : (t227 != 4611686018427387904) = false := bne_eq_false_iff_eq.mpr c5
  clear c5
  obtain rfl := Option.some.inj H
  go_enter Try.func57, Try.ntmps57
  go_wp2_with (first | ((with_reducible refine gate_callee (f := 83) rfl ?_); refine goesL_ (some 6) rfl rfl Try.func83 (by kernel_rfl) rfl #[.int .i64 a0] rfl (by (try simp only [List.map_toArray, List.map_cons, List.map_nil]); first | done | rfl | (simp only [List.length_drop, List.length_take]; rfl)) ?_; (with_reducible refine (bound_Fit.calls a0 t227 _ A3.out).mono ?_); rintro e w' ⟨rfl, ⟨nd, rfl⟩⟩; refine ⟨_, rfl, ?_⟩) | ((with_reducible refine gate_callee (f := 83) rfl ?_); refine goesL_ (some 8) rfl rfl Try.func83 (by kernel_rfl) rfl #[.int .i64 a1] rfl (by (try simp only [List.map_toArray, List.map_cons, List.map_nil]); first | done | rfl | (simp only [List.length_drop, List.length_take]; rfl)) ?_; (with_reducible refine (bound_Fit.calls a1 t228 _ A4.out).mono ?_); rintro e w' ⟨rfl, ⟨nd, rfl⟩⟩; refine ⟨_, rfl, ?_⟩))
  go_ret
  exact ⟨by first | rfl | (simp [errW_none, errW_some] <;> rfl) | (simp [*, errW_none, errW_some] <;> rfl) | (simp [wrap64]; done), by repeat (first | (with_reducible first | exact HB.out | apply below_alloc | apply pw_below_drewN | apply below_drew1) | exact HB.out)⟩
 ·
  rw [if_neg c5] at H
  have c5b0 : (t227 == 4611686018427387904) = false := beq_eq_false_iff_ne.mpr c5
  have c5b1 : (t227 != 4611686018427387904) = true := bne_iff_ne.mpr c5
  by_cases c6 : t228 = 4611686018427387904
  ·
   rw [if_pos c6] at H
   have c6b0 : (t228 == 4611686018427387904) = true := beq_iff_eq.mpr c6
   have c6b1 : (t228 != 4611686018427387904) = false := bne_eq_false_iff_eq.mpr c6
   clear c6
   obtain rfl := Option.some.inj H
   go_enter Try.func57, Try.ntmps57
   go_wp2_with (first | ((with_reducible refine gate_callee (f := 83) rfl ?_); refine goesL_ (some 6) rfl rfl Try.func83 (by kernel_rfl) rfl #[.int .i64 a0] rfl (by (try simp only [List.map_toArray, List.map_cons, List.map_nil]); first | done | rfl | (simp only [List.length_drop, List.length_take]; rfl)) ?_; (with_reducible refine (bound_Fit.calls a0 t227 _ A3.out).mono ?_); rintro e w' ⟨rfl, ⟨nd, rfl⟩⟩; refine ⟨_, rfl, ?_⟩) | ((with_reducible refine gate_callee (f := 83) rfl ?_); refine goesL_ (some 8) rfl rfl Try.func83 (by kernel_rfl) rfl #[.int .i64 a1] rfl (by (try simp only [List.map_toArray, List.map_cons, List.map_nil]); first | done | rfl | (simp only [List.length_drop, List.length_take]; rfl)) ?_; (with_reducible refine (bound_Fit.calls a1 t228 _ A4.out).mono ?_); rintro e w' ⟨rfl, ⟨nd, rfl⟩⟩; refine ⟨_, rfl, ?_⟩))
   go_ret
   exact ⟨by first | rfl | (simp [errW_none, errW_some] <;> rfl) | (simp [*, errW_none, errW_some] <;> rfl) | (simp [wrap64]; done), by repeat (first | (with_reducible first | exact HB.out | apply below_alloc | apply pw_below_drewN | apply below_drew1) | exact HB.out)⟩
  ·
   rw [if_neg c6] at H
   have c6b0 : (t228 == 4611686018427387904) = false := beq_eq_false_iff_ne.mpr c6
   have c6b1 : (t228 != 4611686018427387904) = true := bne_iff_ne.mpr c6
   obtain ⟨ji7, hji7⟩ : ∃ j_ : Int, (mx (wrap64 (t227 + t228)) (-4611686018427387903)) = j_ := ⟨_, rfl⟩
   replace H : (some (mn (ji7) 4611686018427387904)) = some r := by first | (rw [hji7] at H; exact H) | (simp only [hji7] at H ⊢; exact H)
   (try rw [hji7] at A3)
   (try rw [hji7] at A4)
   have hji7_ : (if (wrap64 (t227 + t228)) < (-4611686018427387903) then (-4611686018427387903) else (wrap64 (t227 + t228))) = ji7 := hji7
   obtain ⟨ji8, hji8⟩ : ∃ j_ : Int, (mn (ji7) 4611686018427387904) = j_ := ⟨_, rfl⟩
   replace H : (some ji8) = some r := by first | (rw [hji8] at H; exact H) | (simp only [hji8] at H ⊢; exact H)
   (try rw [hji8] at A3)
   (try rw [hji8] at A4)
   have hji8_ : (if 4611686018427387904 < (ji7) then 4611686018427387904 else (ji7)) = ji8 := hji8
   obtain rfl := Option.some.inj H
   go_enter Try.func57, Try.ntmps57
   go_wp2_with (first | ((with_reducible refine gate_callee (f := 83) rfl ?_); refine goesL_ (some 6) rfl rfl Try.func83 (by kernel_rfl) rfl #[.int .i64 a0] rfl (by (try simp only [List.map_toArray, List.map_cons, List.map_nil]); first | done | rfl | (simp only [List.length_drop, List.length_take]; rfl)) ?_; (with_reducible refine (bound_Fit.calls a0 t227 _ A3.out).mono ?_); rintro e w' ⟨rfl, ⟨nd, rfl⟩⟩; refine ⟨_, rfl, ?_⟩) | ((with_reducible refine gate_callee (f := 83) rfl ?_); refine goesL_ (some 8) rfl rfl Try.func83 (by kernel_rfl) rfl #[.int .i64 a1] rfl (by (try simp only [List.map_toArray, List.map_cons, List.map_nil]); first | done | rfl | (simp only [List.length_drop, List.length_take]; rfl)) ?_; (with_reducible refine (bound_Fit.calls a1 t228 _ A4.out).mono ?_); rintro e w' ⟨rfl, ⟨nd, rfl⟩⟩; refine ⟨_, rfl, ?_⟩))
   go_ret
   exact ⟨by first | rfl | (simp [errW_none, errW_some] <;> rfl) | (simp only [← hji7, ← hji8]; first | rfl | (simp [errW_none, errW_some] <;> rfl)) | (simp [*, errW_none, errW_some] <;> rfl) | (simp [wrap64]; done), by repeat (first | (with_reducible first | exact HB.out | apply below_alloc | apply pw_below_drewN | apply below_drew1) | exact HB.out)⟩
end Go.Proofs.Ytomgebmimgaojaa.QO
end
end
section
noncomputable section
namespace Go.Proofs.Ytomgebmimgaojaa.QO
open Go.RowKit Go.Proofs.YtomgebmimgaojaaW.PrintWords Go.Proofs.YtomgebmimgaojaaW.PrintLast
set_option linter.unusedVariables false
set_option linter.unusedSimpArgs false
def slices_Clone_int_int.f (l0 : List Int) : Option (List Int) := if l0.length < 17592186044416 then some l0 else none
theorem R_lit_nil (W : World) (e : Nat) : Kd.R (Kd.int .i64) e (W.alloc (.cells #[] e)) W.heap.size (fun _ => True) (.slice (some ⟨W.heap.size, 0, none⟩) 0 0) [] := by
 have h := own_lit_of (enc := Value.int .i64) W W.heap.size e [] (Nat.le_refl _) (by simp)
 exact Kd.R_of_own (h1 := fun _ => rfl) h (fun _ _ => trivial)
set_option maxHeartbeats 8000000 in
set_option maxRecDepth 100000 in
theorem slices_Clone_int_int.calls (A0 : Option Addr) (c0 : Nat) (l0 : List Int) (r : List Int) (w : World) (hr0 : Kd.C (Kd.int .i64) w A0 l0.length l0) (hc0 : l0.length ≤ c0) (h : slices_Clone_int_int.f l0 = some r) :
 Calls Try.prog 47 #[.slice A0 l0.length c0] w fun e w' => ∃ v0_ : Value, e = .returned (v0_) ∧ Kd.R (Kd.int .i64) 3 w' w.heap.size (fun _ => True) v0_ r ∧ Below w.heap.size w w' := by
 have HR0 := Aside0.mk hr0
 have HB := Aside0.mk (Below.refl w.heap.size w)
 clear hc0
 unfold slices_Clone_int_int.f at h
 by_cases c2 : l0.length < 17592186044416
 ·
  rw [if_pos c2] at h
  obtain rfl := Option.some.inj h
  have LM := Aside0.mk c2
  clear h c2
  have qT : ∀ (w : World) (a : Option Addr) (n c n' c' : Nat), (binOp .eql 22 (.slice a n c) (.slice none n' c')).run Try.prog w = .ok (.bool a.isNone) w := fun w a n c n' c' => Lib.run_eql_slice_nil w _ _ a n c n' c' Try.underlying22
  cases A0 with
  | none =>
   have hl : l0 = [] := by
    obtain ⟨h1, _, h2⟩ := hr0
    by_cases hz : 0 < l0.length
    ·
     obtain ⟨ad, e, _⟩ := h2 hz; cases e
    ·
     exact List.eq_nil_of_length_eq_zero (by omega)
   subst hl
   clear hr0
   go_enter Try.func47, Try.ntmps47
   go_wp2
   go_ret
   exact ⟨_, rfl, Kd.R_nil _ _ _ _ _, HB.out⟩
  | some ad =>
   clear hr0
   go_enter Try.func47, Try.ntmps47
   go_wp2_with (first | ((with_reducible refine gate_builtin (b := .append) (xs := #[.tmp 5, .tmp 6]) rfl ?_); at_builtin; refine Kd.R_append_rows (Kd.int .i64) (w0 := w) w.heap.size rfl (.tmp 5) (.tmp 6) 22 3 (.int .i64 0) 8 rfl Try.underlying22 info3 rfl (by decide) (by omega) (.slice (some ⟨w.heap.size, 0, none⟩) 0 0) ([] : List Int) l0 _ _ _ (fun _ => True) (fun _ => False) rfl rfl ?aO ?aR (fun _ _ h => h) (fun _ h => h.elim) ?aF ?aB ?aS ?aL ?_; (case aR => exact Kd.C_alloc HR0.out _); (case aB => exact (by repeat (first | (with_reducible first | exact HB.out | apply below_alloc | apply pw_below_drewN | apply below_drew1) | exact HB.out))); (case aF => exact (fun _ _ => trivial)); (case aO => exact R_lit_nil _ _); (case aS => exact (below_size (by repeat (first | (with_reducible first | exact HB.out | apply below_alloc | apply pw_below_drewN | apply below_drew1) | exact HB.out)))); (case aL => have := LM.out; rw [List.length_nil]; omega); intro v174 w3 ho hb hg hat; have n0_ := Aside0.mk (hb); have n1_ := Aside0.mk (ho); clear HB; have HB := n0_; have HO := n1_; clear n0_ n1_; clear ho hb hg hat))
   go_ret
   exact ⟨_, rfl, HO.out, HB.out⟩
 ·
  rw [if_neg c2] at h
  exact absurd h (by simp)
end Go.Proofs.Ytomgebmimgaojaa.QO
end
end
section
noncomputable section
namespace Go.Proofs.Ytomgebmimgaojaa.QO
open Go.RowKit Go.Proofs.YtomgebmimgaojaaW.PrintWords Go.Proofs.YtomgebmimgaojaaW.PrintLast
set_option linter.unusedVariables false
set_option linter.unusedSimpArgs false
def oct_Bottom.f (l0 : List Int) : Option (List Int × List Int × Bool) := (oct_may.f l0).bind fun t115 => (if t115 = true then ((slices_Clone_int_int.f l0).bind fun t116 => (some (t116, ([] : List Int), true))) else (some (([] : List Int), ([] : List Int), false)))
set_option maxHeartbeats 8000000 in
set_option maxRecDepth 100000 in
theorem oct_Bottom.calls (A0 : Option Addr) (c0 : Nat) (l0 : List Int) (r1 : List Int) (r2 : List Int) (r3 : Bool) (w : World) (hr0 : Kd.C (Kd.int .i64) w A0 l0.length l0) (hc0 : l0.length ≤ c0) (h : oct_Bottom.f l0 = some (r1, r2, r3)) :
 Calls Try.prog 14 #[.slice A0 l0.length c0] w fun e w' => ∃ v0_ v1_ : Value, e = .returned (.agg #[v0_, v1_, .bool r3]) ∧ Kd.R (Kd.int .i64) 3 w' w.heap.size (fun _ => True) v0_ r1 ∧ Kd.R (Kd.int .i64) 2 w' w.heap.size (fun _ => True) v1_ r2 ∧ Below w.heap.size w w' := by
 have hu25 := Try.underlying25
 have HR0 := Aside0.mk hr0
 have HC0 := Aside0.mk hc0
 clear hr0 hc0
 have HB := Aside0.mk (Below.refl w.heap.size w)
 have H : ((oct_may.f l0).bind fun t115 => (if t115 = true then ((slices_Clone_int_int.f l0).bind fun t116 => (some (t116, ([] : List Int), true))) else (some (([] : List Int), ([] : List Int), false)))) = some (r1, r2, r3) := h
 clear h
 replace H := Option.bind_eq_some_iff.mp H
 obtain ⟨t115, A20, H⟩ := H
 replace H : (if t115 = true then ((slices_Clone_int_int.f l0).bind fun t116 => (some (t116, ([] : List Int), true))) else (some (([] : List Int), ([] : List Int), false))) = some (r1, r2, r3) := H
 have A2 := Aside0.mk A20
 clear A20
 by_cases c3 : t115 = true
 ·
  subst c3
  have H1 : ((slices_Clone_int_int.f l0).bind fun t116 => (some (t116, ([] : List Int), true))) = some (r1, r2, r3) := by rw [if_pos rfl] at H; exact H
  clear H
  have H := H1
  clear H1
  replace H := Option.bind_eq_some_iff.mp H
  obtain ⟨t116, A40, H⟩ := H
  replace H : (some (t116, ([] : List Int), true)) = some (r1, r2, r3) := H
  have A4 := Aside0.mk A40
  clear A40
  simp only [Option.some.injEq, Prod.mk.injEq] at H
  obtain ⟨rfl, rfl, rfl⟩ := H
  go_enter Try.func14, Try.ntmps14
  go_wp2_with (first | ((with_reducible refine gate_dst (N := 2) rfl ?_); refine box_event ?hg (N := 2) ?hd (cs := #[.slice none 0 0, .slice none 0 0, .bool false]) (t := 25) ?hr ?_; (case hd => rfl); (case hg => rfl); (case hr => first | (go_simp; done) | (go_simp; rfl)); intro gb114 hg w5 hbox hb; have BK114 := Aside0.mk (hbox); have GW114 := vS hg HB; have GE114 := vS hg HB; replace HB := vWs HB hb; clear hb hbox hg) | ((with_reducible refine gate_callee (f := 46) rfl ?_); refine goesL_ (some 4) rfl rfl Try.func46 (by kernel_rfl) rfl #[.slice A0 l0.length c0] rfl vL ?_; (with_reducible refine (oct_may.calls _ _ l0 true _ ?side1 ?side2 A2.out).mono ?_); (case side1 => exact vC (Kd.C_below HR0.out HB.out)); (case side2 => exact HC0.out); rintro e w' ⟨rfl, ⟨nd, rfl⟩⟩; refine ⟨_, rfl, ?_⟩; (try (rw [drewN_self w5]; generalize hq_ : World.drewN w5 _ = w5; have n0_ : Aside0 (w5.heap[gb114]? = some (.cells #[.slice none 0 0, .slice none 0 0, .bool false] 25 (0, 0))) := ⟨by rw [← hq_]; exact (vB BK114.out)⟩; have n1_ : Aside0 (Below w.heap.size w w5) := ⟨by rw [← hq_]; exact (vW HB.out)⟩; clear BK114 HB hq_; have BK114 := n0_; have HB := n1_; clear n0_ n1_))) | ((with_reducible refine gate_callee (f := 47) rfl ?_); refine goesL_ (some 8) rfl rfl Try.func47 (by kernel_rfl) rfl #[.slice A0 l0.length c0] rfl vL ?_; (with_reducible refine (slices_Clone_int_int.calls _ _ l0 t116 _ ?side1 ?side2 A4.out).mono ?_); (case side1 => exact vC (Kd.C_below HR0.out HB.out)); (case side2 => exact HC0.out); rintro e w6 ⟨v117, rfl, ho0, hb⟩; refine ⟨_, rfl, ?_⟩; have HO118 := Aside0.mk (Kd.R_lower ho0 (below_size (vW HB.out))); replace BK114 := vBb BK114 hb; replace HB := vWs HB hb; (try clear hb); (try clear hb2); (try clear hk); (try clear hi); (try clear ho0); obtain ⟨Ao7, co7, eo7⟩ := Kd.R_slice HO118.out; subst eo7; obtain ⟨hcz8_0, hcz8_1, hcz8_2, hfz8_0, hfz8_1, hfz8_2⟩ := vF3 BK114.out))
  refine bodyPost_ret (results_cell_row rfl _ _ gb114 25 #[.slice Ao7 t116.length co7, .slice none 0 0, .bool true] (0, 0) _ rfl (by (with_reducible repeat (first | refine blk_drewN ?_ _ | refine blk_drew ?_ | refine blk_alloc ?_ _)); refine blk_put (cs := #[.slice Ao7 t116.length co7, .slice none 0 0, .bool false]) ?_ 2 _ rfl; (with_reducible repeat (first | refine blk_drewN ?_ _ | refine blk_drew ?_ | refine blk_alloc ?_ _)); refine blk_put (cs := #[.slice Ao7 t116.length co7, .slice none 0 0, .bool false]) ?_ 1 _ rfl; (with_reducible repeat (first | refine blk_drewN ?_ _ | refine blk_drew ?_ | refine blk_alloc ?_ _)); refine blk_put (cs := #[.slice none 0 0, .slice none 0 0, .bool false]) ?_ 0 _ rfl; (with_reducible repeat (first | refine blk_drewN ?_ _ | refine blk_drew ?_ | refine blk_alloc ?_ _)); exact BK114.out) Try.underlying25 rfl (by kernel_rfl)) rfl ?_
  exact ⟨_, _, by first | rfl | (simp [errW_none, errW_some] <;> rfl) | (simp [*, errW_none, errW_some] <;> rfl) | (simp [wrap64]; done), by (with_reducible repeat (first | apply Kd.R_alloc | apply Kd.R_drewN | apply Kd.R_drew)); exact Kd.R_mono (Kd.R_far (p := ⟨gb114, 2, none⟩) (Kd.R_far (p := ⟨gb114, 1, none⟩) (Kd.R_far (p := ⟨gb114, 0, none⟩) (Kd.R_types HO118.out BK114.out (by decide)) (fun _ hk => hk.2) (.slice Ao7 t116.length co7)) (fun _ hk => hk.2) (.slice none 0 0)) (fun _ hk => hk.2) (.bool true)) (fun _ hk => trivial), by first | exact Kd.R_nil _ _ _ _ _ | exact Kd.N_nil _ _ _ _ _ | exact Kd.V_nil _ _ _ _ _ | exact Kd.Q_nil _ _ _ _ _ | exact Kd.S_nil _ _ _ _ _, vW HB.out⟩
 ·
  replace c3 := Bool.eq_false_iff.mpr c3
  subst c3
  have H1 : (some (([] : List Int), ([] : List Int), false)) = some (r1, r2, r3) := by rw [if_neg (show ¬ (false = true) by decide)] at H; exact H
  clear H
  have H := H1
  clear H1
  simp only [Option.some.injEq, Prod.mk.injEq] at H
  obtain ⟨rfl, rfl, rfl⟩ := H
  go_enter Try.func14, Try.ntmps14
  go_wp2_with (first | ((with_reducible refine gate_dst (N := 2) rfl ?_); refine box_event ?hg (N := 2) ?hd (cs := #[.slice none 0 0, .slice none 0 0, .bool false]) (t := 25) ?hr ?_; (case hd => rfl); (case hg => rfl); (case hr => first | (go_simp; done) | (go_simp; rfl)); intro gb114 hg w9 hbox hb; have BK114 := Aside0.mk (hbox); have GW114 := vS hg HB; have GE114 := vS hg HB; replace HB := vWs HB hb; clear hb hbox hg) | ((with_reducible refine gate_callee (f := 46) rfl ?_); refine goesL_ (some 4) rfl rfl Try.func46 (by kernel_rfl) rfl #[.slice A0 l0.length c0] rfl vL ?_; (with_reducible refine (oct_may.calls _ _ l0 false _ ?side1 ?side2 A2.out).mono ?_); (case side1 => exact vC (Kd.C_below HR0.out HB.out)); (case side2 => exact HC0.out); rintro e w' ⟨rfl, ⟨nd, rfl⟩⟩; refine ⟨_, rfl, ?_⟩; (try (rw [drewN_self w9]; generalize hq_ : World.drewN w9 _ = w9; have n0_ : Aside0 (w9.heap[gb114]? = some (.cells #[.slice none 0 0, .slice none 0 0, .bool false] 25 (0, 0))) := ⟨by rw [← hq_]; exact (vB BK114.out)⟩; have n1_ : Aside0 (Below w.heap.size w w9) := ⟨by rw [← hq_]; exact (vW HB.out)⟩; clear BK114 HB hq_; have BK114 := n0_; have HB := n1_; clear n0_ n1_)); obtain ⟨hcz10_0, hcz10_1, hcz10_2, hfz10_0, hfz10_1, hfz10_2⟩ := vF3 BK114.out))
  refine bodyPost_ret (results_cell_row rfl _ _ gb114 25 #[.slice none 0 0, .slice none 0 0, .bool false] (0, 0) _ rfl (by (with_reducible repeat (first | refine blk_drewN ?_ _ | refine blk_drew ?_ | refine blk_alloc ?_ _)); refine blk_put (cs := #[.slice none 0 0, .slice none 0 0, .bool false]) ?_ 2 _ rfl; (with_reducible repeat (first | refine blk_drewN ?_ _ | refine blk_drew ?_ | refine blk_alloc ?_ _)); refine blk_put (cs := #[.slice none 0 0, .slice none 0 0, .bool false]) ?_ 1 _ rfl; (with_reducible repeat (first | refine blk_drewN ?_ _ | refine blk_drew ?_ | refine blk_alloc ?_ _)); refine blk_put (cs := #[.slice none 0 0, .slice none 0 0, .bool false]) ?_ 0 _ rfl; (with_reducible repeat (first | refine blk_drewN ?_ _ | refine blk_drew ?_ | refine blk_alloc ?_ _)); exact BK114.out) Try.underlying25 rfl (by kernel_rfl)) rfl ?_
  exact ⟨_, _, by first | rfl | (simp [errW_none, errW_some] <;> rfl) | (simp [*, errW_none, errW_some] <;> rfl) | (simp [wrap64]; done), by first | exact Kd.R_nil _ _ _ _ _ | exact Kd.N_nil _ _ _ _ _ | exact Kd.V_nil _ _ _ _ _ | exact Kd.Q_nil _ _ _ _ _ | exact Kd.S_nil _ _ _ _ _, by first | exact Kd.R_nil _ _ _ _ _ | exact Kd.N_nil _ _ _ _ _ | exact Kd.V_nil _ _ _ _ _ | exact Kd.Q_nil _ _ _ _ _ | exact Kd.S_nil _ _ _ _ _, vW HB.out⟩
end Go.Proofs.Ytomgebmimgaojaa.QO
end
end
section
noncomputable section
namespace Go.Proofs.Ytomgebmimgaojaa.QO
open Go.RowKit Go.Proofs.YtomgebmimgaojaaW.PrintWords Go.Proofs.YtomgebmimgaojaaW.PrintLast
set_option linter.unusedVariables false
set_option linter.unusedSimpArgs false
def bound_kind.f (a0 : Int) : Option (Int) := if a0 ≥ 4611686018427387904 then (some 1) else (if a0 ≤ (-4611686018427387904) then (some (-1)) else (some 0))
set_option maxHeartbeats 8000000 in
set_option maxRecDepth 100000 in
theorem bound_kind.calls (a0 : Int) (r : Int) (w : World) (h : bound_kind.f a0 = some r) :
 Calls Try.prog 82 #[.int .i64 a0] w fun e w' => e = .returned (.int .i64 r) ∧ Drawn0 w w' := by
 have H : (if a0 ≥ 4611686018427387904 then (some 1) else (if a0 ≤ (-4611686018427387904) then (some (-1)) else (some 0))) = some r := h
 clear h
 by_cases c2 : a0 ≥ 4611686018427387904
 ·
  rw [if_pos c2] at H
  have c2b0 : decide (4611686018427387904 ≤ a0) = true := decide_eq_true c2
  clear c2
  obtain rfl := Option.some.inj H
  go_enter Try.func82, Try.ntmps82
  go_wp2
  go_ret
  exact ⟨by first | rfl | (simp; done) | (simp [*]; done), by repeat (first | exact Drawn0.refl _ | apply Drawn0.step)⟩
 ·
  rw [if_neg c2] at H
  have c2b0 : decide (4611686018427387904 ≤ a0) = false := decide_eq_false c2
  clear c2
  by_cases c3 : a0 ≤ (-4611686018427387904)
  ·
   rw [if_pos c3] at H
   have c3b0 : decide (a0 ≤ (-4611686018427387904)) = true := decide_eq_true c3
   clear c3
   obtain rfl := Option.some.inj H
   go_enter Try.func82, Try.ntmps82
   go_wp2
   go_ret
   exact ⟨by first | rfl | (simp; done) | (simp [*]; done), by repeat (first | exact Drawn0.refl _ | apply Drawn0.step)⟩
  ·
   rw [if_neg c3] at H
   have c3b0 : decide (a0 ≤ (-4611686018427387904)) = false := decide_eq_false c3
   clear c3
   obtain rfl := Option.some.inj H
   go_enter Try.func82, Try.ntmps82
   go_wp2
   go_ret
   exact ⟨by first | rfl | (simp; done) | (simp [*]; done), by repeat (first | exact Drawn0.refl _ | apply Drawn0.step)⟩
end Go.Proofs.Ytomgebmimgaojaa.QO
end
end
section
noncomputable section
namespace Go.Proofs.Ytomgebmimgaojaa.QO
open Go.RowKit Go.Proofs.YtomgebmimgaojaaW.PrintWords Go.Proofs.YtomgebmimgaojaaW.PrintLast
set_option linter.unusedVariables false
set_option linter.unusedSimpArgs false
def bound_Half.f (a0 : Int) : Option (Int) := (bound_kind.f a0).bind fun t229 => (if t229 = 0 then (some (a0 / 2)) else ((bound_Fit.f a0).bind fun t230 => (some t230)))
set_option maxHeartbeats 8000000 in
set_option maxRecDepth 100000 in
theorem bound_Half.calls (a0 : Int) (r : Int) (w : World) (h : bound_Half.f a0 = some r) :
 Calls Try.prog 56 #[.int .i64 a0] w fun e w' => e = .returned (.int .i64 r) ∧ Drawn0 w w' := by
 have H : ((bound_kind.f a0).bind fun t229 => (if t229 = 0 then (some (a0 / 2)) else ((bound_Fit.f a0).bind fun t230 => (some t230)))) = some r := h
 clear h
 replace H := Option.bind_eq_some_iff.mp H
 obtain ⟨t229, A20, H⟩ := H
 replace H : (if t229 = 0 then (some (a0 / 2)) else ((bound_Fit.f a0).bind fun t230 => (some t230))) = some r := H
 have A2 := Aside0.mk A20
 clear A20
 by_cases c3 : t229 = 0
 ·
  rw [if_pos c3] at H
  have c3b0 : (t229 == 0) = true := beq_iff_eq.mpr c3
  have c3b1 : (t229 != 0) = false := bne_eq_false_iff_eq.mpr c3
  clear c3
  obtain rfl := Option.some.inj H
  go_enter Try.func56, Try.ntmps56
  go_wp2_with (first | ((with_reducible refine gate_callee (f := 82) rfl ?_); refine goesL_ (some 4) rfl rfl Try.func82 (by kernel_rfl) rfl #[.int .i64 a0] rfl (by (try simp only [List.map_toArray, List.map_cons, List.map_nil]); first | done | rfl | (simp only [List.length_drop, List.length_take]; rfl)) ?_; (with_reducible refine (bound_kind.calls a0 t229 _ A2.out).mono ?_); rintro e w' ⟨rfl, ⟨nd, rfl⟩⟩; refine ⟨_, rfl, ?_⟩))
  go_ret
  exact ⟨by first | rfl | (simp; done) | (simp [*]; done), by repeat (first | exact Drawn0.refl _ | apply Drawn0.step)⟩
 ·
  rw [if_neg c3] at H
  have c3b0 : (t229 == 0) = false := beq_eq_false_iff_ne.mpr c3
  have c3b1 : (t229 != 0) = true := bne_iff_ne.mpr c3
  replace H := Option.bind_eq_some_iff.mp H
  obtain ⟨t230, A40, H⟩ := H
  replace H : (some t230) = some r := H
  have A4 := Aside0.mk A40
  clear A40
  obtain rfl := Option.some.inj H
  go_enter Try.func56, Try.ntmps56
  go_wp2_with (first | ((with_reducible refine gate_callee (f := 82) rfl ?_); refine goesL_ (some 4) rfl rfl Try.func82 (by kernel_rfl) rfl #[.int .i64 a0] rfl (by (try simp only [List.map_toArray, List.map_cons, List.map_nil]); first | done | rfl | (simp only [List.length_drop, List.length_take]; rfl)) ?_; (with_reducible refine (bound_kind.calls a0 t229 _ A2.out).mono ?_); rintro e w' ⟨rfl, ⟨nd, rfl⟩⟩; refine ⟨_, rfl, ?_⟩) | ((with_reducible refine gate_callee (f := 83) rfl ?_); refine goesL_ (some 7) rfl rfl Try.func83 (by kernel_rfl) rfl #[.int .i64 a0] rfl (by (try simp only [List.map_toArray, List.map_cons, List.map_nil]); first | done | rfl | (simp only [List.length_drop, List.length_take]; rfl)) ?_; (with_reducible refine (bound_Fit.calls a0 t230 _ A4.out).mono ?_); rintro e w' ⟨rfl, ⟨nd, rfl⟩⟩; refine ⟨_, rfl, ?_⟩))
  go_ret
  exact ⟨by first | rfl | (simp; done) | (simp [*]; done), by repeat (first | exact Drawn0.refl _ | apply Drawn0.step)⟩
end Go.Proofs.Ytomgebmimgaojaa.QO
end
end
section
noncomputable section
namespace Go.Proofs.Ytomgebmimgaojaa.QO
open Go.RowKit Go.Proofs.YtomgebmimgaojaaW.PrintWords Go.Proofs.YtomgebmimgaojaaW.PrintLast
set_option linter.unusedVariables false
set_option linter.unusedSimpArgs false
def oct_clip.f (a0 : Int) : Option (Int) := if a0 > 1099511627776 then (some 4611686018427387904) else (some (mx a0 (-1099511627776)))
set_option maxHeartbeats 8000000 in
set_option maxRecDepth 100000 in
theorem oct_clip.calls (a0 : Int) (r : Int) (w : World) (h : oct_clip.f a0 = some r) :
 Calls Try.prog 58 #[.int .i64 a0] w fun e w' => e = .returned (.int .i64 r) ∧ Below w.heap.size w w' := by
 have HB := Aside0.mk (Below.refl w.heap.size w)
 have H : (if a0 > 1099511627776 then (some 4611686018427387904) else (some (mx a0 (-1099511627776)))) = some r := h
 clear h
 by_cases c2 : a0 > 1099511627776
 ·
  rw [if_pos c2] at H
  have c2b0 : decide (1099511627776 < a0) = true := decide_eq_true c2
  clear c2
  obtain rfl := Option.some.inj H
  go_enter Try.func58, Try.ntmps58
  go_wp2
  go_ret
  exact ⟨by first | rfl | (simp [errW_none, errW_some] <;> rfl) | (simp [*, errW_none, errW_some] <;> rfl) | (simp [wrap64]; done), by repeat (first | (with_reducible first | exact HB.out | apply below_alloc | apply pw_below_drewN | apply below_drew1) | exact HB.out)⟩
 ·
  rw [if_neg c2] at H
  have c2b0 : decide (1099511627776 < a0) = false := decide_eq_false c2
  clear c2
  obtain ⟨ji3, hji3⟩ : ∃ j_ : Int, (mx a0 (-1099511627776)) = j_ := ⟨_, rfl⟩
  replace H : (some ji3) = some r := by first | (rw [hji3] at H; exact H) | (simp only [hji3] at H ⊢; exact H)
  have hji3_ : (if a0 < (-1099511627776) then (-1099511627776) else a0) = ji3 := hji3
  obtain rfl := Option.some.inj H
  go_enter Try.func58, Try.ntmps58
  go_wp2
  go_ret
  exact ⟨by first | rfl | (simp [errW_none, errW_some] <;> rfl) | (simp only [← hji3]; first | rfl | (simp [errW_none, errW_some] <;> rfl)) | (simp [*, errW_none, errW_some] <;> rfl) | (simp [wrap64]; done), by repeat (first | (with_reducible first | exact HB.out | apply below_alloc | apply pw_below_drewN | apply below_drew1) | exact HB.out)⟩
end Go.Proofs.Ytomgebmimgaojaa.QO
end
end
section
noncomputable section
namespace Go.Proofs.Ytomgebmimgaojaa.QO
open Go.RowKit Go.Proofs.YtomgebmimgaojaaW.PrintWords Go.Proofs.YtomgebmimgaojaaW.PrintLast
set_option linter.unusedVariables false
set_option linter.unusedSimpArgs false
def gimballaw11_value.f (l0 : List Int) (a1 : Int) : Option (Int) := if (Int.tmod a1 2) = 0 then (if 0 ≤ (wrap64 (Int.tdiv a1 2)) then (if (wrap64 (Int.tdiv a1 2)) < (l0.length : Int) then (some (rd l0 (wrap64 (Int.tdiv a1 2)))) else (none)) else (none)) else (if 0 ≤ (wrap64 (Int.tdiv a1 2)) then (if (wrap64 (Int.tdiv a1 2)) < (l0.length : Int) then (some (wrap64 (-(rd l0 (wrap64 (Int.tdiv a1 2)))))) else (none)) else (none))
set_option maxHeartbeats 8000000 in
set_option maxRecDepth 100000 in
theorem gimballaw11_value.calls (A0 : Option Addr) (c0 : Nat) (l0 : List Int) (a1 : Int) (r : Int) (w : World) (hr0 : Kd.C (Kd.int .i64) w A0 l0.length l0) (hc0 : l0.length ≤ c0) (h : gimballaw11_value.f l0 a1 = some r) :
 Calls Try.prog 67 #[.slice A0 l0.length c0, .int .i64 a1] w fun e w' => e = .returned (.int .i64 r) ∧ Drawn0 w w' := by
 have HR0 := Aside0.mk hr0
 have HC0 := Aside0.mk hc0
 clear hr0 hc0
 have H : (if (Int.tmod a1 2) = 0 then (if 0 ≤ (wrap64 (Int.tdiv a1 2)) then (if (wrap64 (Int.tdiv a1 2)) < (l0.length : Int) then (some (rd l0 (wrap64 (Int.tdiv a1 2)))) else (none)) else (none)) else (if 0 ≤ (wrap64 (Int.tdiv a1 2)) then (if (wrap64 (Int.tdiv a1 2)) < (l0.length : Int) then (some (wrap64 (-(rd l0 (wrap64 (Int.tdiv a1 2)))))) else (none)) else (none))) = some r := h
 clear h
 by_cases c3 : (Int.tmod a1 2) = 0
 ·
  rw [if_pos c3] at H
  have c3b0 : ((Int.tmod a1 2) == 0) = true := beq_iff_eq.mpr c3
  have c3b1 : ((Int.tmod a1 2) != 0) = false := bne_eq_false_iff_eq.mpr c3
  clear c3
  obtain ⟨ji4, hji4⟩ : ∃ j_ : Int, (wrap64 (Int.tdiv a1 2)) = j_ := ⟨_, rfl⟩
  replace H : (if 0 ≤ (ji4) then (if (ji4) < (l0.length : Int) then (some (rd l0 (ji4))) else (none)) else (none)) = some r := by first | (rw [hji4] at H; exact H) | (simp only [hji4] at H ⊢; exact H)
  have hji4w : (IntKind.i64.wrap (Int.tdiv a1 2)) = ji4 := (i64_w _).trans hji4
  by_cases c5 : 0 ≤ (ji4)
  ·
   rw [if_pos c5] at H
   have c5b0 : decide (0 ≤ (ji4)) = true := decide_eq_true c5
   clear c5
   by_cases c6 : (ji4) < (l0.length : Int)
   ·
    rw [if_pos c6] at H
    have c6b0 : decide ((ji4) < (l0.length : Int)) = true := decide_eq_true c6
    clear c6
    obtain rfl := Option.some.inj H
    have p565 : 0 ≤ ((ji4) : Int) := of_decide_eq_true (by first | (with_reducible assumption) | assumption)
    have q565 : (ji4) < (l0.length : Int) := of_decide_eq_true (by first | (with_reducible assumption) | assumption)
    obtain ⟨ad565, e565, hx565_0⟩ := Kd.at_int HR0.out (ji4) p565 q565
    cases e565
    replace p565 := eq_true p565
    replace q565 := eq_true q565
    go_enter Try.func67, Try.ntmps67
    go_wp2
    go_ret
    exact ⟨by first | rfl | (simp; done) | (simp only [← hji4] <;> (first | rfl | simp)) | (simp [*]; done), by repeat (first | exact Drawn0.refl _ | apply Drawn0.step)⟩
   ·
    rw [if_neg c6] at H
    exact absurd H (by simp)
  ·
   rw [if_neg c5] at H
   exact absurd H (by simp)
 ·
  rw [if_neg c3] at H
  have c3b0 : ((Int.tmod a1 2) == 0) = false := beq_eq_false_iff_ne.mpr c3
  have c3b1 : ((Int.tmod a1 2) != 0) = true := bne_iff_ne.mpr c3
  obtain ⟨ji7, hji7⟩ : ∃ j_ : Int, (wrap64 (Int.tdiv a1 2)) = j_ := ⟨_, rfl⟩
  replace H : (if 0 ≤ (ji7) then (if (ji7) < (l0.length : Int) then (some (wrap64 (-(rd l0 (ji7))))) else (none)) else (none)) = some r := by first | (rw [hji7] at H; exact H) | (simp only [hji7] at H ⊢; exact H)
  have hji7w : (IntKind.i64.wrap (Int.tdiv a1 2)) = ji7 := (i64_w _).trans hji7
  by_cases c8 : 0 ≤ (ji7)
  ·
   rw [if_pos c8] at H
   have c8b0 : decide (0 ≤ (ji7)) = true := decide_eq_true c8
   clear c8
   by_cases c9 : (ji7) < (l0.length : Int)
   ·
    rw [if_pos c9] at H
    have c9b0 : decide ((ji7) < (l0.length : Int)) = true := decide_eq_true c9
    clear c9
    obtain rfl := Option.some.inj H
    have p566 : 0 ≤ ((ji7) : Int) := of_decide_eq_true (by first | (with_reducible assumption) | assumption)
    have q566 : (ji7) < (l0.length : Int) := of_decide_eq_true (by first | (with_reducible assumption) | assumption)
    obtain ⟨ad566, e566, hx566_0⟩ := Kd.at_int HR0.out (ji7) p566 q566
    cases e566
    replace p566 := eq_true p566
    replace q566 := eq_true q566
    go_enter Try.func67, Try.ntmps67
    go_wp2
    go_ret
    exact ⟨by first | rfl | (simp; done) | (simp only [← hji7] <;> (first | rfl | simp)) | (simp [*]; done), by repeat (first | exact Drawn0.refl _ | apply Drawn0.step)⟩
   ·
    rw [if_neg c9] at H
    exact absurd H (by simp)
  ·
   rw [if_neg c8] at H
   exact absurd H (by simp)
end Go.Proofs.Ytomgebmimgaojaa.QO
end
end
section
noncomputable section
namespace Go.Proofs.Ytomgebmimgaojaa.QO
open Go.RowKit Go.Proofs.YtomgebmimgaojaaW.PrintWords Go.Proofs.YtomgebmimgaojaaW.PrintLast
set_option linter.unusedVariables false
set_option linter.unusedSimpArgs false
mutual
def gimballaw11_holds.l0 : Nat → List Int → Int → Int → List Int → List Int → Bool → Option (Bool)
 | 0, _, _, _, _, _, _ => none
 | k + 1, x1, x5, x6, x568000, x568001, x568002 => if x6 < x5 then (gimballaw11_holds.l1 k x1 x5 x6 0 x568000 x568001 x568002) else (some true)
def gimballaw11_holds.l1 : Nat → List Int → Int → Int → Int → List Int → List Int → Bool → Option (Bool)
 | 0, _, _, _, _, _, _, _ => none
 | k + 1, x1, x5, x6, x7, x568000, x568001, x568002 => if x7 < x5 then (if 0 ≤ (wrap64 ((wrap64 (x6 * x5)) + x7)) then (if (wrap64 ((wrap64 (x6 * x5)) + x7)) < (x568001.length : Int) then (if (rd x568001 (wrap64 ((wrap64 (x6 * x5)) + x7))) = 4611686018427387904 then (gimballaw11_holds.l1 k x1 x5 x6 (wrap64 (x7 + 1)) x568000 x568001 x568002) else ((gimballaw11_value.f x1 x7).bind fun t569 => ((gimballaw11_value.f x1 x6).bind fun t570 => (if (wrap64 (t569 - t570)) > (rd x568001 (wrap64 ((wrap64 (x6 * x5)) + x7))) then (some false) else (gimballaw11_holds.l1 k x1 x5 x6 (wrap64 (x7 + 1)) x568000 x568001 x568002))))) else (none)) else (none)) else (gimballaw11_holds.l0 k x1 x5 (wrap64 (x6 + 1)) x568000 x568001 x568002)
end
def gimballaw11_holds.f (k : Nat) (l0_0 : List Int) (l0_1 : List Int) (a0_2 : Bool) (l1 : List Int) : Option (Bool) := if a0_2 = true then (some false) else (gimballaw11_holds.l0 k l1 (wrap64 (2 * (l0_0.length : Int))) 0 l0_0 l0_1 a0_2)
theorem gimballaw11_holds.mono_l : ∀ k, (∀ y0 y1 y2 y3 y4 y5, LeO (gimballaw11_holds.l0 k y0 y1 y2 y3 y4 y5) (gimballaw11_holds.l0 (k + 1) y0 y1 y2 y3 y4 y5)) ∧ (∀ y0 y1 y2 y3 y4 y5 y6, LeO (gimballaw11_holds.l1 k y0 y1 y2 y3 y4 y5 y6) (gimballaw11_holds.l1 (k + 1) y0 y1 y2 y3 y4 y5 y6))
 | 0 => ⟨fun _ _ _ _ _ _ r h => by simp [gimballaw11_holds.l0] at h, fun _ _ _ _ _ _ _ r h => by simp [gimballaw11_holds.l1] at h⟩
 | k + 1 => by
  obtain ⟨ih0, ih1⟩ := gimballaw11_holds.mono_l k
  refine ⟨?_, ?_⟩
  ·
   intro y0 y1 y2 y3 y4 y5
   unfold gimballaw11_holds.l0
   repeat' first
   | (with_reducible exact ih0 _ _ _ _ _ _)
   | (with_reducible exact ih1 _ _ _ _ _ _ _)
   | (with_reducible exact LeO.refl _)
   | (with_reducible exact LeO.none _)
   | (with_reducible refine LeO.ite ?_ ?_)
   | (with_reducible refine LeO.bind ?_ (fun _ => ?_))
   | exact ih0 _ _ _ _ _ _
   | exact ih1 _ _ _ _ _ _ _
   | exact LeO.none _
   | refine LeO.ite ?_ ?_
   | refine LeO.bind ?_ (fun _ => ?_)
  ·
   intro y0 y1 y2 y3 y4 y5 y6
   unfold gimballaw11_holds.l1
   repeat' first
   | (with_reducible exact ih0 _ _ _ _ _ _)
   | (with_reducible exact ih1 _ _ _ _ _ _ _)
   | (with_reducible exact LeO.refl _)
   | (with_reducible exact LeO.none _)
   | (with_reducible refine LeO.ite ?_ ?_)
   | (with_reducible refine LeO.bind ?_ (fun _ => ?_))
   | exact ih0 _ _ _ _ _ _
   | exact ih1 _ _ _ _ _ _ _
   | exact LeO.none _
   | refine LeO.ite ?_ ?_
   | refine LeO.bind ?_ (fun _ => ?_)
theorem gimballaw11_holds.mono : ∀ a0 a1 a2 a3 k, LeO (gimballaw11_holds.f k a0 a1 a2 a3) (gimballaw11_holds.f (k + 1) a0 a1 a2 a3) := by
 intro a0 a1 a2 a3 k
 obtain ⟨ih0, ih1⟩ := gimballaw11_holds.mono_l k
 unfold gimballaw11_holds.f
 repeat' first
  | (with_reducible exact ih0 _ _ _ _ _ _)
  | (with_reducible exact ih1 _ _ _ _ _ _ _)
  | (with_reducible exact LeO.refl _)
  | (with_reducible exact LeO.none _)
  | (with_reducible refine LeO.ite ?_ ?_)
  | (with_reducible refine LeO.bind ?_ (fun _ => ?_))
  | exact ih0 _ _ _ _ _ _
  | exact ih1 _ _ _ _ _ _ _
  | exact LeO.none _
  | refine LeO.ite ?_ ?_
  | refine LeO.bind ?_ (fun _ => ?_)
set_option maxHeartbeats 8000000 in
set_option maxRecDepth 100000 in
theorem gimballaw11_holds.calls (k : Nat) (A0_0 : Option Addr) (c0_0 : Nat) (l0_0 : List Int) (A0_1 : Option Addr) (c0_1 : Nat) (l0_1 : List Int) (a0_2 : Bool) (A1 : Option Addr) (c1 : Nat) (l1 : List Int) (r : Bool) (w : World) (hr0_0 : Kd.C (Kd.int .i64) w A0_0 l0_0.length l0_0) (hc0_0 : l0_0.length ≤ c0_0) (hr0_1 : Kd.C (Kd.int .i64) w A0_1 l0_1.length l0_1) (hc0_1 : l0_1.length ≤ c0_1) (hr1 : Kd.C (Kd.int .i64) w A1 l1.length l1) (hc1 : l1.length ≤ c1) (h : gimballaw11_holds.f k l0_0 l0_1 a0_2 l1 = some r) :
 Calls Try.prog 33 #[.agg #[.slice A0_0 l0_0.length c0_0, .slice A0_1 l0_1.length c0_1, .bool a0_2], .slice A1 l1.length c1] w fun e w' => e = .returned (.bool r) ∧ Below w.heap.size w w' := by
 have hu25 := Try.underlying25
 have HR0_0 := Aside0.mk hr0_0
 have HC0_0 := Aside0.mk hc0_0
 clear hr0_0 hc0_0
 have HR0_1 := Aside0.mk hr0_1
 have HC0_1 := Aside0.mk hc0_1
 clear hr0_1 hc0_1
 have HR1 := Aside0.mk hr1
 have HC1 := Aside0.mk hc1
 clear hr1 hc1
 have HB := Aside0.mk (Below.refl w.heap.size w)
 have H : (if a0_2 = true then (some false) else (gimballaw11_holds.l0 k l1 (wrap64 (2 * (l0_0.length : Int))) 0 l0_0 l0_1 a0_2)) = some r := h
 clear h
 by_cases c3 : a0_2 = true
 ·
  subst c3
  have H1 : (some false) = some r := by rw [if_pos rfl] at H; exact H
  clear H
  have H := H1
  clear H1
  obtain rfl := Option.some.inj H
  go_enter Try.func33, Try.ntmps33
  go_wp2_with ((with_reducible refine gate_dst (N := 2) rfl ?_); refine box_event ?hg (N := 2) ?hd (cs := #[.slice A0_0 l0_0.length c0_0, .slice A0_1 l0_1.length c0_1, .bool true]) (t := 25) ?hr ?_; (case hd => rfl); (case hg => rfl); (case hr => first | (go_simp; done) | (go_simp; rfl)); intro gb567 hg w4 hbox hb; have BK567 := Aside0.mk (hbox); have GW567 := vS hg HB; have GE567 := vS hg HB; replace HB := vWs HB hb; clear hb hbox hg; obtain ⟨hcz5_0, hcz5_1, hcz5_2, hfz5_0, hfz5_1, hfz5_2⟩ := vF3 BK567.out)
  repeat (go_quiet (first | ((with_reducible refine gate_dst (N := 2) rfl ?_); refine box_event ?hg (N := 2) ?hd (cs := #[.slice A0_0 l0_0.length c0_0, .slice A0_1 l0_1.length c0_1, .bool true]) (t := 25) ?hr ?_; (case hd => rfl); (case hg => rfl); (case hr => first | (go_simp; done) | (go_simp; rfl)); intro gb567 hg w4 hbox hb; have BK567 := Aside0.mk (hbox); have GW567 := vS hg HB; have GE567 := vS hg HB; replace HB := vWs HB hb; clear hb hbox hg; obtain ⟨hcz5_0, hcz5_1, hcz5_2, hfz5_0, hfz5_1, hfz5_2⟩ := vF3 BK567.out)); try go_wp2_with fail)
  go_ret
  exact ⟨by first | rfl | (simp [errW_none, errW_some] <;> rfl) | (simp [*, errW_none, errW_some] <;> rfl) | (simp [wrap64]; done), vW HB.out⟩
 ·
  replace c3 := Bool.eq_false_iff.mpr c3
  subst c3
  have H1 : (gimballaw11_holds.l0 k l1 (wrap64 (2 * (l0_0.length : Int))) 0 l0_0 l0_1 false) = some r := by rw [if_neg (show ¬ (false = true) by decide)] at H; exact H
  clear H
  have H := H1
  clear H1
  have H' := Aside0.mk H
  clear H
  go_enter Try.func33, Try.ntmps33
  go_wp2_with ((with_reducible refine gate_dst (N := 2) rfl ?_); refine box_event ?hg (N := 2) ?hd (cs := #[.slice A0_0 l0_0.length c0_0, .slice A0_1 l0_1.length c0_1, .bool false]) (t := 25) ?hr ?_; (case hd => rfl); (case hg => rfl); (case hr => first | (go_simp; done) | (go_simp; rfl)); intro gb567 hg w6 hbox hb; have BK567 := Aside0.mk (hbox); have GW567 := vS hg HB; have GE567 := vS hg HB; replace HB := vWs HB hb; clear hb hbox hg; obtain ⟨hcz7_0, hcz7_1, hcz7_2, hfz7_0, hfz7_1, hfz7_2⟩ := vF3 BK567.out)
  repeat (go_quiet (first | ((with_reducible refine gate_dst (N := 2) rfl ?_); refine box_event ?hg (N := 2) ?hd (cs := #[.slice A0_0 l0_0.length c0_0, .slice A0_1 l0_1.length c0_1, .bool false]) (t := 25) ?hr ?_; (case hd => rfl); (case hg => rfl); (case hr => first | (go_simp; done) | (go_simp; rfl)); intro gb567 hg w6 hbox hb; have BK567 := Aside0.mk (hbox); have GW567 := vS hg HB; have GE567 := vS hg HB; replace HB := vWs HB hb; clear hb hbox hg; obtain ⟨hcz7_0, hcz7_1, hcz7_2, hfz7_0, hfz7_1, hfz7_2⟩ := vF3 BK567.out)); try go_wp2_with fail)
  go_loopg [6] k (fun kq v6 w' => ∃ (x6_1 : Int), v6 = .int .i64 x6_1 ∧ Aside0 (gimballaw11_holds.l0 kq l1 (wrap64 (2 * (l0_0.length : Int))) x6_1 l0_0 l0_1 false = some r) ∧ Aside0 (kq ≤ k) ∧ Aside0 (w'.heap[gb567]? = some (.cells #[(.slice A0_0 l0_0.length c0_0), (.slice A0_1 l0_1.length c0_1), .bool false] 25 (0, 0))) ∧ Aside0 (Below w.heap.size w w'))
  case atStart => exact ⟨(0), (by first | rfl | (simp; done) | (simp [*]; done)), H', ⟨Nat.le_refl _⟩, ⟨vB BK567.out⟩, ⟨vW HB.out⟩⟩
  case round =>
   clear H'
   try clear hcz7_0
   try clear hcz7_1
   try clear hcz7_2
   try clear hfz7_0
   try clear hfz7_1
   try clear hfz7_2
   obtain ⟨x6_1, rfl, HA, HK1, BK567, HB⟩ := hrel
   cases gk with
   | zero => exact absurd HA.out (by simp [gimballaw11_holds.l0])
   | succ k1 =>
    have H := HA.out
    clear HA
    simp only [gimballaw11_holds.l0] at H
    by_cases c8 : x6_1 < (wrap64 (2 * (l0_0.length : Int)))
    ·
     rw [if_pos c8] at H
     have c8b0 : decide (x6_1 < (wrap64 (2 * (l0_0.length : Int)))) = true := decide_eq_true c8
     clear c8
     have H' := Aside0.mk H
     clear H
     go_wp2
     repeat (go_quiet (fail); try go_wp2)
     go_loopg [7] k1 (fun kq v7 w' => ∃ (x7_2 : Int), v7 = .int .i64 x7_2 ∧ Aside0 (gimballaw11_holds.l1 kq l1 (wrap64 (2 * (l0_0.length : Int))) x6_1 x7_2 l0_0 l0_1 false = some r) ∧ Aside0 (kq ≤ k1) ∧ Aside0 (w'.heap[gb567]? = some (.cells #[(.slice A0_0 l0_0.length c0_0), (.slice A0_1 l0_1.length c0_1), .bool false] 25 (0, 0))) ∧ Aside0 (Below w.heap.size w w'))
     case atStart => exact ⟨(0), (by first | rfl | (simp; done) | (simp [*]; done)), H', ⟨Nat.le_refl _⟩, ⟨vB BK567.out⟩, ⟨vW HB.out⟩⟩
     case round =>
      clear H'
      try clear c8b0
      obtain ⟨x7_2, rfl, HA, HK2, BK567, HB⟩ := hrel
      cases gk with
      | zero => exact absurd HA.out (by simp [gimballaw11_holds.l1])
      | succ k2 =>
       have H := HA.out
       clear HA
       simp only [gimballaw11_holds.l1] at H
       by_cases c9 : x7_2 < (wrap64 (2 * (l0_0.length : Int)))
       ·
        rw [if_pos c9] at H
        have c9b0 : decide (x7_2 < (wrap64 (2 * (l0_0.length : Int)))) = true := decide_eq_true c9
        clear c9
        obtain ⟨ji10, hji10⟩ : ∃ j_ : Int, (wrap64 ((wrap64 (x6_1 * (wrap64 (2 * (l0_0.length : Int))))) + x7_2)) = j_ := ⟨_, rfl⟩
        replace H : (if 0 ≤ (ji10) then (if (ji10) < (l0_1.length : Int) then (if (rd l0_1 (ji10)) = 4611686018427387904 then (gimballaw11_holds.l1 k2 l1 (wrap64 (2 * (l0_0.length : Int))) x6_1 (wrap64 (x7_2 + 1)) l0_0 l0_1 false) else ((gimballaw11_value.f l1 x7_2).bind fun t569 => ((gimballaw11_value.f l1 x6_1).bind fun t570 => (if (wrap64 (t569 - t570)) > (rd l0_1 (ji10)) then (some false) else (gimballaw11_holds.l1 k2 l1 (wrap64 (2 * (l0_0.length : Int))) x6_1 (wrap64 (x7_2 + 1)) l0_0 l0_1 false))))) else (none)) else (none)) = some r := by first | (rw [hji10] at H; exact H) | (simp only [hji10] at H ⊢; exact H)
        have hji10w : (IntKind.i64.wrap ((wrap64 (x6_1 * (wrap64 (2 * (l0_0.length : Int))))) + x7_2)) = ji10 := (i64_w _).trans hji10
        by_cases c11 : 0 ≤ (ji10)
        ·
         rw [if_pos c11] at H
         have c11b0 : decide (0 ≤ (ji10)) = true := decide_eq_true c11
         clear c11
         by_cases c12 : (ji10) < (l0_1.length : Int)
         ·
          rw [if_pos c12] at H
          have c12b0 : decide ((ji10) < (l0_1.length : Int)) = true := decide_eq_true c12
          clear c12
          by_cases c13 : (rd l0_1 (ji10)) = 4611686018427387904
          ·
           rw [if_pos c13] at H
           have c13b0 : ((rd l0_1 (ji10)) == 4611686018427387904) = true := beq_iff_eq.mpr c13
           have c13b1 : ((rd l0_1 (ji10)) != 4611686018427387904) = false := bne_eq_false_iff_eq.mpr c13
           clear c13
           have H' := Aside0.mk H
           clear H
           obtain ⟨hcz14_0, hcz14_1, hcz14_2, hfz14_0, hfz14_1, hfz14_2⟩ := vF3 BK567.out
           have p568 : 0 ≤ ((ji10) : Int) := of_decide_eq_true (by first | (with_reducible assumption) | assumption)
           have q568 : (ji10) < (l0_1.length : Int) := of_decide_eq_true (by first | (with_reducible assumption) | assumption)
           obtain ⟨ad568, e568, hx568_0⟩ := Kd.at_int HR0_1.out (ji10) p568 q568
           cases e568
           replace hx568_0 := (HB.out.cell (World.block_lt_of_cell? w _ hx568_0)).trans hx568_0
           replace p568 := eq_true p568
           replace q568 := eq_true q568
           go_wp2
           repeat (go_quiet (fail); try go_wp2)
           go_roundg k2
           case measure => have := HK1.out; have := HK2.out; omega
           case rel => exact ⟨(wrap64 (x7_2 + 1)), (by first | rfl | (simp; done) | (simp [*]; done)), H', ⟨by have := HK1.out; have := HK2.out; omega⟩, ⟨vB BK567.out⟩, ⟨vW HB.out⟩⟩
          ·
           rw [if_neg c13] at H
           have c13b0 : ((rd l0_1 (ji10)) == 4611686018427387904) = false := beq_eq_false_iff_ne.mpr c13
           have c13b1 : ((rd l0_1 (ji10)) != 4611686018427387904) = true := bne_iff_ne.mpr c13
           replace H := Option.bind_eq_some_iff.mp H
           obtain ⟨t569, A150, H⟩ := H
           replace H : ((gimballaw11_value.f l1 x6_1).bind fun t570 => (if (wrap64 (t569 - t570)) > (rd l0_1 (ji10)) then (some false) else (gimballaw11_holds.l1 k2 l1 (wrap64 (2 * (l0_0.length : Int))) x6_1 (wrap64 (x7_2 + 1)) l0_0 l0_1 false))) = some r := H
           have A15 := Aside0.mk A150
           clear A150
           replace H := Option.bind_eq_some_iff.mp H
           obtain ⟨t570, A160, H⟩ := H
           replace H : (if (wrap64 (t569 - t570)) > (rd l0_1 (ji10)) then (some false) else (gimballaw11_holds.l1 k2 l1 (wrap64 (2 * (l0_0.length : Int))) x6_1 (wrap64 (x7_2 + 1)) l0_0 l0_1 false)) = some r := H
           have A16 := Aside0.mk A160
           clear A160
           by_cases c17 : (wrap64 (t569 - t570)) > (rd l0_1 (ji10))
           ·
            rw [if_pos c17] at H
            have c17b0 : decide ((rd l0_1 (ji10)) < (wrap64 (t569 - t570))) = true := decide_eq_true c17
            clear c17
            obtain rfl := Option.some.inj H
            obtain ⟨hcz18_0, hcz18_1, hcz18_2, hfz18_0, hfz18_1, hfz18_2⟩ := vF3 BK567.out
            have p568 : 0 ≤ ((ji10) : Int) := of_decide_eq_true (by first | (with_reducible assumption) | assumption)
            have q568 : (ji10) < (l0_1.length : Int) := of_decide_eq_true (by first | (with_reducible assumption) | assumption)
            obtain ⟨ad568, e568, hx568_0⟩ := Kd.at_int HR0_1.out (ji10) p568 q568
            cases e568
            replace hx568_0 := (HB.out.cell (World.block_lt_of_cell? w _ hx568_0)).trans hx568_0
            replace p568 := eq_true p568
            replace q568 := eq_true q568
            go_wp2_with fail
            have hjw := hji10w
            rw [← i64_w] at hjw
            have hcw := c17b0
            rw [← i64_w] at hcw
            go_region_held3 (fun w' => w'.cell? ⟨gb567, 1, none⟩ = some (.slice (some ad568) l0_1.length c0_1) ∧ w'.cell? (ad568.add ((ji10)).toNat) = some (.int .i64 (rd l0_1 (ji10)))) (first | go_keep | exact ⟨hcz18_1, hx568_0⟩) (first | (go_at_call 67; (with_reducible refine (gimballaw11_value.calls _ _ l1 x7_2 t569 _ ?side1 ?side2 A15.out).mono ?_); (case side1 => exact vC (Kd.C_below HR1.out HB.out)); (case side2 => exact HC1.out); rintro e w' ⟨rfl, ⟨nd, rfl⟩⟩) | (go_at_call 67; (with_reducible refine (gimballaw11_value.calls _ _ l1 x6_1 t570 _ ?side1 ?side2 A16.out).mono ?_); (case side1 => repeat (first | exact (Kd.C_below HR1.out (vW HB.out)) | (with_reducible refine Kd.C_alloc ?_ _) | (with_reducible refine Kd.C_drewN ?_ _) | (with_reducible refine Kd.C_drew ?_))); (case side2 => exact HC1.out); rintro e w' ⟨rfl, ⟨nd, rfl⟩⟩; have p571 : 0 ≤ ((ji10) : Int) := of_decide_eq_true (by first | (with_reducible assumption) | assumption); have q571 : (ji10) < (l0_1.length : Int) := of_decide_eq_true (by first | (with_reducible assumption) | assumption); obtain ⟨ad571, e571, hx571_0⟩ := Kd.at_int HR0_1.out (ji10) p571 q571; obtain rfl : ad568 = ad571 := (by injection e571); replace hx571_0 := (HB.out.cell (World.block_lt_of_cell? w _ hx571_0)).trans hx571_0; replace p571 := eq_true p571; replace q571 := eq_true q571))
            go_wp2
            go_ret
            exact ⟨by first | rfl | (simp [errW_none, errW_some] <;> rfl) | (simp only [← hji10]; first | rfl | (simp [errW_none, errW_some] <;> rfl)) | (simp [*, errW_none, errW_some] <;> rfl) | (simp [wrap64]; done), vW HB.out⟩
           ·
            rw [if_neg c17] at H
            have c17b0 : decide ((rd l0_1 (ji10)) < (wrap64 (t569 - t570))) = false := decide_eq_false c17
            clear c17
            have H' := Aside0.mk H
            clear H
            obtain ⟨hcz19_0, hcz19_1, hcz19_2, hfz19_0, hfz19_1, hfz19_2⟩ := vF3 BK567.out
            have p568 : 0 ≤ ((ji10) : Int) := of_decide_eq_true (by first | (with_reducible assumption) | assumption)
            have q568 : (ji10) < (l0_1.length : Int) := of_decide_eq_true (by first | (with_reducible assumption) | assumption)
            obtain ⟨ad568, e568, hx568_0⟩ := Kd.at_int HR0_1.out (ji10) p568 q568
            cases e568
            replace hx568_0 := (HB.out.cell (World.block_lt_of_cell? w _ hx568_0)).trans hx568_0
            replace p568 := eq_true p568
            replace q568 := eq_true q568
            go_wp2_with fail
            have hjw := hji10w
            rw [← i64_w] at hjw
            have hcw := c17b0
            rw [← i64_w] at hcw
            go_region_held3 (fun w' => w'.cell? ⟨gb567, 1, none⟩ = some (.slice (some ad568) l0_1.length c0_1) ∧ w'.cell? (ad568.add ((ji10)).toNat) = some (.int .i64 (rd l0_1 (ji10)))) (first | go_keep | exact ⟨hcz19_1, hx568_0⟩) (first | (go_at_call 67; (with_reducible refine (gimballaw11_value.calls _ _ l1 x7_2 t569 _ ?side1 ?side2 A15.out).mono ?_); (case side1 => exact vC (Kd.C_below HR1.out HB.out)); (case side2 => exact HC1.out); rintro e w' ⟨rfl, ⟨nd, rfl⟩⟩) | (go_at_call 67; (with_reducible refine (gimballaw11_value.calls _ _ l1 x6_1 t570 _ ?side1 ?side2 A16.out).mono ?_); (case side1 => repeat (first | exact (Kd.C_below HR1.out (vW HB.out)) | (with_reducible refine Kd.C_alloc ?_ _) | (with_reducible refine Kd.C_drewN ?_ _) | (with_reducible refine Kd.C_drew ?_))); (case side2 => exact HC1.out); rintro e w' ⟨rfl, ⟨nd, rfl⟩⟩; have p571 : 0 ≤ ((ji10) : Int) := of_decide_eq_true (by first | (with_reducible assumption) | assumption); have q571 : (ji10) < (l0_1.length : Int) := of_decide_eq_true (by first | (with_reducible assumption) | assumption); obtain ⟨ad571, e571, hx571_0⟩ := Kd.at_int HR0_1.out (ji10) p571 q571; obtain rfl : ad568 = ad571 := (by injection e571); replace hx571_0 := (HB.out.cell (World.block_lt_of_cell? w _ hx571_0)).trans hx571_0; replace p571 := eq_true p571; replace q571 := eq_true q571))
            go_wp2
            go_roundg k2
            case measure => have := HK1.out; have := HK2.out; omega
            case rel => exact ⟨(wrap64 (x7_2 + 1)), (by first | rfl | (simp; done) | (simp [*]; done)), H', ⟨by have := HK1.out; have := HK2.out; omega⟩, ⟨vB BK567.out⟩, ⟨vW HB.out⟩⟩
         ·
          rw [if_neg c12] at H
          exact absurd H (by simp)
        ·
         rw [if_neg c11] at H
         exact absurd H (by simp)
       ·
        rw [if_neg c9] at H
        have c9b0 : decide (x7_2 < (wrap64 (2 * (l0_0.length : Int)))) = false := decide_eq_false c9
        clear c9
        have H' := Aside0.mk H
        clear H
        go_wp2
        repeat (go_quiet (fail); try go_wp2)
        go_roundg k2
        case measure => have := HK1.out; have := HK2.out; omega
        case rel => exact ⟨(wrap64 (x6_1 + 1)), (by first | rfl | (simp; done) | (simp [*]; done)), H', ⟨by have := HK1.out; have := HK2.out; omega⟩, ⟨vB BK567.out⟩, ⟨vW HB.out⟩⟩
    ·
     rw [if_neg c8] at H
     have c8b0 : decide (x6_1 < (wrap64 (2 * (l0_0.length : Int)))) = false := decide_eq_false c8
     clear c8
     obtain rfl := Option.some.inj H
     go_wp2
     repeat (go_quiet (fail); try go_wp2)
     go_ret
     exact ⟨by first | rfl | (simp [errW_none, errW_some] <;> rfl) | (simp [*, errW_none, errW_some] <;> rfl) | (simp [wrap64]; done), vW HB.out⟩
end Go.Proofs.Ytomgebmimgaojaa.QO
end
end
section
namespace Go.Proofs.Ytomgebmimgaojaa.QO
open Go.RowKit Go.Proofs.YtomgebmimgaojaaW.PrintWords Go.Proofs.YtomgebmimgaojaaW.PrintLast
set_option linter.unusedVariables false
set_option linter.unusedSimpArgs false
def sgn (v : List Int) (i : Int) : Int := if i % 2 = 1 then - rd v (i / 2) else rd v (i / 2)
theorem Box1.one {w W : World} {g : Nat} {a : Value} {t : Nat} (h : Box1 w g #[a] t W) : W.cell? ⟨g, 0, none⟩ = some a := (blk_cell h.box 0).trans rfl
end Go.Proofs.Ytomgebmimgaojaa.QO
end
section
namespace Go.Proofs.Ytomgebmimgaojaa.QO
open Go.RowKit Go.Proofs.YtomgebmimgaojaaW.PrintWords Go.Proofs.YtomgebmimgaojaaW.PrintLast
set_option linter.unusedVariables false
set_option linter.unusedSimpArgs false
noncomputable def gimbalref11_VarsFit.f (l0 : List Int) : Option Bool := some (varsB l0)
set_option maxHeartbeats 8000000 in
set_option maxRecDepth 100000 in
theorem gimbalref11_VarsFit.calls (A0 : Option Addr) (c0 : Nat) (l0 : List Int) (r : Bool) (w : World) (hr0 : Kd.C (Kd.int .i64) w A0 l0.length l0) (hc0 : l0.length ≤ c0) (h : gimbalref11_VarsFit.f l0 = some r) :
 Calls Try.prog 49 #[.slice A0 l0.length c0] w fun e w' => e = .returned (.bool r) ∧ Drawn0 w w' := by
 have HR0 := Aside0.mk hr0
 have HV := Aside0.mk (Option.some.inj h)
 clear hr0 hc0 h
 by_cases c1 : (8 : Int) < (l0.length : Int)
 ·
  have f1 : decide ((8 : Int) < (l0.length : Int)) = true := decide_eq_true c1
  have f2 : decide (8 < l0.length) = true := decide_eq_true (by omega)
  have HC := Aside0.mk c1
  clear c1
  go_enter Try.func49, Try.ntmps49
  go_wp2
  go_ret
  refine ⟨?_, Drawn0.refl _⟩
  rw [← HV.out, varsB_false.2 (fun h => by have := h.1; have := HC.out; omega)]
  rfl
 ·
  have f1 : decide ((8 : Int) < (l0.length : Int)) = false := decide_eq_false c1
  have f2 : decide (8 < l0.length) = false := decide_eq_false (by omega)
  have HC := Aside0.mk c1
  clear c1
  go_enter Try.func49, Try.ntmps49
  go_wp2
  go_loopg [3, 4, 10] l0.length (fun gg _ _ s10 wr => ∃ i : Int, s10 = .int .i64 i ∧ Aside0 (0 ≤ i ∧ i ≤ l0.length ∧ l0.length - i.toNat ≤ gg) ∧ Aside0 (∀ j : Int, 0 ≤ j → j < i → 0 ≤ rd l0 j ∧ (0 < j → rd l0 (j - 1) < rd l0 j)) ∧ Drawn0 w wr)
  case atStart => exact ⟨0, rfl, ⟨by omega, by omega, by omega⟩, ⟨fun j h0 h1 => absurd h1 (by omega)⟩, Drawn0.refl _⟩
  case round =>
   obtain ⟨i, rfl, HI, HA, ⟨m1, rfl⟩⟩ := hrel
   by_cases hlt : i < (l0.length : Int)
   ·
    have p0 : 0 ≤ i := HI.out.1
    have hC : Kd.C (Kd.int .i64) (w.drewN m1) A0 l0.length l0 := Kd.C_drewN HR0.out _
    obtain ⟨ad, e0, hx⟩ := Kd.at_int hC i p0 hlt
    cases e0
    clear hC
    have HL := Aside0.mk hlt
    have c6b0 : decide (i < (l0.length : Int)) = true := decide_eq_true hlt
    by_cases c3 : rd l0 i < 0
    ·
     have f3 : decide (rd l0 i < 0) = true := decide_eq_true c3
     have H3 := Aside0.mk c3
     clear c3
     replace p0 := eq_true p0
     replace hlt := eq_true hlt
     go_wp2
     go_ret
     refine ⟨?_, by repeat (first | exact Drawn0.refl _ | apply Drawn0.step)⟩
     have h1 := HI.out; have h2 := HL.out; have h3 := H3.out
     rw [← HV.out, varsB_false.2 (fun h => by have := (h.2 i h1.1 h2).1; omega)]
     rfl
    ·
     have f3 : decide (rd l0 i < 0) = false := decide_eq_false c3
     have H3 := Aside0.mk c3
     clear c3
     by_cases c4 : 0 < i
     ·
      have f4 : decide (0 < i) = true := decide_eq_true c4
      have hm1 : wrap64 (i - 1) = i - 1 := by have := HC.out; unfold wrap64; omega
      obtain ⟨j, hj⟩ : ∃ j : Int, i - 1 = j := ⟨_, rfl⟩
      have q0 : 0 ≤ j := by omega
      have q1 : j < (l0.length : Int) := by omega
      obtain ⟨ad', e0, hy⟩ := Kd.at_int (Kd.C_drewN HR0.out m1) j q0 q1
      cases e0
      rw [hj] at hm1
      have hm2 : IntKind.i64.wrap (i - 1) = j := by rw [IntKind.wrap_i64, ← hj]; unfold wrap64 at hm1; omega
      have HJ := Aside0.mk hj
      have H4 := Aside0.mk c4
      by_cases c5 : rd l0 i ≤ rd l0 j
      ·
       have f5 : decide (rd l0 i ≤ rd l0 j) = true := decide_eq_true c5
       have H5 := Aside0.mk c5
       clear c5 c4
       replace p0 := eq_true p0
       replace hlt := eq_true hlt
       replace q0 := eq_true q0
       replace q1 := eq_true q1
       go_wp2
       go_ret
       refine ⟨?_, by repeat (first | exact Drawn0.refl _ | apply Drawn0.step)⟩
       have h1 := HI.out; have h2 := HL.out; have h5 := H5.out; have h4 := H4.out
       rw [← HV.out, varsB_false.2 (fun h => by have := (h.2 i h1.1 h2).2 h4; rw [HJ.out] at this; omega)]
       rfl
      ·
       have f5 : decide (rd l0 i ≤ rd l0 j) = false := decide_eq_false c5
       have H5 := Aside0.mk c5
       clear c5 c4
       replace p0 := eq_true p0
       replace hlt := eq_true hlt
       replace q0 := eq_true q0
       replace q1 := eq_true q1
       go_wp2
       go_roundg (l0.length - (i.toNat + 1))
       case measure => have h1 := HI.out; have h2 := HL.out; omega
       case rel =>
        have h1 := HI.out; have h2 := HL.out; have h3 := H3.out; have h4 := HC.out; have h5 := H5.out; have hj := HJ.out
        have hw : wrap64 (i + 1) = i + 1 := by unfold wrap64; omega
        refine ⟨wrap64 (i + 1), rfl, ⟨by omega, by omega, by omega⟩, ⟨fun k k0 k1 => ?_⟩, by repeat (first | exact Drawn0.refl _ | apply Drawn0.step)⟩
        by_cases e : k = i
        ·
         subst e; exact ⟨by omega, fun _ => by rw [hj]; omega⟩
        ·
         exact HA.out k k0 (by omega)
     ·
      have f4 : decide (0 < i) = false := decide_eq_false c4
      have H4 := Aside0.mk c4
      clear c4
      replace p0 := eq_true p0
      replace hlt := eq_true hlt
      go_wp2
      go_roundg (l0.length - (i.toNat + 1))
      case measure => have h1 := HI.out; have h2 := HL.out; omega
      case rel =>
       have h1 := HI.out; have h2 := HL.out; have h3 := H3.out; have h4 := HC.out; have h5 := H4.out
       have hw : wrap64 (i + 1) = i + 1 := by unfold wrap64; omega
       refine ⟨wrap64 (i + 1), rfl, ⟨by omega, by omega, by omega⟩, ⟨fun k k0 k1 => ?_⟩, by repeat (first | exact Drawn0.refl _ | apply Drawn0.step)⟩
       by_cases e : k = i
       ·
        subst e; exact ⟨by omega, fun h => absurd h (by omega)⟩
       ·
        exact HA.out k k0 (by omega)
   ·
    have c6b0 : decide (i < (l0.length : Int)) = false := decide_eq_false hlt
    have HL := Aside0.mk hlt
    clear hlt
    go_wp2
    go_ret
    have h1 := HI.out; have h2 := HL.out; have h4 := HC.out
    refine ⟨?_, by repeat (first | exact Drawn0.refl _ | apply Drawn0.step)⟩
    rw [← HV.out, varsB_true.2 ⟨by omega, fun k k0 k1 => HA.out k k0 (by omega)⟩]
    rfl
end Go.Proofs.Ytomgebmimgaojaa.QO
end
section
noncomputable section
namespace Go.Proofs.Ytomgebmimgaojaa.QO
open Go.RowKit Go.Proofs.YtomgebmimgaojaaW.PrintWords Go.Proofs.YtomgebmimgaojaaW.PrintLast
set_option linter.unusedVariables false
set_option linter.unusedSimpArgs false
def gimbalref11_bar.f (a0 : Int) : Option Int := if 0 ≤ a0 ∧ a0 < 16 then some (nbar a0) else none
set_option maxHeartbeats 8000000 in
set_option maxRecDepth 100000 in
theorem gimbalref11_bar.calls (a0 : Int) (r : Int) (w : World) (h : gimbalref11_bar.f a0 = some r) :
 Calls Try.prog 53 #[.int .i64 a0] w fun e w' => e = .returned (.int .i64 r) ∧ Drawn0 w w' := by
 have hr : r = Go.bits .xor .i64 a0 1 := by
  unfold gimbalref11_bar.f at h; split at h
  ·
   rename_i hc; rw [xor_one a0 hc.1 hc.2]; exact (Option.some.inj h).symm
  ·
   cases h
 subst hr
 clear h
 go_enter Try.func53, Try.ntmps53
 go_wp2
 go_ret
 exact ⟨rfl, Drawn0.refl _⟩
set_option maxHeartbeats 8000000 in
set_option maxRecDepth 100000 in
theorem gimbalref11_bar_still (a0 : Int) (r : Int) (w : World) (h : gimbalref11_bar.f a0 = some r) :
 Calls Try.prog 53 #[.int .i64 a0] w fun e w' => e = .returned (.int .i64 r) ∧ w' = w := by
 have hr : r = Go.bits .xor .i64 a0 1 := by
  unfold gimbalref11_bar.f at h; split at h
  ·
   rename_i hc; rw [xor_one a0 hc.1 hc.2]; exact (Option.some.inj h).symm
  ·
   cases h
 subst hr
 clear h
 go_enter Try.func53, Try.ntmps53
 go_wp2
 go_ret
 exact ⟨rfl, rfl⟩
end Go.Proofs.Ytomgebmimgaojaa.QO
end
end
section
namespace Go.Proofs.Ytomgebmimgaojaa.QO
open Go.RowKit Go.Proofs.YtomgebmimgaojaaW.PrintWords Go.Proofs.YtomgebmimgaojaaW.PrintLast
set_option linter.unusedVariables false
set_option linter.unusedSimpArgs false
noncomputable def gimbalref11_Fit.f (l0_0 : List Int) (l0_1 : List Int) (a0_2 : Bool) : Option Bool := if l0_0.length ≤ 17592186044416 then some (ofitB l0_0 l0_1 a0_2) else none
theorem Box1.three {w W : World} {g : Nat} {a b c : Value} {t : Nat} (h : Box1 w g #[a, b, c] t W) : W.cell? ⟨g, 0, none⟩ = some a ∧ W.cell? ⟨g, 1, none⟩ = some b ∧ W.cell? ⟨g, 2, none⟩ = some c := ⟨(blk_cell h.box 0).trans rfl, (blk_cell h.box 1).trans rfl, (blk_cell h.box 2).trans rfl⟩
set_option maxHeartbeats 8000000 in
set_option maxRecDepth 100000 in
theorem gimbalref11_Fit.calls (A0_0 : Option Addr) (c0_0 : Nat) (l0_0 : List Int) (A0_1 : Option Addr) (c0_1 : Nat) (l0_1 : List Int) (a0_2 : Bool) (r : Bool) (w : World) (hr0_0 : Kd.C (Kd.int .i64) w A0_0 l0_0.length l0_0) (hc0_0 : l0_0.length ≤ c0_0) (hr0_1 : Kd.C (Kd.int .i64) w A0_1 l0_1.length l0_1) (hc0_1 : l0_1.length ≤ c0_1) (h : gimbalref11_Fit.f l0_0 l0_1 a0_2 = some r) :
 Calls Try.prog 19 #[.agg #[.slice A0_0 l0_0.length c0_0, .slice A0_1 l0_1.length c0_1, .bool a0_2]] w fun e w' => e = .returned (.bool r) ∧ Below w.heap.size w w' := by
 have hu25 := Try.underlying25
 have HR0 := Aside0.mk hr0_0
 have HR1 := Aside0.mk hr0_1
 have HC0 := Aside0.mk hc0_0
 have HC1 := Aside0.mk hc0_1
 clear hr0_0 hr0_1 hc0_0 hc0_1
 unfold gimbalref11_Fit.f at h
 by_cases hlen : l0_0.length ≤ 17592186044416
 ·
  rw [if_pos hlen] at h
  have HV := Aside0.mk (Option.some.inj h)
  clear h
  have e1 : wrap64 (2 * (l0_0.length : Int)) = 2 * (l0_0.length : Int) := by unfold wrap64; omega
  have e2 : IntKind.i64.wrap (2 * (l0_0.length : Int)) = 2 * (l0_0.length : Int) := by rw [IntKind.wrap_i64]; omega
  cases hv : varsB l0_0 with
  | false =>
   have HM := fun W (hW : Kd.C (Kd.int .i64) W A0_0 l0_0.length l0_0) => gimbalref11_VarsFit.calls A0_0 c0_0 l0_0 false W hW HC0.out (by unfold gimbalref11_VarsFit.f; rw [hv])
   replace HM := Aside0.mk HM
   have HF := Aside0.mk (varsB_false.1 hv)
   clear hv hlen
   go_enter Try.func19, Try.ntmps19
   go_wp2_with (go_at_call 49; (with_reducible refine (HM.out _ ?side1).mono ?_); (case side1 => repeat (first | exact HR0.out | (with_reducible refine Kd.C_alloc ?_ _) | (with_reducible refine Kd.C_drewN ?_ _) | (with_reducible refine Kd.C_drew ?_))); rintro e w1 ⟨rfl, ⟨nd, rfl⟩⟩)
   go_ret
   refine ⟨?_, by repeat (first | exact Below.refl _ _ | (with_reducible apply below_alloc) | (with_reducible apply pw_below_drewN) | (with_reducible apply below_drew))⟩
   rw [← HV.out, ofitB_false.2 (fun h => HF.out h.1)]
   rfl
  | true =>
   have HM := fun W (hW : Kd.C (Kd.int .i64) W A0_0 l0_0.length l0_0) => gimbalref11_VarsFit.calls A0_0 c0_0 l0_0 true W hW HC0.out (by unfold gimbalref11_VarsFit.f; rw [hv])
   replace HM := Aside0.mk HM
   have HT := Aside0.mk (varsB_true.1 hv)
   clear hv hlen
   cases a0_2 with
   | true =>
    by_cases hz : l0_1.length = 0
    ·
     have f1 : ((l0_1.length : Int) == 0) = true := by rw [hz]; rfl
     have f2 : (l0_1.length == 0) = true := by rw [hz]; rfl
     have HZ := Aside0.mk hz
     clear hz
     go_enter Try.func19, Try.ntmps19
     go_wp2_with (go_at_call 49; (with_reducible refine (HM.out _ ?side1).mono ?_); (case side1 => repeat (first | exact HR0.out | (with_reducible refine Kd.C_alloc ?_ _) | (with_reducible refine Kd.C_drewN ?_ _) | (with_reducible refine Kd.C_drew ?_))); rintro e w1 ⟨rfl, ⟨nd, rfl⟩⟩)
     go_ret
     refine ⟨?_, by repeat (first | exact Below.refl _ _ | (with_reducible apply below_alloc) | (with_reducible apply pw_below_drewN) | (with_reducible apply below_drew))⟩
     rw [← HV.out, ofitB_true.2 ⟨HT.out, fun _ => List.eq_nil_of_length_eq_zero HZ.out, fun h => by cases h⟩]
     rfl
    ·
     have f1 : ((l0_1.length : Int) == 0) = false := by simpa using (by omega : ¬ ((l0_1.length : Int) = 0))
     have f2 : (l0_1.length == 0) = false := by simpa using hz
     have HZ := Aside0.mk hz
     clear hz
     go_enter Try.func19, Try.ntmps19
     go_wp2_with (go_at_call 49; (with_reducible refine (HM.out _ ?side1).mono ?_); (case side1 => repeat (first | exact HR0.out | (with_reducible refine Kd.C_alloc ?_ _) | (with_reducible refine Kd.C_drewN ?_ _) | (with_reducible refine Kd.C_drew ?_))); rintro e w1 ⟨rfl, ⟨nd, rfl⟩⟩)
     go_ret
     refine ⟨?_, by repeat (first | exact Below.refl _ _ | (with_reducible apply below_alloc) | (with_reducible apply pw_below_drewN) | (with_reducible apply below_drew))⟩
     rw [← HV.out, ofitB_false.2 (fun h => HZ.out (by rw [h.2.1 rfl]; rfl))]
     rfl
   | false =>
    obtain ⟨n2, hn2⟩ : ∃ n2 : Int, 2 * (l0_0.length : Int) = n2 := ⟨_, rfl⟩
    replace e1 : wrap64 (2 * (l0_0.length : Int)) = n2 := e1.trans hn2
    replace e2 : IntKind.i64.wrap (2 * (l0_0.length : Int)) = n2 := e2.trans hn2
    have hl8 := HT.out.1
    obtain ⟨nn, hnn⟩ : ∃ nn : Int, n2 * n2 = nn := ⟨_, rfl⟩
    have hnn2 : 0 ≤ nn ∧ nn ≤ 256 := by rw [← hnn]; exact mul_in (a := n2) (b := n2) (by omega) (by omega) (by omega) (by omega)
    have e3 : wrap64 (n2 * n2) = nn := by rw [hnn]; unfold wrap64; omega
    have e4 : IntKind.i64.wrap (n2 * n2) = nn := by rw [hnn, IntKind.wrap_i64]; omega
    by_cases hz : (l0_1.length : Int) = nn
    ·
     have f1 : ((l0_1.length : Int) != nn) = false := by rw [hz]; simp
     have HZ := Aside0.mk hz
     have HN := Aside0.mk hn2
     have HNN := Aside0.mk hnn
     clear hz hn2 hnn hnn2 hl8
     go_enter Try.func19, Try.ntmps19
     go_wp2_with (go_at_call 49; (with_reducible refine (HM.out _ ?side1).mono ?_); (case side1 => repeat (first | exact HR0.out | (with_reducible refine Kd.C_alloc ?_ _) | (with_reducible refine Kd.C_drewN ?_ _) | (with_reducible refine Kd.C_drew ?_))); rintro e w1 ⟨rfl, ⟨nd, rfl⟩⟩)
     go_loopg [4, 5, 6] n2.toNat (fun gg s4 _ _ wr => ∃ i : Int, s4 = .int .i64 i ∧ Aside0 (0 ≤ i ∧ i ≤ n2 ∧ n2.toNat - i.toNat ≤ gg) ∧ Aside0 (Box1 w w.heap.size #[.slice A0_0 l0_0.length c0_0, .slice A0_1 l0_1.length c0_1, .bool false] 25 wr) ∧ Aside0 (∀ a b : Int, 0 ≤ a → a < i → 0 ≤ b → b < n2 → EntryOk n2 l0_1 a b))
     case atStart => exact ⟨0, rfl, ⟨by have := HN.out; omega, by have := HN.out; omega, by omega⟩, ⟨by repeat (first | exact box1_new (Below.refl _ _) rfl | (with_reducible apply Box1.drewN) | (with_reducible apply Box1.drew))⟩, ⟨fun a b h0 h1 => absurd h1 (by omega)⟩⟩
     case round =>
      obtain ⟨i, rfl, HI, HX, HA⟩ := hrel
      by_cases hlt : i < n2
      ·
       have f2 : decide (i < n2) = true := decide_eq_true hlt
       have HL := Aside0.mk hlt
       clear hlt
       go_wp2
       obtain ⟨wo, rfl⟩ : ∃ wo : World, wo = wr := ⟨_, rfl⟩
       go_loopg [5, 6] n2.toNat (fun hh s5 _ wr => ∃ j : Int, s5 = .int .i64 j ∧ Aside0 (0 ≤ j ∧ j ≤ n2 ∧ n2.toNat - j.toNat ≤ hh) ∧ Aside0 (Box1 w w.heap.size #[.slice A0_0 l0_0.length c0_0, .slice A0_1 l0_1.length c0_1, .bool false] 25 wr) ∧ Aside0 (∀ b : Int, 0 ≤ b → b < j → EntryOk n2 l0_1 i b))
       case atStart => exact ⟨0, rfl, ⟨by have := HN.out; omega, by have := HN.out; omega, by omega⟩, ⟨HX.out⟩, ⟨fun b h0 h1 => absurd h1 (by omega)⟩⟩
       case round =>
        clear HX
        obtain ⟨j, rfl, HJ, HX, HE⟩ := hrel
        by_cases hlt : j < n2
        ·
         have f3 : decide (j < n2) = true := decide_eq_true hlt
         have HK := Aside0.mk hlt
         clear hlt
         have hi := HI.out; have hj := HJ.out; have hil := HL.out; have hjl := HK.out
         have h8 := HT.out.1
         have hm : (l0_1.length : Int) = n2 * n2 := by rw [HNN.out]; exact HZ.out
         have nj := nbar_in (i := j) (n := l0_0.length) hj.1 (by rw [HN.out]; exact hjl)
         have ni := nbar_in (i := i) (n := l0_0.length) hi.1 (by rw [HN.out]; exact hil)
         rw [HN.out] at nj ni
         have hn16 : n2 ≤ 16 := by have := HN.out; omega
         have b1 : gimbalref11_bar.f j = some (nbar j) := by unfold gimbalref11_bar.f; rw [if_pos ⟨hj.1, by have := HN.out; omega⟩]
         have b2 : gimbalref11_bar.f i = some (nbar i) := by unfold gimbalref11_bar.f; rw [if_pos ⟨hi.1, by have := HN.out; omega⟩]
         have pl1 := place_in (n := n2) hi.1 hil hj.1 hjl
         have pl2 := place_in (n := n2) nj.1 nj.2 ni.1 ni.2
         obtain ⟨p, hp⟩ : ∃ p, nbar j = p := ⟨_, rfl⟩
         obtain ⟨q, hq⟩ : ∃ q, nbar i = q := ⟨_, rfl⟩
         rw [hp] at nj pl2 b1
         rw [hq] at ni pl2 b2
         have mi1 := mul_in (a := n2) (b := i) (by omega) (by have := HN.out; omega) (by omega) (by have := HN.out; omega)
         have mi2 := mul_in (a := n2) (b := p) (by omega) (by have := HN.out; omega) (by omega) (by have := HN.out; omega)
         obtain ⟨s, hs⟩ : ∃ s, i * n2 = s := ⟨_, rfl⟩
         obtain ⟨u, hu⟩ : ∃ u, s + j = u := ⟨_, rfl⟩
         obtain ⟨v, hv⟩ : ∃ v, p * n2 = v := ⟨_, rfl⟩
         obtain ⟨z, hz⟩ : ∃ z, v + q = z := ⟨_, rfl⟩
         rw [hs] at pl1 mi1
         rw [hu] at pl1
         rw [hv] at pl2 mi2
         rw [hz] at pl2
         rw [← hm] at pl1 pl2
         obtain ⟨ad, e0, hx⟩ := Kd.at_int (Kd.C_below HR1.out HX.out.below) u pl1.1 pl1.2
         obtain ⟨ad', e9, hy⟩ := Kd.at_int (Kd.C_below HR1.out HX.out.below) z pl2.1 pl2.2
         cases e0
         cases e9
         obtain ⟨x, hxx⟩ : ∃ x, rd l0_1 u = x := ⟨_, rfl⟩
         obtain ⟨y, hyy⟩ : ∃ y, rd l0_1 z = y := ⟨_, rfl⟩
         rw [hxx] at hx
         rw [hyy] at hy
         have g1 : wrap64 (i * n2) = s := by rw [hs]; unfold wrap64; omega
         have g2 : IntKind.i64.wrap (i * n2) = s := by rw [hs, IntKind.wrap_i64]; omega
         have g3 : wrap64 (s + j) = u := by rw [hu]; unfold wrap64; omega
         have g4 : IntKind.i64.wrap (s + j) = u := by rw [hu, IntKind.wrap_i64]; omega
         have g5 : wrap64 (p * n2) = v := by rw [hv]; unfold wrap64; omega
         have g6 : IntKind.i64.wrap (p * n2) = v := by rw [hv, IntKind.wrap_i64]; omega
         have g7 : wrap64 (v + q) = z := by rw [hz]; unfold wrap64; omega
         have g8 : IntKind.i64.wrap (v + q) = z := by rw [hz, IntKind.wrap_i64]; omega
         have k1 := eq_true pl1.1
         have k2 := eq_true pl1.2
         have k3 := eq_true pl2.1
         have k4 := eq_true pl2.2
         have B1 := Aside0.mk (fun W => gimbalref11_bar_still j p W b1)
         have B2 := Aside0.mk (fun W => gimbalref11_bar_still i q W b2)
         have HXY : Aside0 (EntryOk n2 l0_1 i j ↔ (x = 4611686018427387904 ∨ (-1099511627776 ≤ x ∧ x ≤ 1099511627776)) ∧ (i = j → x = 0) ∧ x = y) := ⟨by unfold EntryOk; rw [hp, hq, hs, hu, hv, hz, hxx, hyy]⟩
         clear hi hj hil hjl h8 hn16 hm nj ni b1 b2 hp hq hs hu hv hz hxx hyy pl1 pl2 mi1 mi2
         obtain ⟨hx0, hx1, hx2⟩ := HX.out.three
         go_upto_region 15 with fail
         go_cut [80] (fun s80 wx => ∃ b : Bool, s80 = .bool b ∧ (b = false ↔ (x = 4611686018427387904 ∨ (-1099511627776 ≤ x ∧ x ≤ 1099511627776)) ∧ (i = j → x = 0) ∧ x = y) ∧ Box1 w w.heap.size #[.slice A0_0 l0_0.length c0_0, .slice (some ad) l0_1.length c0_1, .bool false] 25 wx)
         case first =>
          by_cases c1 : x = 4611686018427387904
          ·
           have f1 : (x != 4611686018427387904) = false := by rw [c1]; rfl
           by_cases c4 : i = j
           ·
            have f4 : (i == j) = true := by simpa using c4
            by_cases c5 : x = 0
            ·
             have f5 : (x != 0) = false := by rw [c5]; rfl
             by_cases c6 : x = y
             ·
              have f6 : (x != y) = false := by rw [c6]; simp
              have HB : Aside0 (false = false ↔ (x = 4611686018427387904 ∨ (-1099511627776 ≤ x ∧ x ≤ 1099511627776)) ∧ (i = j → x = 0) ∧ x = y) := ⟨by constructor; (intro _; exact ⟨by omega, by omega, by omega⟩); intro _; rfl⟩
              clear c1 c4 c5 c6
              go_quiet ((first | (go_at_call 53; exact Calls.quiet_of_same (B1.out _)) | (go_at_call 53; exact Calls.quiet_of_same (B2.out _))))
              go_wp2_with fail
              go_meet
              exact ⟨false, rfl, (by have h := HB.out; first | exact h | simpa using h), (by repeat (first | exact HX.out | (with_reducible apply Box1.drewN) | (with_reducible apply Box1.drew)))⟩
             ·
              have f6 : (x != y) = true := by simpa using c6
              have HB : Aside0 (true = false ↔ (x = 4611686018427387904 ∨ (-1099511627776 ≤ x ∧ x ≤ 1099511627776)) ∧ (i = j → x = 0) ∧ x = y) := ⟨by constructor; (intro h; cases h); intro h; exfalso; omega⟩
              clear c1 c4 c5 c6
              go_quiet ((first | (go_at_call 53; exact Calls.quiet_of_same (B1.out _)) | (go_at_call 53; exact Calls.quiet_of_same (B2.out _))))
              go_wp2_with fail
              go_meet
              exact ⟨true, rfl, (by have h := HB.out; first | exact h | simpa using h), (by repeat (first | exact HX.out | (with_reducible apply Box1.drewN) | (with_reducible apply Box1.drew)))⟩
            ·
             have f5 : (x != 0) = true := by simpa using c5
             have HB : Aside0 (true = false ↔ (x = 4611686018427387904 ∨ (-1099511627776 ≤ x ∧ x ≤ 1099511627776)) ∧ (i = j → x = 0) ∧ x = y) := ⟨by constructor; (intro h; cases h); intro h; exfalso; omega⟩
             clear c1 c4 c5
             go_quiet ((first | (go_at_call 53; exact Calls.quiet_of_same (B1.out _)) | (go_at_call 53; exact Calls.quiet_of_same (B2.out _))))
             go_wp2_with fail
             go_meet
             exact ⟨true, rfl, (by have h := HB.out; first | exact h | simpa using h), (by repeat (first | exact HX.out | (with_reducible apply Box1.drewN) | (with_reducible apply Box1.drew)))⟩
           ·
            have f4 : (i == j) = false := by simpa using c4
            by_cases c6 : x = y
            ·
             have f6 : (x != y) = false := by rw [c6]; simp
             have HB : Aside0 (false = false ↔ (x = 4611686018427387904 ∨ (-1099511627776 ≤ x ∧ x ≤ 1099511627776)) ∧ (i = j → x = 0) ∧ x = y) := ⟨by constructor; (intro _; exact ⟨by omega, by omega, by omega⟩); intro _; rfl⟩
             clear c1 c4 c6
             go_quiet ((first | (go_at_call 53; exact Calls.quiet_of_same (B1.out _)) | (go_at_call 53; exact Calls.quiet_of_same (B2.out _))))
             go_wp2_with fail
             go_meet
             exact ⟨false, rfl, (by have h := HB.out; first | exact h | simpa using h), (by repeat (first | exact HX.out | (with_reducible apply Box1.drewN) | (with_reducible apply Box1.drew)))⟩
            ·
             have f6 : (x != y) = true := by simpa using c6
             have HB : Aside0 (true = false ↔ (x = 4611686018427387904 ∨ (-1099511627776 ≤ x ∧ x ≤ 1099511627776)) ∧ (i = j → x = 0) ∧ x = y) := ⟨by constructor; (intro h; cases h); intro h; exfalso; omega⟩
             clear c1 c4 c6
             go_quiet ((first | (go_at_call 53; exact Calls.quiet_of_same (B1.out _)) | (go_at_call 53; exact Calls.quiet_of_same (B2.out _))))
             go_wp2_with fail
             go_meet
             exact ⟨true, rfl, (by have h := HB.out; first | exact h | simpa using h), (by repeat (first | exact HX.out | (with_reducible apply Box1.drewN) | (with_reducible apply Box1.drew)))⟩
          ·
           have f1 : (x != 4611686018427387904) = true := by simpa using c1
           by_cases c2 : x < -1099511627776
           ·
            have f2 : decide (x < -1099511627776) = true := decide_eq_true c2
            have HB : Aside0 (true = false ↔ (x = 4611686018427387904 ∨ (-1099511627776 ≤ x ∧ x ≤ 1099511627776)) ∧ (i = j → x = 0) ∧ x = y) := ⟨by constructor; (intro h; cases h); intro h; exfalso; omega⟩
            clear c1 c2
            go_quiet ((first | (go_at_call 53; exact Calls.quiet_of_same (B1.out _)) | (go_at_call 53; exact Calls.quiet_of_same (B2.out _))))
            go_wp2_with fail
            go_meet
            exact ⟨true, rfl, (by have h := HB.out; first | exact h | simpa using h), (by repeat (first | exact HX.out | (with_reducible apply Box1.drewN) | (with_reducible apply Box1.drew)))⟩
           ·
            have f2 : decide (x < -1099511627776) = false := decide_eq_false c2
            by_cases c3 : 1099511627776 < x
            ·
             have f3 : decide (1099511627776 < x) = true := decide_eq_true c3
             have HB : Aside0 (true = false ↔ (x = 4611686018427387904 ∨ (-1099511627776 ≤ x ∧ x ≤ 1099511627776)) ∧ (i = j → x = 0) ∧ x = y) := ⟨by constructor; (intro h; cases h); intro h; exfalso; omega⟩
             clear c1 c2 c3
             go_quiet ((first | (go_at_call 53; exact Calls.quiet_of_same (B1.out _)) | (go_at_call 53; exact Calls.quiet_of_same (B2.out _))))
             go_wp2_with fail
             go_meet
             exact ⟨true, rfl, (by have h := HB.out; first | exact h | simpa using h), (by repeat (first | exact HX.out | (with_reducible apply Box1.drewN) | (with_reducible apply Box1.drew)))⟩
            ·
             have f3 : decide (1099511627776 < x) = false := decide_eq_false c3
             by_cases c4 : i = j
             ·
              have f4 : (i == j) = true := by simpa using c4
              by_cases c5 : x = 0
              ·
               have f5 : (x != 0) = false := by rw [c5]; rfl
               by_cases c6 : x = y
               ·
                have f6 : (x != y) = false := by rw [c6]; simp
                have HB : Aside0 (false = false ↔ (x = 4611686018427387904 ∨ (-1099511627776 ≤ x ∧ x ≤ 1099511627776)) ∧ (i = j → x = 0) ∧ x = y) := ⟨by constructor; (intro _; exact ⟨by omega, by omega, by omega⟩); intro _; rfl⟩
                clear c1 c2 c3 c4 c5 c6
                go_quiet ((first | (go_at_call 53; exact Calls.quiet_of_same (B1.out _)) | (go_at_call 53; exact Calls.quiet_of_same (B2.out _))))
                go_wp2_with fail
                go_meet
                exact ⟨false, rfl, (by have h := HB.out; first | exact h | simpa using h), (by repeat (first | exact HX.out | (with_reducible apply Box1.drewN) | (with_reducible apply Box1.drew)))⟩
               ·
                have f6 : (x != y) = true := by simpa using c6
                have HB : Aside0 (true = false ↔ (x = 4611686018427387904 ∨ (-1099511627776 ≤ x ∧ x ≤ 1099511627776)) ∧ (i = j → x = 0) ∧ x = y) := ⟨by constructor; (intro h; cases h); intro h; exfalso; omega⟩
                clear c1 c2 c3 c4 c5 c6
                go_quiet ((first | (go_at_call 53; exact Calls.quiet_of_same (B1.out _)) | (go_at_call 53; exact Calls.quiet_of_same (B2.out _))))
                go_wp2_with fail
                go_meet
                exact ⟨true, rfl, (by have h := HB.out; first | exact h | simpa using h), (by repeat (first | exact HX.out | (with_reducible apply Box1.drewN) | (with_reducible apply Box1.drew)))⟩
              ·
               have f5 : (x != 0) = true := by simpa using c5
               have HB : Aside0 (true = false ↔ (x = 4611686018427387904 ∨ (-1099511627776 ≤ x ∧ x ≤ 1099511627776)) ∧ (i = j → x = 0) ∧ x = y) := ⟨by constructor; (intro h; cases h); intro h; exfalso; omega⟩
               clear c1 c2 c3 c4 c5
               go_quiet ((first | (go_at_call 53; exact Calls.quiet_of_same (B1.out _)) | (go_at_call 53; exact Calls.quiet_of_same (B2.out _))))
               go_wp2_with fail
               go_meet
               exact ⟨true, rfl, (by have h := HB.out; first | exact h | simpa using h), (by repeat (first | exact HX.out | (with_reducible apply Box1.drewN) | (with_reducible apply Box1.drew)))⟩
             ·
              have f4 : (i == j) = false := by simpa using c4
              by_cases c6 : x = y
              ·
               have f6 : (x != y) = false := by rw [c6]; simp
               have HB : Aside0 (false = false ↔ (x = 4611686018427387904 ∨ (-1099511627776 ≤ x ∧ x ≤ 1099511627776)) ∧ (i = j → x = 0) ∧ x = y) := ⟨by constructor; (intro _; exact ⟨by omega, by omega, by omega⟩); intro _; rfl⟩
               clear c1 c2 c3 c4 c6
               go_quiet ((first | (go_at_call 53; exact Calls.quiet_of_same (B1.out _)) | (go_at_call 53; exact Calls.quiet_of_same (B2.out _))))
               go_wp2_with fail
               go_meet
               exact ⟨false, rfl, (by have h := HB.out; first | exact h | simpa using h), (by repeat (first | exact HX.out | (with_reducible apply Box1.drewN) | (with_reducible apply Box1.drew)))⟩
              ·
               have f6 : (x != y) = true := by simpa using c6
               have HB : Aside0 (true = false ↔ (x = 4611686018427387904 ∨ (-1099511627776 ≤ x ∧ x ≤ 1099511627776)) ∧ (i = j → x = 0) ∧ x = y) := ⟨by constructor; (intro h; cases h); intro h; exfalso; omega⟩
               clear c1 c2 c3 c4 c6
               go_quiet ((first | (go_at_call 53; exact Calls.quiet_of_same (B1.out _)) | (go_at_call 53; exact Calls.quiet_of_same (B2.out _))))
               go_wp2_with fail
               go_meet
               exact ⟨true, rfl, (by have h := HB.out; first | exact h | simpa using h), (by repeat (first | exact HX.out | (with_reducible apply Box1.drewN) | (with_reducible apply Box1.drew)))⟩
         case rest =>
          obtain ⟨b, rfl, hb, hX⟩ := hcut
          clear HX hx0 hx1 hx2 hx hy B1 B2 g1 g2 g3 g4 g5 g6 g7 g8 k1 k2 k3 k4
          have HX := Aside0.mk hX
          have HB := Aside0.mk (hb.trans HXY.out.symm)
          clear hX hb HXY
          cases b with
          | true =>
           go_wp2
           go_ret
           refine ⟨?_, HX.out.below⟩
           have h1 := HI.out; have h2 := HL.out; have h3 := HJ.out; have h4 := HK.out
           rw [← HV.out, ofitB_false.2 (fun h => by have := (h.2.2 rfl).2 i j h1.1 (by rw [HN.out]; exact h2) h3.1 (by rw [HN.out]; exact h4); rw [HN.out] at this; exact absurd (HB.out.2 this) (by simp))]
           rfl
          | false =>
           go_wp2
           go_roundg (n2.toNat - (j.toNat + 1))
           case measure => have h1 := HJ.out; have h2 := HK.out; omega
           case rel =>
            have h1 := HJ.out; have h2 := HK.out; have h3 := HT.out.1; have h4 := HN.out
            have hw : wrap64 (j + 1) = j + 1 := by unfold wrap64; omega
            refine ⟨wrap64 (j + 1), rfl, ⟨by omega, by omega, by omega⟩, ⟨HX.out⟩, ⟨fun b b0 b1 => ?_⟩⟩
            by_cases e : b = j
            ·
             subst e; exact HB.out.1 (by first | rfl | trivial)
            ·
             exact HE.out b b0 (by omega)
        ·
         have f3 : decide (j < n2) = false := decide_eq_false hlt
         have HK := Aside0.mk hlt
         clear hlt
         go_wp2
         go_roundg (n2.toNat - (i.toNat + 1))
         case measure => have h1 := HI.out; have h2 := HL.out; omega
         case rel =>
          have h1 := HI.out; have h2 := HL.out; have h3 := HT.out.1; have h4 := HN.out; have h5 := HK.out; have h6 := HJ.out
          have hw : wrap64 (i + 1) = i + 1 := by unfold wrap64; omega
          refine ⟨wrap64 (i + 1), rfl, ⟨by omega, by omega, by omega⟩, ⟨HX.out⟩, ⟨fun a b a0 a1 b0 b1 => ?_⟩⟩
          by_cases e : a = i
          ·
           subst e; exact HE.out b b0 (by omega)
          ·
           exact HA.out a b a0 (by omega) b0 b1
      ·
       have f2 : decide (i < n2) = false := decide_eq_false hlt
       have HL := Aside0.mk hlt
       clear hlt
       go_wp2
       go_ret
       have h1 := HI.out; have h2 := HL.out
       refine ⟨?_, HX.out.below⟩
       rw [← HV.out, ofitB_true.2 ⟨HT.out, fun h => (by cases h), fun _ => ⟨by rw [HN.out, HNN.out]; exact HZ.out, fun a b a0 a1 b0 b1 => by rw [HN.out] at a1 b1 ⊢; exact HA.out a b a0 (by omega) b0 b1⟩⟩]
       rfl
    ·
     have f1 : ((l0_1.length : Int) != nn) = true := by simpa using hz
     have HZ := Aside0.mk hz
     have HN := Aside0.mk hn2
     have HNN := Aside0.mk hnn
     clear hz hn2 hnn hnn2 hl8
     go_enter Try.func19, Try.ntmps19
     go_wp2_with (go_at_call 49; (with_reducible refine (HM.out _ ?side1).mono ?_); (case side1 => repeat (first | exact HR0.out | (with_reducible refine Kd.C_alloc ?_ _) | (with_reducible refine Kd.C_drewN ?_ _) | (with_reducible refine Kd.C_drew ?_))); rintro e w1 ⟨rfl, ⟨nd, rfl⟩⟩)
     go_ret
     refine ⟨?_, by repeat (first | exact Below.refl _ _ | (with_reducible apply below_alloc) | (with_reducible apply pw_below_drewN) | (with_reducible apply below_drew))⟩
     rw [← HV.out, ofitB_false.2 (fun h => HZ.out (by rw [(h.2.2 rfl).1, HN.out, HNN.out]))]
     rfl
 ·
  rw [if_neg hlen] at h
  cases h
end Go.Proofs.Ytomgebmimgaojaa.QO
end
section
noncomputable section
namespace Go.Proofs.Ytomgebmimgaojaa.QO
open Go.RowKit Go.Proofs.YtomgebmimgaojaaW.PrintWords Go.Proofs.YtomgebmimgaojaaW.PrintLast
set_option linter.unusedVariables false
set_option linter.unusedSimpArgs false
mutual
def gimballaw11_two.j0 : Nat → Bool → List Int → List Int → Bool → List Int → List Int → Bool → Option (Bool)
 | 0, _, _, _, _, _, _, _ => none
 | k + 1, x22, x560000, x560001, x560002, x561000, x561001, x561002 => if x22 = true then (some false) else (gimballaw11_two.l0 k (x560000.length : Int) 0 x560000 x560001 x560002 x561000 x561001 x561002)
def gimballaw11_two.l0 : Nat → Int → Int → List Int → List Int → Bool → List Int → List Int → Bool → Option (Bool)
 | 0, _, _, _, _, _, _, _, _ => none
 | k + 1, x25, x26, x560000, x560001, x560002, x561000, x561001, x561002 => if x26 < x25 then (if 0 ≤ x26 then (if x26 < (x560000.length : Int) then (if x26 < (x561000.length : Int) then (if (rd x560000 x26) = (rd x561000 x26) then (gimballaw11_two.l0 k x25 (wrap64 (x26 + 1)) x560000 x560001 x560002 x561000 x561001 x561002) else (some false)) else (none)) else (none)) else (none)) else (some true)
end
def gimballaw11_two.f (k : Nat) (l0_0 : List Int) (l0_1 : List Int) (a0_2 : Bool) (l1_0 : List Int) (l1_1 : List Int) (a1_2 : Bool) : Option (Bool) := (gimbalref11_Fit.f l0_0 l0_1 a0_2).bind fun t561 => (if t561 = true then ((gimbalref11_Fit.f l1_0 l1_1 a1_2).bind fun t562 => (if t562 = true then (gimballaw11_two.j0 k ((l0_0.length : Int) != (l1_0.length : Int)) l0_0 l0_1 a0_2 l1_0 l1_1 a1_2) else (gimballaw11_two.j0 k true l0_0 l0_1 a0_2 l1_0 l1_1 a1_2))) else (gimballaw11_two.j0 k true l0_0 l0_1 a0_2 l1_0 l1_1 a1_2))
theorem gimballaw11_two.mono_l : ∀ k, (∀ y0 y1 y2 y3 y4 y5 y6, LeO (gimballaw11_two.j0 k y0 y1 y2 y3 y4 y5 y6) (gimballaw11_two.j0 (k + 1) y0 y1 y2 y3 y4 y5 y6)) ∧ (∀ y0 y1 y2 y3 y4 y5 y6 y7, LeO (gimballaw11_two.l0 k y0 y1 y2 y3 y4 y5 y6 y7) (gimballaw11_two.l0 (k + 1) y0 y1 y2 y3 y4 y5 y6 y7))
 | 0 => ⟨fun _ _ _ _ _ _ _ r h => by simp [gimballaw11_two.j0] at h, fun _ _ _ _ _ _ _ _ r h => by simp [gimballaw11_two.l0] at h⟩
 | k + 1 => by
  obtain ⟨ih0, ih1⟩ := gimballaw11_two.mono_l k
  refine ⟨?_, ?_⟩
  ·
   intro y0 y1 y2 y3 y4 y5 y6
   unfold gimballaw11_two.j0
   repeat' first
   | (with_reducible exact ih0 _ _ _ _ _ _ _)
   | (with_reducible exact ih1 _ _ _ _ _ _ _ _)
   | (with_reducible exact LeO.refl _)
   | (with_reducible exact LeO.none _)
   | (with_reducible refine LeO.ite ?_ ?_)
   | (with_reducible refine LeO.bind ?_ (fun _ => ?_))
   | exact ih0 _ _ _ _ _ _ _
   | exact ih1 _ _ _ _ _ _ _ _
   | exact LeO.none _
   | refine LeO.ite ?_ ?_
   | refine LeO.bind ?_ (fun _ => ?_)
  ·
   intro y0 y1 y2 y3 y4 y5 y6 y7
   unfold gimballaw11_two.l0
   repeat' first
   | (with_reducible exact ih0 _ _ _ _ _ _ _)
   | (with_reducible exact ih1 _ _ _ _ _ _ _ _)
   | (with_reducible exact LeO.refl _)
   | (with_reducible exact LeO.none _)
   | (with_reducible refine LeO.ite ?_ ?_)
   | (with_reducible refine LeO.bind ?_ (fun _ => ?_))
   | exact ih0 _ _ _ _ _ _ _
   | exact ih1 _ _ _ _ _ _ _ _
   | exact LeO.none _
   | refine LeO.ite ?_ ?_
   | refine LeO.bind ?_ (fun _ => ?_)
theorem gimballaw11_two.mono : ∀ a0 a1 a2 a3 a4 a5 k, LeO (gimballaw11_two.f k a0 a1 a2 a3 a4 a5) (gimballaw11_two.f (k + 1) a0 a1 a2 a3 a4 a5) := by
 intro a0 a1 a2 a3 a4 a5 k
 obtain ⟨ih0, ih1⟩ := gimballaw11_two.mono_l k
 unfold gimballaw11_two.f
 repeat' first
  | (with_reducible exact ih0 _ _ _ _ _ _ _)
  | (with_reducible exact ih1 _ _ _ _ _ _ _ _)
  | (with_reducible exact LeO.refl _)
  | (with_reducible exact LeO.none _)
  | (with_reducible refine LeO.ite ?_ ?_)
  | (with_reducible refine LeO.bind ?_ (fun _ => ?_))
  | exact ih0 _ _ _ _ _ _ _
  | exact ih1 _ _ _ _ _ _ _ _
  | exact LeO.none _
  | refine LeO.ite ?_ ?_
  | refine LeO.bind ?_ (fun _ => ?_)
set_option maxHeartbeats 8000000 in
set_option maxRecDepth 100000 in
theorem gimballaw11_two.calls (k : Nat) (A0_0 : Option Addr) (c0_0 : Nat) (l0_0 : List Int) (A0_1 : Option Addr) (c0_1 : Nat) (l0_1 : List Int) (a0_2 : Bool) (A1_0 : Option Addr) (c1_0 : Nat) (l1_0 : List Int) (A1_1 : Option Addr) (c1_1 : Nat) (l1_1 : List Int) (a1_2 : Bool) (r : Bool) (w : World) (hr0_0 : Kd.C (Kd.int .i64) w A0_0 l0_0.length l0_0) (hc0_0 : l0_0.length ≤ c0_0) (hr0_1 : Kd.C (Kd.int .i64) w A0_1 l0_1.length l0_1) (hc0_1 : l0_1.length ≤ c0_1) (hr1_0 : Kd.C (Kd.int .i64) w A1_0 l1_0.length l1_0) (hc1_0 : l1_0.length ≤ c1_0) (hr1_1 : Kd.C (Kd.int .i64) w A1_1 l1_1.length l1_1) (hc1_1 : l1_1.length ≤ c1_1) (h : gimballaw11_two.f k l0_0 l0_1 a0_2 l1_0 l1_1 a1_2 = some r) :
 Calls Try.prog 32 #[.agg #[.slice A0_0 l0_0.length c0_0, .slice A0_1 l0_1.length c0_1, .bool a0_2], .agg #[.slice A1_0 l1_0.length c1_0, .slice A1_1 l1_1.length c1_1, .bool a1_2]] w fun e w' => e = .returned (.bool r) ∧ Below w.heap.size w w' := by
 have hu25 := Try.underlying25
 have HR0_0 := Aside0.mk hr0_0
 have HC0_0 := Aside0.mk hc0_0
 clear hr0_0 hc0_0
 have HR0_1 := Aside0.mk hr0_1
 have HC0_1 := Aside0.mk hc0_1
 clear hr0_1 hc0_1
 have HR1_0 := Aside0.mk hr1_0
 have HC1_0 := Aside0.mk hc1_0
 clear hr1_0 hc1_0
 have HR1_1 := Aside0.mk hr1_1
 have HC1_1 := Aside0.mk hc1_1
 clear hr1_1 hc1_1
 have HB := Aside0.mk (Below.refl w.heap.size w)
 have H : ((gimbalref11_Fit.f l0_0 l0_1 a0_2).bind fun t561 => (if t561 = true then ((gimbalref11_Fit.f l1_0 l1_1 a1_2).bind fun t562 => (if t562 = true then (gimballaw11_two.j0 k ((l0_0.length : Int) != (l1_0.length : Int)) l0_0 l0_1 a0_2 l1_0 l1_1 a1_2) else (gimballaw11_two.j0 k true l0_0 l0_1 a0_2 l1_0 l1_1 a1_2))) else (gimballaw11_two.j0 k true l0_0 l0_1 a0_2 l1_0 l1_1 a1_2))) = some r := h
 clear h
 have HC3 := Aside0.mk H
 clear H
 go_enter Try.func32, Try.ntmps32
 go_upto_region 1 with (first | ((with_reducible refine gate_dst (N := 2) rfl ?_); (try (refine gate_guard (by rfl) ?_; dsimp only)); refine box_event ?hg (N := 2) ?hd (cs := #[.slice A0_0 l0_0.length c0_0, .slice A0_1 l0_1.length c0_1, .bool a0_2]) (t := 25) ?hr ?_; (case hd => rfl); (case hg => rfl); (case hr => first | (go_simp; done) | (go_simp; rfl)); intro gb559 hg w4 hbox hb; have BK559 := Aside0.mk (hbox); have GW559 := vS hg HB; have GE559 := vS hg HB; replace HB := vWs HB hb; clear hb hbox hg) | ((with_reducible refine gate_dst (N := 3) rfl ?_); (try (refine gate_guard (by rfl) ?_; dsimp only)); refine box_event ?hg (N := 3) ?hd (cs := #[.slice A1_0 l1_0.length c1_0, .slice A1_1 l1_1.length c1_1, .bool a1_2]) (t := 25) ?hr ?_; (case hd => rfl); (case hg => rfl); (case hr => first | (go_simp; done) | (go_simp; rfl)); intro gb560 hg w5 hbox hb; have BK560 := Aside0.mk (hbox); have GW560 := vS hg HB; have GE560 := vS hg HB; replace HB := vWs HB hb; have NB559_560 := vNl hg BK559; have NB560_559 := vNg hg BK559; replace BK559 := vBb BK559 hb; clear hb hbox hg))
 repeat (go_quiet (first | ((with_reducible refine gate_dst (N := 2) rfl ?_); (try (refine gate_guard (by rfl) ?_; dsimp only)); refine box_event ?hg (N := 2) ?hd (cs := #[.slice A0_0 l0_0.length c0_0, .slice A0_1 l0_1.length c0_1, .bool a0_2]) (t := 25) ?hr ?_; (case hd => rfl); (case hg => rfl); (case hr => first | (go_simp; done) | (go_simp; rfl)); intro gb559 hg w4 hbox hb; have BK559 := Aside0.mk (hbox); have GW559 := vS hg HB; have GE559 := vS hg HB; replace HB := vWs HB hb; clear hb hbox hg) | ((with_reducible refine gate_dst (N := 3) rfl ?_); (try (refine gate_guard (by rfl) ?_; dsimp only)); refine box_event ?hg (N := 3) ?hd (cs := #[.slice A1_0 l1_0.length c1_0, .slice A1_1 l1_1.length c1_1, .bool a1_2]) (t := 25) ?hr ?_; (case hd => rfl); (case hg => rfl); (case hr => first | (go_simp; done) | (go_simp; rfl)); intro gb560 hg w5 hbox hb; have BK560 := Aside0.mk (hbox); have GW560 := vS hg HB; have GE560 := vS hg HB; replace HB := vWs HB hb; have NB559_560 := vNl hg BK559; have NB560_559 := vNg hg BK559; replace BK559 := vBb BK559 hb; clear hb hbox hg)); go_upto_region 1 with fail)
 (try simp only [Act.put, List.setIfInBounds_toArray, List.set_cons_zero, List.set_cons_succ])
 go_cut [22] (fun v22 wc => ∃ (kq : Nat) (x22_2 : Bool), v22 = .bool x22_2 ∧ Aside0 (gimballaw11_two.j0 kq x22_2 l0_0 l0_1 a0_2 l1_0 l1_1 a1_2 = some r) ∧ Aside0 (kq ≤ k) ∧ Aside0 (wc.heap[gb559]? = some (.cells #[(.slice A0_0 l0_0.length c0_0), (.slice A0_1 l0_1.length c0_1), .bool a0_2] 25 (0, 0))) ∧ Aside0 (wc.heap[gb560]? = some (.cells #[(.slice A1_0 l1_0.length c1_0), (.slice A1_1 l1_1.length c1_1), .bool a1_2] 25 (0, 0))) ∧ Aside0 (Below w.heap.size w wc))
 case first =>
  have H := HC3.out
  clear HC3
  replace H := Option.bind_eq_some_iff.mp H
  obtain ⟨t561, A60, H⟩ := H
  replace H : (if t561 = true then ((gimbalref11_Fit.f l1_0 l1_1 a1_2).bind fun t562 => (if t562 = true then (gimballaw11_two.j0 k ((l0_0.length : Int) != (l1_0.length : Int)) l0_0 l0_1 a0_2 l1_0 l1_1 a1_2) else (gimballaw11_two.j0 k true l0_0 l0_1 a0_2 l1_0 l1_1 a1_2))) else (gimballaw11_two.j0 k true l0_0 l0_1 a0_2 l1_0 l1_1 a1_2)) = some r := H
  have A6 := Aside0.mk A60
  clear A60
  by_cases c7 : t561 = true
  ·
   subst c7
   have H1 : ((gimbalref11_Fit.f l1_0 l1_1 a1_2).bind fun t562 => (if t562 = true then (gimballaw11_two.j0 k ((l0_0.length : Int) != (l1_0.length : Int)) l0_0 l0_1 a0_2 l1_0 l1_1 a1_2) else (gimballaw11_two.j0 k true l0_0 l0_1 a0_2 l1_0 l1_1 a1_2))) = some r := by rw [if_pos rfl] at H; exact H
   clear H
   have H := H1
   clear H1
   replace H := Option.bind_eq_some_iff.mp H
   obtain ⟨t562, A80, H⟩ := H
   replace H : (if t562 = true then (gimballaw11_two.j0 k ((l0_0.length : Int) != (l1_0.length : Int)) l0_0 l0_1 a0_2 l1_0 l1_1 a1_2) else (gimballaw11_two.j0 k true l0_0 l0_1 a0_2 l1_0 l1_1 a1_2)) = some r := H
   have A8 := Aside0.mk A80
   clear A80
   by_cases c9 : t562 = true
   ·
    subst c9
    have H1 : (gimballaw11_two.j0 k ((l0_0.length : Int) != (l1_0.length : Int)) l0_0 l0_1 a0_2 l1_0 l1_1 a1_2) = some r := by rw [if_pos rfl] at H; exact H
    clear H
    have H := H1
    clear H1
    have H' := Aside0.mk H
    clear H
    have hnb10 := NB559_560.out
    have hnc10 := NB560_559.out
    obtain ⟨hcz11_0, hcz11_1, hcz11_2, hfz11_0, hfz11_1, hfz11_2⟩ := vF3 BK559.out
    go_wp2_with (first | (go_at_call 19; (with_reducible refine (gimbalref11_Fit.calls _ _ l0_0 _ _ l0_1 a0_2 true _ ?side1 ?side2 ?side3 ?side4 A6.out).mono ?_); (case side1 => exact vC (Kd.C_below HR0_0.out HB.out)); (case side2 => exact HC0_0.out); (case side3 => exact vC (Kd.C_below HR0_1.out HB.out)); (case side4 => exact HC0_1.out); rintro e w12 ⟨rfl, hb⟩; replace BK559 := vBb BK559 hb; replace BK560 := vBb BK560 hb; replace HB := vWs HB hb; (try clear hb); (try clear hb2); (try clear hk); (try clear hi); obtain ⟨hcz13_0, hcz13_1, hcz13_2, hfz13_0, hfz13_1, hfz13_2⟩ := vF3 BK560.out) | (go_at_call 19; (with_reducible refine (gimbalref11_Fit.calls _ _ l1_0 _ _ l1_1 a1_2 true _ ?side1 ?side2 ?side3 ?side4 A8.out).mono ?_); (case side1 => exact vC (Kd.C_below HR1_0.out HB.out)); (case side2 => exact HC1_0.out); (case side3 => exact vC (Kd.C_below HR1_1.out HB.out)); (case side4 => exact HC1_1.out); rintro e w14 ⟨rfl, hb⟩; replace BK559 := vBb BK559 hb; replace BK560 := vBb BK560 hb; replace HB := vWs HB hb; (try clear hb); (try clear hb2); (try clear hk); (try clear hi); obtain ⟨hcz15_0, hcz15_1, hcz15_2, hfz15_0, hfz15_1, hfz15_2⟩ := vF3 BK559.out; obtain ⟨hcz16_0, hcz16_1, hcz16_2, hfz16_0, hfz16_1, hfz16_2⟩ := vF3 BK560.out))
    repeat (go_quiet (first | (go_at_call 19; (with_reducible refine (gimbalref11_Fit.calls _ _ l0_0 _ _ l0_1 a0_2 true _ ?side1 ?side2 ?side3 ?side4 A6.out).mono ?_); (case side1 => exact vC (Kd.C_below HR0_0.out HB.out)); (case side2 => exact HC0_0.out); (case side3 => exact vC (Kd.C_below HR0_1.out HB.out)); (case side4 => exact HC0_1.out); rintro e w12 ⟨rfl, hb⟩; replace BK559 := vBb BK559 hb; replace BK560 := vBb BK560 hb; replace HB := vWs HB hb; (try clear hb); (try clear hb2); (try clear hk); (try clear hi); obtain ⟨hcz13_0, hcz13_1, hcz13_2, hfz13_0, hfz13_1, hfz13_2⟩ := vF3 BK560.out) | (go_at_call 19; (with_reducible refine (gimbalref11_Fit.calls _ _ l1_0 _ _ l1_1 a1_2 true _ ?side1 ?side2 ?side3 ?side4 A8.out).mono ?_); (case side1 => exact vC (Kd.C_below HR1_0.out HB.out)); (case side2 => exact HC1_0.out); (case side3 => exact vC (Kd.C_below HR1_1.out HB.out)); (case side4 => exact HC1_1.out); rintro e w14 ⟨rfl, hb⟩; replace BK559 := vBb BK559 hb; replace BK560 := vBb BK560 hb; replace HB := vWs HB hb; (try clear hb); (try clear hb2); (try clear hk); (try clear hi); obtain ⟨hcz15_0, hcz15_1, hcz15_2, hfz15_0, hfz15_1, hfz15_2⟩ := vF3 BK559.out; obtain ⟨hcz16_0, hcz16_1, hcz16_2, hfz16_0, hfz16_1, hfz16_2⟩ := vF3 BK560.out)); try go_wp2_with fail)
    go_meet
    case rel => exact ⟨_, (((l0_0.length : Int) != (l1_0.length : Int))), (by first | rfl | (simp; done) | (simp [*]; done)), H', ⟨by first | omega | exact Nat.le_refl _⟩, ⟨vB BK559.out⟩, ⟨vB BK560.out⟩, ⟨vW HB.out⟩⟩
   ·
    replace c9 := Bool.eq_false_iff.mpr c9
    subst c9
    have H1 : (gimballaw11_two.j0 k true l0_0 l0_1 a0_2 l1_0 l1_1 a1_2) = some r := by rw [if_neg (show ¬ (false = true) by decide)] at H; exact H
    clear H
    have H := H1
    clear H1
    have H' := Aside0.mk H
    clear H
    have hnb17 := NB559_560.out
    have hnc17 := NB560_559.out
    obtain ⟨hcz18_0, hcz18_1, hcz18_2, hfz18_0, hfz18_1, hfz18_2⟩ := vF3 BK559.out
    go_wp2_with (first | (go_at_call 19; (with_reducible refine (gimbalref11_Fit.calls _ _ l0_0 _ _ l0_1 a0_2 true _ ?side1 ?side2 ?side3 ?side4 A6.out).mono ?_); (case side1 => exact vC (Kd.C_below HR0_0.out HB.out)); (case side2 => exact HC0_0.out); (case side3 => exact vC (Kd.C_below HR0_1.out HB.out)); (case side4 => exact HC0_1.out); rintro e w19 ⟨rfl, hb⟩; replace BK559 := vBb BK559 hb; replace BK560 := vBb BK560 hb; replace HB := vWs HB hb; (try clear hb); (try clear hb2); (try clear hk); (try clear hi); obtain ⟨hcz20_0, hcz20_1, hcz20_2, hfz20_0, hfz20_1, hfz20_2⟩ := vF3 BK560.out) | (go_at_call 19; (with_reducible refine (gimbalref11_Fit.calls _ _ l1_0 _ _ l1_1 a1_2 false _ ?side1 ?side2 ?side3 ?side4 A8.out).mono ?_); (case side1 => exact vC (Kd.C_below HR1_0.out HB.out)); (case side2 => exact HC1_0.out); (case side3 => exact vC (Kd.C_below HR1_1.out HB.out)); (case side4 => exact HC1_1.out); rintro e w21 ⟨rfl, hb⟩; replace BK559 := vBb BK559 hb; replace BK560 := vBb BK560 hb; replace HB := vWs HB hb; (try clear hb); (try clear hb2); (try clear hk); (try clear hi)))
    repeat (go_quiet (first | (go_at_call 19; (with_reducible refine (gimbalref11_Fit.calls _ _ l0_0 _ _ l0_1 a0_2 true _ ?side1 ?side2 ?side3 ?side4 A6.out).mono ?_); (case side1 => exact vC (Kd.C_below HR0_0.out HB.out)); (case side2 => exact HC0_0.out); (case side3 => exact vC (Kd.C_below HR0_1.out HB.out)); (case side4 => exact HC0_1.out); rintro e w19 ⟨rfl, hb⟩; replace BK559 := vBb BK559 hb; replace BK560 := vBb BK560 hb; replace HB := vWs HB hb; (try clear hb); (try clear hb2); (try clear hk); (try clear hi); obtain ⟨hcz20_0, hcz20_1, hcz20_2, hfz20_0, hfz20_1, hfz20_2⟩ := vF3 BK560.out) | (go_at_call 19; (with_reducible refine (gimbalref11_Fit.calls _ _ l1_0 _ _ l1_1 a1_2 false _ ?side1 ?side2 ?side3 ?side4 A8.out).mono ?_); (case side1 => exact vC (Kd.C_below HR1_0.out HB.out)); (case side2 => exact HC1_0.out); (case side3 => exact vC (Kd.C_below HR1_1.out HB.out)); (case side4 => exact HC1_1.out); rintro e w21 ⟨rfl, hb⟩; replace BK559 := vBb BK559 hb; replace BK560 := vBb BK560 hb; replace HB := vWs HB hb; (try clear hb); (try clear hb2); (try clear hk); (try clear hi))); try go_wp2_with fail)
    go_meet
    case rel => exact ⟨_, (true), (by first | rfl | (simp; done) | (simp [*]; done)), H', ⟨by first | omega | exact Nat.le_refl _⟩, ⟨vB BK559.out⟩, ⟨vB BK560.out⟩, ⟨vW HB.out⟩⟩
  ·
   replace c7 := Bool.eq_false_iff.mpr c7
   subst c7
   have H1 : (gimballaw11_two.j0 k true l0_0 l0_1 a0_2 l1_0 l1_1 a1_2) = some r := by rw [if_neg (show ¬ (false = true) by decide)] at H; exact H
   clear H
   have H := H1
   clear H1
   have H' := Aside0.mk H
   clear H
   have hnb22 := NB559_560.out
   have hnc22 := NB560_559.out
   obtain ⟨hcz23_0, hcz23_1, hcz23_2, hfz23_0, hfz23_1, hfz23_2⟩ := vF3 BK559.out
   go_wp2_with (go_at_call 19; (with_reducible refine (gimbalref11_Fit.calls _ _ l0_0 _ _ l0_1 a0_2 false _ ?side1 ?side2 ?side3 ?side4 A6.out).mono ?_); (case side1 => exact vC (Kd.C_below HR0_0.out HB.out)); (case side2 => exact HC0_0.out); (case side3 => exact vC (Kd.C_below HR0_1.out HB.out)); (case side4 => exact HC0_1.out); rintro e w24 ⟨rfl, hb⟩; replace BK559 := vBb BK559 hb; replace BK560 := vBb BK560 hb; replace HB := vWs HB hb; (try clear hb); (try clear hb2); (try clear hk); (try clear hi))
   repeat (go_quiet (first | (go_at_call 19; (with_reducible refine (gimbalref11_Fit.calls _ _ l0_0 _ _ l0_1 a0_2 false _ ?side1 ?side2 ?side3 ?side4 A6.out).mono ?_); (case side1 => exact vC (Kd.C_below HR0_0.out HB.out)); (case side2 => exact HC0_0.out); (case side3 => exact vC (Kd.C_below HR0_1.out HB.out)); (case side4 => exact HC0_1.out); rintro e w24 ⟨rfl, hb⟩; replace BK559 := vBb BK559 hb; replace BK560 := vBb BK560 hb; replace HB := vWs HB hb; (try clear hb); (try clear hb2); (try clear hk); (try clear hi))); try go_wp2_with fail)
   go_meet
   case rel => exact ⟨_, (true), (by first | rfl | (simp; done) | (simp [*]; done)), H', ⟨by first | omega | exact Nat.le_refl _⟩, ⟨vB BK559.out⟩, ⟨vB BK560.out⟩, ⟨vW HB.out⟩⟩
 case rest =>
  clear HC3
  obtain ⟨kq, x22_2, rfl, HA, HJ2, BK559, BK560, HB⟩ := hcut
  cases kq with
  | zero => exact absurd HA.out (by simp [gimballaw11_two.j0])
  | succ kj2 =>
   have H := HA.out
   clear HA
   simp only [gimballaw11_two.j0] at H
   by_cases c25 : x22_2 = true
   ·
    subst c25
    have H1 : (some false) = some r := by rw [if_pos rfl] at H; exact H
    clear H
    have H := H1
    clear H1
    obtain rfl := Option.some.inj H
    go_wp2
    repeat (go_quiet (fail); try go_wp2)
    go_ret
    exact ⟨by first | rfl | (simp [errW_none, errW_some] <;> rfl) | (simp [*, errW_none, errW_some] <;> rfl) | (simp [wrap64]; done), vW HB.out⟩
   ·
    replace c25 := Bool.eq_false_iff.mpr c25
    subst c25
    have H1 : (gimballaw11_two.l0 kj2 (l0_0.length : Int) 0 l0_0 l0_1 a0_2 l1_0 l1_1 a1_2) = some r := by rw [if_neg (show ¬ (false = true) by decide)] at H; exact H
    clear H
    have H := H1
    clear H1
    have H' := Aside0.mk H
    clear H
    have hnb26 := NB559_560.out
    have hnc26 := NB560_559.out
    obtain ⟨hcz27_0, hcz27_1, hcz27_2, hfz27_0, hfz27_1, hfz27_2⟩ := vF3 BK559.out
    go_wp2
    repeat (go_quiet (fail); try go_wp2)
    go_loopg [26] kj2 (fun kq v26 w' => ∃ (x26_2 : Int), v26 = .int .i64 x26_2 ∧ Aside0 (gimballaw11_two.l0 kq (l0_0.length : Int) x26_2 l0_0 l0_1 a0_2 l1_0 l1_1 a1_2 = some r) ∧ Aside0 (kq ≤ kj2) ∧ Aside0 (w'.heap[gb559]? = some (.cells #[(.slice A0_0 l0_0.length c0_0), (.slice A0_1 l0_1.length c0_1), .bool a0_2] 25 (0, 0))) ∧ Aside0 (w'.heap[gb560]? = some (.cells #[(.slice A1_0 l1_0.length c1_0), (.slice A1_1 l1_1.length c1_1), .bool a1_2] 25 (0, 0))) ∧ Aside0 (Below w.heap.size w w'))
    case atStart => exact ⟨(0), (by first | rfl | (simp; done) | (simp [*]; done)), H', ⟨Nat.le_refl _⟩, ⟨vB BK559.out⟩, ⟨vB BK560.out⟩, ⟨vW HB.out⟩⟩
    case round =>
     clear H'
     try clear hcz27_0
     try clear hcz27_1
     try clear hcz27_2
     try clear hfz27_0
     try clear hfz27_1
     try clear hfz27_2
     obtain ⟨x26_2, rfl, HA, HK2, BK559, BK560, HB⟩ := hrel
     cases gk with
     | zero => exact absurd HA.out (by simp [gimballaw11_two.l0])
     | succ k2 =>
      have H := HA.out
      clear HA
      simp only [gimballaw11_two.l0] at H
      by_cases c28 : x26_2 < (l0_0.length : Int)
      ·
       rw [if_pos c28] at H
       have c28b0 : decide (x26_2 < (l0_0.length : Int)) = true := decide_eq_true c28
       clear c28
       by_cases c29 : 0 ≤ x26_2
       ·
        rw [if_pos c29] at H
        have c29b0 : decide (0 ≤ x26_2) = true := decide_eq_true c29
        clear c29
        by_cases c30 : x26_2 < (l0_0.length : Int)
        ·
         rw [if_pos c30] at H
         have c30b0 : decide (x26_2 < (l0_0.length : Int)) = true := decide_eq_true c30
         clear c30
         by_cases c31 : x26_2 < (l1_0.length : Int)
         ·
          rw [if_pos c31] at H
          have c31b0 : decide (x26_2 < (l1_0.length : Int)) = true := decide_eq_true c31
          clear c31
          by_cases c32 : (rd l0_0 x26_2) = (rd l1_0 x26_2)
          ·
           rw [if_pos c32] at H
           have c32b0 : ((rd l0_0 x26_2) == (rd l1_0 x26_2)) = true := beq_iff_eq.mpr c32
           have c32b1 : ((rd l0_0 x26_2) != (rd l1_0 x26_2)) = false := bne_eq_false_iff_eq.mpr c32
           clear c32
           have H' := Aside0.mk H
           clear H
           have hnb33 := NB559_560.out
           have hnc33 := NB560_559.out
           obtain ⟨hcz34_0, hcz34_1, hcz34_2, hfz34_0, hfz34_1, hfz34_2⟩ := vF3 BK559.out
           have p563 : 0 ≤ (x26_2 : Int) := of_decide_eq_true (by first | (with_reducible assumption) | assumption)
           have q563 : x26_2 < (l0_0.length : Int) := of_decide_eq_true (by first | (with_reducible assumption) | assumption)
           obtain ⟨ad563, e563, hx563_0⟩ := Kd.at_int HR0_0.out x26_2 p563 q563
           cases e563
           replace hx563_0 := (HB.out.cell (World.block_lt_of_cell? w _ hx563_0)).trans hx563_0
           replace p563 := eq_true p563
           replace q563 := eq_true q563
           obtain ⟨hcz35_0, hcz35_1, hcz35_2, hfz35_0, hfz35_1, hfz35_2⟩ := vF3 BK560.out
           have p564 : 0 ≤ (x26_2 : Int) := of_decide_eq_true (by first | (with_reducible assumption) | assumption)
           have q564 : x26_2 < (l1_0.length : Int) := of_decide_eq_true (by first | (with_reducible assumption) | assumption)
           obtain ⟨ad564, e564, hx564_0⟩ := Kd.at_int HR1_0.out x26_2 p564 q564
           cases e564
           replace hx564_0 := (HB.out.cell (World.block_lt_of_cell? w _ hx564_0)).trans hx564_0
           replace p564 := eq_true p564
           replace q564 := eq_true q564
           go_wp2
           repeat (go_quiet (fail); try go_wp2)
           go_roundg k2
           case measure => have := HJ2.out; have := HK2.out; omega
           case rel => exact ⟨(wrap64 (x26_2 + 1)), (by first | rfl | (simp; done) | (simp [*]; done)), H', ⟨by have := HJ2.out; have := HK2.out; omega⟩, ⟨vB BK559.out⟩, ⟨vB BK560.out⟩, ⟨vW HB.out⟩⟩
          ·
           rw [if_neg c32] at H
           have c32b0 : ((rd l0_0 x26_2) == (rd l1_0 x26_2)) = false := beq_eq_false_iff_ne.mpr c32
           have c32b1 : ((rd l0_0 x26_2) != (rd l1_0 x26_2)) = true := bne_iff_ne.mpr c32
           obtain rfl := Option.some.inj H
           have hnb36 := NB559_560.out
           have hnc36 := NB560_559.out
           obtain ⟨hcz37_0, hcz37_1, hcz37_2, hfz37_0, hfz37_1, hfz37_2⟩ := vF3 BK559.out
           have p563 : 0 ≤ (x26_2 : Int) := of_decide_eq_true (by first | (with_reducible assumption) | assumption)
           have q563 : x26_2 < (l0_0.length : Int) := of_decide_eq_true (by first | (with_reducible assumption) | assumption)
           obtain ⟨ad563, e563, hx563_0⟩ := Kd.at_int HR0_0.out x26_2 p563 q563
           cases e563
           replace hx563_0 := (HB.out.cell (World.block_lt_of_cell? w _ hx563_0)).trans hx563_0
           replace p563 := eq_true p563
           replace q563 := eq_true q563
           obtain ⟨hcz38_0, hcz38_1, hcz38_2, hfz38_0, hfz38_1, hfz38_2⟩ := vF3 BK560.out
           have p564 : 0 ≤ (x26_2 : Int) := of_decide_eq_true (by first | (with_reducible assumption) | assumption)
           have q564 : x26_2 < (l1_0.length : Int) := of_decide_eq_true (by first | (with_reducible assumption) | assumption)
           obtain ⟨ad564, e564, hx564_0⟩ := Kd.at_int HR1_0.out x26_2 p564 q564
           cases e564
           replace hx564_0 := (HB.out.cell (World.block_lt_of_cell? w _ hx564_0)).trans hx564_0
           replace p564 := eq_true p564
           replace q564 := eq_true q564
           go_wp2
           repeat (go_quiet (fail); try go_wp2)
           go_ret
           exact ⟨by first | rfl | (simp [errW_none, errW_some] <;> rfl) | (simp [*, errW_none, errW_some] <;> rfl) | (simp [wrap64]; done), vW HB.out⟩
         ·
          rw [if_neg c31] at H
          exact absurd H (by simp)
        ·
         rw [if_neg c30] at H
         exact absurd H (by simp)
       ·
        rw [if_neg c29] at H
        exact absurd H (by simp)
      ·
       rw [if_neg c28] at H
       have c28b0 : decide (x26_2 < (l0_0.length : Int)) = false := decide_eq_false c28
       clear c28
       obtain rfl := Option.some.inj H
       go_wp2
       repeat (go_quiet (fail); try go_wp2)
       go_ret
       exact ⟨by first | rfl | (simp [errW_none, errW_some] <;> rfl) | (simp [*, errW_none, errW_some] <;> rfl) | (simp [wrap64]; done), vW HB.out⟩
end Go.Proofs.Ytomgebmimgaojaa.QO
end
end
section
noncomputable section
namespace Go.Proofs.Ytomgebmimgaojaa.QO
open Go.RowKit Go.Proofs.YtomgebmimgaojaaW.PrintWords Go.Proofs.YtomgebmimgaojaaW.PrintLast
set_option linter.unusedVariables false
set_option linter.unusedSimpArgs false
mutual
def dbm_New.j0 : Nat → Int → Bool → Option (List Int)
 | 0, _, _ => none
 | k + 1, x0, x16 => if x16 = true then (some ([] : List Int)) else (if 0 ≤ (wrap64 (x0 * x0)) then (if (wrap64 (x0 * x0) : Int).toNat ≤ 35184372088832 then ((some (List.replicate (wrap64 (x0 * x0) : Int).toNat 0 : List Int)).bind fun y101 => (dbm_New.l0 k x0 y101 (y101.length : Int) 0)) else (none)) else (none))
def dbm_New.l0 : Nat → Int → List Int → Int → Int → Option (List Int)
 | 0, _, _, _, _ => none
 | k + 1, x0, x3, x22, x23 => if x23 < x22 then (if 0 ≤ x23 then (if x23 < (x3.length : Int) then (dbm_New.l0 k x0 (x3.set (x23 : Int).toNat 4611686018427387904) x22 (wrap64 (x23 + 1))) else (none)) else (none)) else (dbm_New.l1 k x0 x3 x0 0)
def dbm_New.l1 : Nat → Int → List Int → Int → Int → Option (List Int)
 | 0, _, _, _, _ => none
 | k + 1, x0, x3, x30, x31 => if x31 < x30 then (if 0 ≤ (wrap64 ((wrap64 (x31 * x0)) + x31)) then (if (wrap64 ((wrap64 (x31 * x0)) + x31)) < (x3.length : Int) then (dbm_New.l1 k x0 (x3.set ((wrap64 ((wrap64 (x31 * x0)) + x31)) : Int).toNat 0) x30 (wrap64 (x31 + 1))) else (none)) else (none)) else (some x3)
end
def dbm_New.f (k : Nat) (a0 : Int) : Option (List Int) := if a0 < 0 then (dbm_New.j0 k a0 true) else (if a0 > 16 then (dbm_New.j0 k a0 true) else (dbm_New.j0 k a0 ((Int.tmod a0 2) != 0)))
theorem dbm_New.mono_l : ∀ k, (∀ y0 y1, LeO (dbm_New.j0 k y0 y1) (dbm_New.j0 (k + 1) y0 y1)) ∧ (∀ y0 y1 y2 y3, LeO (dbm_New.l0 k y0 y1 y2 y3) (dbm_New.l0 (k + 1) y0 y1 y2 y3)) ∧ (∀ y0 y1 y2 y3, LeO (dbm_New.l1 k y0 y1 y2 y3) (dbm_New.l1 (k + 1) y0 y1 y2 y3))
 | 0 => ⟨fun _ _ r h => by simp [dbm_New.j0] at h, fun _ _ _ _ r h => by simp [dbm_New.l0] at h, fun _ _ _ _ r h => by simp [dbm_New.l1] at h⟩
 | k + 1 => by
  obtain ⟨ih0, ih1, ih2⟩ := dbm_New.mono_l k
  refine ⟨?_, ?_, ?_⟩
  ·
   intro y0 y1
   unfold dbm_New.j0
   repeat' first
   | (with_reducible exact ih0 _ _)
   | (with_reducible exact ih1 _ _ _ _)
   | (with_reducible exact ih2 _ _ _ _)
   | (with_reducible exact LeO.refl _)
   | (with_reducible exact LeO.none _)
   | (with_reducible refine LeO.ite ?_ ?_)
   | (with_reducible refine LeO.bind ?_ (fun _ => ?_))
   | exact ih0 _ _
   | exact ih1 _ _ _ _
   | exact ih2 _ _ _ _
   | exact LeO.none _
   | refine LeO.ite ?_ ?_
   | refine LeO.bind ?_ (fun _ => ?_)
  ·
   intro y0 y1 y2 y3
   unfold dbm_New.l0
   repeat' first
   | (with_reducible exact ih0 _ _)
   | (with_reducible exact ih1 _ _ _ _)
   | (with_reducible exact ih2 _ _ _ _)
   | (with_reducible exact LeO.refl _)
   | (with_reducible exact LeO.none _)
   | (with_reducible refine LeO.ite ?_ ?_)
   | (with_reducible refine LeO.bind ?_ (fun _ => ?_))
   | exact ih0 _ _
   | exact ih1 _ _ _ _
   | exact ih2 _ _ _ _
   | exact LeO.none _
   | refine LeO.ite ?_ ?_
   | refine LeO.bind ?_ (fun _ => ?_)
  ·
   intro y0 y1 y2 y3
   unfold dbm_New.l1
   repeat' first
   | (with_reducible exact ih0 _ _)
   | (with_reducible exact ih1 _ _ _ _)
   | (with_reducible exact ih2 _ _ _ _)
   | (with_reducible exact LeO.refl _)
   | (with_reducible exact LeO.none _)
   | (with_reducible refine LeO.ite ?_ ?_)
   | (with_reducible refine LeO.bind ?_ (fun _ => ?_))
   | exact ih0 _ _
   | exact ih1 _ _ _ _
   | exact ih2 _ _ _ _
   | exact LeO.none _
   | refine LeO.ite ?_ ?_
   | refine LeO.bind ?_ (fun _ => ?_)
theorem dbm_New.mono : ∀ a0 k, LeO (dbm_New.f k a0) (dbm_New.f (k + 1) a0) := by
 intro a0 k
 obtain ⟨ih0, ih1, ih2⟩ := dbm_New.mono_l k
 unfold dbm_New.f
 repeat' first
  | (with_reducible exact ih0 _ _)
  | (with_reducible exact ih1 _ _ _ _)
  | (with_reducible exact ih2 _ _ _ _)
  | (with_reducible exact LeO.refl _)
  | (with_reducible exact LeO.none _)
  | (with_reducible refine LeO.ite ?_ ?_)
  | (with_reducible refine LeO.bind ?_ (fun _ => ?_))
  | exact ih0 _ _
  | exact ih1 _ _ _ _
  | exact ih2 _ _ _ _
  | exact LeO.none _
  | refine LeO.ite ?_ ?_
  | refine LeO.bind ?_ (fun _ => ?_)
set_option maxHeartbeats 8000000 in
set_option maxRecDepth 100000 in
theorem dbm_New.calls (k : Nat) (a0 : Int) (r : List Int) (w : World) (h : dbm_New.f k a0 = some r) :
 Calls Try.prog 48 #[.int .i64 a0] w fun e w' => ∃ v0_ : Value, e = .returned (v0_) ∧ Kd.R (Kd.int .i64) 2 w' w.heap.size (fun _ => True) v0_ r ∧ Below w.heap.size w w' := by
 have HB := Aside0.mk (Below.refl w.heap.size w)
 have H : (if a0 < 0 then (dbm_New.j0 k a0 true) else (if a0 > 16 then (dbm_New.j0 k a0 true) else (dbm_New.j0 k a0 ((Int.tmod a0 2) != 0)))) = some r := h
 clear h
 have HC2 := Aside0.mk H
 clear H
 go_enter Try.func48, Try.ntmps48
 go_upto_region 1 with (fail)
 go_cut [16] (fun v16 wc => ∃ (kq : Nat) (x16_1 : Bool), v16 = .bool x16_1 ∧ Aside0 (dbm_New.j0 kq a0 x16_1 = some r) ∧ Aside0 (kq ≤ k) ∧ Aside0 (Below w.heap.size w wc))
 case first =>
  have H := HC2.out
  clear HC2
  by_cases c3 : a0 < 0
  ·
   rw [if_pos c3] at H
   have c3b0 : decide (a0 < 0) = true := decide_eq_true c3
   clear c3
   (first | rw [c3b0] | (simp only [i64_w, i32_w]; rw [c3b0]) | skip)
   have H' := Aside0.mk H
   clear H
   go_wp2
   go_meet
   case rel => exact ⟨_, (true), (by first | rfl | (simp; done) | (simp [*]; done)), H', ⟨by first | omega | exact Nat.le_refl _⟩, ⟨vW HB.out⟩⟩
  ·
   rw [if_neg c3] at H
   have c3b0 : decide (a0 < 0) = false := decide_eq_false c3
   clear c3
   (first | rw [c3b0] | (simp only [i64_w, i32_w]; rw [c3b0]) | skip)
   by_cases c4 : a0 > 16
   ·
    rw [if_pos c4] at H
    have c4b0 : decide (16 < a0) = true := decide_eq_true c4
    clear c4
    have H' := Aside0.mk H
    clear H
    go_wp2
    go_meet
    case rel => exact ⟨_, (true), (by first | rfl | (simp; done) | (simp [*]; done)), H', ⟨by first | omega | exact Nat.le_refl _⟩, ⟨vW HB.out⟩⟩
   ·
    rw [if_neg c4] at H
    have c4b0 : decide (16 < a0) = false := decide_eq_false c4
    clear c4
    have H' := Aside0.mk H
    clear H
    go_wp2
    go_meet
    case rel => exact ⟨_, (((Int.tmod a0 2) != 0)), (by first | rfl | (simp; done) | (simp [*]; done)), H', ⟨by first | omega | exact Nat.le_refl _⟩, ⟨vW HB.out⟩⟩
 case rest =>
  clear HC2
  obtain ⟨kq, x16_1, rfl, HA, HJ1, HB⟩ := hcut
  cases kq with
  | zero => exact absurd HA.out (by simp [dbm_New.j0])
  | succ kj1 =>
   have H := HA.out
   clear HA
   simp only [dbm_New.j0] at H
   by_cases c5 : x16_1 = true
   ·
    subst c5
    have H1 : (some ([] : List Int)) = some r := by rw [if_pos rfl] at H; exact H
    clear H
    have H := H1
    clear H1
    obtain rfl := Option.some.inj H
    go_wp2
    go_ret
    exact ⟨_, by first | rfl | (simp [errW_none, errW_some] <;> rfl) | (simp [*, errW_none, errW_some] <;> rfl) | (simp [wrap64]; done), by first | exact Kd.R_nil _ _ _ _ _ | exact Kd.N_nil _ _ _ _ _ | exact Kd.V_nil _ _ _ _ _ | exact Kd.Q_nil _ _ _ _ _ | exact Kd.S_nil _ _ _ _ _, vW HB.out⟩
   ·
    replace c5 := Bool.eq_false_iff.mpr c5
    subst c5
    have H1 : (if 0 ≤ (wrap64 (a0 * a0)) then (if (wrap64 (a0 * a0) : Int).toNat ≤ 35184372088832 then ((some (List.replicate (wrap64 (a0 * a0) : Int).toNat 0 : List Int)).bind fun y101 => (dbm_New.l0 kj1 a0 y101 (y101.length : Int) 0)) else (none)) else (none)) = some r := by rw [if_neg (show ¬ (false = true) by decide)] at H; exact H
    clear H
    have H := H1
    clear H1
    obtain ⟨ji6, hji6⟩ : ∃ j_ : Int, (wrap64 (a0 * a0)) = j_ := ⟨_, rfl⟩
    replace H : (if 0 ≤ (ji6) then (if (ji6 : Int).toNat ≤ 35184372088832 then ((some (List.replicate (ji6 : Int).toNat 0 : List Int)).bind fun y101 => (dbm_New.l0 kj1 a0 y101 (y101.length : Int) 0)) else (none)) else (none)) = some r := by first | (rw [hji6] at H; exact H) | (simp only [hji6] at H ⊢; exact H)
    have hji6w : (IntKind.i64.wrap (a0 * a0)) = ji6 := (i64_w _).trans hji6
    by_cases c7 : 0 ≤ (ji6)
    ·
     rw [if_pos c7] at H
     have c7b0 := eq_true c7
     have c7b1 : decide (0 ≤ (ji6)) = true := decide_eq_true c7
     clear c7
     by_cases c8 : (ji6 : Int).toNat ≤ 35184372088832
     ·
      rw [if_pos c8] at H
      have c8b0 := eq_true c8
      have c8b1 : decide ((ji6 : Int).toNat ≤ 35184372088832) = true := decide_eq_true c8
      clear c8
      obtain ⟨y101, hy101⟩ : ∃ y_ : List Int, y_ = (List.replicate (ji6 : Int).toNat 0) := ⟨_, rfl⟩
      replace H : (dbm_New.l0 kj1 a0 y101 (y101.length : Int) 0) = some r := by first | (rw [hy101]; with_reducible exact H) | (have H2_ := (Option.bind_some _ _).symm.trans H; rw [hy101]; with_reducible exact H2_) | (have H2_ := (Option.bind_some _ _).symm.trans H; with_reducible exact H2_) | with_reducible exact H | (rw [hy101]; exact H) | exact H
      have Ny101 := Aside0.mk hy101
      clear hy101
      have H' := Aside0.mk H
      clear H
      go_wp2_with ((with_reducible refine gate_dst (N := 20) rfl ?_); refine Kd.R_make (Kd.int .i64) _ 2 rfl (N := 20) rfl 23 _ _ rfl ji6 rfl rfl Try.underlying23 (.int .i64 0) 8 info2 rfl (by decide) (by omega) 0 (ok := fun _ => True) (okp := fun _ => True) rfl (fun _ hk => hk) trivial (of_decide_eq_true (by first | (with_reducible assumption) | assumption)) (Nat.le_trans (Nat.mul_le_mul_right _ (of_decide_eq_true (by first | (with_reducible assumption) | assumption) : ji6.toNat ≤ 35184372088832)) (by omega)) (Below.refl _ _) (Nat.le_refl _) ?_; intro v102 w9 ho10 hb hg_ hnew_; clear hg_ hnew_; (first | rw [← Ny101.out] at ho10 | (simp only [Int.reduceToNat] at ho10; rw [← Ny101.out] at ho10)); have HO103 := Aside0.mk (Kd.R_lower ho10 (below_size (vW HB.out))); replace HB := vWs HB hb; clear hb ho10; obtain ⟨Ao11, co11, eo11⟩ := Kd.R_slice HO103.out; subst eo11)
      go_loopg [23] kj1 (fun kq v23 w' => ∃ (x3_2 : List Int) (x23_2 : Int), v23 = .int .i64 x23_2 ∧ Aside0 (dbm_New.l0 kq a0 x3_2 (y101.length : Int) x23_2 = some r) ∧ Aside0 (kq ≤ kj1) ∧ Aside0 (Kd.R (Kd.int .i64) 2 w' w.heap.size (fun _ => True) (.slice Ao11 y101.length co11) x3_2) ∧ Aside0 (Below w.heap.size w w'))
      case atStart => exact ⟨(y101), (0), (by first | rfl | (simp; done) | (simp [*]; done)), H', ⟨Nat.le_refl _⟩, ⟨vR HO103.out⟩, ⟨vW HB.out⟩⟩
      case round =>
       clear H'
       try clear c7b0
       try clear c7b1
       try clear c8b0
       try clear c8b1
       obtain ⟨x3_2, x23_2, rfl, HA, HK2, HO_3, HB⟩ := hrel
       have hl3_2 := (Kd.R_reads' HO_3.out).1
       rw [hl3_2] at HO_3
       (try simp only [hl3_2])
       cases gk with
       | zero => exact absurd HA.out (by simp [dbm_New.l0])
       | succ k2 =>
        have H := HA.out
        clear HA
        simp only [dbm_New.l0] at H
        by_cases c12 : x23_2 < (y101.length : Int)
        ·
         rw [if_pos c12] at H
         have c12b0 : decide (x23_2 < (y101.length : Int)) = true := decide_eq_true c12
         clear c12
         by_cases c13 : 0 ≤ x23_2
         ·
          rw [if_pos c13] at H
          have c13b0 : decide (0 ≤ x23_2) = true := decide_eq_true c13
          clear c13
          by_cases c14 : x23_2 < (x3_2.length : Int)
          ·
           rw [if_pos c14] at H
           have c14b0 : decide (x23_2 < (x3_2.length : Int)) = true := decide_eq_true c14
           clear c14
           obtain ⟨y104, hy104⟩ : ∃ y_ : List Int, y_ = (x3_2.set (x23_2 : Int).toNat 4611686018427387904) := ⟨_, rfl⟩
           replace H : (dbm_New.l0 k2 a0 y104 (y101.length : Int) (wrap64 (x23_2 + 1))) = some r := by first | (rw [hy104]; with_reducible exact H) | (have H2_ := (Option.bind_some _ _).symm.trans H; rw [hy104]; with_reducible exact H2_) | (have H2_ := (Option.bind_some _ _).symm.trans H; with_reducible exact H2_) | with_reducible exact H | (rw [hy104]; exact H) | exact H
           have Ny104 := Aside0.mk hy104
           clear hy104
           have H' := Aside0.mk H
           clear H
           have p15 : 0 ≤ (x23_2 : Int) := of_decide_eq_true (by first | (with_reducible assumption) | assumption)
           have q15 : (x23_2 : Int) < ((x3_2.length : Int) : Int) := of_decide_eq_true (by first | (with_reducible assumption) | assumption)
           obtain ⟨go15, co15, eo15, gb15, gl15, cl15, HG15⟩ := Kd.R_form HO_3.out (by omega)
           (first | cases eo15 | (injection eo15 with ea_ en_ ec_; (first | subst ea_ | (injection ea_ with ea_; subst ea_)); subst ec_; clear en_))
           have GB15 := Aside0.mk gb15
           have GG15 := Aside0.mk HG15
           clear gb15 gl15 HG15
           obtain ⟨hx15_0, hf15_0⟩ := Kd.R_celln 0 HO_3.out (x23_2 : Int) p15 q15
           replace p15 := eq_true p15
           replace q15 := eq_true q15
           have HP16 := Kd.R_putg HO_3.out (x23_2 : Int) 4611686018427387904
           go_wp2_with ((with_reducible refine gate_store (t := 2) (p := 28) rfl ?_); refine store_event (t := 2) (p := 28) (v := ?vo_w17) (w1 := (wr.setCell ⟨go15, (x23_2 : Int).toNat, none⟩ (.int .i64 4611686018427387904))) ?hg ?ho ?hn ?hr ?_; (case ho => rfl); (case hg => rfl); (case hn => rfl); (case hr => first | (go_simp; done) | (go_simp; rfl)); intro w17 hw; have hg : wr.grownBy w17 (some go15) := (by rw [hw]; exact HP16.2); have hp_ : Kd.R (Kd.int .i64) 2 w17 w.heap.size (fun _ => True) (.slice (some ⟨go15, 0, none⟩) x3_2.length co11) y104 := (by rw [hw, Ny104.out]; exact HP16.1); clear HP16; replace HO_3 := Aside0.mk (hp_); replace HB := Aside0.mk ((by rw [hw]; exact below_set (HB.out) GB15.out : Below w.heap.size w w17)); clear hg hw hp_)
           (try simp only [← hl3_2])
           go_roundg k2
           case measure => have := HJ1.out; have := HK2.out; omega
           case rel => exact ⟨(y104), (wrap64 (x23_2 + 1)), (by first | rfl | (simp; done) | (simp [*]; done)), H', ⟨by have := HJ1.out; have := HK2.out; omega⟩, ⟨by (try simp only [hl3_2]); (with_reducible repeat (first | apply Kd.R_alloc | apply Kd.R_drewN | apply Kd.R_drew)); exact HO_3.out⟩, ⟨vW HB.out⟩⟩
          ·
           rw [if_neg c14] at H
           exact absurd H (by simp)
         ·
          rw [if_neg c13] at H
          exact absurd H (by simp)
        ·
         rw [if_neg c12] at H
         have c12b0 : decide (x23_2 < (y101.length : Int)) = false := decide_eq_false c12
         try (have c12b1 := c12b0; simp only [hl3_2] at c12b1)
         clear c12
         have H' := Aside0.mk H
         clear H
         go_wp2
         go_loopg [31] k2 (fun kq v31 w' => ∃ (x3_3 : List Int) (x31_3 : Int), v31 = .int .i64 x31_3 ∧ Aside0 (dbm_New.l1 kq a0 x3_3 a0 x31_3 = some r) ∧ Aside0 (kq ≤ k2) ∧ Aside0 (Kd.R (Kd.int .i64) 2 w' w.heap.size (fun _ => True) (.slice Ao11 x3_2.length co11) x3_3) ∧ Aside0 (Below w.heap.size w w'))
         case atStart => exact ⟨(x3_2), (0), (by first | rfl | (simp; done) | (simp [*]; done)), H', ⟨Nat.le_refl _⟩, ⟨by (try simp only [hl3_2]); (with_reducible repeat (first | apply Kd.R_alloc | apply Kd.R_drewN | apply Kd.R_drew)); exact HO_3.out⟩, ⟨vW HB.out⟩⟩
         case round =>
          clear H'
          try clear c12b0
          obtain ⟨x3_3, x31_3, rfl, HA, HK3, HO_3, HB⟩ := hrel
          have hl3_3 := (Kd.R_reads' HO_3.out).1
          rw [hl3_3] at HO_3
          (try simp only [hl3_3])
          cases gk with
          | zero => exact absurd HA.out (by simp [dbm_New.l1])
          | succ k3 =>
           have H := HA.out
           clear HA
           simp only [dbm_New.l1] at H
           by_cases c18 : x31_3 < a0
           ·
            rw [if_pos c18] at H
            have c18b0 : decide (x31_3 < a0) = true := decide_eq_true c18
            clear c18
            obtain ⟨ji19, hji19⟩ : ∃ j_ : Int, (wrap64 ((wrap64 (x31_3 * a0)) + x31_3)) = j_ := ⟨_, rfl⟩
            replace H : (if 0 ≤ (ji19) then (if (ji19) < (x3_3.length : Int) then (dbm_New.l1 k3 a0 (x3_3.set ((ji19) : Int).toNat 0) a0 (wrap64 (x31_3 + 1))) else (none)) else (none)) = some r := by first | (rw [hji19] at H; exact H) | (simp only [hji19] at H ⊢; exact H)
            have hji19w : (IntKind.i64.wrap ((wrap64 (x31_3 * a0)) + x31_3)) = ji19 := (i64_w _).trans hji19
            by_cases c20 : 0 ≤ (ji19)
            ·
             rw [if_pos c20] at H
             have c20b0 : decide (0 ≤ (ji19)) = true := decide_eq_true c20
             clear c20
             by_cases c21 : (ji19) < (x3_3.length : Int)
             ·
              rw [if_pos c21] at H
              have c21b0 : decide ((ji19) < (x3_3.length : Int)) = true := decide_eq_true c21
              clear c21
              obtain ⟨y105, hy105⟩ : ∃ y_ : List Int, y_ = (x3_3.set ((ji19) : Int).toNat 0) := ⟨_, rfl⟩
              replace H : (dbm_New.l1 k3 a0 y105 a0 (wrap64 (x31_3 + 1))) = some r := by first | (rw [hy105]; with_reducible exact H) | (have H2_ := (Option.bind_some _ _).symm.trans H; rw [hy105]; with_reducible exact H2_) | (have H2_ := (Option.bind_some _ _).symm.trans H; with_reducible exact H2_) | with_reducible exact H | (rw [hy105]; exact H) | exact H
              have Ny105 := Aside0.mk hy105
              clear hy105
              have H' := Aside0.mk H
              clear H
              have p22 : 0 ≤ ((ji19) : Int) := of_decide_eq_true (by first | (with_reducible assumption) | assumption)
              have q22 : ((ji19) : Int) < ((x3_3.length : Int) : Int) := of_decide_eq_true (by first | (with_reducible assumption) | assumption)
              obtain ⟨go22, co22, eo22, gb22, gl22, cl22, HG22⟩ := Kd.R_form HO_3.out (by omega)
              (first | cases eo22 | (injection eo22 with ea_ en_ ec_; (first | subst ea_ | (injection ea_ with ea_; subst ea_)); subst ec_; clear en_))
              have GB22 := Aside0.mk gb22
              have GG22 := Aside0.mk HG22
              clear gb22 gl22 HG22
              obtain ⟨hx22_0, hf22_0⟩ := Kd.R_celln 0 HO_3.out ((ji19) : Int) p22 q22
              replace p22 := eq_true p22
              replace q22 := eq_true q22
              have HP23 := Kd.R_putg HO_3.out ((ji19) : Int) 0
              go_wp2_with ((with_reducible refine gate_store (t := 2) (p := 40) rfl ?_); refine store_event (t := 2) (p := 40) (v := ?vo_w24) (w1 := (wr.setCell ⟨go22, ((ji19) : Int).toNat, none⟩ (.int .i64 0))) ?hg ?ho ?hn ?hr ?_; (case ho => rfl); (case hg => rfl); (case hn => rfl); (case hr => first | (go_simp; done) | (go_simp; rfl)); intro w24 hw; have hg : wr.grownBy w24 (some go22) := (by rw [hw]; exact HP23.2); have hp_ : Kd.R (Kd.int .i64) 2 w24 w.heap.size (fun _ => True) (.slice (some ⟨go22, 0, none⟩) x3_3.length co11) y105 := (by rw [hw, Ny105.out]; exact HP23.1); clear HP23; replace HO_3 := Aside0.mk (hp_); replace HB := Aside0.mk ((by rw [hw]; exact below_set (HB.out) GB22.out : Below w.heap.size w w24)); clear hg hw hp_)
              (try simp only [← hl3_3])
              go_roundg k3
              case measure => have := HJ1.out; have := HK2.out; have := HK3.out; omega
              case rel => exact ⟨(y105), (wrap64 (x31_3 + 1)), (by first | rfl | (simp; done) | (simp [*]; done)), H', ⟨by have := HJ1.out; have := HK2.out; have := HK3.out; omega⟩, ⟨by (try simp only [hl3_2]); (try simp only [hl3_3]); (with_reducible repeat (first | apply Kd.R_alloc | apply Kd.R_drewN | apply Kd.R_drew)); exact HO_3.out⟩, ⟨vW HB.out⟩⟩
             ·
              rw [if_neg c21] at H
              exact absurd H (by simp)
            ·
             rw [if_neg c20] at H
             exact absurd H (by simp)
           ·
            rw [if_neg c18] at H
            have c18b0 : decide (x31_3 < a0) = false := decide_eq_false c18
            clear c18
            obtain rfl := Option.some.inj H
            go_wp2
            go_ret
            exact ⟨_, by first | rfl | (simp [errW_none, errW_some] <;> rfl) | (simp only [← hji6]; first | rfl | (simp [errW_none, errW_some] <;> rfl)) | (simp [*, errW_none, errW_some] <;> rfl) | (simp [wrap64]; done), by (with_reducible repeat (first | apply Kd.R_alloc | apply Kd.R_drewN | apply Kd.R_drew)); exact HO_3.out, vW HB.out⟩
     ·
      rw [if_neg c8] at H
      exact absurd H (by simp)
    ·
     rw [if_neg c7] at H
     exact absurd H (by simp)
end Go.Proofs.Ytomgebmimgaojaa.QO
end
end
section
noncomputable section
namespace Go.Proofs.Ytomgebmimgaojaa.QO
open Go.RowKit Go.Proofs.YtomgebmimgaojaaW.PrintWords Go.Proofs.YtomgebmimgaojaaW.PrintLast
set_option linter.unusedVariables false
set_option linter.unusedSimpArgs false
def oct_Top.f (k : Nat) (l0 : List Int) : Option (List Int × List Int × Bool) := (oct_may.f l0).bind fun t107 => (if t107 = true then ((slices_Clone_int_int.f l0).bind fun t108 => ((dbm_New.f k (wrap64 (2 * (l0.length : Int)))).bind fun t111 => (some (t108, t111, false)))) else (some (([] : List Int), ([] : List Int), false)))
theorem oct_Top.mono : ∀ a0 k, LeO (oct_Top.f k a0) (oct_Top.f (k + 1) a0) := by
 intro a0 k
 unfold oct_Top.f
 repeat' first
  | (with_reducible exact dbm_New.mono _ _)
  | (with_reducible exact LeO.refl _)
  | (with_reducible exact LeO.none _)
  | (with_reducible refine LeO.ite ?_ ?_)
  | (with_reducible refine LeO.bind ?_ (fun _ => ?_))
  | exact dbm_New.mono _ _
  | exact LeO.none _
  | refine LeO.ite ?_ ?_
  | refine LeO.bind ?_ (fun _ => ?_)
set_option maxHeartbeats 8000000 in
set_option maxRecDepth 100000 in
theorem oct_Top.calls (k : Nat) (A0 : Option Addr) (c0 : Nat) (l0 : List Int) (r1 : List Int) (r2 : List Int) (r3 : Bool) (w : World) (hr0 : Kd.C (Kd.int .i64) w A0 l0.length l0) (hc0 : l0.length ≤ c0) (h : oct_Top.f k l0 = some (r1, r2, r3)) :
 Calls Try.prog 13 #[.slice A0 l0.length c0] w fun e w' => ∃ v0_ v1_ : Value, e = .returned (.agg #[v0_, v1_, .bool r3]) ∧ Kd.R (Kd.int .i64) 3 w' w.heap.size (fun _ => True) v0_ r1 ∧ Kd.R (Kd.int .i64) 2 w' w.heap.size (fun _ => True) v1_ r2 ∧ Below w.heap.size w w' := by
 have hu25 := Try.underlying25
 have HR0 := Aside0.mk hr0
 have HC0 := Aside0.mk hc0
 clear hr0 hc0
 have HB := Aside0.mk (Below.refl w.heap.size w)
 have H : ((oct_may.f l0).bind fun t107 => (if t107 = true then ((slices_Clone_int_int.f l0).bind fun t108 => ((dbm_New.f k (wrap64 (2 * (l0.length : Int)))).bind fun t111 => (some (t108, t111, false)))) else (some (([] : List Int), ([] : List Int), false)))) = some (r1, r2, r3) := h
 clear h
 replace H := Option.bind_eq_some_iff.mp H
 obtain ⟨t107, A20, H⟩ := H
 replace H : (if t107 = true then ((slices_Clone_int_int.f l0).bind fun t108 => ((dbm_New.f k (wrap64 (2 * (l0.length : Int)))).bind fun t111 => (some (t108, t111, false)))) else (some (([] : List Int), ([] : List Int), false))) = some (r1, r2, r3) := H
 have A2 := Aside0.mk A20
 clear A20
 by_cases c3 : t107 = true
 ·
  subst c3
  have H1 : ((slices_Clone_int_int.f l0).bind fun t108 => ((dbm_New.f k (wrap64 (2 * (l0.length : Int)))).bind fun t111 => (some (t108, t111, false)))) = some (r1, r2, r3) := by rw [if_pos rfl] at H; exact H
  clear H
  have H := H1
  clear H1
  replace H := Option.bind_eq_some_iff.mp H
  obtain ⟨t108, A40, H⟩ := H
  replace H : ((dbm_New.f k (wrap64 (2 * (l0.length : Int)))).bind fun t111 => (some (t108, t111, false))) = some (r1, r2, r3) := H
  have A4 := Aside0.mk A40
  clear A40
  replace H := Option.bind_eq_some_iff.mp H
  obtain ⟨t111, A50, H⟩ := H
  replace H : (some (t108, t111, false)) = some (r1, r2, r3) := H
  have A5 := Aside0.mk A50
  clear A50
  simp only [Option.some.injEq, Prod.mk.injEq] at H
  obtain ⟨rfl, rfl, rfl⟩ := H
  go_enter Try.func13, Try.ntmps13
  go_wp2_with (first | ((with_reducible refine gate_dst (N := 2) rfl ?_); refine box_event ?hg (N := 2) ?hd (cs := #[.slice none 0 0, .slice none 0 0, .bool false]) (t := 25) ?hr ?_; (case hd => rfl); (case hg => rfl); (case hr => first | (go_simp; done) | (go_simp; rfl)); intro gb106 hg w6 hbox hb; have BK106 := Aside0.mk (hbox); have GW106 := vS hg HB; have GE106 := vS hg HB; replace HB := vWs HB hb; clear hb hbox hg) | ((with_reducible refine gate_callee (f := 46) rfl ?_); refine goesL_ (some 4) rfl rfl Try.func46 (by kernel_rfl) rfl #[.slice A0 l0.length c0] rfl vL ?_; (with_reducible refine (oct_may.calls _ _ l0 true _ ?side1 ?side2 A2.out).mono ?_); (case side1 => exact vC (Kd.C_below HR0.out HB.out)); (case side2 => exact HC0.out); rintro e w' ⟨rfl, ⟨nd, rfl⟩⟩; refine ⟨_, rfl, ?_⟩; (try (rw [drewN_self w6]; generalize hq_ : World.drewN w6 _ = w6; have n0_ : Aside0 (w6.heap[gb106]? = some (.cells #[.slice none 0 0, .slice none 0 0, .bool false] 25 (0, 0))) := ⟨by rw [← hq_]; exact (vB BK106.out)⟩; have n1_ : Aside0 (Below w.heap.size w w6) := ⟨by rw [← hq_]; exact (vW HB.out)⟩; clear BK106 HB hq_; have BK106 := n0_; have HB := n1_; clear n0_ n1_))) | ((with_reducible refine gate_callee (f := 47) rfl ?_); refine goesL_ (some 8) rfl rfl Try.func47 (by kernel_rfl) rfl #[.slice A0 l0.length c0] rfl vL ?_; (with_reducible refine (slices_Clone_int_int.calls _ _ l0 t108 _ ?side1 ?side2 A4.out).mono ?_); (case side1 => exact vC (Kd.C_below HR0.out HB.out)); (case side2 => exact HC0.out); rintro e w7 ⟨v109, rfl, ho0, hb⟩; refine ⟨_, rfl, ?_⟩; have HO110 := Aside0.mk (Kd.R_lower ho0 (below_size (vW HB.out))); replace BK106 := vBb BK106 hb; replace HB := vWs HB hb; (try clear hb); (try clear hb2); (try clear hk); (try clear hi); (try clear ho0)) | ((with_reducible refine gate_callee (f := 48) rfl ?_); refine goesL_ (some 12) rfl rfl Try.func48 (by kernel_rfl) rfl #[.int .i64 (wrap64 (2 * (l0.length : Int)))] rfl vL ?_; (with_reducible refine (dbm_New.calls k (wrap64 (2 * (l0.length : Int))) t111 _ A5.out).mono ?_); rintro e w8 ⟨v112, rfl, ho0, hb⟩; refine ⟨_, rfl, ?_⟩; replace HO110 := vRb HO110 hb; have HO113 := Aside0.mk (Kd.R_lower ho0 (below_size (vW HB.out))); replace BK106 := vBb BK106 hb; replace HB := vWs HB hb; (try clear hb); (try clear hb2); (try clear hk); (try clear hi); (try clear ho0); obtain ⟨Ao9, co9, eo9⟩ := Kd.R_slice HO113.out; subst eo9; obtain ⟨Ao10, co10, eo10⟩ := Kd.R_slice HO110.out; subst eo10; obtain ⟨hcz11_0, hcz11_1, hcz11_2, hfz11_0, hfz11_1, hfz11_2⟩ := vF3 BK106.out))
  refine bodyPost_ret (results_cell_row rfl _ _ gb106 25 #[.slice Ao10 t108.length co10, .slice Ao9 t111.length co9, .bool false] (0, 0) _ rfl (by (with_reducible repeat (first | refine blk_drewN ?_ _ | refine blk_drew ?_ | refine blk_alloc ?_ _)); refine blk_put (cs := #[.slice Ao10 t108.length co10, .slice Ao9 t111.length co9, .bool false]) ?_ 2 _ rfl; (with_reducible repeat (first | refine blk_drewN ?_ _ | refine blk_drew ?_ | refine blk_alloc ?_ _)); refine blk_put (cs := #[.slice Ao10 t108.length co10, .slice none 0 0, .bool false]) ?_ 1 _ rfl; (with_reducible repeat (first | refine blk_drewN ?_ _ | refine blk_drew ?_ | refine blk_alloc ?_ _)); refine blk_put (cs := #[.slice none 0 0, .slice none 0 0, .bool false]) ?_ 0 _ rfl; (with_reducible repeat (first | refine blk_drewN ?_ _ | refine blk_drew ?_ | refine blk_alloc ?_ _)); exact BK106.out) Try.underlying25 rfl (by kernel_rfl)) rfl ?_
  exact ⟨_, _, by first | rfl | (simp [errW_none, errW_some] <;> rfl) | (simp [*, errW_none, errW_some] <;> rfl) | (simp [wrap64]; done), by (with_reducible repeat (first | apply Kd.R_alloc | apply Kd.R_drewN | apply Kd.R_drew)); exact Kd.R_mono (Kd.R_far (p := ⟨gb106, 2, none⟩) (Kd.R_far (p := ⟨gb106, 1, none⟩) (Kd.R_far (p := ⟨gb106, 0, none⟩) (Kd.R_types HO110.out BK106.out (by decide)) (fun _ hk => hk.2) (.slice Ao10 t108.length co10)) (fun _ hk => hk.2) (.slice Ao9 t111.length co9)) (fun _ hk => hk.2) (.bool false)) (fun _ hk => trivial), by (with_reducible repeat (first | apply Kd.R_alloc | apply Kd.R_drewN | apply Kd.R_drew)); exact Kd.R_mono (Kd.R_far (p := ⟨gb106, 2, none⟩) (Kd.R_far (p := ⟨gb106, 1, none⟩) (Kd.R_far (p := ⟨gb106, 0, none⟩) (Kd.R_types HO113.out BK106.out (by decide)) (fun _ hk => hk.2) (.slice Ao10 t108.length co10)) (fun _ hk => hk.2) (.slice Ao9 t111.length co9)) (fun _ hk => hk.2) (.bool false)) (fun _ hk => trivial), vW HB.out⟩
 ·
  replace c3 := Bool.eq_false_iff.mpr c3
  subst c3
  have H1 : (some (([] : List Int), ([] : List Int), false)) = some (r1, r2, r3) := by rw [if_neg (show ¬ (false = true) by decide)] at H; exact H
  clear H
  have H := H1
  clear H1
  simp only [Option.some.injEq, Prod.mk.injEq] at H
  obtain ⟨rfl, rfl, rfl⟩ := H
  go_enter Try.func13, Try.ntmps13
  go_wp2_with (first | ((with_reducible refine gate_dst (N := 2) rfl ?_); refine box_event ?hg (N := 2) ?hd (cs := #[.slice none 0 0, .slice none 0 0, .bool false]) (t := 25) ?hr ?_; (case hd => rfl); (case hg => rfl); (case hr => first | (go_simp; done) | (go_simp; rfl)); intro gb106 hg w12 hbox hb; have BK106 := Aside0.mk (hbox); have GW106 := vS hg HB; have GE106 := vS hg HB; replace HB := vWs HB hb; clear hb hbox hg) | ((with_reducible refine gate_callee (f := 46) rfl ?_); refine goesL_ (some 4) rfl rfl Try.func46 (by kernel_rfl) rfl #[.slice A0 l0.length c0] rfl vL ?_; (with_reducible refine (oct_may.calls _ _ l0 false _ ?side1 ?side2 A2.out).mono ?_); (case side1 => exact vC (Kd.C_below HR0.out HB.out)); (case side2 => exact HC0.out); rintro e w' ⟨rfl, ⟨nd, rfl⟩⟩; refine ⟨_, rfl, ?_⟩; (try (rw [drewN_self w12]; generalize hq_ : World.drewN w12 _ = w12; have n0_ : Aside0 (w12.heap[gb106]? = some (.cells #[.slice none 0 0, .slice none 0 0, .bool false] 25 (0, 0))) := ⟨by rw [← hq_]; exact (vB BK106.out)⟩; have n1_ : Aside0 (Below w.heap.size w w12) := ⟨by rw [← hq_]; exact (vW HB.out)⟩; clear BK106 HB hq_; have BK106 := n0_; have HB := n1_; clear n0_ n1_)); obtain ⟨hcz13_0, hcz13_1, hcz13_2, hfz13_0, hfz13_1, hfz13_2⟩ := vF3 BK106.out))
  refine bodyPost_ret (results_cell_row rfl _ _ gb106 25 #[.slice none 0 0, .slice none 0 0, .bool false] (0, 0) _ rfl (by (with_reducible repeat (first | refine blk_drewN ?_ _ | refine blk_drew ?_ | refine blk_alloc ?_ _)); refine blk_put (cs := #[.slice none 0 0, .slice none 0 0, .bool false]) ?_ 2 _ rfl; (with_reducible repeat (first | refine blk_drewN ?_ _ | refine blk_drew ?_ | refine blk_alloc ?_ _)); refine blk_put (cs := #[.slice none 0 0, .slice none 0 0, .bool false]) ?_ 1 _ rfl; (with_reducible repeat (first | refine blk_drewN ?_ _ | refine blk_drew ?_ | refine blk_alloc ?_ _)); refine blk_put (cs := #[.slice none 0 0, .slice none 0 0, .bool false]) ?_ 0 _ rfl; (with_reducible repeat (first | refine blk_drewN ?_ _ | refine blk_drew ?_ | refine blk_alloc ?_ _)); exact BK106.out) Try.underlying25 rfl (by kernel_rfl)) rfl ?_
  exact ⟨_, _, by first | rfl | (simp [errW_none, errW_some] <;> rfl) | (simp [*, errW_none, errW_some] <;> rfl) | (simp [wrap64]; done), by first | exact Kd.R_nil _ _ _ _ _ | exact Kd.N_nil _ _ _ _ _ | exact Kd.V_nil _ _ _ _ _ | exact Kd.Q_nil _ _ _ _ _ | exact Kd.S_nil _ _ _ _ _, by first | exact Kd.R_nil _ _ _ _ _ | exact Kd.N_nil _ _ _ _ _ | exact Kd.V_nil _ _ _ _ _ | exact Kd.Q_nil _ _ _ _ _ | exact Kd.S_nil _ _ _ _ _, vW HB.out⟩
end Go.Proofs.Ytomgebmimgaojaa.QO
end
end
section
noncomputable section
namespace Go.Proofs.Ytomgebmimgaojaa.QO
open Go.RowKit Go.Proofs.YtomgebmimgaojaaW.PrintWords Go.Proofs.YtomgebmimgaojaaW.PrintLast
set_option linter.unusedVariables false
set_option linter.unusedSimpArgs false
def gimbalref11_copied.f (l0 : List Int) : Option (List Int) := if ([] : List Int).length + l0.length < 17592186044416 then (some (([] : List Int) ++ l0)) else (none)
set_option maxHeartbeats 8000000 in
set_option maxRecDepth 100000 in
theorem gimbalref11_copied.calls (A0 : Option Addr) (c0 : Nat) (l0 : List Int) (r : List Int) (w : World) (hr0 : Kd.C (Kd.int .i64) w A0 l0.length l0) (hc0 : l0.length ≤ c0) (h : gimbalref11_copied.f l0 = some r) :
 Calls Try.prog 50 #[.slice A0 l0.length c0] w fun e w' => ∃ v0_ : Value, e = .returned (v0_) ∧ Kd.R (Kd.int .i64) 3 w' w.heap.size (fun _ => True) v0_ r ∧ Below w.heap.size w w' := by
 have HR0 := Aside0.mk hr0
 have HC0 := Aside0.mk hc0
 clear hr0 hc0
 have HB := Aside0.mk (Below.refl w.heap.size w)
 have H : (if ([] : List Int).length + l0.length < 17592186044416 then (some (([] : List Int) ++ l0)) else (none)) = some r := h
 clear h
 by_cases c2 : ([] : List Int).length + l0.length < 17592186044416
 ·
  rw [if_pos c2] at H
  have LMc2 := Aside0.mk c2
  clear c2
  obtain ⟨y125, hy125⟩ : ∃ y_ : List Int, y_ = (([] : List Int) ++ l0) := ⟨_, rfl⟩
  replace H : (some y125) = some r := by first | (rw [hy125]; with_reducible exact H) | (have H2_ := (Option.bind_some _ _).symm.trans H; rw [hy125]; with_reducible exact H2_) | (have H2_ := (Option.bind_some _ _).symm.trans H; with_reducible exact H2_) | with_reducible exact H | (rw [hy125]; exact H) | exact H
  have Ny125 := Aside0.mk hy125
  clear hy125
  obtain rfl := Option.some.inj H
  go_enter Try.func50, Try.ntmps50
  go_wp2_with (first | ((with_reducible refine gate_builtin (b := .append) (xs := #[.tmp 4, .tmp 5]) rfl ?_); at_builtin; refine Kd.R_append_rows (Kd.int .i64) (w0 := w) w.heap.size rfl (.tmp 4) (.tmp 5) 22 3 (.int .i64 0) 8 rfl Try.underlying22 info3 rfl (by decide) (by omega) (.slice none 0 0) ([] : List Int) l0 _ _ _ (fun _ => True) (fun _ => False) rfl rfl ?aO ?aR (fun _ _ h => h) (fun _ h => h.elim) ?aF ?aB ?aS ?aL ?_; (case aR => repeat (first | exact HR0.out | (with_reducible refine Kd.C_alloc ?_ _) | (with_reducible refine Kd.C_drewN ?_ _) | (with_reducible refine Kd.C_drew ?_))); (case aB => exact (by repeat (first | (with_reducible first | exact HB.out | apply below_alloc | apply pw_below_drewN | apply below_drew1) | exact HB.out))); (case aF => exact (fun _ _ => trivial)); (case aO => exact ((Kd.R_nil _ _ _ _ (fun _ => True)))); (case aS => exact (below_size (by repeat (first | (with_reducible first | exact HB.out | apply below_alloc | apply pw_below_drewN | apply below_drew1) | exact HB.out)))); (case aL => have := LMc2.out; omega); intro v126 w3 ho hb hg hat; rw [← Ny125.out] at ho; have n0_ := Aside0.mk (hb); have n1_ := Aside0.mk (ho); clear HB; have HB := n0_; have HO127 := n1_; clear n0_ n1_; clear ho hb hg hat))
  go_ret
  exact ⟨_, by first | rfl | (simp [errW_none, errW_some] <;> rfl) | (simp [*, errW_none, errW_some] <;> rfl) | (simp [wrap64]; done), by (with_reducible repeat (first | apply Kd.R_alloc | apply Kd.R_drewN | apply Kd.R_drew)); exact HO127.out, by repeat (first | (with_reducible first | exact HB.out | apply below_alloc | apply pw_below_drewN | apply below_drew1) | exact HB.out)⟩
 ·
  rw [if_neg c2] at H
  exact absurd H (by simp)
end Go.Proofs.Ytomgebmimgaojaa.QO
end
end
section
noncomputable section
namespace Go.Proofs.Ytomgebmimgaojaa.QO
open Go.RowKit Go.Proofs.YtomgebmimgaojaaW.PrintWords Go.Proofs.YtomgebmimgaojaaW.PrintLast
set_option linter.unusedVariables false
set_option linter.unusedSimpArgs false
def gimbalref11_Bottom.f (l0 : List Int) : Option (List Int × List Int × Bool) := (gimbalref11_VarsFit.f l0).bind fun t141 => (if t141 = true then ((gimbalref11_copied.f l0).bind fun t142 => (some (t142, ([] : List Int), true))) else (some (([] : List Int), ([] : List Int), false)))
set_option maxHeartbeats 8000000 in
set_option maxRecDepth 100000 in
theorem gimbalref11_Bottom.calls (A0 : Option Addr) (c0 : Nat) (l0 : List Int) (r1 : List Int) (r2 : List Int) (r3 : Bool) (w : World) (hr0 : Kd.C (Kd.int .i64) w A0 l0.length l0) (hc0 : l0.length ≤ c0) (h : gimbalref11_Bottom.f l0 = some (r1, r2, r3)) :
 Calls Try.prog 17 #[.slice A0 l0.length c0] w fun e w' => ∃ v0_ v1_ : Value, e = .returned (.agg #[v0_, v1_, .bool r3]) ∧ Kd.R (Kd.int .i64) 3 w' w.heap.size (fun _ => True) v0_ r1 ∧ Kd.R (Kd.int .i64) 2 w' w.heap.size (fun _ => True) v1_ r2 ∧ Below w.heap.size w w' := by
 have hu25 := Try.underlying25
 have HR0 := Aside0.mk hr0
 have HC0 := Aside0.mk hc0
 clear hr0 hc0
 have HB := Aside0.mk (Below.refl w.heap.size w)
 have H : ((gimbalref11_VarsFit.f l0).bind fun t141 => (if t141 = true then ((gimbalref11_copied.f l0).bind fun t142 => (some (t142, ([] : List Int), true))) else (some (([] : List Int), ([] : List Int), false)))) = some (r1, r2, r3) := h
 clear h
 replace H := Option.bind_eq_some_iff.mp H
 obtain ⟨t141, A20, H⟩ := H
 replace H : (if t141 = true then ((gimbalref11_copied.f l0).bind fun t142 => (some (t142, ([] : List Int), true))) else (some (([] : List Int), ([] : List Int), false))) = some (r1, r2, r3) := H
 have A2 := Aside0.mk A20
 clear A20
 by_cases c3 : t141 = true
 ·
  subst c3
  have H1 : ((gimbalref11_copied.f l0).bind fun t142 => (some (t142, ([] : List Int), true))) = some (r1, r2, r3) := by rw [if_pos rfl] at H; exact H
  clear H
  have H := H1
  clear H1
  replace H := Option.bind_eq_some_iff.mp H
  obtain ⟨t142, A40, H⟩ := H
  replace H : (some (t142, ([] : List Int), true)) = some (r1, r2, r3) := H
  have A4 := Aside0.mk A40
  clear A40
  simp only [Option.some.injEq, Prod.mk.injEq] at H
  obtain ⟨rfl, rfl, rfl⟩ := H
  go_enter Try.func17, Try.ntmps17
  go_wp2_with (first | ((with_reducible refine gate_dst (N := 2) rfl ?_); refine box_event ?hg (N := 2) ?hd (cs := #[.slice none 0 0, .slice none 0 0, .bool false]) (t := 25) ?hr ?_; (case hd => rfl); (case hg => rfl); (case hr => first | (go_simp; done) | (go_simp; rfl)); intro gb140 hg w5 hbox hb; have BK140 := Aside0.mk (hbox); have GW140 := vS hg HB; have GE140 := vS hg HB; replace HB := vWs HB hb; clear hb hbox hg) | ((with_reducible refine gate_callee (f := 49) rfl ?_); refine goesL_ (some 4) rfl rfl Try.func49 (by kernel_rfl) rfl #[.slice A0 l0.length c0] rfl vL ?_; (with_reducible refine (gimbalref11_VarsFit.calls _ _ l0 true _ ?side1 ?side2 A2.out).mono ?_); (case side1 => exact vC (Kd.C_below HR0.out HB.out)); (case side2 => exact HC0.out); rintro e w' ⟨rfl, ⟨nd, rfl⟩⟩; refine ⟨_, rfl, ?_⟩; (try (rw [drewN_self w5]; generalize hq_ : World.drewN w5 _ = w5; have n0_ : Aside0 (w5.heap[gb140]? = some (.cells #[.slice none 0 0, .slice none 0 0, .bool false] 25 (0, 0))) := ⟨by rw [← hq_]; exact (vB BK140.out)⟩; have n1_ : Aside0 (Below w.heap.size w w5) := ⟨by rw [← hq_]; exact (vW HB.out)⟩; clear BK140 HB hq_; have BK140 := n0_; have HB := n1_; clear n0_ n1_))) | ((with_reducible refine gate_callee (f := 50) rfl ?_); refine goesL_ (some 8) rfl rfl Try.func50 (by kernel_rfl) rfl #[.slice A0 l0.length c0] rfl vL ?_; (with_reducible refine (gimbalref11_copied.calls _ _ l0 t142 _ ?side1 ?side2 A4.out).mono ?_); (case side1 => exact vC (Kd.C_below HR0.out HB.out)); (case side2 => exact HC0.out); rintro e w6 ⟨v143, rfl, ho0, hb⟩; refine ⟨_, rfl, ?_⟩; have HO144 := Aside0.mk (Kd.R_lower ho0 (below_size (vW HB.out))); replace BK140 := vBb BK140 hb; replace HB := vWs HB hb; (try clear hb); (try clear hb2); (try clear hk); (try clear hi); (try clear ho0); obtain ⟨Ao7, co7, eo7⟩ := Kd.R_slice HO144.out; subst eo7; obtain ⟨hcz8_0, hcz8_1, hcz8_2, hfz8_0, hfz8_1, hfz8_2⟩ := vF3 BK140.out))
  refine bodyPost_ret (results_cell_row rfl _ _ gb140 25 #[.slice Ao7 t142.length co7, .slice none 0 0, .bool true] (0, 0) _ rfl (by (with_reducible repeat (first | refine blk_drewN ?_ _ | refine blk_drew ?_ | refine blk_alloc ?_ _)); refine blk_put (cs := #[.slice Ao7 t142.length co7, .slice none 0 0, .bool false]) ?_ 2 _ rfl; (with_reducible repeat (first | refine blk_drewN ?_ _ | refine blk_drew ?_ | refine blk_alloc ?_ _)); refine blk_put (cs := #[.slice Ao7 t142.length co7, .slice none 0 0, .bool false]) ?_ 1 _ rfl; (with_reducible repeat (first | refine blk_drewN ?_ _ | refine blk_drew ?_ | refine blk_alloc ?_ _)); refine blk_put (cs := #[.slice none 0 0, .slice none 0 0, .bool false]) ?_ 0 _ rfl; (with_reducible repeat (first | refine blk_drewN ?_ _ | refine blk_drew ?_ | refine blk_alloc ?_ _)); exact BK140.out) Try.underlying25 rfl (by kernel_rfl)) rfl ?_
  exact ⟨_, _, by first | rfl | (simp [errW_none, errW_some] <;> rfl) | (simp [*, errW_none, errW_some] <;> rfl) | (simp [wrap64]; done), by (with_reducible repeat (first | apply Kd.R_alloc | apply Kd.R_drewN | apply Kd.R_drew)); exact Kd.R_mono (Kd.R_far (p := ⟨gb140, 2, none⟩) (Kd.R_far (p := ⟨gb140, 1, none⟩) (Kd.R_far (p := ⟨gb140, 0, none⟩) (Kd.R_types HO144.out BK140.out (by decide)) (fun _ hk => hk.2) (.slice Ao7 t142.length co7)) (fun _ hk => hk.2) (.slice none 0 0)) (fun _ hk => hk.2) (.bool true)) (fun _ hk => trivial), by first | exact Kd.R_nil _ _ _ _ _ | exact Kd.N_nil _ _ _ _ _ | exact Kd.V_nil _ _ _ _ _ | exact Kd.Q_nil _ _ _ _ _ | exact Kd.S_nil _ _ _ _ _, vW HB.out⟩
 ·
  replace c3 := Bool.eq_false_iff.mpr c3
  subst c3
  have H1 : (some (([] : List Int), ([] : List Int), false)) = some (r1, r2, r3) := by rw [if_neg (show ¬ (false = true) by decide)] at H; exact H
  clear H
  have H := H1
  clear H1
  simp only [Option.some.injEq, Prod.mk.injEq] at H
  obtain ⟨rfl, rfl, rfl⟩ := H
  go_enter Try.func17, Try.ntmps17
  go_wp2_with (first | ((with_reducible refine gate_dst (N := 2) rfl ?_); refine box_event ?hg (N := 2) ?hd (cs := #[.slice none 0 0, .slice none 0 0, .bool false]) (t := 25) ?hr ?_; (case hd => rfl); (case hg => rfl); (case hr => first | (go_simp; done) | (go_simp; rfl)); intro gb140 hg w9 hbox hb; have BK140 := Aside0.mk (hbox); have GW140 := vS hg HB; have GE140 := vS hg HB; replace HB := vWs HB hb; clear hb hbox hg) | ((with_reducible refine gate_callee (f := 49) rfl ?_); refine goesL_ (some 4) rfl rfl Try.func49 (by kernel_rfl) rfl #[.slice A0 l0.length c0] rfl vL ?_; (with_reducible refine (gimbalref11_VarsFit.calls _ _ l0 false _ ?side1 ?side2 A2.out).mono ?_); (case side1 => exact vC (Kd.C_below HR0.out HB.out)); (case side2 => exact HC0.out); rintro e w' ⟨rfl, ⟨nd, rfl⟩⟩; refine ⟨_, rfl, ?_⟩; (try (rw [drewN_self w9]; generalize hq_ : World.drewN w9 _ = w9; have n0_ : Aside0 (w9.heap[gb140]? = some (.cells #[.slice none 0 0, .slice none 0 0, .bool false] 25 (0, 0))) := ⟨by rw [← hq_]; exact (vB BK140.out)⟩; have n1_ : Aside0 (Below w.heap.size w w9) := ⟨by rw [← hq_]; exact (vW HB.out)⟩; clear BK140 HB hq_; have BK140 := n0_; have HB := n1_; clear n0_ n1_)); obtain ⟨hcz10_0, hcz10_1, hcz10_2, hfz10_0, hfz10_1, hfz10_2⟩ := vF3 BK140.out))
  refine bodyPost_ret (results_cell_row rfl _ _ gb140 25 #[.slice none 0 0, .slice none 0 0, .bool false] (0, 0) _ rfl (by (with_reducible repeat (first | refine blk_drewN ?_ _ | refine blk_drew ?_ | refine blk_alloc ?_ _)); refine blk_put (cs := #[.slice none 0 0, .slice none 0 0, .bool false]) ?_ 2 _ rfl; (with_reducible repeat (first | refine blk_drewN ?_ _ | refine blk_drew ?_ | refine blk_alloc ?_ _)); refine blk_put (cs := #[.slice none 0 0, .slice none 0 0, .bool false]) ?_ 1 _ rfl; (with_reducible repeat (first | refine blk_drewN ?_ _ | refine blk_drew ?_ | refine blk_alloc ?_ _)); refine blk_put (cs := #[.slice none 0 0, .slice none 0 0, .bool false]) ?_ 0 _ rfl; (with_reducible repeat (first | refine blk_drewN ?_ _ | refine blk_drew ?_ | refine blk_alloc ?_ _)); exact BK140.out) Try.underlying25 rfl (by kernel_rfl)) rfl ?_
  exact ⟨_, _, by first | rfl | (simp [errW_none, errW_some] <;> rfl) | (simp [*, errW_none, errW_some] <;> rfl) | (simp [wrap64]; done), by first | exact Kd.R_nil _ _ _ _ _ | exact Kd.N_nil _ _ _ _ _ | exact Kd.V_nil _ _ _ _ _ | exact Kd.Q_nil _ _ _ _ _ | exact Kd.S_nil _ _ _ _ _, by first | exact Kd.R_nil _ _ _ _ _ | exact Kd.N_nil _ _ _ _ _ | exact Kd.V_nil _ _ _ _ _ | exact Kd.Q_nil _ _ _ _ _ | exact Kd.S_nil _ _ _ _ _, vW HB.out⟩
end Go.Proofs.Ytomgebmimgaojaa.QO
end
end
section
noncomputable section
namespace Go.Proofs.Ytomgebmimgaojaa.QO
open Go.RowKit Go.Proofs.YtomgebmimgaojaaW.PrintWords Go.Proofs.YtomgebmimgaojaaW.PrintLast
set_option linter.unusedVariables false
set_option linter.unusedSimpArgs false
def gimbalref11_plus.f (a0 : Int) (a1 : Int) : Option (Int) := if a0 = 4611686018427387904 then (some 4611686018427387904) else (if a1 = 4611686018427387904 then (some 4611686018427387904) else (some (wrap64 (a0 + a1))))
set_option maxHeartbeats 8000000 in
set_option maxRecDepth 100000 in
theorem gimbalref11_plus.calls (a0 : Int) (a1 : Int) (r : Int) (w : World) (h : gimbalref11_plus.f a0 a1 = some r) :
 Calls Try.prog 84 #[.int .i64 a0, .int .i64 a1] w fun e w' => e = .returned (.int .i64 r) ∧ Drawn0 w w' := by
 have H : (if a0 = 4611686018427387904 then (some 4611686018427387904) else (if a1 = 4611686018427387904 then (some 4611686018427387904) else (some (wrap64 (a0 + a1))))) = some r := h
 clear h
 by_cases c3 : a0 = 4611686018427387904
 ·
  rw [if_pos c3] at H
  have c3b0 : (a0 == 4611686018427387904) = true := beq_iff_eq.mpr c3
  have c3b1 : (a0 != 4611686018427387904) = false := bne_eq_false_iff_eq.mpr c3
  clear c3
  obtain rfl := Option.some.inj H
  go_enter Try.func84, Try.ntmps84
  go_wp2
  go_ret
  exact ⟨by first | rfl | (simp; done) | (simp [*]; done), by repeat (first | exact Drawn0.refl _ | apply Drawn0.step)⟩
 ·
  rw [if_neg c3] at H
  have c3b0 : (a0 == 4611686018427387904) = false := beq_eq_false_iff_ne.mpr c3
  have c3b1 : (a0 != 4611686018427387904) = true := bne_iff_ne.mpr c3
  by_cases c4 : a1 = 4611686018427387904
  ·
   rw [if_pos c4] at H
   have c4b0 : (a1 == 4611686018427387904) = true := beq_iff_eq.mpr c4
   have c4b1 : (a1 != 4611686018427387904) = false := bne_eq_false_iff_eq.mpr c4
   clear c4
   obtain rfl := Option.some.inj H
   go_enter Try.func84, Try.ntmps84
   go_wp2
   go_ret
   exact ⟨by first | rfl | (simp; done) | (simp [*]; done), by repeat (first | exact Drawn0.refl _ | apply Drawn0.step)⟩
  ·
   rw [if_neg c4] at H
   have c4b0 : (a1 == 4611686018427387904) = false := beq_eq_false_iff_ne.mpr c4
   have c4b1 : (a1 != 4611686018427387904) = true := bne_iff_ne.mpr c4
   obtain rfl := Option.some.inj H
   go_enter Try.func84, Try.ntmps84
   go_wp2
   go_ret
   exact ⟨by first | rfl | (simp; done) | (simp [*]; done), by repeat (first | exact Drawn0.refl _ | apply Drawn0.step)⟩
end Go.Proofs.Ytomgebmimgaojaa.QO
end
end
section
noncomputable section
namespace Go.Proofs.Ytomgebmimgaojaa.QO
open Go.RowKit Go.Proofs.YtomgebmimgaojaaW.PrintWords Go.Proofs.YtomgebmimgaojaaW.PrintLast
set_option linter.unusedVariables false
set_option linter.unusedSimpArgs false
def gimbalref11_halved.f (a0 : Int) : Option (Int) := if a0 ≥ 0 then (some (wrap64 (Int.tdiv a0 2))) else (some (wrap64 (-(wrap64 (Int.tdiv (wrap64 (1 - a0)) 2)))))
set_option maxHeartbeats 8000000 in
set_option maxRecDepth 100000 in
theorem gimbalref11_halved.calls (a0 : Int) (r : Int) (w : World) (h : gimbalref11_halved.f a0 = some r) :
 Calls Try.prog 85 #[.int .i64 a0] w fun e w' => e = .returned (.int .i64 r) ∧ Drawn0 w w' := by
 have H : (if a0 ≥ 0 then (some (wrap64 (Int.tdiv a0 2))) else (some (wrap64 (-(wrap64 (Int.tdiv (wrap64 (1 - a0)) 2)))))) = some r := h
 clear h
 by_cases c2 : a0 ≥ 0
 ·
  rw [if_pos c2] at H
  have c2b0 : decide (0 ≤ a0) = true := decide_eq_true c2
  clear c2
  obtain rfl := Option.some.inj H
  go_enter Try.func85, Try.ntmps85
  go_wp2
  go_ret
  exact ⟨by first | rfl | (simp; done) | (simp [*]; done), by repeat (first | exact Drawn0.refl _ | apply Drawn0.step)⟩
 ·
  rw [if_neg c2] at H
  have c2b0 : decide (0 ≤ a0) = false := decide_eq_false c2
  clear c2
  obtain rfl := Option.some.inj H
  go_enter Try.func85, Try.ntmps85
  go_wp2
  go_ret
  exact ⟨by first | rfl | (simp; done) | (simp [*]; done), by repeat (first | exact Drawn0.refl _ | apply Drawn0.step)⟩
end Go.Proofs.Ytomgebmimgaojaa.QO
end
end
