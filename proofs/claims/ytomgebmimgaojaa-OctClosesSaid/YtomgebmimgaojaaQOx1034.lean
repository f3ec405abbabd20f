/- Written by a program of this session out of the translation. -/
import Derived.Test.YtomgebmimgaojaaQOx0
import Derived.Test.YtomgebmimgaojaaQOx1018
import Derived.Test.YtomgebmimgaojaaQOx1055
import Derived.Test.YtomgebmimgaojaaQOx1069
import Derived.Test.YtomgebmimgaojaaQOx1083
namespace Go.Proofs.Ytomgebmimgaojaa.QO
open Go.RowKit Go.Proofs.YtomgebmimgaojaaW.PrintWords Go.Proofs.YtomgebmimgaojaaW.PrintLast
set_option linter.unusedVariables false
set_option linter.unusedSimpArgs false

/-! ### oct_Has: function 34 -/
/-- a node's value -/
def sgn (v : List Int) (i : Int) : Int := if i % 2 = 1 then - rd v (i / 2) else rd v (i / 2)
/-- the values are in it -/
def HasP (vars m : List Int) (empty : Bool) (v : List Int) : Prop :=
  empty = false ∧ OFit vars m empty ∧ v.length = vars.length ∧ (∀ k : Int, 0 ≤ k → k < v.length → -4611686018427387904 < rd v k ∧ rd v k < 4611686018427387904) ∧
  ∀ i j : Int, 0 ≤ i → i < 2 * (vars.length : Int) → 0 ≤ j → j < 2 * (vars.length : Int) → rd m (i * (2 * (vars.length : Int)) + j) = 4611686018427387904 ∨ sgn v j - sgn v i ≤ rd m (i * (2 * (vars.length : Int)) + j)
theorem Box1.one {w W : World} {g : Nat} {a : Value} {t : Nat} (h : Box1 w g #[a] t W) : W.cell? ⟨g, 0, none⟩ = some a := (blk_cell h.box 0).trans rfl
theorem Box1.three' {w W : World} {g : Nat} {a b c : Value} {t : Nat} (h : Box1 w g #[a, b, c] t W) : W.cell? ⟨g, 0, none⟩ = some a ∧ W.cell? ⟨g, 1, none⟩ = some b ∧ W.cell? ⟨g, 2, none⟩ = some c := ⟨(blk_cell h.box 0).trans rfl, (blk_cell h.box 1).trans rfl, (blk_cell h.box 2).trans rfl⟩
noncomputable def hasB (vars m : List Int) (empty : Bool) (v : List Int) : Bool := @decide (HasP vars m empty v) (Classical.propDecidable _)
theorem hasB_true {vars m : List Int} {empty : Bool} {v : List Int} : hasB vars m empty v = true ↔ HasP vars m empty v := by unfold hasB; exact @decide_eq_true_iff _ (Classical.propDecidable _)
theorem hasB_false {vars m : List Int} {empty : Bool} {v : List Int} : hasB vars m empty v = false ↔ ¬ HasP vars m empty v := by unfold hasB; exact @decide_eq_false_iff_not _ (Classical.propDecidable _)
noncomputable def oct_Has.f (l0_0 : List Int) (l0_1 : List Int) (a0_2 : Bool) (l1 : List Int) : Option Bool := if l0_0.length ≤ 17592186044416 ∧ l1.length ≤ 17592186044416 then some (hasB l0_0 l0_1 a0_2 l1) else none
/-- of a sound octagon both halves say the same -/
theorem lowAt_eq {vars m : List Int} (h : OFit vars m false) {i j : Int} (h0 : 0 ≤ i) (h1 : i < 2 * (vars.length : Int)) (h2 : 0 ≤ j) (h3 : j < 2 * (vars.length : Int)) : lowAt (2 * (vars.length : Int)) m i j = rd m (i * (2 * (vars.length : Int)) + j) := by
  unfold lowAt; split
  · exact (((h.2.2 rfl).2 i j h0 h1 h2 h3).2.2).symm
  · rfl
set_option maxHeartbeats 8000000 in
set_option maxRecDepth 100000 in
theorem oct_sgn_any (A : Option Addr) (c : Nat) (v : List Int) (i : Int) (B : Nat) (W : World) (hr : Kd.C (Kd.int .i64) W A v.length v) (hb : W.cell? ⟨B, 0, none⟩ = some (.slice A v.length c)) (h0 : 0 ≤ i) (h1 : i < 16) (h2 : i / 2 < v.length) (h3 : -4611686018427387904 < rd v (i / 2) ∧ rd v (i / 2) < 4611686018427387904) :
    Calls Try.prog 68 #[.int .i64 i, .pointer (some ⟨B, 0, none⟩)] W fun e w' => e = .returned (.int .i64 (sgn v i)) ∧ w' = W := by
  obtain ⟨k, hk⟩ : ∃ k : Int, i / 2 = k := ⟨_, rfl⟩
  rw [hk] at h2 h3
  have k0 : 0 ≤ k := by omega
  obtain ⟨ad, e0, hx⟩ := Kd.at_int hr k k0 h2
  cases e0
  have d1 : i.tdiv 2 = k := by rw [Int.tdiv_eq_ediv_of_nonneg h0]; exact hk
  have d3 : wrap64 k = k := by unfold wrap64; omega
  obtain ⟨m, hm⟩ : ∃ m : Int, i % 2 = m := ⟨_, rfl⟩
  have d2 : i.tmod 2 = m := by rw [Int.tmod_eq_emod_of_nonneg h0]; exact hm
  have d4 : wrap64 m = m := by unfold wrap64; omega
  have hs : sgn v i = if m = 1 then - rd v k else rd v k := by unfold sgn; rw [hm, hk]
  rw [hs]
  obtain ⟨x, hxx⟩ : ∃ x, rd v k = x := ⟨_, rfl⟩
  rw [hxx] at hx h3 ⊢
  have d5 : wrap64 (-x) = -x := by unfold wrap64; omega
  have k1 := eq_true k0
  have k2 := eq_true h2
  by_cases hc : m = 1
  · rw [if_pos hc]
    have f1 : (m == 1) = true := by simpa using hc
    clear hr h0 h1 h2 h3 k0 hk hm hs hxx hc
    go_enter Try.func68, Try.ntmps68
    go_wp2
    go_ret
    refine ⟨?_, rfl⟩
    first | rfl | (show Ending.returned (Value.int IntKind.i64 (wrap64 (-x))) = _; rw [d5])
  · rw [if_neg hc]
    have f1 : (m == 1) = false := by simpa using hc
    clear hr h0 h1 h2 h3 k0 hk hm hs hxx hc
    go_enter Try.func68, Try.ntmps68
    go_wp2
    go_ret
    refine ⟨?_, rfl⟩
    first | rfl | (show Ending.returned (Value.int IntKind.i64 (wrap64 (-x))) = _; rw [d5])
set_option maxHeartbeats 8000000 in
set_option maxRecDepth 100000 in
theorem oct_Has.calls (A0_0 : Option Addr) (c0_0 : Nat) (l0_0 : List Int) (A0_1 : Option Addr) (c0_1 : Nat) (l0_1 : List Int) (a0_2 : Bool) (A1 : Option Addr) (c1 : Nat) (l1 : List Int) (r : Bool) (w : World) (hr0_0 : Kd.C (Kd.int .i64) w A0_0 l0_0.length l0_0) (hc0_0 : l0_0.length ≤ c0_0) (hr0_1 : Kd.C (Kd.int .i64) w A0_1 l0_1.length l0_1) (hc0_1 : l0_1.length ≤ c0_1) (hr1 : Kd.C (Kd.int .i64) w A1 l1.length l1) (hc1 : l1.length ≤ c1) (h : oct_Has.f l0_0 l0_1 a0_2 l1 = some r) :
    Calls Try.prog 34 #[.agg #[.slice A0_0 l0_0.length c0_0, .slice A0_1 l0_1.length c0_1, .bool a0_2], .slice A1 l1.length c1] w fun e w' => e = .returned (.bool r) ∧ Below w.heap.size w w' := by
  have hu25 := Try.underlying25
  have HR0 := Aside0.mk hr0_0
  have HR1 := Aside0.mk hr0_1
  have HR2 := Aside0.mk hr1
  have HC0 := Aside0.mk hc0_0
  have HC1 := Aside0.mk hc0_1
  have HC2 := Aside0.mk hc1
  clear hr0_0 hr0_1 hc0_0 hc0_1 hr1 hc1
  unfold oct_Has.f at h
  by_cases hlen : l0_0.length ≤ 17592186044416 ∧ l1.length ≤ 17592186044416
  · rw [if_pos hlen] at h
    have HV := Aside0.mk (Option.some.inj h)
    clear h
    have HLEN := Aside0.mk hlen
    clear hlen
    cases a0_2 with
    | true =>
      go_enter Try.func34, Try.ntmps34
      go_wp2
      go_ret
      refine ⟨?_, by repeat (first | exact Below.refl _ _ | (with_reducible apply below_alloc) | (with_reducible apply pw_below_drewN) | (with_reducible apply below_drew))⟩
      rw [← HV.out, hasB_false.2 (fun h => by cases h.1)]
      rfl
    | false =>
      cases hf : ofitB l0_0 l0_1 false with
      | false =>
        have HF := Aside0.mk (fun W (h0 : Kd.C (Kd.int .i64) W A0_0 l0_0.length l0_0) (h1 : Kd.C (Kd.int .i64) W A0_1 l0_1.length l0_1) => oct_Fit.calls A0_0 c0_0 l0_0 A0_1 c0_1 l0_1 false false W h0 HC0.out h1 HC1.out (by unfold oct_Fit.f; rw [if_pos HLEN.out.1, hf]))
        have HN := Aside0.mk (ofitB_false.1 hf)
        clear hf
        go_enter Try.func34, Try.ntmps34
        go_wp2_with (go_at_call 18; (with_reducible refine (HF.out _ ?s1 ?s2).mono ?_); (case s1 => repeat (first | exact HR0.out | (with_reducible refine Kd.C_alloc ?_ _))); (case s2 => repeat (first | exact HR1.out | (with_reducible refine Kd.C_alloc ?_ _))); rintro e w1 ⟨rfl, hb⟩)
        go_ret
        refine ⟨?_, (below_alloc (below_alloc (Below.refl _ _) _) _).trans (hb.mono (by simp; omega))⟩
        rw [← HV.out, hasB_false.2 (fun h => HN.out h.2.1)]
        rfl
      | true =>
        have HF := Aside0.mk (fun W (h0 : Kd.C (Kd.int .i64) W A0_0 l0_0.length l0_0) (h1 : Kd.C (Kd.int .i64) W A0_1 l0_1.length l0_1) => oct_Fit.calls A0_0 c0_0 l0_0 A0_1 c0_1 l0_1 false true W h0 HC0.out h1 HC1.out (by unfold oct_Fit.f; rw [if_pos HLEN.out.1, hf]))
        have HT := Aside0.mk (ofitB_true.1 hf)
        clear hf
        by_cases hl : l1.length = l0_0.length
        · have f1 : ((l1.length : Int) != (l0_0.length : Int)) = false := by rw [hl]; simp
          have f2 : (l1.length != l0_0.length) = false := by rw [hl]; simp
          have HL := Aside0.mk hl
          clear hl
          go_enter Try.func34, Try.ntmps34
          have hB0 : Box1 w w.heap.size #[.slice A0_0 l0_0.length c0_0, .slice A0_1 l0_1.length c0_1, .bool false] 25 ((w.alloc (.cells #[.slice A0_0 l0_0.length c0_0, .slice A0_1 l0_1.length c0_1, .bool false] 25)).alloc (.cells #[.slice A1 l1.length c1] 23)) := Box1.alloc (box1_new (Below.refl _ _) rfl) _
          have hB1 : Box1 w (w.heap.size + 1) #[.slice A1 l1.length c1] 23 ((w.alloc (.cells #[.slice A0_0 l0_0.length c0_0, .slice A0_1 l0_1.length c0_1, .bool false] 25)).alloc (.cells #[.slice A1 l1.length c1] 23)) := box1_new (below_alloc (Below.refl _ _) _) (by simp)
          have HX := Aside0.mk hB0
          have HY := Aside0.mk hB1
          clear hB0 hB1
          go_upto_region 3 with (go_at_call 18; (with_reducible refine (HF.out _ ?s1 ?s2).mono ?_); (case s1 => repeat (first | exact HR0.out | (with_reducible refine Kd.C_alloc ?_ _))); (case s2 => repeat (first | exact HR1.out | (with_reducible refine Kd.C_alloc ?_ _))); rintro e w1 ⟨rfl, hb⟩; obtain ⟨hcc, hff⟩ := bcell hb; have hz := hb.size; rw [World.size_alloc, World.size_alloc] at hz)
          have nX := Aside0.mk (HX.out.next hb)
          have nY := Aside0.mk (HY.out.next hb)
          clear HX HY hb hcc hff hz
          have HX := nX
          have HY := nY
          clear nX nY
          obtain ⟨hx0, hx1, hx2⟩ := HX.out.three'
          have hy0 := HY.out.one
          go_wp2_with fail
          go_loopg [6, 29] l1.length (fun gg _ s29 wr => ∃ k : Int, s29 = .int .i64 k ∧ Aside0 (0 ≤ k ∧ k ≤ l1.length ∧ l1.length - k.toNat ≤ gg) ∧ Aside0 (Box1 w w.heap.size #[.slice A0_0 l0_0.length c0_0, .slice A0_1 l0_1.length c0_1, .bool false] 25 wr) ∧ Aside0 (Box1 w (w.heap.size + 1) #[.slice A1 l1.length c1] 23 wr) ∧ Aside0 (∀ a : Int, 0 ≤ a → a < k → -4611686018427387904 < rd l1 a ∧ rd l1 a < 4611686018427387904))
          case atStart => exact ⟨0, rfl, ⟨by omega, by omega, by omega⟩, HX, HY, ⟨fun a h0 h1 => absurd h1 (by omega)⟩⟩
          case round =>
            clear HX HY hx0 hx1 hx2 hy0
            obtain ⟨k, rfl, HK, HX, HY, HA⟩ := hrel
            by_cases hlt : k < (l1.length : Int)
            · have c6b0 : decide (k < (l1.length : Int)) = true := decide_eq_true hlt
              have p0 : 0 ≤ k := HK.out.1
              obtain ⟨ad, e0, hx⟩ := Kd.at_int (Kd.C_below HR2.out HX.out.below) k p0 hlt
              cases e0
              have HQ := Aside0.mk hlt
              obtain ⟨x, hxx⟩ : ∃ x, rd l1 k = x := ⟨_, rfl⟩
              rw [hxx] at hx
              have HXX := Aside0.mk hxx
              clear hxx
              replace p0 := eq_true p0
              replace hlt := eq_true hlt
              by_cases c1 : 4611686018427387904 ≤ x
              · have f3 : decide (4611686018427387904 ≤ x) = true := decide_eq_true c1
                have HC := Aside0.mk c1
                clear c1
                go_wp2
                go_ret
                refine ⟨?_, HX.out.below⟩
                rw [← HV.out, hasB_false.2 (fun h => by have h1 := HK.out; have h2 := HQ.out; have h3 := (h.2.2.2.1 k h1.1 h2).2; rw [HXX.out] at h3; have := HC.out; omega)]
                rfl
              · have f3 : decide (4611686018427387904 ≤ x) = false := decide_eq_false c1
                have HC := Aside0.mk c1
                clear c1
                by_cases c2 : x ≤ -4611686018427387904
                · have f4 : decide (x ≤ -4611686018427387904) = true := decide_eq_true c2
                  have HD := Aside0.mk c2
                  clear c2
                  go_wp2
                  go_ret
                  refine ⟨?_, HX.out.below⟩
                  rw [← HV.out, hasB_false.2 (fun h => by have h1 := HK.out; have h2 := HQ.out; have h3 := (h.2.2.2.1 k h1.1 h2).1; rw [HXX.out] at h3; have := HD.out; omega)]
                  rfl
                · have f4 : decide (x ≤ -4611686018427387904) = false := decide_eq_false c2
                  have HD := Aside0.mk c2
                  clear c2
                  go_wp2
                  go_roundg (l1.length - (k.toNat + 1))
                  case measure => have h1 := HK.out; have h2 := HQ.out; omega
                  case rel =>
                    have h1 := HK.out; have h2 := HQ.out; have h3 := HC.out; have h4 := HD.out; have h5 := HLEN.out.2
                    have hw : wrap64 (k + 1) = k + 1 := by unfold wrap64; omega
                    refine ⟨wrap64 (k + 1), rfl, ⟨by omega, by omega, by omega⟩, HX, HY, ⟨fun a a0 a1 => ?_⟩⟩
                    by_cases e : a = k
                    · subst e; rw [HXX.out]; omega
                    · exact HA.out a a0 (by omega)
            · have c6b0 : decide (k < (l1.length : Int)) = false := decide_eq_false hlt
              have HALL : Aside0 (∀ a : Int, 0 ≤ a → a < l1.length → -4611686018427387904 < rd l1 a ∧ rd l1 a < 4611686018427387904) := ⟨fun a a0 a1 => HA.out a a0 (by omega)⟩
              clear hlt HA HK
              obtain ⟨hx0, hx1, hx2⟩ := HX.out.three'
              have hy0 := HY.out.one
              have hm0 := meth_size
              have hm1 := meth_at
              go_wp2_with (first | (go_at_call 55; (with_reducible refine (oct_of_any _ _ _ _ _ _ _ _ HLEN.out.1).mono ?_); rintro e w1 ⟨rfl, hb⟩; unfold tableV; clear hx0 hx1 hx2 hy0; have nX : Aside0 (Box1 w w.heap.size #[.slice A0_0 l0_0.length c0_0, .slice A0_1 l0_1.length c0_1, .bool false] 25 w1) := ⟨Box1.next HX.out hb⟩; have nY : Aside0 (Box1 w (w.heap.size + 1) #[.slice A1 l1.length c1] 23 w1) := ⟨Box1.next HY.out hb⟩; clear HX HY hb; have HX := nX; have HY := nY; clear nX nY) | (go_at_call 110; (with_reducible refine (oct_size_any _ _ _ _ _).mono ?_); rintro e w1 ⟨rfl, hb⟩; have nX : Aside0 (Box1 w w.heap.size #[.slice A0_0 l0_0.length c0_0, .slice A0_1 l0_1.length c0_1, .bool false] 25 w1) := ⟨Box1.next HX.out hb⟩; have nY : Aside0 (Box1 w (w.heap.size + 1) #[.slice A1 l1.length c1] 23 w1) := ⟨Box1.next HY.out hb⟩; clear HX HY hb; have HX := nX; have HY := nY; clear nX nY))
              go_loopg [9, 10, 11, 45, 49, 50] (2 * l0_0.length) (fun gg _ _ _ s45 _ _ wr => ∃ i : Int, s45 = .int .i64 i ∧ Aside0 (0 ≤ i ∧ i ≤ 2 * (l0_0.length : Int) ∧ 2 * l0_0.length - i.toNat ≤ gg) ∧ Aside0 (Box1 w w.heap.size #[.slice A0_0 l0_0.length c0_0, .slice A0_1 l0_1.length c0_1, .bool false] 25 wr) ∧ Aside0 (Box1 w (w.heap.size + 1) #[.slice A1 l1.length c1] 23 wr) ∧ Aside0 (∀ a b : Int, 0 ≤ a → a < i → 0 ≤ b → b < 2 * (l0_0.length : Int) → rd l0_1 (a * (2 * (l0_0.length : Int)) + b) = 4611686018427387904 ∨ sgn l1 b - sgn l1 a ≤ rd l0_1 (a * (2 * (l0_0.length : Int)) + b)))
              case atStart => exact ⟨0, rfl, ⟨by omega, by omega, by omega⟩, HX, HY, ⟨fun a b h0 h1 => absurd h1 (by omega)⟩⟩
              case round =>
                clear HX HY
                obtain ⟨i, rfl, HI, HX, HY, HA⟩ := hrel
                by_cases hlt : i < 2 * (l0_0.length : Int)
                · have f3 : decide (i < 2 * (l0_0.length : Int)) = true := decide_eq_true hlt
                  have HIL := Aside0.mk hlt
                  clear hlt
                  go_wp2_with (go_at_call 110; (with_reducible refine (oct_size_any _ _ _ _ _).mono ?_); rintro e w1 ⟨rfl, hb⟩; have nX : Aside0 (Box1 w w.heap.size #[.slice A0_0 l0_0.length c0_0, .slice A0_1 l0_1.length c0_1, .bool false] 25 w1) := ⟨Box1.next HX.out hb⟩; have nY : Aside0 (Box1 w (w.heap.size + 1) #[.slice A1 l1.length c1] 23 w1) := ⟨Box1.next HY.out hb⟩; clear HX HY hb; have HX := nX; have HY := nY; clear nX nY)
                  go_loopg [10, 11, 50] (2 * l0_0.length) (fun hh _ _ s50 wr => ∃ j : Int, s50 = .int .i64 j ∧ Aside0 (0 ≤ j ∧ j ≤ 2 * (l0_0.length : Int) ∧ 2 * l0_0.length - j.toNat ≤ hh) ∧ Aside0 (Box1 w w.heap.size #[.slice A0_0 l0_0.length c0_0, .slice A0_1 l0_1.length c0_1, .bool false] 25 wr) ∧ Aside0 (Box1 w (w.heap.size + 1) #[.slice A1 l1.length c1] 23 wr) ∧ Aside0 (∀ b : Int, 0 ≤ b → b < j → rd l0_1 (i * (2 * (l0_0.length : Int)) + b) = 4611686018427387904 ∨ sgn l1 b - sgn l1 i ≤ rd l0_1 (i * (2 * (l0_0.length : Int)) + b)))
                  case atStart => exact ⟨0, rfl, ⟨by omega, by omega, by omega⟩, HX, HY, ⟨fun b h0 h1 => absurd h1 (by omega)⟩⟩
                  case round =>
                    clear HX HY
                    obtain ⟨j, rfl, HJ, HX, HY, HE⟩ := hrel
                    by_cases hlt : j < 2 * (l0_0.length : Int)
                    · have f4 : decide (j < 2 * (l0_0.length : Int)) = true := decide_eq_true hlt
                      have HJL := Aside0.mk hlt
                      clear hlt
                      have hi := HI.out; have hj := HJ.out; have hil := HIL.out; have hjl := HJL.out; have hle := HL.out; have h8 := HT.out.1.1
                      have hm := ((HT.out.2.2 rfl).1)
                      have cq1 := fun W (hW : Kd.C (Kd.int .i64) W A0_1 l0_1.length l0_1) => oct_lower_at_any l0_0.length A0_1 c0_1 l0_1 i j W hW HC1.out h8 hm hi.1 hil hj.1 hjl
                      have s1 := fun W (hW : Kd.C (Kd.int .i64) W A1 l1.length l1) (hb : W.cell? ⟨w.heap.size + 1, 0, none⟩ = some (.slice A1 l1.length c1)) => oct_sgn_any A1 c1 l1 i (w.heap.size + 1) W hW hb hi.1 (by omega) (by omega) (HALL.out (i / 2) (by omega) (by omega))
                      have s2 := fun W (hW : Kd.C (Kd.int .i64) W A1 l1.length l1) (hb : W.cell? ⟨w.heap.size + 1, 0, none⟩ = some (.slice A1 l1.length c1)) => oct_sgn_any A1 c1 l1 j (w.heap.size + 1) W hW hb hj.1 (by omega) (by omega) (HALL.out (j / 2) (by omega) (by omega))
                      have bi : -4611686018427387904 < sgn l1 i ∧ sgn l1 i < 4611686018427387904 := by have := HALL.out (i / 2) (by omega) (by omega); unfold sgn; split <;> omega
                      have bj : -4611686018427387904 < sgn l1 j ∧ sgn l1 j < 4611686018427387904 := by have := HALL.out (j / 2) (by omega) (by omega); unfold sgn; split <;> omega
                      have hx := lowAt_eq HT.out hi.1 hil hj.1 hjl
                      have hxb := ((HT.out.2.2 rfl).2 i j hi.1 hil hj.1 hjl).1
                      obtain ⟨x, hxx⟩ : ∃ x, lowAt (2 * (l0_0.length : Int)) l0_1 i j = x := ⟨_, rfl⟩
                      rw [hxx] at hx
                      rw [← hx] at hxb
                      obtain ⟨si, hsi⟩ : ∃ si, sgn l1 i = si := ⟨_, rfl⟩
                      obtain ⟨sj, hsj⟩ : ∃ sj, sgn l1 j = sj := ⟨_, rfl⟩
                      simp only [hxx] at cq1
                      simp only [hsi] at s1
                      simp only [hsj] at s2
                      rw [hsi] at bi
                      rw [hsj] at bj
                      have HXI : Aside0 ((rd l0_1 (i * (2 * (l0_0.length : Int)) + j) = 4611686018427387904 ∨ sgn l1 j - sgn l1 i ≤ rd l0_1 (i * (2 * (l0_0.length : Int)) + j)) ↔ (x = 4611686018427387904 ∨ sj - si ≤ x)) := ⟨by rw [← hx, hsi, hsj]⟩
                      have C1 := Aside0.mk cq1
                      have S1 := Aside0.mk s1
                      have S2 := Aside0.mk s2
                      have ab := fun W => oct_above.calls si sj x (decide (sj - si > x)) W (by unfold oct_above.f; rw [if_pos ⟨by omega, by omega, by omega⟩])
                      clear hi hj hil hjl hle h8 hm cq1 s1 s2 bi bj hx hxb hxx hsi hsj
                      by_cases cx : x = 4611686018427387904
                      · have f5 : (x != 4611686018427387904) = false := by rw [cx]; simp
                        have HCX := Aside0.mk cx
                        clear cx ab
                        go_wp2_with (go_at_call 111; (with_reducible refine (C1.out _ ?s1).mono ?_); (case s1 => exact Kd.C_below HR1.out HX.out.below); rintro e w1 ⟨rfl, hb⟩; have nX : Aside0 (Box1 w w.heap.size #[.slice A0_0 l0_0.length c0_0, .slice A0_1 l0_1.length c0_1, .bool false] 25 w1) := ⟨Box1.next HX.out hb⟩; have nY : Aside0 (Box1 w (w.heap.size + 1) #[.slice A1 l1.length c1] 23 w1) := ⟨Box1.next HY.out hb⟩; clear HX HY hb; have HX := nX; have HY := nY; clear nX nY)
                        go_roundg (2 * l0_0.length - (j.toNat + 1))
                        case measure => have h1 := HJ.out; have h2 := HJL.out; omega
                        case rel =>
                          have h1 := HJ.out; have h2 := HJL.out; have h3 := HLEN.out
                          have hw : wrap64 (j + 1) = j + 1 := by unfold wrap64; omega
                          refine ⟨wrap64 (j + 1), rfl, ⟨by omega, by omega, by omega⟩, ⟨HX.out⟩, ⟨HY.out⟩, ⟨fun b b0 b1 => ?_⟩⟩
                          by_cases e : b = j
                          · subst e; exact HXI.out.2 (Or.inl HCX.out)
                          · exact HE.out b b0 (by omega)
                      · have f5 : (x != 4611686018427387904) = true := by simpa using cx
                        have HCX := Aside0.mk cx
                        clear cx
                        by_cases cy : sj - si > x
                        · rw [decide_eq_true cy] at ab
                          have AB := Aside0.mk ab
                          have HCY := Aside0.mk cy
                          clear cy ab
                          go_wp2_with (first | (go_at_call 111; (with_reducible refine (C1.out _ ?s1).mono ?_); (case s1 => exact Kd.C_below HR1.out HX.out.below); rintro e w1 ⟨rfl, hb⟩; have nX : Aside0 (Box1 w w.heap.size #[.slice A0_0 l0_0.length c0_0, .slice A0_1 l0_1.length c0_1, .bool false] 25 w1) := ⟨Box1.next HX.out hb⟩; have nY : Aside0 (Box1 w (w.heap.size + 1) #[.slice A1 l1.length c1] 23 w1) := ⟨Box1.next HY.out hb⟩; clear HX HY hb; have HX := nX; have HY := nY; clear nX nY) | (go_at_call 68; (with_reducible refine (S1.out _ ?s1 ?s2).mono ?_); (case s1 => exact Kd.C_below HR2.out HX.out.below); (case s2 => exact HY.out.one); rintro e w1 ⟨rfl, rfl⟩) | (go_at_call 68; (with_reducible refine (S2.out _ ?s1 ?s2).mono ?_); (case s1 => exact Kd.C_below HR2.out HX.out.below); (case s2 => exact HY.out.one); rintro e w1 ⟨rfl, rfl⟩) | (go_at_call 69; (with_reducible refine (AB.out _).mono ?_); rintro e w1 ⟨rfl, ⟨nd, rfl⟩⟩))
                          go_ret
                          refine ⟨?_, (HX.out.drewN _).below⟩
                          rw [← HV.out, hasB_false.2 (fun h => by have h1 := HI.out; have h2 := HIL.out; have h3 := HJ.out; have h4 := HJL.out; have h5 := HXI.out.1 (h.2.2.2.2 i j h1.1 h2 h3.1 h4); have h6 := HCX.out; have h7 := HCY.out; omega)]
                          rfl
                        · rw [decide_eq_false cy] at ab
                          have AB := Aside0.mk ab
                          have HCY := Aside0.mk cy
                          clear cy ab
                          go_wp2_with (first | (go_at_call 111; (with_reducible refine (C1.out _ ?s1).mono ?_); (case s1 => exact Kd.C_below HR1.out HX.out.below); rintro e w1 ⟨rfl, hb⟩; have nX : Aside0 (Box1 w w.heap.size #[.slice A0_0 l0_0.length c0_0, .slice A0_1 l0_1.length c0_1, .bool false] 25 w1) := ⟨Box1.next HX.out hb⟩; have nY : Aside0 (Box1 w (w.heap.size + 1) #[.slice A1 l1.length c1] 23 w1) := ⟨Box1.next HY.out hb⟩; clear HX HY hb; have HX := nX; have HY := nY; clear nX nY) | (go_at_call 68; (with_reducible refine (S1.out _ ?s1 ?s2).mono ?_); (case s1 => exact Kd.C_below HR2.out HX.out.below); (case s2 => exact HY.out.one); rintro e w1 ⟨rfl, rfl⟩) | (go_at_call 68; (with_reducible refine (S2.out _ ?s1 ?s2).mono ?_); (case s1 => exact Kd.C_below HR2.out HX.out.below); (case s2 => exact HY.out.one); rintro e w1 ⟨rfl, rfl⟩) | (go_at_call 69; (with_reducible refine (AB.out _).mono ?_); rintro e w1 ⟨rfl, ⟨nd, rfl⟩⟩))
                          go_roundg (2 * l0_0.length - (j.toNat + 1))
                          case measure => have h1 := HJ.out; have h2 := HJL.out; omega
                          case rel =>
                            have h1 := HJ.out; have h2 := HJL.out; have h3 := HLEN.out
                            have hw : wrap64 (j + 1) = j + 1 := by unfold wrap64; omega
                            refine ⟨wrap64 (j + 1), rfl, ⟨by omega, by omega, by omega⟩, ⟨HX.out.drewN _⟩, ⟨HY.out.drewN _⟩, ⟨fun b b0 b1 => ?_⟩⟩
                            by_cases e : b = j
                            · subst e; exact HXI.out.2 (Or.inr (by have := HCY.out; omega))
                            · exact HE.out b b0 (by omega)
                    · have f4 : decide (j < 2 * (l0_0.length : Int)) = false := decide_eq_false hlt
                      have HJL := Aside0.mk hlt
                      clear hlt
                      go_wp2
                      go_roundg (2 * l0_0.length - (i.toNat + 1))
                      case measure => have h1 := HI.out; have h2 := HIL.out; omega
                      case rel =>
                        have h1 := HI.out; have h2 := HIL.out; have h3 := HLEN.out; have h5 := HJL.out; have h6 := HJ.out
                        have hw : wrap64 (i + 1) = i + 1 := by unfold wrap64; omega
                        refine ⟨wrap64 (i + 1), rfl, ⟨by omega, by omega, by omega⟩, HX, HY, ⟨fun a b a0 a1 b0 b1 => ?_⟩⟩
                        by_cases e : a = i
                        · subst e; exact HE.out b b0 (by omega)
                        · exact HA.out a b a0 (by omega) b0 b1
                · have f3 : decide (i < 2 * (l0_0.length : Int)) = false := decide_eq_false hlt
                  have HIL := Aside0.mk hlt
                  clear hlt
                  go_wp2
                  go_ret
                  have h1 := HI.out; have h2 := HIL.out
                  refine ⟨?_, HX.out.below⟩
                  rw [← HV.out, (hasB_true (vars := l0_0) (m := l0_1) (empty := false) (v := l1)).2 ⟨rfl, HT.out, HL.out, HALL.out, fun a b a0 a1 b0 b1 => HA.out a b a0 (by omega) b0 b1⟩]
                  rfl
        · have f1 : ((l1.length : Int) != (l0_0.length : Int)) = true := by simpa using (by omega : ¬ ((l1.length : Int) = (l0_0.length : Int)))
          have f2 : (l1.length != l0_0.length) = true := by simpa using hl
          have HL := Aside0.mk hl
          clear hl
          go_enter Try.func34, Try.ntmps34
          go_wp2_with (go_at_call 18; (with_reducible refine (HF.out _ ?s1 ?s2).mono ?_); (case s1 => repeat (first | exact HR0.out | (with_reducible refine Kd.C_alloc ?_ _))); (case s2 => repeat (first | exact HR1.out | (with_reducible refine Kd.C_alloc ?_ _))); rintro e w1 ⟨rfl, hb⟩; obtain ⟨hcc, hff⟩ := bcell hb; have hz := hb.size; rw [World.size_alloc, World.size_alloc] at hz)
          go_ret
          refine ⟨?_, (below_alloc (below_alloc (Below.refl _ _) _) _).trans (hb.mono (by simp; omega))⟩
          rw [← HV.out, hasB_false.2 (fun h => HL.out h.2.2.1)]
          rfl
  · rw [if_neg hlen] at h
    cases h

end Go.Proofs.Ytomgebmimgaojaa.QO
