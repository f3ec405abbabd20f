/- Written by a program of this session out of the translation. -/
import Derived.Test.YtomgebmimgaojaaQOx0
import Derived.Test.YtomgebmimgaojaaQOx1018
import Derived.Test.YtomgebmimgaojaaQOx1046
import Derived.Test.YtomgebmimgaojaaQOx1049
import Derived.Test.YtomgebmimgaojaaQOx1051
import Derived.Test.YtomgebmimgaojaaQOx1052
import Derived.Test.YtomgebmimgaojaaQOx1053
namespace Go.Proofs.Ytomgebmimgaojaa.QO
open Go.RowKit Go.Proofs.YtomgebmimgaojaaW.PrintWords Go.Proofs.YtomgebmimgaojaaW.PrintLast
set_option linter.unusedVariables false
set_option linter.unusedSimpArgs false

/-! ### gimbalref11_Fit: function 19 -/
noncomputable def gimbalref11_Fit.f (l0_0 : List Int) (l0_1 : List Int) (a0_2 : Bool) : Option Bool := if l0_0.length ≤ 17592186044416 then some (ofitB l0_0 l0_1 a0_2) else none
theorem Box1.three {w W : World} {g : Nat} {a b c : Value} {t : Nat} (h : Box1 w g #[a, b, c] t W) : W.cell? ⟨g, 0, none⟩ = some a ∧ W.cell? ⟨g, 1, none⟩ = some b ∧ W.cell? ⟨g, 2, none⟩ = some c := ⟨(blk_cell h.box 0).trans rfl, (blk_cell h.box 1).trans rfl, (blk_cell h.box 2).trans rfl⟩
set_option maxHeartbeats 8000000 in
set_option maxRecDepth 100000 in
theorem gimbalref11_Fit.calls (A0_0 : Option Addr) (c0_0 : Nat) (l0_0 : List Int) (A0_1 : Option Addr) (c0_1 : Nat) (l0_1 : List Int) (a0_2 : Bool) (r : Bool) (w : World) (hr0_0 : Kd.C (Kd.int .i64) w A0_0 l0_0.length l0_0) (hc0_0 : l0_0.length ≤ c0_0) (hr0_1 : Kd.C (Kd.int .i64) w A0_1 l0_1.length l0_1) (hc0_1 : l0_1.length ≤ c0_1) (h : gimbalref11_Fit.f l0_0 l0_1 a0_2 = some r) :
    Calls Try.prog 19 #[.agg #[.slice A0_0 l0_0.length c0_0, .slice A0_1 l0_1.length c0_1, .bool a0_2]] w fun e w' => e = .returned (.bool r) ∧ Below w.heap.size w w' := by
  have hu25 := Try.underlying25
  have HR0 := Aside0.mk hr0_0
  have HR1 := Aside0.mk hr0_1
  have HC0 := Aside0.mk hc0_0
  have HC1 := Aside0.mk hc0_1
  clear hr0_0 hr0_1 hc0_0 hc0_1
  unfold gimbalref11_Fit.f at h
  by_cases hlen : l0_0.length ≤ 17592186044416
  · rw [if_pos hlen] at h
    have HV := Aside0.mk (Option.some.inj h)
    clear h
    have e1 : wrap64 (2 * (l0_0.length : Int)) = 2 * (l0_0.length : Int) := by unfold wrap64; omega
    have e2 : IntKind.i64.wrap (2 * (l0_0.length : Int)) = 2 * (l0_0.length : Int) := by rw [IntKind.wrap_i64]; omega
    cases hv : varsB l0_0 with
    | false =>
      have HM := fun W (hW : Kd.C (Kd.int .i64) W A0_0 l0_0.length l0_0) => gimbalref11_VarsFit.calls A0_0 c0_0 l0_0 false W hW HC0.out (by unfold gimbalref11_VarsFit.f; rw [hv])
      replace HM := Aside0.mk HM
      have HF := Aside0.mk (varsB_false.1 hv)
      clear hv hlen
      go_enter Try.func19, Try.ntmps19
      go_wp2_with (go_at_call 49; (with_reducible refine (HM.out _ ?side1).mono ?_); (case side1 => repeat (first | exact HR0.out | (with_reducible refine Kd.C_alloc ?_ _) | (with_reducible refine Kd.C_drewN ?_ _) | (with_reducible refine Kd.C_drew ?_))); rintro e w1 ⟨rfl, ⟨nd, rfl⟩⟩)
      go_ret
      refine ⟨?_, by repeat (first | exact Below.refl _ _ | (with_reducible apply below_alloc) | (with_reducible apply pw_below_drewN) | (with_reducible apply below_drew))⟩
      rw [← HV.out, ofitB_false.2 (fun h => HF.out h.1)]
      rfl
    | true =>
      have HM := fun W (hW : Kd.C (Kd.int .i64) W A0_0 l0_0.length l0_0) => gimbalref11_VarsFit.calls A0_0 c0_0 l0_0 true W hW HC0.out (by unfold gimbalref11_VarsFit.f; rw [hv])
      replace HM := Aside0.mk HM
      have HT := Aside0.mk (varsB_true.1 hv)
      clear hv hlen
      cases a0_2 with
      | true =>
        by_cases hz : l0_1.length = 0
        · have f1 : ((l0_1.length : Int) == 0) = true := by rw [hz]; rfl
          have f2 : (l0_1.length == 0) = true := by rw [hz]; rfl
          have HZ := Aside0.mk hz
          clear hz
          go_enter Try.func19, Try.ntmps19
          go_wp2_with (go_at_call 49; (with_reducible refine (HM.out _ ?side1).mono ?_); (case side1 => repeat (first | exact HR0.out | (with_reducible refine Kd.C_alloc ?_ _) | (with_reducible refine Kd.C_drewN ?_ _) | (with_reducible refine Kd.C_drew ?_))); rintro e w1 ⟨rfl, ⟨nd, rfl⟩⟩)
          go_ret
          refine ⟨?_, by repeat (first | exact Below.refl _ _ | (with_reducible apply below_alloc) | (with_reducible apply pw_below_drewN) | (with_reducible apply below_drew))⟩
          rw [← HV.out, ofitB_true.2 ⟨HT.out, fun _ => List.eq_nil_of_length_eq_zero HZ.out, fun h => by cases h⟩]
          rfl
        · have f1 : ((l0_1.length : Int) == 0) = false := by simpa using (by omega : ¬ ((l0_1.length : Int) = 0))
          have f2 : (l0_1.length == 0) = false := by simpa using hz
          have HZ := Aside0.mk hz
          clear hz
          go_enter Try.func19, Try.ntmps19
          go_wp2_with (go_at_call 49; (with_reducible refine (HM.out _ ?side1).mono ?_); (case side1 => repeat (first | exact HR0.out | (with_reducible refine Kd.C_alloc ?_ _) | (with_reducible refine Kd.C_drewN ?_ _) | (with_reducible refine Kd.C_drew ?_))); rintro e w1 ⟨rfl, ⟨nd, rfl⟩⟩)
          go_ret
          refine ⟨?_, by repeat (first | exact Below.refl _ _ | (with_reducible apply below_alloc) | (with_reducible apply pw_below_drewN) | (with_reducible apply below_drew))⟩
          rw [← HV.out, ofitB_false.2 (fun h => HZ.out (by rw [h.2.1 rfl]; rfl))]
          rfl
      | false =>
        obtain ⟨n2, hn2⟩ : ∃ n2 : Int, 2 * (l0_0.length : Int) = n2 := ⟨_, rfl⟩
        replace e1 : wrap64 (2 * (l0_0.length : Int)) = n2 := e1.trans hn2
        replace e2 : IntKind.i64.wrap (2 * (l0_0.length : Int)) = n2 := e2.trans hn2
        have hl8 := HT.out.1
        obtain ⟨nn, hnn⟩ : ∃ nn : Int, n2 * n2 = nn := ⟨_, rfl⟩
        have hnn2 : 0 ≤ nn ∧ nn ≤ 256 := by rw [← hnn]; exact mul_in (a := n2) (b := n2) (by omega) (by omega) (by omega) (by omega)
        have e3 : wrap64 (n2 * n2) = nn := by rw [hnn]; unfold wrap64; omega
        have e4 : IntKind.i64.wrap (n2 * n2) = nn := by rw [hnn, IntKind.wrap_i64]; omega
        by_cases hz : (l0_1.length : Int) = nn
        · have f1 : ((l0_1.length : Int) != nn) = false := by rw [hz]; simp
          have HZ := Aside0.mk hz
          have HN := Aside0.mk hn2
          have HNN := Aside0.mk hnn
          clear hz hn2 hnn hnn2 hl8
          go_enter Try.func19, Try.ntmps19
          go_wp2_with (go_at_call 49; (with_reducible refine (HM.out _ ?side1).mono ?_); (case side1 => repeat (first | exact HR0.out | (with_reducible refine Kd.C_alloc ?_ _) | (with_reducible refine Kd.C_drewN ?_ _) | (with_reducible refine Kd.C_drew ?_))); rintro e w1 ⟨rfl, ⟨nd, rfl⟩⟩)
          go_loopg [4, 5, 6] n2.toNat (fun gg s4 _ _ wr => ∃ i : Int, s4 = .int .i64 i ∧ Aside0 (0 ≤ i ∧ i ≤ n2 ∧ n2.toNat - i.toNat ≤ gg) ∧ Aside0 (Box1 w w.heap.size #[.slice A0_0 l0_0.length c0_0, .slice A0_1 l0_1.length c0_1, .bool false] 25 wr) ∧ Aside0 (∀ a b : Int, 0 ≤ a → a < i → 0 ≤ b → b < n2 → EntryOk n2 l0_1 a b))
          case atStart => exact ⟨0, rfl, ⟨by have := HN.out; omega, by have := HN.out; omega, by omega⟩, ⟨by repeat (first | exact box1_new (Below.refl _ _) rfl | (with_reducible apply Box1.drewN) | (with_reducible apply Box1.drew))⟩, ⟨fun a b h0 h1 => absurd h1 (by omega)⟩⟩
          case round =>
            obtain ⟨i, rfl, HI, HX, HA⟩ := hrel
            by_cases hlt : i < n2
            · have f2 : decide (i < n2) = true := decide_eq_true hlt
              have HL := Aside0.mk hlt
              clear hlt
              go_wp2
              obtain ⟨wo, rfl⟩ : ∃ wo : World, wo = wr := ⟨_, rfl⟩
              go_loopg [5, 6] n2.toNat (fun hh s5 _ wr => ∃ j : Int, s5 = .int .i64 j ∧ Aside0 (0 ≤ j ∧ j ≤ n2 ∧ n2.toNat - j.toNat ≤ hh) ∧ Aside0 (Box1 w w.heap.size #[.slice A0_0 l0_0.length c0_0, .slice A0_1 l0_1.length c0_1, .bool false] 25 wr) ∧ Aside0 (∀ b : Int, 0 ≤ b → b < j → EntryOk n2 l0_1 i b))
              case atStart => exact ⟨0, rfl, ⟨by have := HN.out; omega, by have := HN.out; omega, by omega⟩, ⟨HX.out⟩, ⟨fun b h0 h1 => absurd h1 (by omega)⟩⟩
              case round =>
                clear HX
                obtain ⟨j, rfl, HJ, HX, HE⟩ := hrel
                by_cases hlt : j < n2
                · have f3 : decide (j < n2) = true := decide_eq_true hlt
                  have HK := Aside0.mk hlt
                  clear hlt
                  have hi := HI.out; have hj := HJ.out; have hil := HL.out; have hjl := HK.out
                  have h8 := HT.out.1
                  have hm : (l0_1.length : Int) = n2 * n2 := by rw [HNN.out]; exact HZ.out
                  have nj := nbar_in (i := j) (n := l0_0.length) hj.1 (by rw [HN.out]; exact hjl)
                  have ni := nbar_in (i := i) (n := l0_0.length) hi.1 (by rw [HN.out]; exact hil)
                  rw [HN.out] at nj ni
                  have hn16 : n2 ≤ 16 := by have := HN.out; omega
                  have b1 : gimbalref11_bar.f j = some (nbar j) := by unfold gimbalref11_bar.f; rw [if_pos ⟨hj.1, by have := HN.out; omega⟩]
                  have b2 : gimbalref11_bar.f i = some (nbar i) := by unfold gimbalref11_bar.f; rw [if_pos ⟨hi.1, by have := HN.out; omega⟩]
                  have pl1 := place_in (n := n2) hi.1 hil hj.1 hjl
                  have pl2 := place_in (n := n2) nj.1 nj.2 ni.1 ni.2
                  obtain ⟨p, hp⟩ : ∃ p, nbar j = p := ⟨_, rfl⟩
                  obtain ⟨q, hq⟩ : ∃ q, nbar i = q := ⟨_, rfl⟩
                  rw [hp] at nj pl2 b1
                  rw [hq] at ni pl2 b2
                  have mi1 := mul_in (a := n2) (b := i) (by omega) (by have := HN.out; omega) (by omega) (by have := HN.out; omega)
                  have mi2 := mul_in (a := n2) (b := p) (by omega) (by have := HN.out; omega) (by omega) (by have := HN.out; omega)
                  obtain ⟨s, hs⟩ : ∃ s, i * n2 = s := ⟨_, rfl⟩
                  obtain ⟨u, hu⟩ : ∃ u, s + j = u := ⟨_, rfl⟩
                  obtain ⟨v, hv⟩ : ∃ v, p * n2 = v := ⟨_, rfl⟩
                  obtain ⟨z, hz⟩ : ∃ z, v + q = z := ⟨_, rfl⟩
                  rw [hs] at pl1 mi1
                  rw [hu] at pl1
                  rw [hv] at pl2 mi2
                  rw [hz] at pl2
                  rw [← hm] at pl1 pl2
                  obtain ⟨ad, e0, hx⟩ := Kd.at_int (Kd.C_below HR1.out HX.out.below) u pl1.1 pl1.2
                  obtain ⟨ad', e9, hy⟩ := Kd.at_int (Kd.C_below HR1.out HX.out.below) z pl2.1 pl2.2
                  cases e0
                  cases e9
                  obtain ⟨x, hxx⟩ : ∃ x, rd l0_1 u = x := ⟨_, rfl⟩
                  obtain ⟨y, hyy⟩ : ∃ y, rd l0_1 z = y := ⟨_, rfl⟩
                  rw [hxx] at hx
                  rw [hyy] at hy
                  have g1 : wrap64 (i * n2) = s := by rw [hs]; unfold wrap64; omega
                  have g2 : IntKind.i64.wrap (i * n2) = s := by rw [hs, IntKind.wrap_i64]; omega
                  have g3 : wrap64 (s + j) = u := by rw [hu]; unfold wrap64; omega
                  have g4 : IntKind.i64.wrap (s + j) = u := by rw [hu, IntKind.wrap_i64]; omega
                  have g5 : wrap64 (p * n2) = v := by rw [hv]; unfold wrap64; omega
                  have g6 : IntKind.i64.wrap (p * n2) = v := by rw [hv, IntKind.wrap_i64]; omega
                  have g7 : wrap64 (v + q) = z := by rw [hz]; unfold wrap64; omega
                  have g8 : IntKind.i64.wrap (v + q) = z := by rw [hz, IntKind.wrap_i64]; omega
                  have k1 := eq_true pl1.1
                  have k2 := eq_true pl1.2
                  have k3 := eq_true pl2.1
                  have k4 := eq_true pl2.2
                  have B1 := Aside0.mk (fun W => gimbalref11_bar_still j p W b1)
                  have B2 := Aside0.mk (fun W => gimbalref11_bar_still i q W b2)
                  have HXY : Aside0 (EntryOk n2 l0_1 i j ↔ (x = 4611686018427387904 ∨ (-1099511627776 ≤ x ∧ x ≤ 1099511627776)) ∧ (i = j → x = 0) ∧ x = y) := ⟨by unfold EntryOk; rw [hp, hq, hs, hu, hv, hz, hxx, hyy]⟩
                  clear hi hj hil hjl h8 hn16 hm nj ni b1 b2 hp hq hs hu hv hz hxx hyy pl1 pl2 mi1 mi2
                  obtain ⟨hx0, hx1, hx2⟩ := HX.out.three
                  go_upto_region 15 with fail
                  go_cut [80] (fun s80 wx => ∃ b : Bool, s80 = .bool b ∧ (b = false ↔ (x = 4611686018427387904 ∨ (-1099511627776 ≤ x ∧ x ≤ 1099511627776)) ∧ (i = j → x = 0) ∧ x = y) ∧ Box1 w w.heap.size #[.slice A0_0 l0_0.length c0_0, .slice (some ad) l0_1.length c0_1, .bool false] 25 wx)
                  case first =>
                    by_cases c1 : x = 4611686018427387904
                    · have f1 : (x != 4611686018427387904) = false := by rw [c1]; rfl
                      by_cases c4 : i = j
                      · have f4 : (i == j) = true := by simpa using c4
                        by_cases c5 : x = 0
                        · have f5 : (x != 0) = false := by rw [c5]; rfl
                          by_cases c6 : x = y
                          · have f6 : (x != y) = false := by rw [c6]; simp
                            have HB : Aside0 (false = false ↔ (x = 4611686018427387904 ∨ (-1099511627776 ≤ x ∧ x ≤ 1099511627776)) ∧ (i = j → x = 0) ∧ x = y) := ⟨by constructor; (intro _; exact ⟨by omega, by omega, by omega⟩); intro _; rfl⟩
                            clear c1 c4 c5 c6
                            go_quiet ((first | (go_at_call 53; exact Calls.quiet_of_same (B1.out _)) | (go_at_call 53; exact Calls.quiet_of_same (B2.out _))))
                            go_wp2_with fail
                            go_meet
                            exact ⟨false, rfl, (by have h := HB.out; first | exact h | simpa using h), (by repeat (first | exact HX.out | (with_reducible apply Box1.drewN) | (with_reducible apply Box1.drew)))⟩
                          · have f6 : (x != y) = true := by simpa using c6
                            have HB : Aside0 (true = false ↔ (x = 4611686018427387904 ∨ (-1099511627776 ≤ x ∧ x ≤ 1099511627776)) ∧ (i = j → x = 0) ∧ x = y) := ⟨by constructor; (intro h; cases h); intro h; exfalso; omega⟩
                            clear c1 c4 c5 c6
                            go_quiet ((first | (go_at_call 53; exact Calls.quiet_of_same (B1.out _)) | (go_at_call 53; exact Calls.quiet_of_same (B2.out _))))
                            go_wp2_with fail
                            go_meet
                            exact ⟨true, rfl, (by have h := HB.out; first | exact h | simpa using h), (by repeat (first | exact HX.out | (with_reducible apply Box1.drewN) | (with_reducible apply Box1.drew)))⟩
                        · have f5 : (x != 0) = true := by simpa using c5
                          have HB : Aside0 (true = false ↔ (x = 4611686018427387904 ∨ (-1099511627776 ≤ x ∧ x ≤ 1099511627776)) ∧ (i = j → x = 0) ∧ x = y) := ⟨by constructor; (intro h; cases h); intro h; exfalso; omega⟩
                          clear c1 c4 c5
                          go_quiet ((first | (go_at_call 53; exact Calls.quiet_of_same (B1.out _)) | (go_at_call 53; exact Calls.quiet_of_same (B2.out _))))
                          go_wp2_with fail
                          go_meet
                          exact ⟨true, rfl, (by have h := HB.out; first | exact h | simpa using h), (by repeat (first | exact HX.out | (with_reducible apply Box1.drewN) | (with_reducible apply Box1.drew)))⟩
                      · have f4 : (i == j) = false := by simpa using c4
                        by_cases c6 : x = y
                        · have f6 : (x != y) = false := by rw [c6]; simp
                          have HB : Aside0 (false = false ↔ (x = 4611686018427387904 ∨ (-1099511627776 ≤ x ∧ x ≤ 1099511627776)) ∧ (i = j → x = 0) ∧ x = y) := ⟨by constructor; (intro _; exact ⟨by omega, by omega, by omega⟩); intro _; rfl⟩
                          clear c1 c4 c6
                          go_quiet ((first | (go_at_call 53; exact Calls.quiet_of_same (B1.out _)) | (go_at_call 53; exact Calls.quiet_of_same (B2.out _))))
                          go_wp2_with fail
                          go_meet
                          exact ⟨false, rfl, (by have h := HB.out; first | exact h | simpa using h), (by repeat (first | exact HX.out | (with_reducible apply Box1.drewN) | (with_reducible apply Box1.drew)))⟩
                        · have f6 : (x != y) = true := by simpa using c6
                          have HB : Aside0 (true = false ↔ (x = 4611686018427387904 ∨ (-1099511627776 ≤ x ∧ x ≤ 1099511627776)) ∧ (i = j → x = 0) ∧ x = y) := ⟨by constructor; (intro h; cases h); intro h; exfalso; omega⟩
                          clear c1 c4 c6
                          go_quiet ((first | (go_at_call 53; exact Calls.quiet_of_same (B1.out _)) | (go_at_call 53; exact Calls.quiet_of_same (B2.out _))))
                          go_wp2_with fail
                          go_meet
                          exact ⟨true, rfl, (by have h := HB.out; first | exact h | simpa using h), (by repeat (first | exact HX.out | (with_reducible apply Box1.drewN) | (with_reducible apply Box1.drew)))⟩
                    · have f1 : (x != 4611686018427387904) = true := by simpa using c1
                      by_cases c2 : x < -1099511627776
                      · have f2 : decide (x < -1099511627776) = true := decide_eq_true c2
                        have HB : Aside0 (true = false ↔ (x = 4611686018427387904 ∨ (-1099511627776 ≤ x ∧ x ≤ 1099511627776)) ∧ (i = j → x = 0) ∧ x = y) := ⟨by constructor; (intro h; cases h); intro h; exfalso; omega⟩
                        clear c1 c2
                        go_quiet ((first | (go_at_call 53; exact Calls.quiet_of_same (B1.out _)) | (go_at_call 53; exact Calls.quiet_of_same (B2.out _))))
                        go_wp2_with fail
                        go_meet
                        exact ⟨true, rfl, (by have h := HB.out; first | exact h | simpa using h), (by repeat (first | exact HX.out | (with_reducible apply Box1.drewN) | (with_reducible apply Box1.drew)))⟩
                      · have f2 : decide (x < -1099511627776) = false := decide_eq_false c2
                        by_cases c3 : 1099511627776 < x
                        · have f3 : decide (1099511627776 < x) = true := decide_eq_true c3
                          have HB : Aside0 (true = false ↔ (x = 4611686018427387904 ∨ (-1099511627776 ≤ x ∧ x ≤ 1099511627776)) ∧ (i = j → x = 0) ∧ x = y) := ⟨by constructor; (intro h; cases h); intro h; exfalso; omega⟩
                          clear c1 c2 c3
                          go_quiet ((first | (go_at_call 53; exact Calls.quiet_of_same (B1.out _)) | (go_at_call 53; exact Calls.quiet_of_same (B2.out _))))
                          go_wp2_with fail
                          go_meet
                          exact ⟨true, rfl, (by have h := HB.out; first | exact h | simpa using h), (by repeat (first | exact HX.out | (with_reducible apply Box1.drewN) | (with_reducible apply Box1.drew)))⟩
                        · have f3 : decide (1099511627776 < x) = false := decide_eq_false c3
                          by_cases c4 : i = j
                          · have f4 : (i == j) = true := by simpa using c4
                            by_cases c5 : x = 0
                            · have f5 : (x != 0) = false := by rw [c5]; rfl
                              by_cases c6 : x = y
                              · have f6 : (x != y) = false := by rw [c6]; simp
                                have HB : Aside0 (false = false ↔ (x = 4611686018427387904 ∨ (-1099511627776 ≤ x ∧ x ≤ 1099511627776)) ∧ (i = j → x = 0) ∧ x = y) := ⟨by constructor; (intro _; exact ⟨by omega, by omega, by omega⟩); intro _; rfl⟩
                                clear c1 c2 c3 c4 c5 c6
                                go_quiet ((first | (go_at_call 53; exact Calls.quiet_of_same (B1.out _)) | (go_at_call 53; exact Calls.quiet_of_same (B2.out _))))
                                go_wp2_with fail
                                go_meet
                                exact ⟨false, rfl, (by have h := HB.out; first | exact h | simpa using h), (by repeat (first | exact HX.out | (with_reducible apply Box1.drewN) | (with_reducible apply Box1.drew)))⟩
                              · have f6 : (x != y) = true := by simpa using c6
                                have HB : Aside0 (true = false ↔ (x = 4611686018427387904 ∨ (-1099511627776 ≤ x ∧ x ≤ 1099511627776)) ∧ (i = j → x = 0) ∧ x = y) := ⟨by constructor; (intro h; cases h); intro h; exfalso; omega⟩
                                clear c1 c2 c3 c4 c5 c6
                                go_quiet ((first | (go_at_call 53; exact Calls.quiet_of_same (B1.out _)) | (go_at_call 53; exact Calls.quiet_of_same (B2.out _))))
                                go_wp2_with fail
                                go_meet
                                exact ⟨true, rfl, (by have h := HB.out; first | exact h | simpa using h), (by repeat (first | exact HX.out | (with_reducible apply Box1.drewN) | (with_reducible apply Box1.drew)))⟩
                            · have f5 : (x != 0) = true := by simpa using c5
                              have HB : Aside0 (true = false ↔ (x = 4611686018427387904 ∨ (-1099511627776 ≤ x ∧ x ≤ 1099511627776)) ∧ (i = j → x = 0) ∧ x = y) := ⟨by constructor; (intro h; cases h); intro h; exfalso; omega⟩
                              clear c1 c2 c3 c4 c5
                              go_quiet ((first | (go_at_call 53; exact Calls.quiet_of_same (B1.out _)) | (go_at_call 53; exact Calls.quiet_of_same (B2.out _))))
                              go_wp2_with fail
                              go_meet
                              exact ⟨true, rfl, (by have h := HB.out; first | exact h | simpa using h), (by repeat (first | exact HX.out | (with_reducible apply Box1.drewN) | (with_reducible apply Box1.drew)))⟩
                          · have f4 : (i == j) = false := by simpa using c4
                            by_cases c6 : x = y
                            · have f6 : (x != y) = false := by rw [c6]; simp
                              have HB : Aside0 (false = false ↔ (x = 4611686018427387904 ∨ (-1099511627776 ≤ x ∧ x ≤ 1099511627776)) ∧ (i = j → x = 0) ∧ x = y) := ⟨by constructor; (intro _; exact ⟨by omega, by omega, by omega⟩); intro _; rfl⟩
                              clear c1 c2 c3 c4 c6
                              go_quiet ((first | (go_at_call 53; exact Calls.quiet_of_same (B1.out _)) | (go_at_call 53; exact Calls.quiet_of_same (B2.out _))))
                              go_wp2_with fail
                              go_meet
                              exact ⟨false, rfl, (by have h := HB.out; first | exact h | simpa using h), (by repeat (first | exact HX.out | (with_reducible apply Box1.drewN) | (with_reducible apply Box1.drew)))⟩
                            · have f6 : (x != y) = true := by simpa using c6
                              have HB : Aside0 (true = false ↔ (x = 4611686018427387904 ∨ (-1099511627776 ≤ x ∧ x ≤ 1099511627776)) ∧ (i = j → x = 0) ∧ x = y) := ⟨by constructor; (intro h; cases h); intro h; exfalso; omega⟩
                              clear c1 c2 c3 c4 c6
                              go_quiet ((first | (go_at_call 53; exact Calls.quiet_of_same (B1.out _)) | (go_at_call 53; exact Calls.quiet_of_same (B2.out _))))
                              go_wp2_with fail
                              go_meet
                              exact ⟨true, rfl, (by have h := HB.out; first | exact h | simpa using h), (by repeat (first | exact HX.out | (with_reducible apply Box1.drewN) | (with_reducible apply Box1.drew)))⟩
                  case rest =>
                    obtain ⟨b, rfl, hb, hX⟩ := hcut
                    clear HX hx0 hx1 hx2 hx hy B1 B2 g1 g2 g3 g4 g5 g6 g7 g8 k1 k2 k3 k4
                    have HX := Aside0.mk hX
                    have HB := Aside0.mk (hb.trans HXY.out.symm)
                    clear hX hb HXY
                    cases b with
                    | true =>
                      go_wp2
                      go_ret
                      refine ⟨?_, HX.out.below⟩
                      have h1 := HI.out; have h2 := HL.out; have h3 := HJ.out; have h4 := HK.out
                      rw [← HV.out, ofitB_false.2 (fun h => by have := (h.2.2 rfl).2 i j h1.1 (by rw [HN.out]; exact h2) h3.1 (by rw [HN.out]; exact h4); rw [HN.out] at this; exact absurd (HB.out.2 this) (by simp))]
                      rfl
                    | false =>
                      go_wp2
                      go_roundg (n2.toNat - (j.toNat + 1))
                      case measure => have h1 := HJ.out; have h2 := HK.out; omega
                      case rel =>
                        have h1 := HJ.out; have h2 := HK.out; have h3 := HT.out.1; have h4 := HN.out
                        have hw : wrap64 (j + 1) = j + 1 := by unfold wrap64; omega
                        refine ⟨wrap64 (j + 1), rfl, ⟨by omega, by omega, by omega⟩, ⟨HX.out⟩, ⟨fun b b0 b1 => ?_⟩⟩
                        by_cases e : b = j
                        · subst e; exact HB.out.1 (by first | rfl | trivial)
                        · exact HE.out b b0 (by omega)
                · have f3 : decide (j < n2) = false := decide_eq_false hlt
                  have HK := Aside0.mk hlt
                  clear hlt
                  go_wp2
                  go_roundg (n2.toNat - (i.toNat + 1))
                  case measure => have h1 := HI.out; have h2 := HL.out; omega
                  case rel =>
                    have h1 := HI.out; have h2 := HL.out; have h3 := HT.out.1; have h4 := HN.out; have h5 := HK.out; have h6 := HJ.out
                    have hw : wrap64 (i + 1) = i + 1 := by unfold wrap64; omega
                    refine ⟨wrap64 (i + 1), rfl, ⟨by omega, by omega, by omega⟩, ⟨HX.out⟩, ⟨fun a b a0 a1 b0 b1 => ?_⟩⟩
                    by_cases e : a = i
                    · subst e; exact HE.out b b0 (by omega)
                    · exact HA.out a b a0 (by omega) b0 b1
            · have f2 : decide (i < n2) = false := decide_eq_false hlt
              have HL := Aside0.mk hlt
              clear hlt
              go_wp2
              go_ret
              have h1 := HI.out; have h2 := HL.out
              refine ⟨?_, HX.out.below⟩
              rw [← HV.out, ofitB_true.2 ⟨HT.out, fun h => (by cases h), fun _ => ⟨by rw [HN.out, HNN.out]; exact HZ.out, fun a b a0 a1 b0 b1 => by rw [HN.out] at a1 b1 ⊢; exact HA.out a b a0 (by omega) b0 b1⟩⟩]
              rfl
        · have f1 : ((l0_1.length : Int) != nn) = true := by simpa using hz
          have HZ := Aside0.mk hz
          have HN := Aside0.mk hn2
          have HNN := Aside0.mk hnn
          clear hz hn2 hnn hnn2 hl8
          go_enter Try.func19, Try.ntmps19
          go_wp2_with (go_at_call 49; (with_reducible refine (HM.out _ ?side1).mono ?_); (case side1 => repeat (first | exact HR0.out | (with_reducible refine Kd.C_alloc ?_ _) | (with_reducible refine Kd.C_drewN ?_ _) | (with_reducible refine Kd.C_drew ?_))); rintro e w1 ⟨rfl, ⟨nd, rfl⟩⟩)
          go_ret
          refine ⟨?_, by repeat (first | exact Below.refl _ _ | (with_reducible apply below_alloc) | (with_reducible apply pw_below_drewN) | (with_reducible apply below_drew))⟩
          rw [← HV.out, ofitB_false.2 (fun h => HZ.out (by rw [(h.2.2 rfl).1, HN.out, HNN.out]))]
          rfl
  · rw [if_neg hlen] at h
    cases h

end Go.Proofs.Ytomgebmimgaojaa.QO
