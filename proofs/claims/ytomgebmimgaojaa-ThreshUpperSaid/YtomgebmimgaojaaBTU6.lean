/- Own texts of this claim, joined: WalkThreshUpper, Open -/
import Derived.Test.YtomgebmimgaojaaBTU0
import Derived.Test.YtomgebmimgaojaaBTU5
import Derived.ChangeArms
import Derived.SizedLaws
section
noncomputable section
namespace Go.Proofs.Ytomgebmimgaojaa.QO
open Go.RowKit Go.Shelf Go.Proofs.YtomgebmimgaojaaW.PrintWords Go.Proofs.YtomgebmimgaojaaW.PrintLast Go.Proofs.YtomgebmimgaojaaW.PrintMore
open Go.Proofs.Ytomgebmimgaojaa.Pure Octs Two Upper
open Go.Proofs.Ytomgebmimgaojaa.ThFacts (FitP)
attribute [local go_sem] Oper.semAt_some
attribute [local go_sem] max2_int min2_int max_two min_two max_three min_three max_four min_four
attribute [local go_sem ↓] Go.wp_at_zero Go.wp_at_succ
set_option linter.unusedVariables false
set_option linter.unusedSimpArgs false
def tu_T6 : Bool × List (List Nat × List Nat) := (true, [([], []), ([0], [0]), ([], []), ([1, 2], [1, 2]), ([3], [3]), ([], []), ([5], [5]), ([], []), ([6, 7], [6, 7]), ([8], [8]), ([4, 9], [4, 9])])
def tu_B6 : List Nat := [0, 1, 0, 7, 15, 0, 32, 0, 224, 480, 1023]
theorem tu_tab6 : rtab .any (opsOf Try.f6 6) = tu_T6 := by kernel_rfl
theorem tu_bits6 : waitsOk tu_T6.2 tu_B6 = true := by kernel_rfl
def tu_T10 : Bool × List (List Nat × List Nat) := (true, [([], []), ([], []), ([0, 1], [0, 1]), ([], []), ([], []), ([3, 4, 2], [3, 4]), ([], []), ([], []), ([6, 2, 5, 0, 1, 2, 6, 7], [2, 6]), ([7, 5, 8, 0, 1, 2, 3, 4, 5, 6, 7, 8], [5, 7])])
def tu_B10 : List Nat := [0, 0, 3, 0, 0, 31, 0, 0, 255, 511]
theorem tu_tab10 : rtab .any (opsOf Try.f6 10) = tu_T10 := by kernel_rfl
theorem tu_bits10 : waitsOk tu_T10.2 tu_B10 = true := by kernel_rfl
def tu_T11 : Bool × List (List Nat × List Nat) := (true, [([], []), ([0], [0]), ([1], [1]), ([], []), ([3], [3]), ([4], [4]), ([2, 5], [2, 5]), ([6], [6]), ([7], [7]), ([8, 7], [7, 8]), ([9, 7], [7, 9]), ([7, 10], [7, 10]), ([11, 7], [11]), ([12], [12]), ([13, 12], [12, 13]), ([14, 12], [12, 14]), ([12], [12]), ([16, 12], [12, 16]), ([17, 12], [12, 17]), ([15, 18, 12], [12, 15, 18]), ([19, 12, 12], [12, 19]), ([20], [20]), ([21, 20], [20, 21]), ([22, 20], [20, 22]), ([20, 23, 12], [12, 20, 23]), ([12, 24], [12, 24]), ([25, 20], [25]), ([26], [26]), ([27, 26, 26], [26, 27]), ([28, 26], [26, 28]), ([26, 29], [26, 29]), ([30, 28], [30]), ([31], [31]), ([32, 31, 31], [31, 32]), ([33, 31], [31, 33]), ([31, 34], [31, 34]), ([35, 33], [35]), ([36], [36]), ([36], [36]), ([37, 38, 36, 36], [36, 37, 38]), ([39, 36], [36, 39]), ([36, 40], [36, 40]), ([41, 39], [41]), ([42], [42]), ([42], [42]), ([43, 44, 42, 42], [42, 43, 44]), ([45, 42], [42, 45]), ([42, 46], [42, 46]), ([47, 45], [47]), ([48], [48]), ([48], [48]), ([49, 50, 48, 48], [48, 49, 50]), ([48], [48]), ([51, 52, 51, 48], [48, 51, 52]), ([53, 48], [48, 53]), ([48, 54], [48, 54])])
def tu_B11 : List Nat := [0, 1, 3, 0, 8, 24, 63, 127, 255, 511, 1023, 2047, 4095, 8191, 16383, 32767, 8191, 73727, 204799, 524287, 1048575, 2097151, 4194303, 8388607, 16777215, 33554431, 67108863, 134217727, 268435455, 536870911, 1073741823, 2147483647, 4294967295, 8589934591, 17179869183, 34359738367, 68719476735, 137438953471, 137438953471, 549755813887, 1099511627775, 2199023255551, 4398046511103, 8796093022207, 8796093022207, 35184372088831, 70368744177663, 140737488355327, 281474976710655, 562949953421311, 562949953421311, 2251799813685247, 562949953421311, 9007199254740991, 18014398509481983, 36028797018963967]
theorem tu_tab11 : rtab .any (opsOf Try.f6 11) = tu_T11 := by kernel_rfl
theorem tu_bits11 : waitsOk tu_T11.2 tu_B11 = true := by kernel_rfl
def tu_T14 : Bool × List (List Nat × List Nat) := (true, [([], []), ([], []), ([0, 1], [0, 1]), ([], []), ([], []), ([3, 4, 2], [3, 4]), ([], []), ([], []), ([6, 2, 5, 0, 1, 2, 6, 7], [2, 6]), ([7, 5, 8, 0, 1, 2, 3, 4, 5, 6, 7, 8], [5, 7])])
def tu_B14 : List Nat := [0, 0, 3, 0, 0, 31, 0, 0, 255, 511]
theorem tu_tab14 : rtab .any (opsOf Try.f6 14) = tu_T14 := by kernel_rfl
theorem tu_bits14 : waitsOk tu_T14.2 tu_B14 = true := by kernel_rfl
def tu_T15 : Bool × List (List Nat × List Nat) := (true, [([], []), ([0], [0]), ([], []), ([2], [2]), ([1, 3], [1, 3]), ([4], [4]), ([5], [5]), ([6, 5], [5, 6]), ([5], [5]), ([8, 5], [5, 8]), ([7, 9, 5], [5, 7, 9]), ([5, 10], [5, 10]), ([11, 5], [11]), ([12], [12]), ([13, 12], [12, 13]), ([12], [12]), ([15, 12], [12, 15]), ([14, 16, 12], [12, 14, 16]), ([12, 17], [12, 17]), ([18, 12], [18]), ([19], [19]), ([20, 19], [19, 20]), ([19], [19]), ([22, 19], [19, 22]), ([21, 23, 19], [19, 21, 23]), ([19, 24], [19, 24]), ([25, 19], [25]), ([26], [26]), ([26], [26]), ([27, 28, 26, 26], [26, 27, 28]), ([26], [26]), ([29, 30, 26], [26, 29, 30]), ([26, 31], [26, 31]), ([32, 29], [32]), ([33, 33], [33]), ([33, 34], [33, 34]), ([35, 34, 0, 1, 2, 3, 4, 5, 6, 7, 8, 9, 10, 11, 12, 13, 14, 15, 16, 17, 18, 19, 20, 21, 22, 23, 24, 25, 26, 27, 28, 29, 30, 31, 32, 33, 34, 35], [35])])
def tu_B15 : List Nat := [0, 1, 0, 4, 15, 31, 63, 127, 63, 319, 1023, 2047, 4095, 8191, 16383, 8191, 40959, 131071, 262143, 524287, 1048575, 2097151, 1048575, 5242879, 16777215, 33554431, 67108863, 134217727, 134217727, 536870911, 134217727, 2147483647, 4294967295, 8589934591, 17179869183, 34359738367, 68719476735]
theorem tu_tab15 : rtab .any (opsOf Try.f6 15) = tu_T15 := by kernel_rfl
theorem tu_bits15 : waitsOk tu_T15.2 tu_B15 = true := by kernel_rfl
theorem th_len {t vars m : List Int} {e : Bool} (ht : FitP t) (h : OFit vars m e) : (thF t vars m e).2.2 = true ∨ ((thF t vars m e).2.2 = false ∧ (thF t vars m e).2.1.length = m.length) := by
  obtain ⟨A, a⟩ := mean_ex h
  have tp := th_mean ht h a
  cases he : (thF t vars m e).2.2 with
  | true => exact .inl rfl
  | false =>
    right
    refine ⟨rfl, ?_⟩
    cases e with
    | true =>
      exfalso
      unfold thF at he
      rw [if_pos (by unfold closeF; rw [if_pos rfl])] at he
      unfold closeF at he; rw [if_pos rfl] at he; cases he
    | false =>
      have f := tp.1
      rw [he] at f
      have len : ∀ {m : List Int}, OFit vars m false → m.length = (2 * vars.length) * (2 * vars.length) := fun {m} h => by
        have h1 := (h.2.2 rfl).1
        have e : ((m.length : Nat) : Int) = (((2 * vars.length) * (2 * vars.length) : Nat) : Int) := by rw [h1]; push_cast; rfl
        omega
      rw [len f, len h]
theorem vars_eq {a b : List Int} (hl : a.length = b.length) (h : ∀ j : Nat, j < a.length → rd a (j : Int) = rd b (j : Int)) : b = a := by
  refine List.ext_getElem hl.symm fun k h1 h2 => ?_
  have := h k h2
  unfold rd at this
  simp [List.getD_eq_getElem?_getD, h1, h2] at this
  exact this.symm
set_option maxHeartbeats 16000000 in
set_option maxRecDepth 100000 in
theorem threshUpper_walk (tA : Option Addr) (tc : Nat) (t : List Int) (X Y : OV) (lo hi more : Int) (w : World) (hT : Kd.C (Kd.int .i64) w tA t.length t) (hc : t.length ≤ tc) (hX : Oc w w X) (hY : Oc w w Y) (lt : t.length ≤ 17592186044416) (lx : X.v.length ≤ 17592186044416) (ly : Y.v.length ≤ 17592186044416) : Says 6 #[.slice tA t.length tc, X.val, Y.val, .agg #[.int .i64 lo, .int .i64 hi], .int .i64 more] w (.bool true) := by
  have hu25 := Try.underlying25
  have huI := Try.underlying37
  obtain ⟨b0, b1, b2⟩ := tfit_ex (A := tA) (c := tc) lt
  have B1 := Aside0.mk b1
  have B0 := Aside0.mk @b2
  have GT := Aside0.mk (And.intro hT hc)
  have HX := Aside0.mk hX
  have HY := Aside0.mk hY
  have LX := Aside0.mk lx
  have LY := Aside0.mk ly
  obtain ⟨eA, hA⟩ : ∃ b, ofitB X.v X.m X.e = b := ⟨_, rfl⟩
  obtain ⟨eB, hB⟩ : ∃ b, ofitB Y.v Y.m Y.e = b := ⟨_, rfl⟩
  have EA := Aside0.mk hA
  have EB := Aside0.mk hB
  clear hX hY b1 b2 lx ly lt hT hc hA hB
  go_enter Try.func6, Try.ntmps6
  go_upto_region 1 with fail
  have HS : Aside0 (OS w [] (((w.alloc X.cells).alloc Y.cells).alloc (.cells #[.int .i64 lo, .int .i64 hi] 37 (0, 0)))) := ⟨(OS.nil w).next (below_alloc (below_alloc (below_alloc (Below.refl _ _) _) _) _)⟩
  have HF : Aside0 (FX w [(w.heap.size, X.cells), (w.heap.size + 1, Y.cells), (w.heap.size + 1 + 1, .cells #[.int .i64 lo, .int .i64 hi] 37 (0, 0))] (((w.alloc X.cells).alloc Y.cells).alloc (.cells #[.int .i64 lo, .int .i64 hi] 37 (0, 0)))) := ⟨by
    refine ⟨fun f hf => ?_, by simp; omega⟩
    cases hf with
    | head => exact ⟨blk_alloc (blk_alloc (blk_new _ _) _) _, Nat.le_refl _⟩
    | tail _ hf =>
      cases hf with
      | head => exact ⟨blk_alloc (by have h := blk_new (w.alloc X.cells) Y.cells; simpa using h) _, Nat.le_succ _⟩
      | tail _ hf =>
        cases hf with
        | head => exact ⟨by have h := blk_new ((w.alloc X.cells).alloc Y.cells) (.cells #[.int .i64 lo, .int .i64 hi] 37 (0, 0)); simpa using h, by dsimp only; omega⟩
        | tail _ hf => cases hf⟩
  generalize hW2 : (((w.alloc X.cells).alloc Y.cells).alloc (.cells #[.int .i64 lo, .int .i64 hi] 37 (0, 0))) = W2 at HS HF ⊢
  generalize hgi : w.heap.size + 1 + 1 = gi at HF ⊢
  generalize hgb : w.heap.size + 1 = gb at HF ⊢
  generalize hga : w.heap.size = ga at HF ⊢
  clear hW2 hgb hga hgi
  obtain ⟨⟨ka0, ka1, ka2⟩, fa0, fa1, fa2⟩ := FX.oct HF m0_; obtain ⟨⟨kb0, kb1, kb2⟩, fb0, fb1, fb2⟩ := FX.oct HF m1_; obtain ⟨ki0, ki1, fi0, fi1⟩ := FX.two HF m2_
  cases b0 with
  | false =>
    go_wp2_with (first | (go_at_call 27; (with_reducible refine (B0.out GT.out.1 GT.out.2 (OS.bel HS)).mono ?_); rintro e wk ⟨rfl, hb⟩; have n_ := Aside0.mk ((OS.to HS).next hb); have f_ := Aside0.mk ((FX.to HF).next hb); clear HS HF; have HS := n_; have HF := f_; clear n_ f_ hb; clear ka0 ka1 ka2 fa0 fa1 fa2; obtain ⟨⟨ka0, ka1, ka2⟩, fa0, fa1, fa2⟩ := FX.oct HF m0_; clear kb0 kb1 kb2 fb0 fb1 fb2; obtain ⟨⟨kb0, kb1, kb2⟩, fb0, fb1, fb2⟩ := FX.oct HF m1_; clear ki0 ki1 fi0 fi1; obtain ⟨ki0, ki1, fi0, fi1⟩ := FX.two HF m2_) | (go_at_call 19; (with_reducible refine (rfit_at (Oc.at_ HX (OS.bel HS)) (OS.bel HS) LX.out EA.out).mono ?_); rintro e wk ⟨rfl, hb⟩; have n_ := Aside0.mk ((OS.to HS).next hb); have f_ := Aside0.mk ((FX.to HF).next hb); clear HS HF; have HS := n_; have HF := f_; clear n_ f_ hb; clear ka0 ka1 ka2 fa0 fa1 fa2; obtain ⟨⟨ka0, ka1, ka2⟩, fa0, fa1, fa2⟩ := FX.oct HF m0_; clear kb0 kb1 kb2 fb0 fb1 fb2; obtain ⟨⟨kb0, kb1, kb2⟩, fb0, fb1, fb2⟩ := FX.oct HF m1_; clear ki0 ki1 fi0 fi1; obtain ⟨ki0, ki1, fi0, fi1⟩ := FX.two HF m2_) | (go_at_call 19; (with_reducible refine (rfit_at (Oc.at_ HY (OS.bel HS)) (OS.bel HS) LY.out EB.out).mono ?_); rintro e wk ⟨rfl, hb⟩; have n_ := Aside0.mk ((OS.to HS).next hb); have f_ := Aside0.mk ((FX.to HF).next hb); clear HS HF; have HS := n_; have HF := f_; clear n_ f_ hb; clear ka0 ka1 ka2 fa0 fa1 fa2; obtain ⟨⟨ka0, ka1, ka2⟩, fa0, fa1, fa2⟩ := FX.oct HF m0_; clear kb0 kb1 kb2 fb0 fb1 fb2; obtain ⟨⟨kb0, kb1, kb2⟩, fb0, fb1, fb2⟩ := FX.oct HF m1_; clear ki0 ki1 fi0 fi1; obtain ⟨ki0, ki1, fi0, fi1⟩ := FX.two HF m2_) | (go_at_call 25; (with_reducible refine (awake13_o).mono ?_); rintro e wk ⟨rfl, hb⟩; have n_ := Aside0.mk ((OS.to HS).next hb); have f_ := Aside0.mk ((FX.to HF).next hb); clear HS HF; have HS := n_; have HF := f_; clear n_ f_ hb; clear ka0 ka1 ka2 fa0 fa1 fa2; obtain ⟨⟨ka0, ka1, ka2⟩, fa0, fa1, fa2⟩ := FX.oct HF m0_; clear kb0 kb1 kb2 fb0 fb1 fb2; obtain ⟨⟨kb0, kb1, kb2⟩, fb0, fb1, fb2⟩ := FX.oct HF m1_; clear ki0 ki1 fi0 fi1; obtain ⟨ki0, ki1, fi0, fi1⟩ := FX.two HF m2_))
    go_ret
    exact ⟨rfl, OS.bel HS⟩
  | true =>
  cases eA with
  | false =>
    go_wp2_with (first | (go_at_call 27; (with_reducible refine (B0.out GT.out.1 GT.out.2 (OS.bel HS)).mono ?_); rintro e wk ⟨rfl, hb⟩; have n_ := Aside0.mk ((OS.to HS).next hb); have f_ := Aside0.mk ((FX.to HF).next hb); clear HS HF; have HS := n_; have HF := f_; clear n_ f_ hb; clear ka0 ka1 ka2 fa0 fa1 fa2; obtain ⟨⟨ka0, ka1, ka2⟩, fa0, fa1, fa2⟩ := FX.oct HF m0_; clear kb0 kb1 kb2 fb0 fb1 fb2; obtain ⟨⟨kb0, kb1, kb2⟩, fb0, fb1, fb2⟩ := FX.oct HF m1_; clear ki0 ki1 fi0 fi1; obtain ⟨ki0, ki1, fi0, fi1⟩ := FX.two HF m2_) | (go_at_call 19; (with_reducible refine (rfit_at (Oc.at_ HX (OS.bel HS)) (OS.bel HS) LX.out EA.out).mono ?_); rintro e wk ⟨rfl, hb⟩; have n_ := Aside0.mk ((OS.to HS).next hb); have f_ := Aside0.mk ((FX.to HF).next hb); clear HS HF; have HS := n_; have HF := f_; clear n_ f_ hb; clear ka0 ka1 ka2 fa0 fa1 fa2; obtain ⟨⟨ka0, ka1, ka2⟩, fa0, fa1, fa2⟩ := FX.oct HF m0_; clear kb0 kb1 kb2 fb0 fb1 fb2; obtain ⟨⟨kb0, kb1, kb2⟩, fb0, fb1, fb2⟩ := FX.oct HF m1_; clear ki0 ki1 fi0 fi1; obtain ⟨ki0, ki1, fi0, fi1⟩ := FX.two HF m2_) | (go_at_call 19; (with_reducible refine (rfit_at (Oc.at_ HY (OS.bel HS)) (OS.bel HS) LY.out EB.out).mono ?_); rintro e wk ⟨rfl, hb⟩; have n_ := Aside0.mk ((OS.to HS).next hb); have f_ := Aside0.mk ((FX.to HF).next hb); clear HS HF; have HS := n_; have HF := f_; clear n_ f_ hb; clear ka0 ka1 ka2 fa0 fa1 fa2; obtain ⟨⟨ka0, ka1, ka2⟩, fa0, fa1, fa2⟩ := FX.oct HF m0_; clear kb0 kb1 kb2 fb0 fb1 fb2; obtain ⟨⟨kb0, kb1, kb2⟩, fb0, fb1, fb2⟩ := FX.oct HF m1_; clear ki0 ki1 fi0 fi1; obtain ⟨ki0, ki1, fi0, fi1⟩ := FX.two HF m2_) | (go_at_call 25; (with_reducible refine (awake13_o).mono ?_); rintro e wk ⟨rfl, hb⟩; have n_ := Aside0.mk ((OS.to HS).next hb); have f_ := Aside0.mk ((FX.to HF).next hb); clear HS HF; have HS := n_; have HF := f_; clear n_ f_ hb; clear ka0 ka1 ka2 fa0 fa1 fa2; obtain ⟨⟨ka0, ka1, ka2⟩, fa0, fa1, fa2⟩ := FX.oct HF m0_; clear kb0 kb1 kb2 fb0 fb1 fb2; obtain ⟨⟨kb0, kb1, kb2⟩, fb0, fb1, fb2⟩ := FX.oct HF m1_; clear ki0 ki1 fi0 fi1; obtain ⟨ki0, ki1, fi0, fi1⟩ := FX.two HF m2_))
    go_ret
    exact ⟨rfl, OS.bel HS⟩
  | true =>
  cases eB with
  | false =>
    go_wp2_with (first | (go_at_call 27; (with_reducible refine (B0.out GT.out.1 GT.out.2 (OS.bel HS)).mono ?_); rintro e wk ⟨rfl, hb⟩; have n_ := Aside0.mk ((OS.to HS).next hb); have f_ := Aside0.mk ((FX.to HF).next hb); clear HS HF; have HS := n_; have HF := f_; clear n_ f_ hb; clear ka0 ka1 ka2 fa0 fa1 fa2; obtain ⟨⟨ka0, ka1, ka2⟩, fa0, fa1, fa2⟩ := FX.oct HF m0_; clear kb0 kb1 kb2 fb0 fb1 fb2; obtain ⟨⟨kb0, kb1, kb2⟩, fb0, fb1, fb2⟩ := FX.oct HF m1_; clear ki0 ki1 fi0 fi1; obtain ⟨ki0, ki1, fi0, fi1⟩ := FX.two HF m2_) | (go_at_call 19; (with_reducible refine (rfit_at (Oc.at_ HX (OS.bel HS)) (OS.bel HS) LX.out EA.out).mono ?_); rintro e wk ⟨rfl, hb⟩; have n_ := Aside0.mk ((OS.to HS).next hb); have f_ := Aside0.mk ((FX.to HF).next hb); clear HS HF; have HS := n_; have HF := f_; clear n_ f_ hb; clear ka0 ka1 ka2 fa0 fa1 fa2; obtain ⟨⟨ka0, ka1, ka2⟩, fa0, fa1, fa2⟩ := FX.oct HF m0_; clear kb0 kb1 kb2 fb0 fb1 fb2; obtain ⟨⟨kb0, kb1, kb2⟩, fb0, fb1, fb2⟩ := FX.oct HF m1_; clear ki0 ki1 fi0 fi1; obtain ⟨ki0, ki1, fi0, fi1⟩ := FX.two HF m2_) | (go_at_call 19; (with_reducible refine (rfit_at (Oc.at_ HY (OS.bel HS)) (OS.bel HS) LY.out EB.out).mono ?_); rintro e wk ⟨rfl, hb⟩; have n_ := Aside0.mk ((OS.to HS).next hb); have f_ := Aside0.mk ((FX.to HF).next hb); clear HS HF; have HS := n_; have HF := f_; clear n_ f_ hb; clear ka0 ka1 ka2 fa0 fa1 fa2; obtain ⟨⟨ka0, ka1, ka2⟩, fa0, fa1, fa2⟩ := FX.oct HF m0_; clear kb0 kb1 kb2 fb0 fb1 fb2; obtain ⟨⟨kb0, kb1, kb2⟩, fb0, fb1, fb2⟩ := FX.oct HF m1_; clear ki0 ki1 fi0 fi1; obtain ⟨ki0, ki1, fi0, fi1⟩ := FX.two HF m2_) | (go_at_call 25; (with_reducible refine (awake13_o).mono ?_); rintro e wk ⟨rfl, hb⟩; have n_ := Aside0.mk ((OS.to HS).next hb); have f_ := Aside0.mk ((FX.to HF).next hb); clear HS HF; have HS := n_; have HF := f_; clear n_ f_ hb; clear ka0 ka1 ka2 fa0 fa1 fa2; obtain ⟨⟨ka0, ka1, ka2⟩, fa0, fa1, fa2⟩ := FX.oct HF m0_; clear kb0 kb1 kb2 fb0 fb1 fb2; obtain ⟨⟨kb0, kb1, kb2⟩, fb0, fb1, fb2⟩ := FX.oct HF m1_; clear ki0 ki1 fi0 fi1; obtain ⟨ki0, ki1, fi0, fi1⟩ := FX.two HF m2_))
    go_ret
    exact ⟨rfl, OS.bel HS⟩
  | true =>
  by_cases c1 : (X.v.length : Int) = (Y.v.length : Int)
  case neg =>
    have q1 : ((X.v.length : Int) != (Y.v.length : Int)) = true := bne_iff_ne.mpr c1
    go_wp2_with (first | (go_at_call 27; (with_reducible refine (B0.out GT.out.1 GT.out.2 (OS.bel HS)).mono ?_); rintro e wk ⟨rfl, hb⟩; have n_ := Aside0.mk ((OS.to HS).next hb); have f_ := Aside0.mk ((FX.to HF).next hb); clear HS HF; have HS := n_; have HF := f_; clear n_ f_ hb; clear ka0 ka1 ka2 fa0 fa1 fa2; obtain ⟨⟨ka0, ka1, ka2⟩, fa0, fa1, fa2⟩ := FX.oct HF m0_; clear kb0 kb1 kb2 fb0 fb1 fb2; obtain ⟨⟨kb0, kb1, kb2⟩, fb0, fb1, fb2⟩ := FX.oct HF m1_; clear ki0 ki1 fi0 fi1; obtain ⟨ki0, ki1, fi0, fi1⟩ := FX.two HF m2_) | (go_at_call 19; (with_reducible refine (rfit_at (Oc.at_ HX (OS.bel HS)) (OS.bel HS) LX.out EA.out).mono ?_); rintro e wk ⟨rfl, hb⟩; have n_ := Aside0.mk ((OS.to HS).next hb); have f_ := Aside0.mk ((FX.to HF).next hb); clear HS HF; have HS := n_; have HF := f_; clear n_ f_ hb; clear ka0 ka1 ka2 fa0 fa1 fa2; obtain ⟨⟨ka0, ka1, ka2⟩, fa0, fa1, fa2⟩ := FX.oct HF m0_; clear kb0 kb1 kb2 fb0 fb1 fb2; obtain ⟨⟨kb0, kb1, kb2⟩, fb0, fb1, fb2⟩ := FX.oct HF m1_; clear ki0 ki1 fi0 fi1; obtain ⟨ki0, ki1, fi0, fi1⟩ := FX.two HF m2_) | (go_at_call 19; (with_reducible refine (rfit_at (Oc.at_ HY (OS.bel HS)) (OS.bel HS) LY.out EB.out).mono ?_); rintro e wk ⟨rfl, hb⟩; have n_ := Aside0.mk ((OS.to HS).next hb); have f_ := Aside0.mk ((FX.to HF).next hb); clear HS HF; have HS := n_; have HF := f_; clear n_ f_ hb; clear ka0 ka1 ka2 fa0 fa1 fa2; obtain ⟨⟨ka0, ka1, ka2⟩, fa0, fa1, fa2⟩ := FX.oct HF m0_; clear kb0 kb1 kb2 fb0 fb1 fb2; obtain ⟨⟨kb0, kb1, kb2⟩, fb0, fb1, fb2⟩ := FX.oct HF m1_; clear ki0 ki1 fi0 fi1; obtain ⟨ki0, ki1, fi0, fi1⟩ := FX.two HF m2_) | (go_at_call 25; (with_reducible refine (awake13_o).mono ?_); rintro e wk ⟨rfl, hb⟩; have n_ := Aside0.mk ((OS.to HS).next hb); have f_ := Aside0.mk ((FX.to HF).next hb); clear HS HF; have HS := n_; have HF := f_; clear n_ f_ hb; clear ka0 ka1 ka2 fa0 fa1 fa2; obtain ⟨⟨ka0, ka1, ka2⟩, fa0, fa1, fa2⟩ := FX.oct HF m0_; clear kb0 kb1 kb2 fb0 fb1 fb2; obtain ⟨⟨kb0, kb1, kb2⟩, fb0, fb1, fb2⟩ := FX.oct HF m1_; clear ki0 ki1 fi0 fi1; obtain ⟨ki0, ki1, fi0, fi1⟩ := FX.two HF m2_))
    go_ret
    exact ⟨rfl, OS.bel HS⟩
  have q1 : ((X.v.length : Int) != (Y.v.length : Int)) = false := bne_eq_false_iff_eq.mpr c1
  by_cases c2 : hi < lo
  case pos =>
    have q2 : decide (hi < lo) = true := decide_eq_true c2
    go_wp2_with (first | (go_at_call 27; (with_reducible refine (B0.out GT.out.1 GT.out.2 (OS.bel HS)).mono ?_); rintro e wk ⟨rfl, hb⟩; have n_ := Aside0.mk ((OS.to HS).next hb); have f_ := Aside0.mk ((FX.to HF).next hb); clear HS HF; have HS := n_; have HF := f_; clear n_ f_ hb; clear ka0 ka1 ka2 fa0 fa1 fa2; obtain ⟨⟨ka0, ka1, ka2⟩, fa0, fa1, fa2⟩ := FX.oct HF m0_; clear kb0 kb1 kb2 fb0 fb1 fb2; obtain ⟨⟨kb0, kb1, kb2⟩, fb0, fb1, fb2⟩ := FX.oct HF m1_; clear ki0 ki1 fi0 fi1; obtain ⟨ki0, ki1, fi0, fi1⟩ := FX.two HF m2_) | (go_at_call 19; (with_reducible refine (rfit_at (Oc.at_ HX (OS.bel HS)) (OS.bel HS) LX.out EA.out).mono ?_); rintro e wk ⟨rfl, hb⟩; have n_ := Aside0.mk ((OS.to HS).next hb); have f_ := Aside0.mk ((FX.to HF).next hb); clear HS HF; have HS := n_; have HF := f_; clear n_ f_ hb; clear ka0 ka1 ka2 fa0 fa1 fa2; obtain ⟨⟨ka0, ka1, ka2⟩, fa0, fa1, fa2⟩ := FX.oct HF m0_; clear kb0 kb1 kb2 fb0 fb1 fb2; obtain ⟨⟨kb0, kb1, kb2⟩, fb0, fb1, fb2⟩ := FX.oct HF m1_; clear ki0 ki1 fi0 fi1; obtain ⟨ki0, ki1, fi0, fi1⟩ := FX.two HF m2_) | (go_at_call 19; (with_reducible refine (rfit_at (Oc.at_ HY (OS.bel HS)) (OS.bel HS) LY.out EB.out).mono ?_); rintro e wk ⟨rfl, hb⟩; have n_ := Aside0.mk ((OS.to HS).next hb); have f_ := Aside0.mk ((FX.to HF).next hb); clear HS HF; have HS := n_; have HF := f_; clear n_ f_ hb; clear ka0 ka1 ka2 fa0 fa1 fa2; obtain ⟨⟨ka0, ka1, ka2⟩, fa0, fa1, fa2⟩ := FX.oct HF m0_; clear kb0 kb1 kb2 fb0 fb1 fb2; obtain ⟨⟨kb0, kb1, kb2⟩, fb0, fb1, fb2⟩ := FX.oct HF m1_; clear ki0 ki1 fi0 fi1; obtain ⟨ki0, ki1, fi0, fi1⟩ := FX.two HF m2_) | (go_at_call 25; (with_reducible refine (awake13_o).mono ?_); rintro e wk ⟨rfl, hb⟩; have n_ := Aside0.mk ((OS.to HS).next hb); have f_ := Aside0.mk ((FX.to HF).next hb); clear HS HF; have HS := n_; have HF := f_; clear n_ f_ hb; clear ka0 ka1 ka2 fa0 fa1 fa2; obtain ⟨⟨ka0, ka1, ka2⟩, fa0, fa1, fa2⟩ := FX.oct HF m0_; clear kb0 kb1 kb2 fb0 fb1 fb2; obtain ⟨⟨kb0, kb1, kb2⟩, fb0, fb1, fb2⟩ := FX.oct HF m1_; clear ki0 ki1 fi0 fi1; obtain ⟨ki0, ki1, fi0, fi1⟩ := FX.two HF m2_))
    go_ret
    exact ⟨rfl, OS.bel HS⟩
  have q2 : decide (hi < lo) = false := decide_eq_false c2
  by_cases c3 : lo ≤ -4611686018427387904
  case pos =>
    have q3 : decide (lo ≤ -4611686018427387904) = true := decide_eq_true c3
    go_wp2_with (first | (go_at_call 27; (with_reducible refine (B0.out GT.out.1 GT.out.2 (OS.bel HS)).mono ?_); rintro e wk ⟨rfl, hb⟩; have n_ := Aside0.mk ((OS.to HS).next hb); have f_ := Aside0.mk ((FX.to HF).next hb); clear HS HF; have HS := n_; have HF := f_; clear n_ f_ hb; clear ka0 ka1 ka2 fa0 fa1 fa2; obtain ⟨⟨ka0, ka1, ka2⟩, fa0, fa1, fa2⟩ := FX.oct HF m0_; clear kb0 kb1 kb2 fb0 fb1 fb2; obtain ⟨⟨kb0, kb1, kb2⟩, fb0, fb1, fb2⟩ := FX.oct HF m1_; clear ki0 ki1 fi0 fi1; obtain ⟨ki0, ki1, fi0, fi1⟩ := FX.two HF m2_) | (go_at_call 19; (with_reducible refine (rfit_at (Oc.at_ HX (OS.bel HS)) (OS.bel HS) LX.out EA.out).mono ?_); rintro e wk ⟨rfl, hb⟩; have n_ := Aside0.mk ((OS.to HS).next hb); have f_ := Aside0.mk ((FX.to HF).next hb); clear HS HF; have HS := n_; have HF := f_; clear n_ f_ hb; clear ka0 ka1 ka2 fa0 fa1 fa2; obtain ⟨⟨ka0, ka1, ka2⟩, fa0, fa1, fa2⟩ := FX.oct HF m0_; clear kb0 kb1 kb2 fb0 fb1 fb2; obtain ⟨⟨kb0, kb1, kb2⟩, fb0, fb1, fb2⟩ := FX.oct HF m1_; clear ki0 ki1 fi0 fi1; obtain ⟨ki0, ki1, fi0, fi1⟩ := FX.two HF m2_) | (go_at_call 19; (with_reducible refine (rfit_at (Oc.at_ HY (OS.bel HS)) (OS.bel HS) LY.out EB.out).mono ?_); rintro e wk ⟨rfl, hb⟩; have n_ := Aside0.mk ((OS.to HS).next hb); have f_ := Aside0.mk ((FX.to HF).next hb); clear HS HF; have HS := n_; have HF := f_; clear n_ f_ hb; clear ka0 ka1 ka2 fa0 fa1 fa2; obtain ⟨⟨ka0, ka1, ka2⟩, fa0, fa1, fa2⟩ := FX.oct HF m0_; clear kb0 kb1 kb2 fb0 fb1 fb2; obtain ⟨⟨kb0, kb1, kb2⟩, fb0, fb1, fb2⟩ := FX.oct HF m1_; clear ki0 ki1 fi0 fi1; obtain ⟨ki0, ki1, fi0, fi1⟩ := FX.two HF m2_) | (go_at_call 25; (with_reducible refine (awake13_o).mono ?_); rintro e wk ⟨rfl, hb⟩; have n_ := Aside0.mk ((OS.to HS).next hb); have f_ := Aside0.mk ((FX.to HF).next hb); clear HS HF; have HS := n_; have HF := f_; clear n_ f_ hb; clear ka0 ka1 ka2 fa0 fa1 fa2; obtain ⟨⟨ka0, ka1, ka2⟩, fa0, fa1, fa2⟩ := FX.oct HF m0_; clear kb0 kb1 kb2 fb0 fb1 fb2; obtain ⟨⟨kb0, kb1, kb2⟩, fb0, fb1, fb2⟩ := FX.oct HF m1_; clear ki0 ki1 fi0 fi1; obtain ⟨ki0, ki1, fi0, fi1⟩ := FX.two HF m2_))
    go_ret
    exact ⟨rfl, OS.bel HS⟩
  have q3 : decide (lo ≤ -4611686018427387904) = false := decide_eq_false c3
  by_cases c4 : 4611686018427387904 ≤ hi
  case pos =>
    have q4 : decide (4611686018427387904 ≤ hi) = true := decide_eq_true c4
    go_wp2_with (first | (go_at_call 27; (with_reducible refine (B0.out GT.out.1 GT.out.2 (OS.bel HS)).mono ?_); rintro e wk ⟨rfl, hb⟩; have n_ := Aside0.mk ((OS.to HS).next hb); have f_ := Aside0.mk ((FX.to HF).next hb); clear HS HF; have HS := n_; have HF := f_; clear n_ f_ hb; clear ka0 ka1 ka2 fa0 fa1 fa2; obtain ⟨⟨ka0, ka1, ka2⟩, fa0, fa1, fa2⟩ := FX.oct HF m0_; clear kb0 kb1 kb2 fb0 fb1 fb2; obtain ⟨⟨kb0, kb1, kb2⟩, fb0, fb1, fb2⟩ := FX.oct HF m1_; clear ki0 ki1 fi0 fi1; obtain ⟨ki0, ki1, fi0, fi1⟩ := FX.two HF m2_) | (go_at_call 19; (with_reducible refine (rfit_at (Oc.at_ HX (OS.bel HS)) (OS.bel HS) LX.out EA.out).mono ?_); rintro e wk ⟨rfl, hb⟩; have n_ := Aside0.mk ((OS.to HS).next hb); have f_ := Aside0.mk ((FX.to HF).next hb); clear HS HF; have HS := n_; have HF := f_; clear n_ f_ hb; clear ka0 ka1 ka2 fa0 fa1 fa2; obtain ⟨⟨ka0, ka1, ka2⟩, fa0, fa1, fa2⟩ := FX.oct HF m0_; clear kb0 kb1 kb2 fb0 fb1 fb2; obtain ⟨⟨kb0, kb1, kb2⟩, fb0, fb1, fb2⟩ := FX.oct HF m1_; clear ki0 ki1 fi0 fi1; obtain ⟨ki0, ki1, fi0, fi1⟩ := FX.two HF m2_) | (go_at_call 19; (with_reducible refine (rfit_at (Oc.at_ HY (OS.bel HS)) (OS.bel HS) LY.out EB.out).mono ?_); rintro e wk ⟨rfl, hb⟩; have n_ := Aside0.mk ((OS.to HS).next hb); have f_ := Aside0.mk ((FX.to HF).next hb); clear HS HF; have HS := n_; have HF := f_; clear n_ f_ hb; clear ka0 ka1 ka2 fa0 fa1 fa2; obtain ⟨⟨ka0, ka1, ka2⟩, fa0, fa1, fa2⟩ := FX.oct HF m0_; clear kb0 kb1 kb2 fb0 fb1 fb2; obtain ⟨⟨kb0, kb1, kb2⟩, fb0, fb1, fb2⟩ := FX.oct HF m1_; clear ki0 ki1 fi0 fi1; obtain ⟨ki0, ki1, fi0, fi1⟩ := FX.two HF m2_) | (go_at_call 25; (with_reducible refine (awake13_o).mono ?_); rintro e wk ⟨rfl, hb⟩; have n_ := Aside0.mk ((OS.to HS).next hb); have f_ := Aside0.mk ((FX.to HF).next hb); clear HS HF; have HS := n_; have HF := f_; clear n_ f_ hb; clear ka0 ka1 ka2 fa0 fa1 fa2; obtain ⟨⟨ka0, ka1, ka2⟩, fa0, fa1, fa2⟩ := FX.oct HF m0_; clear kb0 kb1 kb2 fb0 fb1 fb2; obtain ⟨⟨kb0, kb1, kb2⟩, fb0, fb1, fb2⟩ := FX.oct HF m1_; clear ki0 ki1 fi0 fi1; obtain ⟨ki0, ki1, fi0, fi1⟩ := FX.two HF m2_))
    go_ret
    exact ⟨rfl, OS.bel HS⟩
  have q4 : decide (4611686018427387904 ≤ hi) = false := decide_eq_false c4
  have FT := Aside0.mk (B1.out rfl)
  have CI : Aside0 (lo ≤ hi ∧ -4611686018427387904 < lo ∧ hi < 4611686018427387904) := ⟨by omega⟩
  have CL : Aside0 (X.v.length = Y.v.length) := ⟨by omega⟩
  have fa := ofitB_true.1 EA.out
  have fb := ofitB_true.1 EB.out
  have L8 : Aside0 (X.v.length ≤ 8 ∧ Y.v.length ≤ 8) := ⟨⟨fa.1.1, fb.1.1⟩⟩
  have GA := Aside0.mk fa
  have GB := Aside0.mk fb
  clear fa fb c1 c2 c3 c4
  go_upto_region 3 with (first | (go_at_call 27; (with_reducible refine (B0.out GT.out.1 GT.out.2 (OS.bel HS)).mono ?_); rintro e wk ⟨rfl, hb⟩; have n_ := Aside0.mk ((OS.to HS).next hb); have f_ := Aside0.mk ((FX.to HF).next hb); clear HS HF; have HS := n_; have HF := f_; clear n_ f_ hb; clear ka0 ka1 ka2 fa0 fa1 fa2; obtain ⟨⟨ka0, ka1, ka2⟩, fa0, fa1, fa2⟩ := FX.oct HF m0_; clear kb0 kb1 kb2 fb0 fb1 fb2; obtain ⟨⟨kb0, kb1, kb2⟩, fb0, fb1, fb2⟩ := FX.oct HF m1_; clear ki0 ki1 fi0 fi1; obtain ⟨ki0, ki1, fi0, fi1⟩ := FX.two HF m2_) | (go_at_call 19; (with_reducible refine (rfit_at (Oc.at_ HX (OS.bel HS)) (OS.bel HS) LX.out EA.out).mono ?_); rintro e wk ⟨rfl, hb⟩; have n_ := Aside0.mk ((OS.to HS).next hb); have f_ := Aside0.mk ((FX.to HF).next hb); clear HS HF; have HS := n_; have HF := f_; clear n_ f_ hb; clear ka0 ka1 ka2 fa0 fa1 fa2; obtain ⟨⟨ka0, ka1, ka2⟩, fa0, fa1, fa2⟩ := FX.oct HF m0_; clear kb0 kb1 kb2 fb0 fb1 fb2; obtain ⟨⟨kb0, kb1, kb2⟩, fb0, fb1, fb2⟩ := FX.oct HF m1_; clear ki0 ki1 fi0 fi1; obtain ⟨ki0, ki1, fi0, fi1⟩ := FX.two HF m2_) | (go_at_call 19; (with_reducible refine (rfit_at (Oc.at_ HY (OS.bel HS)) (OS.bel HS) LY.out EB.out).mono ?_); rintro e wk ⟨rfl, hb⟩; have n_ := Aside0.mk ((OS.to HS).next hb); have f_ := Aside0.mk ((FX.to HF).next hb); clear HS HF; have HS := n_; have HF := f_; clear n_ f_ hb; clear ka0 ka1 ka2 fa0 fa1 fa2; obtain ⟨⟨ka0, ka1, ka2⟩, fa0, fa1, fa2⟩ := FX.oct HF m0_; clear kb0 kb1 kb2 fb0 fb1 fb2; obtain ⟨⟨kb0, kb1, kb2⟩, fb0, fb1, fb2⟩ := FX.oct HF m1_; clear ki0 ki1 fi0 fi1; obtain ⟨ki0, ki1, fi0, fi1⟩ := FX.two HF m2_) | (go_at_call 25; (with_reducible refine (awake13_o).mono ?_); rintro e wk ⟨rfl, hb⟩; have n_ := Aside0.mk ((OS.to HS).next hb); have f_ := Aside0.mk ((FX.to HF).next hb); clear HS HF; have HS := n_; have HF := f_; clear n_ f_ hb; clear ka0 ka1 ka2 fa0 fa1 fa2; obtain ⟨⟨ka0, ka1, ka2⟩, fa0, fa1, fa2⟩ := FX.oct HF m0_; clear kb0 kb1 kb2 fb0 fb1 fb2; obtain ⟨⟨kb0, kb1, kb2⟩, fb0, fb1, fb2⟩ := FX.oct HF m1_; clear ki0 ki1 fi0 fi1; obtain ⟨ki0, ki1, fi0, fi1⟩ := FX.two HF m2_))
  clear q1 q2 q3 q4
  go_wp2
  go_loopg [61] X.v.length (fun kq v61 w' => ∃ (i : Int), v61 = .int .i64 i ∧ Aside0 (0 ≤ i ∧ i + (kq : Int) = (X.v.length : Int)) ∧ Aside0 (∀ j : Nat, (j : Int) < i → rd X.v (j : Int) = rd Y.v (j : Int)) ∧ Aside0 (OS w [] w') ∧ Aside0 (FX w [(ga, X.cells), (gb, Y.cells), (gi, .cells #[.int .i64 lo, .int .i64 hi] 37 (0, 0))] w'))
  case atStart => exact ⟨0, by rfl, ⟨by omega⟩, ⟨fun j h => absurd h (by omega)⟩, ⟨OS.to HS⟩, ⟨FX.to HF⟩⟩
  case round =>
    clear HS HF ka0 ka1 ka2 fa0 fa1 fa2 kb0 kb1 kb2 fb0 fb1 fb2 ki0 ki1 fi0 fi1
    obtain ⟨i, rfl, HI, HJ, HS, HF⟩ := hrel
    obtain ⟨⟨ka0, ka1, ka2⟩, fa0, fa1, fa2⟩ := FX.oct HF m0_; obtain ⟨⟨kb0, kb1, kb2⟩, fb0, fb1, fb2⟩ := FX.oct HF m1_; obtain ⟨ki0, ki1, fi0, fi1⟩ := FX.two HF m2_
    cases gk with
    | succ k =>
      obtain ⟨XP, xp, XQ, xq, XV, XM, XE⟩ := X
      obtain ⟨YP, yp, YQ, yq, YV, YM, YE⟩ := Y
      dsimp only at HI HJ CL L8 ka0 ka1 ka2 kb0 kb1 kb2 ⊢
      have q1 : (decide (i < (XV.length : Int))) = true := decide_eq_true (by have := HI.out; omega)
      have p2 : 0 ≤ i := HI.out.1
      have q2 : i < (XV.length : Int) := by have := HI.out; omega
      have q3 : i < (YV.length : Int) := by have := HI.out; have := CL.out; omega
      obtain ⟨ad, ea, hx0⟩ := Kd.at_int ((HX.out.next HS.out.below).r0.reads HS.out.below) i p2 q2
      obtain ⟨bd, eb, hy0⟩ := Kd.at_int ((HY.out.next HS.out.below).r0.reads HS.out.below) i p2 q3
      cases ea
      cases eb
      replace p2 := eq_true p2
      replace q2 := eq_true q2
      replace q3 := eq_true q3
      by_cases d1 : rd XV i = rd YV i
      · have d1' : (rd XV i != rd YV i) = false := bne_eq_false_iff_eq.mpr d1
        have HD := Aside0.mk d1
        clear d1
        go_upto_region 6 with fail
        have n_ := Aside0.mk (HS.out.next (below_drew (Below.refl _ _))); have f_ := Aside0.mk (HF.out.next (below_drew (Below.refl _ _))); clear HS HF; have HS := n_; have HF := f_; clear n_ f_
        refine start_ (n := 11) (S := fun w' => w'.cell? ⟨ga, 0, none⟩ = some (.slice (some ad) XV.length xp) ∧ w'.cell? ⟨gb, 0, none⟩ = some (.slice (some bd) YV.length yp) ∧ w'.cell? (ad.add i.toNat) = some (.int .i64 (rd XV i)) ∧ w'.cell? (bd.add i.toNat) = some (.int .i64 (rd YV i))) (ds := []) (mB 11 0) (by kernel_rfl) rfl (by kernel_rfl) ⟨ka0, kb0, hx0, hy0⟩ (fun hHeld => ?_)
        refine with_tabW tu_tab6 tu_bits6 (fun HT_ HW_ => ?_)
        generalize hWd : World.drew _ = Wd at HS HF hHeld ⊢; clear hWd; clear ka0 ka1 ka2 fa0 fa1 fa2 kb0 kb1 kb2 fb0 fb1 fb2 ki0 ki1 fi0 fi1 hx0 hy0; obtain ⟨⟨ka0, ka1, ka2⟩, fa0, fa1, fa2⟩ := FX.oct HF m0_; obtain ⟨⟨kb0, kb1, kb2⟩, fb0, fb1, fb2⟩ := FX.oct HF m1_; obtain ⟨ki0, ki1, fi0, fi1⟩ := FX.two HF m2_
        refine pV_ 0 64 (mB 11 1) HT_ ?_
        refine tV_ 1 65 (mB 11 3) HT_ HW_ hHeld ?_
        refine pV_ 2 66 (mB 11 7) HT_ ?_
        refine pV_ 3 67 (mB 11 15) HT_ ?_
        refine tV_ 4 68 (mB 11 31) HT_ HW_ hHeld ?_
        refine pV_ 5 69 (mB 11 63) HT_ ?_
        refine tV_ 6 70 (mB 11 127) HT_ HW_ hHeld ?_
        refine pV_ 7 71 (mB 11 255) HT_ ?_
        refine pV_ 8 72 (mB 11 511) HT_ ?_
        refine tV_ 9 73 (mB 11 1023) HT_ HW_ hHeld ?_
        refine pV_ 10 74 (mB 11 2047) HT_ ?_
        refine done_ (done_of HT_.out (by kernel_rfl)) ?_
        clear HT_ HW_ hHeld
        try go_wp2
        go_roundg k
        case measure => exact Nat.lt_succ_self k
        case rel =>
          have hw : wrap64 (i + 1) = i + 1 := by have := HI.out; have := L8.out; unfold wrap64; omega
          exact ⟨wrap64 (i + 1), rfl, ⟨by rw [hw]; have := HI.out; omega⟩, ⟨by
            rw [hw]
            intro j hj
            by_cases e : (j : Int) = i
            · rw [e]; exact HD.out
            · exact HJ.out j (by omega)⟩, ⟨OS.to HS⟩, ⟨FX.to HF⟩⟩
      · have d1' : (rd XV i != rd YV i) = true := bne_iff_ne.mpr d1
        clear d1
        go_upto_region 6 with fail
        have n_ := Aside0.mk (HS.out.next (below_drew (Below.refl _ _))); have f_ := Aside0.mk (HF.out.next (below_drew (Below.refl _ _))); clear HS HF; have HS := n_; have HF := f_; clear n_ f_
        refine start_ (n := 11) (S := fun w' => w'.cell? ⟨ga, 0, none⟩ = some (.slice (some ad) XV.length xp) ∧ w'.cell? ⟨gb, 0, none⟩ = some (.slice (some bd) YV.length yp) ∧ w'.cell? (ad.add i.toNat) = some (.int .i64 (rd XV i)) ∧ w'.cell? (bd.add i.toNat) = some (.int .i64 (rd YV i))) (ds := []) (mB 11 0) (by kernel_rfl) rfl (by kernel_rfl) ⟨ka0, kb0, hx0, hy0⟩ (fun hHeld => ?_)
        refine with_tabW tu_tab6 tu_bits6 (fun HT_ HW_ => ?_)
        generalize hWd : World.drew _ = Wd at HS HF hHeld ⊢; clear hWd; clear ka0 ka1 ka2 fa0 fa1 fa2 kb0 kb1 kb2 fb0 fb1 fb2 ki0 ki1 fi0 fi1 hx0 hy0; obtain ⟨⟨ka0, ka1, ka2⟩, fa0, fa1, fa2⟩ := FX.oct HF m0_; obtain ⟨⟨kb0, kb1, kb2⟩, fb0, fb1, fb2⟩ := FX.oct HF m1_; obtain ⟨ki0, ki1, fi0, fi1⟩ := FX.two HF m2_
        refine pV_ 0 64 (mB 11 1) HT_ ?_
        refine tV_ 1 65 (mB 11 3) HT_ HW_ hHeld ?_
        refine pV_ 2 66 (mB 11 7) HT_ ?_
        refine pV_ 3 67 (mB 11 15) HT_ ?_
        refine tV_ 4 68 (mB 11 31) HT_ HW_ hHeld ?_
        refine pV_ 5 69 (mB 11 63) HT_ ?_
        refine tV_ 6 70 (mB 11 127) HT_ HW_ hHeld ?_
        refine pV_ 7 71 (mB 11 255) HT_ ?_
        refine pV_ 8 72 (mB 11 511) HT_ ?_
        refine tV_ 9 73 (mB 11 1023) HT_ HW_ hHeld ?_
        refine pV_ 10 74 (mB 11 2047) HT_ ?_
        refine done_ (done_of HT_.out (by kernel_rfl)) ?_
        clear HT_ HW_ hHeld
        go_wp2_with (first | (go_at_call 25; (with_reducible refine (awake13_o).mono ?_); rintro e wk ⟨rfl, hb⟩; have n_ := Aside0.mk ((OS.to HS).next hb); have f_ := Aside0.mk ((FX.to HF).next hb); clear HS HF; have HS := n_; have HF := f_; clear n_ f_ hb; clear ka0 ka1 ka2 fa0 fa1 fa2; obtain ⟨⟨ka0, ka1, ka2⟩, fa0, fa1, fa2⟩ := FX.oct HF m0_; clear kb0 kb1 kb2 fb0 fb1 fb2; obtain ⟨⟨kb0, kb1, kb2⟩, fb0, fb1, fb2⟩ := FX.oct HF m1_; clear ki0 ki1 fi0 fi1; obtain ⟨ki0, ki1, fi0, fi1⟩ := FX.two HF m2_))
        go_ret
        exact ⟨rfl, OS.bel HS⟩
    | zero =>
      have q1 : (decide (i < (X.v.length : Int))) = false := decide_eq_false (by have := HI.out; omega)
      have ev : Y.v = X.v := vars_eq CL.out (fun j hj => HJ.out j (by have := HI.out; omega))
      have GX : Aside0 (OkV X.v X) := ⟨⟨GA.out, rfl⟩⟩
      have GY : Aside0 (OkV X.v Y) := ⟨⟨GB.out, ev⟩⟩
      clear HI HJ ev CL L8 GA GB
      go_upto_region 10 with (first | (go_at_call 29; (with_reducible refine (rjoin_o (Oc.at_ HX (OS.bel HS)) (Oc.at_ HY (OS.bel HS)) (OS.bel HS) GX.out GY.out).mono ?_); rintro e wk ⟨cv, rfl, hcv, ho, hb⟩; have n_ := Aside0.mk ((OS.to HS).call hb ho); have f_ := Aside0.mk ((FX.to HF).next hb); clear HS HF; have HS := n_; have HF := f_; clear n_ f_ hb ho; clear ka0 ka1 ka2 fa0 fa1 fa2; obtain ⟨⟨ka0, ka1, ka2⟩, fa0, fa1, fa2⟩ := FX.oct HF m0_; clear kb0 kb1 kb2 fb0 fb1 fb2; obtain ⟨⟨kb0, kb1, kb2⟩, fb0, fb1, fb2⟩ := FX.oct HF m1_) | ((with_reducible refine gate_dst (N := 12) rfl ?_); refine box_event ?hg (N := 12) ?hd (cs := #[.slice none 0 0, .slice none 0 0, .bool false]) (t := 25) ?hr ?_; (case hd => rfl); (case hg => rfl); (case hr => first | (go_simp; done) | (go_simp; rfl)); intro gc hg wk hbox hb; have f_ := Aside0.mk ((FX.to HF).made (OS.bel HS).size hg hbox hb); have n_ := Aside0.mk ((OS.to HS).next hb); clear HS HF; have HS := n_; have HF := f_; clear n_ f_ hg hbox hb; obtain ⟨⟨p0, p1, p2⟩, p3, p4, p5⟩ := FX.oct HF m0_))
      clear ka0 ka1 ka2 fa0 fa1 fa2 kb0 kb1 kb2 fb0 fb1 fb2 ki0 ki1 fi0 fi1
      have f_ := Aside0.mk (HF.out.put3 (a' := .slice cv.P cv.v.length cv.p) (b' := .slice cv.Q cv.m.length cv.q) (c' := .bool cv.e))
      have n_ := Aside0.mk (OS.box3 (a' := .slice cv.P cv.v.length cv.p) (b' := .slice cv.Q cv.m.length cv.q) (c' := .bool cv.e) HS.out (HF.out.all _ m0_).1 (HF.out.all _ m0_).2 (by decide) (by decide))
      clear HS HF p0 p1 p2 p3 p4 p5
      have HS := n_
      have HF := f_
      clear n_ f_
      generalize hW : (((World.setCell _ ⟨gc, 0, none⟩ (.slice cv.P cv.v.length cv.p)).setCell ⟨gc, 1, none⟩ (.slice cv.Q cv.m.length cv.q)).setCell ⟨gc, 2, none⟩ (.bool cv.e)) = W9 at HS HF ⊢
      clear hW
      have JL := lattice_law GX.out.fit GY.out.fit GY.out.fit
      have GC := Aside0.mk (OkV.of hcv JL.1.1 JL.1.2)
      have ac := JL.2.2.1.1
      rw [← hcv] at ac
      have AC := Aside0.mk ac
      clear JL ac hcv
      have n_ := Aside0.mk (HS.out.next (below_drew (Below.refl _ _))); have f_ := Aside0.mk (HF.out.next (below_drew (Below.refl _ _))); clear HS HF; have HS := n_; have HF := f_; clear n_ f_
      refine startN_ (n := 10) (S := fun w' => w'.cell? ⟨ga, 0, none⟩ = some (.slice X.P X.v.length X.p) ∧ w'.cell? ⟨ga, 1, none⟩ = some (.slice X.Q X.m.length X.q) ∧ w'.cell? ⟨ga, 2, none⟩ = some (.bool X.e) ∧ w'.cell? ⟨gc, 0, none⟩ = some (.slice cv.P cv.v.length cv.p) ∧ w'.cell? ⟨gc, 1, none⟩ = some (.slice cv.Q cv.m.length cv.q) ∧ w'.cell? ⟨gc, 2, none⟩ = some (.bool cv.e)) (ds := [8, 9]) (mB 10 0) (by kernel_rfl) rfl (by kernel_rfl) ⟨(FX.oct HF m1_).1.1, (FX.oct HF m1_).1.2.1, (FX.oct HF m1_).1.2.2, (FX.oct HF m0_).1.1, (FX.oct HF m0_).1.2.1, (FX.oct HF m0_).1.2.2⟩ (fun hHeld => ?_)
      refine with_tabW tu_tab10 tu_bits10 (fun HT_ HW_ => ?_)
      generalize hWd : World.drew _ = Wd at HS HF hHeld ⊢; clear hWd
      refine pV_ 0 80 (mB 10 1) HT_ ?_
      refine tV_ 1 81 (mB 10 3) HT_ HW_ hHeld ?_
      refine pV_ 3 83 (mB 10 11) HT_ ?_
      refine tV_ 4 84 (mB 10 27) HT_ HW_ hHeld ?_
      refine join_ (σ := OV × OV × Nat × Nat) 2 (mB 10 255) (fun s_ => [(82, .agg #[.slice s_.1.P s_.1.v.length s_.1.p, .slice s_.1.Q s_.1.m.length s_.1.q, .bool s_.1.e]), (85, .agg #[.slice s_.2.1.P s_.2.1.v.length s_.2.1.p, .slice s_.2.1.Q s_.2.1.m.length s_.2.1.q, .bool s_.2.1.e]), (13, .pointer (some ⟨s_.2.2.1, 0, none⟩)), (14, .pointer (some ⟨s_.2.2.2, 0, none⟩))]) (fun s_ w' => (s_.1.o = thF t X.v X.m X.e) ∧ (s_.2.1.o = thF t X.v cv.m cv.e) ∧ OS w (s_.2.1 :: s_.1 :: [cv]) w' ∧ FX w ((s_.2.2.1, .cells #[.slice none 0 0, .slice none 0 0, .bool false] 25 (0, 0)) :: (s_.2.2.2, .cells #[.slice none 0 0, .slice none 0 0, .bool false] 25 (0, 0)) :: [(gc, cv.cells), (ga, X.cells), (gb, Y.cells), (gi, .cells #[.int .i64 lo, .int .i64 hi] 37 (0, 0))]) w') ?_ ?_
      rotate_left
      · intro hJ
        refine three_ (i := 2) (j := 6) (k := 7) (Ni := some 82) (Nj := some 13) (Nk := some 14) (mB 10 31) (mB 10 91) (mB 10 155) rfl rfl rfl rfl rfl rfl (three_of HT_.out (by kernel_rfl)) (by decide) (by decide) (by decide) (fun K hK => ?_) (fun K hK => ?_) (fun K hK => ?_)
        ·
         refine goes_ Try.func26 (by kernel_rfl) rfl #[.slice tA t.length tc, X.val] (by rfl) rfl rfl vL ?_
         with_reducible refine (th_own FT.out GT.out.1 GT.out.2 HS.out.below (HX.out.next HS.out.below) HS.out.below GX.out).mono ?_
         rintro e wk ⟨pv, rfl, hp, ho, hb⟩; refine ⟨_, rfl, ?_⟩
         have n_ := Aside0.mk (HS.out.call hb ho); have f_ := Aside0.mk (HF.out.next hb); clear HS HF; have HS := n_; have HF := f_; clear n_ f_ ho hb
         refine hK.out _ _ ⟨(FX.oct HF m1_).1.1, (FX.oct HF m1_).1.2.1, (FX.oct HF m1_).1.2.2, (FX.oct HF m0_).1.1, (FX.oct HF m0_).1.2.1, (FX.oct HF m0_).1.2.2⟩ (fun hHeld => ?_)
         clear hK K
         refine nO_ 82 ?_
         refine three_ (i := 5) (j := 6) (k := 7) (Ni := some 85) (Nj := some 13) (Nk := some 14) (mB 10 63) (mB 10 95) (mB 10 159) rfl rfl rfl rfl rfl rfl (three_of HT_.out (by kernel_rfl)) (by decide) (by decide) (by decide) (fun K hK => ?_) (fun K hK => ?_) (fun K hK => ?_)
         ·
          refine goes_ Try.func26 (by kernel_rfl) rfl #[.slice tA t.length tc, cv.val] (by rfl) rfl rfl vL ?_
          with_reducible refine (th_own FT.out GT.out.1 GT.out.2 HS.out.below (HS.out.own _ m1_).oc (Below.refl _ _) GC.out).mono ?_
          rintro e wk ⟨qv, rfl, hq, ho, hb⟩; refine ⟨_, rfl, ?_⟩
          have n_ := Aside0.mk (HS.out.call hb ho); have f_ := Aside0.mk (HF.out.next hb); clear HS HF; have HS := n_; have HF := f_; clear n_ f_ ho hb
          refine hK.out _ _ ⟨(FX.oct HF m1_).1.1, (FX.oct HF m1_).1.2.1, (FX.oct HF m1_).1.2.2, (FX.oct HF m0_).1.1, (FX.oct HF m0_).1.2.1, (FX.oct HF m0_).1.2.2⟩ (fun hHeld => ?_)
          clear hK K
          refine nO_ 85 ?_
          refine two_ (i := 6) (j := 7) (Ni := some 13) (Nj := some 14) (mB 10 127) (mB 10 191) rfl rfl rfl rfl (two_of HT_.out (by kernel_rfl)) (by decide) (by decide) (fun K hK => ?_) (fun K hK => ?_)
          ·
           refine box_step ?hg (N := 13) ?hd (cs := #[.slice none 0 0, .slice none 0 0, .bool false]) (t := 25) ?hr ?_; (case hd => rfl); (case hg => rfl); (case hr => first | (go_simp; done) | (go_simp; rfl))
           intro gp hg wk hbox hb
           have f_ := Aside0.mk (HF.out.made HS.out.below.size hg hbox hb); have n_ := Aside0.mk (HS.out.next hb); clear HS HF; have HS := n_; have HF := f_; clear n_ f_ hg hbox hb
           refine hK.out _ _ ⟨(FX.oct HF m2_).1.1, (FX.oct HF m2_).1.2.1, (FX.oct HF m2_).1.2.2, (FX.oct HF m1_).1.1, (FX.oct HF m1_).1.2.1, (FX.oct HF m1_).1.2.2⟩ (fun hHeld => ?_)
           clear hK K
           refine nO_ 13 ?_
           refine one_ (i := 7) (N := some 14) (mB 10 255) rfl rfl (one_of HT_.out (by kernel_rfl)) (by decide) (fun K hK => ?_)
           refine box_step ?hg (N := 14) ?hd (cs := #[.slice none 0 0, .slice none 0 0, .bool false]) (t := 25) ?hr ?_; (case hd => rfl); (case hg => rfl); (case hr => first | (go_simp; done) | (go_simp; rfl))
           intro gq hg wk hbox hb
           have f_ := Aside0.mk (HF.out.made HS.out.below.size hg hbox hb); have n_ := Aside0.mk (HS.out.next hb); clear HS HF; have HS := n_; have HF := f_; clear n_ f_ hg hbox hb
           refine hK.out _ _ ⟨(FX.oct HF m3_).1.1, (FX.oct HF m3_).1.2.1, (FX.oct HF m3_).1.2.2, (FX.oct HF m2_).1.1, (FX.oct HF m2_).1.2.1, (FX.oct HF m2_).1.2.2⟩ (fun hHeld => ?_)
           clear hK K
           refine nO_ 14 ?_
           exact nP_ (hJ (pv, qv, gp, gq) _ ⟨hp, hq, HS.out, HF.out.swap⟩)
          ·
           refine box_step ?hg (N := 14) ?hd (cs := #[.slice none 0 0, .slice none 0 0, .bool false]) (t := 25) ?hr ?_; (case hd => rfl); (case hg => rfl); (case hr => first | (go_simp; done) | (go_simp; rfl))
           intro gq hg wk hbox hb
           have f_ := Aside0.mk (HF.out.made HS.out.below.size hg hbox hb); have n_ := Aside0.mk (HS.out.next hb); clear HS HF; have HS := n_; have HF := f_; clear n_ f_ hg hbox hb
           refine hK.out _ _ ⟨(FX.oct HF m2_).1.1, (FX.oct HF m2_).1.2.1, (FX.oct HF m2_).1.2.2, (FX.oct HF m1_).1.1, (FX.oct HF m1_).1.2.1, (FX.oct HF m1_).1.2.2⟩ (fun hHeld => ?_)
           clear hK K
           refine nO_ 14 ?_
           refine one_ (i := 6) (N := some 13) (mB 10 255) rfl rfl (one_of HT_.out (by kernel_rfl)) (by decide) (fun K hK => ?_)
           refine box_step ?hg (N := 13) ?hd (cs := #[.slice none 0 0, .slice none 0 0, .bool false]) (t := 25) ?hr ?_; (case hd => rfl); (case hg => rfl); (case hr => first | (go_simp; done) | (go_simp; rfl))
           intro gp hg wk hbox hb
           have f_ := Aside0.mk (HF.out.made HS.out.below.size hg hbox hb); have n_ := Aside0.mk (HS.out.next hb); clear HS HF; have HS := n_; have HF := f_; clear n_ f_ hg hbox hb
           refine hK.out _ _ ⟨(FX.oct HF m3_).1.1, (FX.oct HF m3_).1.2.1, (FX.oct HF m3_).1.2.2, (FX.oct HF m2_).1.1, (FX.oct HF m2_).1.2.1, (FX.oct HF m2_).1.2.2⟩ (fun hHeld => ?_)
           clear hK K
           refine nO_ 13 ?_
           exact nP_ (hJ (pv, qv, gp, gq) _ ⟨hp, hq, HS.out, HF.out⟩)
         ·
          refine box_step ?hg (N := 13) ?hd (cs := #[.slice none 0 0, .slice none 0 0, .bool false]) (t := 25) ?hr ?_; (case hd => rfl); (case hg => rfl); (case hr => first | (go_simp; done) | (go_simp; rfl))
          intro gp hg wk hbox hb
          have f_ := Aside0.mk (HF.out.made HS.out.below.size hg hbox hb); have n_ := Aside0.mk (HS.out.next hb); clear HS HF; have HS := n_; have HF := f_; clear n_ f_ hg hbox hb
          refine hK.out _ _ ⟨(FX.oct HF m2_).1.1, (FX.oct HF m2_).1.2.1, (FX.oct HF m2_).1.2.2, (FX.oct HF m1_).1.1, (FX.oct HF m1_).1.2.1, (FX.oct HF m1_).1.2.2⟩ (fun hHeld => ?_)
          clear hK K
          refine nO_ 13 ?_
          refine two_ (i := 5) (j := 7) (Ni := some 85) (Nj := some 14) (mB 10 127) (mB 10 223) rfl rfl rfl rfl (two_of HT_.out (by kernel_rfl)) (by decide) (by decide) (fun K hK => ?_) (fun K hK => ?_)
          ·
           refine goes_ Try.func26 (by kernel_rfl) rfl #[.slice tA t.length tc, cv.val] (by rfl) rfl rfl vL ?_
           with_reducible refine (th_own FT.out GT.out.1 GT.out.2 HS.out.below (HS.out.own _ m1_).oc (Below.refl _ _) GC.out).mono ?_
           rintro e wk ⟨qv, rfl, hq, ho, hb⟩; refine ⟨_, rfl, ?_⟩
           have n_ := Aside0.mk (HS.out.call hb ho); have f_ := Aside0.mk (HF.out.next hb); clear HS HF; have HS := n_; have HF := f_; clear n_ f_ ho hb
           refine hK.out _ _ ⟨(FX.oct HF m2_).1.1, (FX.oct HF m2_).1.2.1, (FX.oct HF m2_).1.2.2, (FX.oct HF m1_).1.1, (FX.oct HF m1_).1.2.1, (FX.oct HF m1_).1.2.2⟩ (fun hHeld => ?_)
           clear hK K
           refine nO_ 85 ?_
           refine one_ (i := 7) (N := some 14) (mB 10 255) rfl rfl (one_of HT_.out (by kernel_rfl)) (by decide) (fun K hK => ?_)
           refine box_step ?hg (N := 14) ?hd (cs := #[.slice none 0 0, .slice none 0 0, .bool false]) (t := 25) ?hr ?_; (case hd => rfl); (case hg => rfl); (case hr => first | (go_simp; done) | (go_simp; rfl))
           intro gq hg wk hbox hb
           have f_ := Aside0.mk (HF.out.made HS.out.below.size hg hbox hb); have n_ := Aside0.mk (HS.out.next hb); clear HS HF; have HS := n_; have HF := f_; clear n_ f_ hg hbox hb
           refine hK.out _ _ ⟨(FX.oct HF m3_).1.1, (FX.oct HF m3_).1.2.1, (FX.oct HF m3_).1.2.2, (FX.oct HF m2_).1.1, (FX.oct HF m2_).1.2.1, (FX.oct HF m2_).1.2.2⟩ (fun hHeld => ?_)
           clear hK K
           refine nO_ 14 ?_
           exact nP_ (hJ (pv, qv, gp, gq) _ ⟨hp, hq, HS.out, HF.out.swap⟩)
          ·
           refine box_step ?hg (N := 14) ?hd (cs := #[.slice none 0 0, .slice none 0 0, .bool false]) (t := 25) ?hr ?_; (case hd => rfl); (case hg => rfl); (case hr => first | (go_simp; done) | (go_simp; rfl))
           intro gq hg wk hbox hb
           have f_ := Aside0.mk (HF.out.made HS.out.below.size hg hbox hb); have n_ := Aside0.mk (HS.out.next hb); clear HS HF; have HS := n_; have HF := f_; clear n_ f_ hg hbox hb
           refine hK.out _ _ ⟨(FX.oct HF m3_).1.1, (FX.oct HF m3_).1.2.1, (FX.oct HF m3_).1.2.2, (FX.oct HF m2_).1.1, (FX.oct HF m2_).1.2.1, (FX.oct HF m2_).1.2.2⟩ (fun hHeld => ?_)
           clear hK K
           refine nO_ 14 ?_
           refine one_ (i := 5) (N := some 85) (mB 10 255) rfl rfl (one_of HT_.out (by kernel_rfl)) (by decide) (fun K hK => ?_)
           refine goes_ Try.func26 (by kernel_rfl) rfl #[.slice tA t.length tc, cv.val] (by rfl) rfl rfl vL ?_
           with_reducible refine (th_own FT.out GT.out.1 GT.out.2 HS.out.below (HS.out.own _ m1_).oc (Below.refl _ _) GC.out).mono ?_
           rintro e wk ⟨qv, rfl, hq, ho, hb⟩; refine ⟨_, rfl, ?_⟩
           have n_ := Aside0.mk (HS.out.call hb ho); have f_ := Aside0.mk (HF.out.next hb); clear HS HF; have HS := n_; have HF := f_; clear n_ f_ ho hb
           refine hK.out _ _ ⟨(FX.oct HF m3_).1.1, (FX.oct HF m3_).1.2.1, (FX.oct HF m3_).1.2.2, (FX.oct HF m2_).1.1, (FX.oct HF m2_).1.2.1, (FX.oct HF m2_).1.2.2⟩ (fun hHeld => ?_)
           clear hK K
           refine nO_ 85 ?_
           exact nP_ (hJ (pv, qv, gp, gq) _ ⟨hp, hq, HS.out, HF.out.swap⟩)
         ·
          refine box_step ?hg (N := 14) ?hd (cs := #[.slice none 0 0, .slice none 0 0, .bool false]) (t := 25) ?hr ?_; (case hd => rfl); (case hg => rfl); (case hr => first | (go_simp; done) | (go_simp; rfl))
          intro gq hg wk hbox hb
          have f_ := Aside0.mk (HF.out.made HS.out.below.size hg hbox hb); have n_ := Aside0.mk (HS.out.next hb); clear HS HF; have HS := n_; have HF := f_; clear n_ f_ hg hbox hb
          refine hK.out _ _ ⟨(FX.oct HF m2_).1.1, (FX.oct HF m2_).1.2.1, (FX.oct HF m2_).1.2.2, (FX.oct HF m1_).1.1, (FX.oct HF m1_).1.2.1, (FX.oct HF m1_).1.2.2⟩ (fun hHeld => ?_)
          clear hK K
          refine nO_ 14 ?_
          refine two_ (i := 5) (j := 6) (Ni := some 85) (Nj := some 13) (mB 10 191) (mB 10 223) rfl rfl rfl rfl (two_of HT_.out (by kernel_rfl)) (by decide) (by decide) (fun K hK => ?_) (fun K hK => ?_)
          ·
           refine goes_ Try.func26 (by kernel_rfl) rfl #[.slice tA t.length tc, cv.val] (by rfl) rfl rfl vL ?_
           with_reducible refine (th_own FT.out GT.out.1 GT.out.2 HS.out.below (HS.out.own _ m1_).oc (Below.refl _ _) GC.out).mono ?_
           rintro e wk ⟨qv, rfl, hq, ho, hb⟩; refine ⟨_, rfl, ?_⟩
           have n_ := Aside0.mk (HS.out.call hb ho); have f_ := Aside0.mk (HF.out.next hb); clear HS HF; have HS := n_; have HF := f_; clear n_ f_ ho hb
           refine hK.out _ _ ⟨(FX.oct HF m2_).1.1, (FX.oct HF m2_).1.2.1, (FX.oct HF m2_).1.2.2, (FX.oct HF m1_).1.1, (FX.oct HF m1_).1.2.1, (FX.oct HF m1_).1.2.2⟩ (fun hHeld => ?_)
           clear hK K
           refine nO_ 85 ?_
           refine one_ (i := 6) (N := some 13) (mB 10 255) rfl rfl (one_of HT_.out (by kernel_rfl)) (by decide) (fun K hK => ?_)
           refine box_step ?hg (N := 13) ?hd (cs := #[.slice none 0 0, .slice none 0 0, .bool false]) (t := 25) ?hr ?_; (case hd => rfl); (case hg => rfl); (case hr => first | (go_simp; done) | (go_simp; rfl))
           intro gp hg wk hbox hb
           have f_ := Aside0.mk (HF.out.made HS.out.below.size hg hbox hb); have n_ := Aside0.mk (HS.out.next hb); clear HS HF; have HS := n_; have HF := f_; clear n_ f_ hg hbox hb
           refine hK.out _ _ ⟨(FX.oct HF m3_).1.1, (FX.oct HF m3_).1.2.1, (FX.oct HF m3_).1.2.2, (FX.oct HF m2_).1.1, (FX.oct HF m2_).1.2.1, (FX.oct HF m2_).1.2.2⟩ (fun hHeld => ?_)
           clear hK K
           refine nO_ 13 ?_
           exact nP_ (hJ (pv, qv, gp, gq) _ ⟨hp, hq, HS.out, HF.out⟩)
          ·
           refine box_step ?hg (N := 13) ?hd (cs := #[.slice none 0 0, .slice none 0 0, .bool false]) (t := 25) ?hr ?_; (case hd => rfl); (case hg => rfl); (case hr => first | (go_simp; done) | (go_simp; rfl))
           intro gp hg wk hbox hb
           have f_ := Aside0.mk (HF.out.made HS.out.below.size hg hbox hb); have n_ := Aside0.mk (HS.out.next hb); clear HS HF; have HS := n_; have HF := f_; clear n_ f_ hg hbox hb
           refine hK.out _ _ ⟨(FX.oct HF m3_).1.1, (FX.oct HF m3_).1.2.1, (FX.oct HF m3_).1.2.2, (FX.oct HF m2_).1.1, (FX.oct HF m2_).1.2.1, (FX.oct HF m2_).1.2.2⟩ (fun hHeld => ?_)
           clear hK K
           refine nO_ 13 ?_
           refine one_ (i := 5) (N := some 85) (mB 10 255) rfl rfl (one_of HT_.out (by kernel_rfl)) (by decide) (fun K hK => ?_)
           refine goes_ Try.func26 (by kernel_rfl) rfl #[.slice tA t.length tc, cv.val] (by rfl) rfl rfl vL ?_
           with_reducible refine (th_own FT.out GT.out.1 GT.out.2 HS.out.below (HS.out.own _ m1_).oc (Below.refl _ _) GC.out).mono ?_
           rintro e wk ⟨qv, rfl, hq, ho, hb⟩; refine ⟨_, rfl, ?_⟩
           have n_ := Aside0.mk (HS.out.call hb ho); have f_ := Aside0.mk (HF.out.next hb); clear HS HF; have HS := n_; have HF := f_; clear n_ f_ ho hb
           refine hK.out _ _ ⟨(FX.oct HF m3_).1.1, (FX.oct HF m3_).1.2.1, (FX.oct HF m3_).1.2.2, (FX.oct HF m2_).1.1, (FX.oct HF m2_).1.2.1, (FX.oct HF m2_).1.2.2⟩ (fun hHeld => ?_)
           clear hK K
           refine nO_ 85 ?_
           exact nP_ (hJ (pv, qv, gp, gq) _ ⟨hp, hq, HS.out, HF.out⟩)
        ·
         refine box_step ?hg (N := 13) ?hd (cs := #[.slice none 0 0, .slice none 0 0, .bool false]) (t := 25) ?hr ?_; (case hd => rfl); (case hg => rfl); (case hr => first | (go_simp; done) | (go_simp; rfl))
         intro gp hg wk hbox hb
         have f_ := Aside0.mk (HF.out.made HS.out.below.size hg hbox hb); have n_ := Aside0.mk (HS.out.next hb); clear HS HF; have HS := n_; have HF := f_; clear n_ f_ hg hbox hb
         refine hK.out _ _ ⟨(FX.oct HF m2_).1.1, (FX.oct HF m2_).1.2.1, (FX.oct HF m2_).1.2.2, (FX.oct HF m1_).1.1, (FX.oct HF m1_).1.2.1, (FX.oct HF m1_).1.2.2⟩ (fun hHeld => ?_)
         clear hK K
         refine nO_ 13 ?_
         refine two_ (i := 2) (j := 7) (Ni := some 82) (Nj := some 14) (mB 10 95) (mB 10 219) rfl rfl rfl rfl (two_of HT_.out (by kernel_rfl)) (by decide) (by decide) (fun K hK => ?_) (fun K hK => ?_)
         ·
          refine goes_ Try.func26 (by kernel_rfl) rfl #[.slice tA t.length tc, X.val] (by rfl) rfl rfl vL ?_
          with_reducible refine (th_own FT.out GT.out.1 GT.out.2 HS.out.below (HX.out.next HS.out.below) HS.out.below GX.out).mono ?_
          rintro e wk ⟨pv, rfl, hp, ho, hb⟩; refine ⟨_, rfl, ?_⟩
          have n_ := Aside0.mk (HS.out.call hb ho); have f_ := Aside0.mk (HF.out.next hb); clear HS HF; have HS := n_; have HF := f_; clear n_ f_ ho hb
          refine hK.out _ _ ⟨(FX.oct HF m2_).1.1, (FX.oct HF m2_).1.2.1, (FX.oct HF m2_).1.2.2, (FX.oct HF m1_).1.1, (FX.oct HF m1_).1.2.1, (FX.oct HF m1_).1.2.2⟩ (fun hHeld => ?_)
          clear hK K
          refine nO_ 82 ?_
          refine two_ (i := 5) (j := 7) (Ni := some 85) (Nj := some 14) (mB 10 127) (mB 10 223) rfl rfl rfl rfl (two_of HT_.out (by kernel_rfl)) (by decide) (by decide) (fun K hK => ?_) (fun K hK => ?_)
          ·
           refine goes_ Try.func26 (by kernel_rfl) rfl #[.slice tA t.length tc, cv.val] (by rfl) rfl rfl vL ?_
           with_reducible refine (th_own FT.out GT.out.1 GT.out.2 HS.out.below (HS.out.own _ m1_).oc (Below.refl _ _) GC.out).mono ?_
           rintro e wk ⟨qv, rfl, hq, ho, hb⟩; refine ⟨_, rfl, ?_⟩
           have n_ := Aside0.mk (HS.out.call hb ho); have f_ := Aside0.mk (HF.out.next hb); clear HS HF; have HS := n_; have HF := f_; clear n_ f_ ho hb
           refine hK.out _ _ ⟨(FX.oct HF m2_).1.1, (FX.oct HF m2_).1.2.1, (FX.oct HF m2_).1.2.2, (FX.oct HF m1_).1.1, (FX.oct HF m1_).1.2.1, (FX.oct HF m1_).1.2.2⟩ (fun hHeld => ?_)
           clear hK K
           refine nO_ 85 ?_
           refine one_ (i := 7) (N := some 14) (mB 10 255) rfl rfl (one_of HT_.out (by kernel_rfl)) (by decide) (fun K hK => ?_)
           refine box_step ?hg (N := 14) ?hd (cs := #[.slice none 0 0, .slice none 0 0, .bool false]) (t := 25) ?hr ?_; (case hd => rfl); (case hg => rfl); (case hr => first | (go_simp; done) | (go_simp; rfl))
           intro gq hg wk hbox hb
           have f_ := Aside0.mk (HF.out.made HS.out.below.size hg hbox hb); have n_ := Aside0.mk (HS.out.next hb); clear HS HF; have HS := n_; have HF := f_; clear n_ f_ hg hbox hb
           refine hK.out _ _ ⟨(FX.oct HF m3_).1.1, (FX.oct HF m3_).1.2.1, (FX.oct HF m3_).1.2.2, (FX.oct HF m2_).1.1, (FX.oct HF m2_).1.2.1, (FX.oct HF m2_).1.2.2⟩ (fun hHeld => ?_)
           clear hK K
           refine nO_ 14 ?_
           exact nP_ (hJ (pv, qv, gp, gq) _ ⟨hp, hq, HS.out, HF.out.swap⟩)
          ·
           refine box_step ?hg (N := 14) ?hd (cs := #[.slice none 0 0, .slice none 0 0, .bool false]) (t := 25) ?hr ?_; (case hd => rfl); (case hg => rfl); (case hr => first | (go_simp; done) | (go_simp; rfl))
           intro gq hg wk hbox hb
           have f_ := Aside0.mk (HF.out.made HS.out.below.size hg hbox hb); have n_ := Aside0.mk (HS.out.next hb); clear HS HF; have HS := n_; have HF := f_; clear n_ f_ hg hbox hb
           refine hK.out _ _ ⟨(FX.oct HF m3_).1.1, (FX.oct HF m3_).1.2.1, (FX.oct HF m3_).1.2.2, (FX.oct HF m2_).1.1, (FX.oct HF m2_).1.2.1, (FX.oct HF m2_).1.2.2⟩ (fun hHeld => ?_)
           clear hK K
           refine nO_ 14 ?_
           refine one_ (i := 5) (N := some 85) (mB 10 255) rfl rfl (one_of HT_.out (by kernel_rfl)) (by decide) (fun K hK => ?_)
           refine goes_ Try.func26 (by kernel_rfl) rfl #[.slice tA t.length tc, cv.val] (by rfl) rfl rfl vL ?_
           with_reducible refine (th_own FT.out GT.out.1 GT.out.2 HS.out.below (HS.out.own _ m1_).oc (Below.refl _ _) GC.out).mono ?_
           rintro e wk ⟨qv, rfl, hq, ho, hb⟩; refine ⟨_, rfl, ?_⟩
           have n_ := Aside0.mk (HS.out.call hb ho); have f_ := Aside0.mk (HF.out.next hb); clear HS HF; have HS := n_; have HF := f_; clear n_ f_ ho hb
           refine hK.out _ _ ⟨(FX.oct HF m3_).1.1, (FX.oct HF m3_).1.2.1, (FX.oct HF m3_).1.2.2, (FX.oct HF m2_).1.1, (FX.oct HF m2_).1.2.1, (FX.oct HF m2_).1.2.2⟩ (fun hHeld => ?_)
           clear hK K
           refine nO_ 85 ?_
           exact nP_ (hJ (pv, qv, gp, gq) _ ⟨hp, hq, HS.out, HF.out.swap⟩)
         ·
          refine box_step ?hg (N := 14) ?hd (cs := #[.slice none 0 0, .slice none 0 0, .bool false]) (t := 25) ?hr ?_; (case hd => rfl); (case hg => rfl); (case hr => first | (go_simp; done) | (go_simp; rfl))
          intro gq hg wk hbox hb
          have f_ := Aside0.mk (HF.out.made HS.out.below.size hg hbox hb); have n_ := Aside0.mk (HS.out.next hb); clear HS HF; have HS := n_; have HF := f_; clear n_ f_ hg hbox hb
          refine hK.out _ _ ⟨(FX.oct HF m3_).1.1, (FX.oct HF m3_).1.2.1, (FX.oct HF m3_).1.2.2, (FX.oct HF m2_).1.1, (FX.oct HF m2_).1.2.1, (FX.oct HF m2_).1.2.2⟩ (fun hHeld => ?_)
          clear hK K
          refine nO_ 14 ?_
          refine one_ (i := 2) (N := some 82) (mB 10 223) rfl rfl (one_of HT_.out (by kernel_rfl)) (by decide) (fun K hK => ?_)
          refine goes_ Try.func26 (by kernel_rfl) rfl #[.slice tA t.length tc, X.val] (by rfl) rfl rfl vL ?_
          with_reducible refine (th_own FT.out GT.out.1 GT.out.2 HS.out.below (HX.out.next HS.out.below) HS.out.below GX.out).mono ?_
          rintro e wk ⟨pv, rfl, hp, ho, hb⟩; refine ⟨_, rfl, ?_⟩
          have n_ := Aside0.mk (HS.out.call hb ho); have f_ := Aside0.mk (HF.out.next hb); clear HS HF; have HS := n_; have HF := f_; clear n_ f_ ho hb
          refine hK.out _ _ ⟨(FX.oct HF m3_).1.1, (FX.oct HF m3_).1.2.1, (FX.oct HF m3_).1.2.2, (FX.oct HF m2_).1.1, (FX.oct HF m2_).1.2.1, (FX.oct HF m2_).1.2.2⟩ (fun hHeld => ?_)
          clear hK K
          refine nO_ 82 ?_
          refine one_ (i := 5) (N := some 85) (mB 10 255) rfl rfl (one_of HT_.out (by kernel_rfl)) (by decide) (fun K hK => ?_)
          refine goes_ Try.func26 (by kernel_rfl) rfl #[.slice tA t.length tc, cv.val] (by rfl) rfl rfl vL ?_
          with_reducible refine (th_own FT.out GT.out.1 GT.out.2 HS.out.below (HS.out.own _ m1_).oc (Below.refl _ _) GC.out).mono ?_
          rintro e wk ⟨qv, rfl, hq, ho, hb⟩; refine ⟨_, rfl, ?_⟩
          have n_ := Aside0.mk (HS.out.call hb ho); have f_ := Aside0.mk (HF.out.next hb); clear HS HF; have HS := n_; have HF := f_; clear n_ f_ ho hb
          refine hK.out _ _ ⟨(FX.oct HF m3_).1.1, (FX.oct HF m3_).1.2.1, (FX.oct HF m3_).1.2.2, (FX.oct HF m2_).1.1, (FX.oct HF m2_).1.2.1, (FX.oct HF m2_).1.2.2⟩ (fun hHeld => ?_)
          clear hK K
          refine nO_ 85 ?_
          exact nP_ (hJ (pv, qv, gp, gq) _ ⟨hp, hq, HS.out, HF.out.swap⟩)
        ·
         refine box_step ?hg (N := 14) ?hd (cs := #[.slice none 0 0, .slice none 0 0, .bool false]) (t := 25) ?hr ?_; (case hd => rfl); (case hg => rfl); (case hr => first | (go_simp; done) | (go_simp; rfl))
         intro gq hg wk hbox hb
         have f_ := Aside0.mk (HF.out.made HS.out.below.size hg hbox hb); have n_ := Aside0.mk (HS.out.next hb); clear HS HF; have HS := n_; have HF := f_; clear n_ f_ hg hbox hb
         refine hK.out _ _ ⟨(FX.oct HF m2_).1.1, (FX.oct HF m2_).1.2.1, (FX.oct HF m2_).1.2.2, (FX.oct HF m1_).1.1, (FX.oct HF m1_).1.2.1, (FX.oct HF m1_).1.2.2⟩ (fun hHeld => ?_)
         clear hK K
         refine nO_ 14 ?_
         refine two_ (i := 2) (j := 6) (Ni := some 82) (Nj := some 13) (mB 10 159) (mB 10 219) rfl rfl rfl rfl (two_of HT_.out (by kernel_rfl)) (by decide) (by decide) (fun K hK => ?_) (fun K hK => ?_)
         ·
          refine goes_ Try.func26 (by kernel_rfl) rfl #[.slice tA t.length tc, X.val] (by rfl) rfl rfl vL ?_
          with_reducible refine (th_own FT.out GT.out.1 GT.out.2 HS.out.below (HX.out.next HS.out.below) HS.out.below GX.out).mono ?_
          rintro e wk ⟨pv, rfl, hp, ho, hb⟩; refine ⟨_, rfl, ?_⟩
          have n_ := Aside0.mk (HS.out.call hb ho); have f_ := Aside0.mk (HF.out.next hb); clear HS HF; have HS := n_; have HF := f_; clear n_ f_ ho hb
          refine hK.out _ _ ⟨(FX.oct HF m2_).1.1, (FX.oct HF m2_).1.2.1, (FX.oct HF m2_).1.2.2, (FX.oct HF m1_).1.1, (FX.oct HF m1_).1.2.1, (FX.oct HF m1_).1.2.2⟩ (fun hHeld => ?_)
          clear hK K
          refine nO_ 82 ?_
          refine two_ (i := 5) (j := 6) (Ni := some 85) (Nj := some 13) (mB 10 191) (mB 10 223) rfl rfl rfl rfl (two_of HT_.out (by kernel_rfl)) (by decide) (by decide) (fun K hK => ?_) (fun K hK => ?_)
          ·
           refine goes_ Try.func26 (by kernel_rfl) rfl #[.slice tA t.length tc, cv.val] (by rfl) rfl rfl vL ?_
           with_reducible refine (th_own FT.out GT.out.1 GT.out.2 HS.out.below (HS.out.own _ m1_).oc (Below.refl _ _) GC.out).mono ?_
           rintro e wk ⟨qv, rfl, hq, ho, hb⟩; refine ⟨_, rfl, ?_⟩
           have n_ := Aside0.mk (HS.out.call hb ho); have f_ := Aside0.mk (HF.out.next hb); clear HS HF; have HS := n_; have HF := f_; clear n_ f_ ho hb
           refine hK.out _ _ ⟨(FX.oct HF m2_).1.1, (FX.oct HF m2_).1.2.1, (FX.oct HF m2_).1.2.2, (FX.oct HF m1_).1.1, (FX.oct HF m1_).1.2.1, (FX.oct HF m1_).1.2.2⟩ (fun hHeld => ?_)
           clear hK K
           refine nO_ 85 ?_
           refine one_ (i := 6) (N := some 13) (mB 10 255) rfl rfl (one_of HT_.out (by kernel_rfl)) (by decide) (fun K hK => ?_)
           refine box_step ?hg (N := 13) ?hd (cs := #[.slice none 0 0, .slice none 0 0, .bool false]) (t := 25) ?hr ?_; (case hd => rfl); (case hg => rfl); (case hr => first | (go_simp; done) | (go_simp; rfl))
           intro gp hg wk hbox hb
           have f_ := Aside0.mk (HF.out.made HS.out.below.size hg hbox hb); have n_ := Aside0.mk (HS.out.next hb); clear HS HF; have HS := n_; have HF := f_; clear n_ f_ hg hbox hb
           refine hK.out _ _ ⟨(FX.oct HF m3_).1.1, (FX.oct HF m3_).1.2.1, (FX.oct HF m3_).1.2.2, (FX.oct HF m2_).1.1, (FX.oct HF m2_).1.2.1, (FX.oct HF m2_).1.2.2⟩ (fun hHeld => ?_)
           clear hK K
           refine nO_ 13 ?_
           exact nP_ (hJ (pv, qv, gp, gq) _ ⟨hp, hq, HS.out, HF.out⟩)
          ·
           refine box_step ?hg (N := 13) ?hd (cs := #[.slice none 0 0, .slice none 0 0, .bool false]) (t := 25) ?hr ?_; (case hd => rfl); (case hg => rfl); (case hr => first | (go_simp; done) | (go_simp; rfl))
           intro gp hg wk hbox hb
           have f_ := Aside0.mk (HF.out.made HS.out.below.size hg hbox hb); have n_ := Aside0.mk (HS.out.next hb); clear HS HF; have HS := n_; have HF := f_; clear n_ f_ hg hbox hb
           refine hK.out _ _ ⟨(FX.oct HF m3_).1.1, (FX.oct HF m3_).1.2.1, (FX.oct HF m3_).1.2.2, (FX.oct HF m2_).1.1, (FX.oct HF m2_).1.2.1, (FX.oct HF m2_).1.2.2⟩ (fun hHeld => ?_)
           clear hK K
           refine nO_ 13 ?_
           refine one_ (i := 5) (N := some 85) (mB 10 255) rfl rfl (one_of HT_.out (by kernel_rfl)) (by decide) (fun K hK => ?_)
           refine goes_ Try.func26 (by kernel_rfl) rfl #[.slice tA t.length tc, cv.val] (by rfl) rfl rfl vL ?_
           with_reducible refine (th_own FT.out GT.out.1 GT.out.2 HS.out.below (HS.out.own _ m1_).oc (Below.refl _ _) GC.out).mono ?_
           rintro e wk ⟨qv, rfl, hq, ho, hb⟩; refine ⟨_, rfl, ?_⟩
           have n_ := Aside0.mk (HS.out.call hb ho); have f_ := Aside0.mk (HF.out.next hb); clear HS HF; have HS := n_; have HF := f_; clear n_ f_ ho hb
           refine hK.out _ _ ⟨(FX.oct HF m3_).1.1, (FX.oct HF m3_).1.2.1, (FX.oct HF m3_).1.2.2, (FX.oct HF m2_).1.1, (FX.oct HF m2_).1.2.1, (FX.oct HF m2_).1.2.2⟩ (fun hHeld => ?_)
           clear hK K
           refine nO_ 85 ?_
           exact nP_ (hJ (pv, qv, gp, gq) _ ⟨hp, hq, HS.out, HF.out⟩)
         ·
          refine box_step ?hg (N := 13) ?hd (cs := #[.slice none 0 0, .slice none 0 0, .bool false]) (t := 25) ?hr ?_; (case hd => rfl); (case hg => rfl); (case hr => first | (go_simp; done) | (go_simp; rfl))
          intro gp hg wk hbox hb
          have f_ := Aside0.mk (HF.out.made HS.out.below.size hg hbox hb); have n_ := Aside0.mk (HS.out.next hb); clear HS HF; have HS := n_; have HF := f_; clear n_ f_ hg hbox hb
          refine hK.out _ _ ⟨(FX.oct HF m3_).1.1, (FX.oct HF m3_).1.2.1, (FX.oct HF m3_).1.2.2, (FX.oct HF m2_).1.1, (FX.oct HF m2_).1.2.1, (FX.oct HF m2_).1.2.2⟩ (fun hHeld => ?_)
          clear hK K
          refine nO_ 13 ?_
          refine one_ (i := 2) (N := some 82) (mB 10 223) rfl rfl (one_of HT_.out (by kernel_rfl)) (by decide) (fun K hK => ?_)
          refine goes_ Try.func26 (by kernel_rfl) rfl #[.slice tA t.length tc, X.val] (by rfl) rfl rfl vL ?_
          with_reducible refine (th_own FT.out GT.out.1 GT.out.2 HS.out.below (HX.out.next HS.out.below) HS.out.below GX.out).mono ?_
          rintro e wk ⟨pv, rfl, hp, ho, hb⟩; refine ⟨_, rfl, ?_⟩
          have n_ := Aside0.mk (HS.out.call hb ho); have f_ := Aside0.mk (HF.out.next hb); clear HS HF; have HS := n_; have HF := f_; clear n_ f_ ho hb
          refine hK.out _ _ ⟨(FX.oct HF m3_).1.1, (FX.oct HF m3_).1.2.1, (FX.oct HF m3_).1.2.2, (FX.oct HF m2_).1.1, (FX.oct HF m2_).1.2.1, (FX.oct HF m2_).1.2.2⟩ (fun hHeld => ?_)
          clear hK K
          refine nO_ 82 ?_
          refine one_ (i := 5) (N := some 85) (mB 10 255) rfl rfl (one_of HT_.out (by kernel_rfl)) (by decide) (fun K hK => ?_)
          refine goes_ Try.func26 (by kernel_rfl) rfl #[.slice tA t.length tc, cv.val] (by rfl) rfl rfl vL ?_
          with_reducible refine (th_own FT.out GT.out.1 GT.out.2 HS.out.below (HS.out.own _ m1_).oc (Below.refl _ _) GC.out).mono ?_
          rintro e wk ⟨qv, rfl, hq, ho, hb⟩; refine ⟨_, rfl, ?_⟩
          have n_ := Aside0.mk (HS.out.call hb ho); have f_ := Aside0.mk (HF.out.next hb); clear HS HF; have HS := n_; have HF := f_; clear n_ f_ ho hb
          refine hK.out _ _ ⟨(FX.oct HF m3_).1.1, (FX.oct HF m3_).1.2.1, (FX.oct HF m3_).1.2.2, (FX.oct HF m2_).1.1, (FX.oct HF m2_).1.2.1, (FX.oct HF m2_).1.2.2⟩ (fun hHeld => ?_)
          clear hK K
          refine nO_ 85 ?_
          exact nP_ (hJ (pv, qv, gp, gq) _ ⟨hp, hq, HS.out, HF.out⟩)
      rintro ⟨pv, qv, gp, gq⟩ W4 ⟨hp, hq, HS4, HF4⟩
      clear HS HF hHeld
      have HS := Aside0.mk HS4; have HF := Aside0.mk HF4
      have kne := FX.nes HF4; have kne' := fun e => kne (Eq.symm e)
      clear HS4 HF4
      dsimp only at HS HF hp hq kne kne'
      obtain ⟨⟨p0, p1, p2⟩, p3, p4, p5⟩ := FX.oct HF m0_; obtain ⟨⟨q0, q1, q2⟩, q3, q4, q5⟩ := FX.oct HF m1_
      refine nS_ ?_
      refine last_ (i := 8) (N := none) (mB 10 511) rfl rfl (one_of HT_.out (by kernel_rfl)) (by decide) (fun K hK => ?_)
      refine skip_ (w1 := ?_) (by rfl) rfl ?_ ?_
      rotate_left
      · go_simp
        rfl
      refine hK.out _ _ ?_
      clear hK K
      refine last_ (i := 9) (N := none) (mB 10 1023) rfl rfl (one_of HT_.out (by kernel_rfl)) (by decide) (fun K hK => ?_)
      refine skip_ (w1 := ?_) (by rfl) rfl ?_ ?_
      rotate_left
      · go_simp
        rfl
      refine hK.out _ _ ?_
      clear hK K
      refine done_ (done_of HT_.out (by kernel_rfl)) ?_
      clear p0 p1 p2 p3 p4 p5 q0 q1 q2 q3 q4 q5 kne kne' HT_ HW_
      unfold OnlyN
      have f1_ := HF.out.put3 (a' := .slice pv.P pv.v.length pv.p) (b' := .slice pv.Q pv.m.length pv.q) (c' := .bool pv.e); have s1_ := OS.box3 (a' := .slice pv.P pv.v.length pv.p) (b' := .slice pv.Q pv.m.length pv.q) (c' := .bool pv.e) HS.out (HF.out.all _ m0_).1 (HF.out.all _ m0_).2 (by decide) (by decide); have f2_ := f1_.swap; have f3_ := Aside0.mk (f2_.put3 (a' := .slice qv.P qv.v.length qv.p) (b' := .slice qv.Q qv.m.length qv.q) (c' := .bool qv.e)); have s3_ := Aside0.mk (OS.box3 (a' := .slice qv.P qv.v.length qv.p) (b' := .slice qv.Q qv.m.length qv.q) (c' := .bool qv.e) s1_ (f2_.all _ m0_).1 (f2_.all _ m0_).2 (by decide) (by decide)); clear HS HF f1_ f2_ s1_; have HS := s3_; have HF := f3_; clear s3_ f3_
      generalize hW5 : ((((((W4.setCell ⟨gp, 0, none⟩ (.slice pv.P pv.v.length pv.p)).setCell ⟨gp, 1, none⟩ (.slice pv.Q pv.m.length pv.q)).setCell ⟨gp, 2, none⟩ (.bool pv.e)).setCell ⟨gq, 0, none⟩ (.slice qv.P qv.v.length qv.p)).setCell ⟨gq, 1, none⟩ (.slice qv.Q qv.m.length qv.q)).setCell ⟨gq, 2, none⟩ (.bool qv.e)) = W5 at HS HF ⊢; clear hW5
      obtain ⟨mA, hmA⟩ := mean_ex GX.out.fit
      obtain ⟨mC, hmC⟩ := mean_ex GC.out.fit
      have tp := th_mean FT.out GX.out.fit hmA
      have tq := th_mean FT.out GC.out.fit hmC
      have GP := Aside0.mk (OkV.of hp tp.1 tp.2.1)
      have GQ := Aside0.mk (OkV.of hq tq.1 tq.2.1)
      have lq := th_leq FT.out GX.out.fit GC.out.fit AC.out
      rw [← hp, ← hq] at lq
      have L1 := Aside0.mk lq.1
      have L2 := Aside0.mk lq.2
      have tt := th_th FT.out GX.out.fit
      rw [← hp] at tt
      have EP : Aside0 (thF t X.v pv.m pv.e = pv.o) := ⟨tt⟩
      have LZ : Aside0 (∀ z : OV, z.o = pv.o → z.v.length < 4611686018427387904 ∧ z.m.length < 4611686018427387904) := ⟨fun z hz => by
        have := fit_lens (OkV.same GP.out hz).1; omega⟩
      have lp := th_len FT.out GX.out.fit
      have lq := th_len FT.out GC.out.fit
      rw [← hp] at lp
      rw [← hq] at lq
      dsimp only at lp lq
      clear hp hq tp tq tt hmA hmC mA mC
      obtain ⟨yh, hyh⟩ : ∃ y : Int, (if 4611686018427387903 < wrap64 (hi + if 0 < more.tmod 1000 then more.tmod 1000 else 0) then 4611686018427387903 else wrap64 (hi + if 0 < more.tmod 1000 then more.tmod 1000 else 0)) = y := ⟨_, rfl⟩
      have YB : hi ≤ yh ∧ yh < 4611686018427387904 := by
        have hci := CI.out
        have hm : more.tmod 1000 ≤ 1000 := by
          have := Int.tmod_lt_of_pos more (show (0 : Int) < 1000 by decide)
          omega
        rw [← hyh]
        generalize more.tmod 1000 = z at hm ⊢
        have hw : wrap64 (hi + if 0 < z then z else 0) = hi + if 0 < z then z else 0 := by unfold wrap64; split <;> omega
        rw [hw]
        split <;> split <;> omega
      have YH := Aside0.mk hyh
      clear hyh
      have ci := CI.out
      have II : Aside0 (lo ≤ hi ∧ -4611686018427387904 ≤ lo ∧ hi ≤ 4611686018427387904 ∧ lo < 4611686018427387904 ∧ -4611686018427387904 < hi) := ⟨by omega⟩
      have IY : Aside0 (lo ≤ yh ∧ -4611686018427387904 ≤ lo ∧ yh ≤ 4611686018427387904 ∧ lo < 4611686018427387904 ∧ -4611686018427387904 < yh) := ⟨by omega⟩
      have g1 := dn_le FT.out (x := lo) (by omega) (by omega)
      have g2 := up_ge FT.out (x := hi) (by omega) (by omega)
      have g3 := dn_range FT.out lo
      have g4 := up_range FT.out hi
      have g5 := up_mono FT.out YB.1
      have D1 : Aside0 (decide (dnT t lo ≤ lo) = true) := ⟨decide_eq_true g1⟩
      have D2 : Aside0 (decide (hi ≤ upT t hi) = true) := ⟨decide_eq_true g2⟩
      have D3 : Aside0 (decide (upT t hi ≤ upT t yh) = true) := ⟨decide_eq_true g5⟩
      have IZ : Aside0 (∀ {W : World}, Below w.heap.size w W → Says 31 #[.slice tA t.length tc, .agg #[.int .i64 (dnT t lo), .int .i64 (upT t hi)]] W (.agg #[.int .i64 (dnT t lo), .int .i64 (upT t hi)])) := ⟨fun {W} hb => by
        have h := itv_o FT.out GT.out.1 GT.out.2 hb (lo := dnT t lo) (hi := upT t hi) (by omega) (by omega) (by omega) (by omega) (by omega)
        rw [dn_dn FT.out, up_up FT.out] at h
        exact h⟩
      clear ci YB g1 g2 g3 g4 g5
      go_upto_region 11 with fail
      by_cases cp : (pv.m.length : Int) = (X.m.length : Int)
      · have q6 : ((pv.m.length : Int) != (X.m.length : Int)) = false := bne_eq_false_iff_eq.mpr cp
        clear cp lp
        by_cases cq : (qv.m.length : Int) = (cv.m.length : Int)
        · have q19 : ((qv.m.length : Int) != (cv.m.length : Int)) = false := bne_eq_false_iff_eq.mpr cq
          clear cq lq
          have n_ := Aside0.mk (HS.out.next (below_drew (Below.refl _ _))); have f_ := Aside0.mk (HF.out.next (below_drew (Below.refl _ _))); clear HS HF; have HS := n_; have HF := f_; clear n_ f_
          refine start_ (n := 56) (S := fun w' => w'.cell? ⟨gq, 0, none⟩ = some (.slice qv.P qv.v.length qv.p) ∧ w'.cell? ⟨gq, 1, none⟩ = some (.slice qv.Q qv.m.length qv.q) ∧ w'.cell? ⟨gq, 2, none⟩ = some (.bool qv.e) ∧ w'.cell? ⟨gp, 0, none⟩ = some (.slice pv.P pv.v.length pv.p) ∧ w'.cell? ⟨gp, 1, none⟩ = some (.slice pv.Q pv.m.length pv.q) ∧ w'.cell? ⟨gp, 2, none⟩ = some (.bool pv.e) ∧ w'.cell? ⟨gc, 0, none⟩ = some (.slice cv.P cv.v.length cv.p) ∧ w'.cell? ⟨gc, 1, none⟩ = some (.slice cv.Q cv.m.length cv.q) ∧ w'.cell? ⟨gc, 2, none⟩ = some (.bool cv.e) ∧ w'.cell? ⟨ga, 0, none⟩ = some (.slice X.P X.v.length X.p) ∧ w'.cell? ⟨ga, 1, none⟩ = some (.slice X.Q X.m.length X.q) ∧ w'.cell? ⟨ga, 2, none⟩ = some (.bool X.e)) (ds := []) (mB 56 0) (by kernel_rfl) rfl (by kernel_rfl) ⟨(FX.oct HF m0_).1.1, (FX.oct HF m0_).1.2.1, (FX.oct HF m0_).1.2.2, (FX.oct HF m1_).1.1, (FX.oct HF m1_).1.2.1, (FX.oct HF m1_).1.2.2, (FX.oct HF m2_).1.1, (FX.oct HF m2_).1.2.1, (FX.oct HF m2_).1.2.2, (FX.oct HF m3_).1.1, (FX.oct HF m3_).1.2.1, (FX.oct HF m3_).1.2.2⟩ (fun hHeld => ?_)
          refine with_tabW tu_tab11 tu_bits11 (fun HT_ HW_ => ?_)
          generalize hWd : World.drew _ = Wd at HS HF hHeld ⊢; clear hWd
          refine pV_ 0 86 (mB 56 1) HT_ ?_
          refine tV_ 1 87 (mB 56 3) HT_ HW_ hHeld ?_
          refine pV_ 2 88 (mB 56 7) HT_ ?_
          refine pV_ 3 89 (mB 56 15) HT_ ?_
          refine tV_ 4 90 (mB 56 31) HT_ HW_ hHeld ?_
          refine pV_ 5 91 (mB 56 63) HT_ ?_
          refine pV_ 6 92 (mB 56 127) HT_ ?_
          refine pV_ 7 93 (mB 56 255) HT_ ?_
          refine pU_ 8 94 (mB 56 511) HT_ ?_
          refine pU_ 9 95 (mB 56 1023) HT_ ?_
          refine pU_ 10 96 (mB 56 2047) HT_ ?_
          refine pV_ 11 97 (mB 56 4095) HT_ ?_
          refine pV_ 12 98 (mB 56 8191) HT_ ?_
          refine pV_ 13 99 (mB 56 16383) HT_ ?_
          refine tV_ 14 100 (mB 56 32767) HT_ HW_ hHeld ?_
          refine pV_ 15 101 (mB 56 65535) HT_ ?_
          refine pV_ 16 102 (mB 56 131071) HT_ ?_
          refine tV_ 17 103 (mB 56 262143) HT_ HW_ hHeld ?_
          refine pV_ 18 104 (mB 56 524287) HT_ ?_
          refine pV_ 19 105 (mB 56 1048575) HT_ ?_
          refine pV_ 20 106 (mB 56 2097151) HT_ ?_
          refine pU_ 21 107 (mB 56 4194303) HT_ ?_
          refine pU_ 22 108 (mB 56 8388607) HT_ ?_
          refine pU_ 23 109 (mB 56 16777215) HT_ ?_
          refine pV_ 24 110 (mB 56 33554431) HT_ ?_
          refine pV_ 25 111 (mB 56 67108863) HT_ ?_
          refine pV_ 26 112 (mB 56 134217727) HT_ ?_
          refine tV_ 27 113 (mB 56 268435455) HT_ HW_ hHeld ?_
          refine one_ (i := 28) (N := some 114) (mB 56 536870911) rfl rfl (one_of HT_.out (by kernel_rfl)) (by decide) (fun K hK => ?_)
          refine goes_ Try.func19 (by kernel_rfl) rfl #[pv.val] (by rfl) rfl rfl vL ?_
          with_reducible refine (rfit_true (HS.out.own _ m1_).oc (Below.refl _ _) GP.out).mono ?_
          rintro e wk ⟨rfl, hb⟩; refine ⟨_, rfl, ?_⟩
          have n_ := Aside0.mk (HS.out.next hb); have f_ := Aside0.mk (HF.out.next hb); clear HS HF; have HS := n_; have HF := f_; clear n_ f_ hb
          refine hK.out _ _ ⟨(FX.oct HF m0_).1.1, (FX.oct HF m0_).1.2.1, (FX.oct HF m0_).1.2.2, (FX.oct HF m1_).1.1, (FX.oct HF m1_).1.2.1, (FX.oct HF m1_).1.2.2, (FX.oct HF m2_).1.1, (FX.oct HF m2_).1.2.1, (FX.oct HF m2_).1.2.2, (FX.oct HF m3_).1.1, (FX.oct HF m3_).1.2.1, (FX.oct HF m3_).1.2.2⟩ (fun hHeld => ?_)
          clear hK K
          refine nO_ 114 ?_
          refine pV_ 29 115 (mB 56 1073741823) HT_ ?_
          refine pV_ 30 116 (mB 56 2147483647) HT_ ?_
          refine pV_ 31 117 (mB 56 4294967295) HT_ ?_
          refine tV_ 32 118 (mB 56 8589934591) HT_ HW_ hHeld ?_
          refine one_ (i := 33) (N := some 119) (mB 56 17179869183) rfl rfl (one_of HT_.out (by kernel_rfl)) (by decide) (fun K hK => ?_)
          refine goes_ Try.func19 (by kernel_rfl) rfl #[qv.val] (by rfl) rfl rfl vL ?_
          with_reducible refine (rfit_true (HS.out.own _ m0_).oc (Below.refl _ _) GQ.out).mono ?_
          rintro e wk ⟨rfl, hb⟩; refine ⟨_, rfl, ?_⟩
          have n_ := Aside0.mk (HS.out.next hb); have f_ := Aside0.mk (HF.out.next hb); clear HS HF; have HS := n_; have HF := f_; clear n_ f_ hb
          refine hK.out _ _ ⟨(FX.oct HF m0_).1.1, (FX.oct HF m0_).1.2.1, (FX.oct HF m0_).1.2.2, (FX.oct HF m1_).1.1, (FX.oct HF m1_).1.2.1, (FX.oct HF m1_).1.2.2, (FX.oct HF m2_).1.1, (FX.oct HF m2_).1.2.1, (FX.oct HF m2_).1.2.2, (FX.oct HF m3_).1.1, (FX.oct HF m3_).1.2.1, (FX.oct HF m3_).1.2.2⟩ (fun hHeld => ?_)
          clear hK K
          refine nO_ 119 ?_
          refine pV_ 34 120 (mB 56 34359738367) HT_ ?_
          refine pV_ 35 121 (mB 56 68719476735) HT_ ?_
          refine pV_ 36 122 (mB 56 137438953471) HT_ ?_
          refine tV_ 37 123 (mB 56 274877906943) HT_ HW_ hHeld ?_
          refine tV_ 38 124 (mB 56 549755813887) HT_ HW_ hHeld ?_
          refine one_ (i := 39) (N := some 125) (mB 56 1099511627775) rfl rfl (one_of HT_.out (by kernel_rfl)) (by decide) (fun K hK => ?_)
          refine goes_ Try.func30 (by kernel_rfl) rfl #[X.val, pv.val] (by rfl) rfl rfl vL ?_
          with_reducible refine (rleq_as (HX.out.next HS.out.below) (HS.out.own _ m1_).oc HS.out.below GX.out GP.out L1.out).mono ?_
          rintro e wk ⟨rfl, hb⟩; refine ⟨_, rfl, ?_⟩
          have n_ := Aside0.mk (HS.out.next hb); have f_ := Aside0.mk (HF.out.next hb); clear HS HF; have HS := n_; have HF := f_; clear n_ f_ hb
          refine hK.out _ _ ⟨(FX.oct HF m0_).1.1, (FX.oct HF m0_).1.2.1, (FX.oct HF m0_).1.2.2, (FX.oct HF m1_).1.1, (FX.oct HF m1_).1.2.1, (FX.oct HF m1_).1.2.2, (FX.oct HF m2_).1.1, (FX.oct HF m2_).1.2.1, (FX.oct HF m2_).1.2.2, (FX.oct HF m3_).1.1, (FX.oct HF m3_).1.2.1, (FX.oct HF m3_).1.2.2⟩ (fun hHeld => ?_)
          clear hK K
          refine nO_ 125 ?_
          refine pV_ 40 126 (mB 56 2199023255551) HT_ ?_
          refine pV_ 41 127 (mB 56 4398046511103) HT_ ?_
          refine pV_ 42 128 (mB 56 8796093022207) HT_ ?_
          refine tV_ 43 129 (mB 56 17592186044415) HT_ HW_ hHeld ?_
          refine tV_ 44 130 (mB 56 35184372088831) HT_ HW_ hHeld ?_
          refine one_ (i := 45) (N := some 131) (mB 56 70368744177663) rfl rfl (one_of HT_.out (by kernel_rfl)) (by decide) (fun K hK => ?_)
          refine goes_ Try.func30 (by kernel_rfl) rfl #[pv.val, qv.val] (by rfl) rfl rfl vL ?_
          with_reducible refine (rleq_as (HS.out.own _ m1_).oc (HS.out.own _ m0_).oc (Below.refl _ _) GP.out GQ.out L2.out).mono ?_
          rintro e wk ⟨rfl, hb⟩; refine ⟨_, rfl, ?_⟩
          have n_ := Aside0.mk (HS.out.next hb); have f_ := Aside0.mk (HF.out.next hb); clear HS HF; have HS := n_; have HF := f_; clear n_ f_ hb
          refine hK.out _ _ ⟨(FX.oct HF m0_).1.1, (FX.oct HF m0_).1.2.1, (FX.oct HF m0_).1.2.2, (FX.oct HF m1_).1.1, (FX.oct HF m1_).1.2.1, (FX.oct HF m1_).1.2.2, (FX.oct HF m2_).1.1, (FX.oct HF m2_).1.2.1, (FX.oct HF m2_).1.2.2, (FX.oct HF m3_).1.1, (FX.oct HF m3_).1.2.1, (FX.oct HF m3_).1.2.2⟩ (fun hHeld => ?_)
          clear hK K
          refine nO_ 131 ?_
          refine pV_ 46 132 (mB 56 140737488355327) HT_ ?_
          refine pV_ 47 133 (mB 56 281474976710655) HT_ ?_
          refine pV_ 48 134 (mB 56 562949953421311) HT_ ?_
          refine pV_ 49 135 (mB 56 1125899906842623) HT_ ?_
          refine tV_ 50 136 (mB 56 2251799813685247) HT_ HW_ hHeld ?_
          refine tV_ 52 138 (mB 56 6755399441055743) HT_ HW_ hHeld ?_
          refine one_ (i := 51) (N := some 137) (mB 56 9007199254740991) rfl rfl (one_of HT_.out (by kernel_rfl)) (by decide) (fun K hK => ?_)
          refine goes_ Try.func26 (by kernel_rfl) rfl #[.slice tA t.length tc, pv.val] (by rfl) rfl rfl vL ?_
          with_reducible refine (th_own FT.out GT.out.1 GT.out.2 HS.out.below (HS.out.own _ m1_).oc (Below.refl _ _) GP.out).mono ?_
          rintro e wk ⟨zv, rfl, hz, ho, hb⟩; refine ⟨_, rfl, ?_⟩
          have n_ := Aside0.mk (HS.out.call hb ho); have f_ := Aside0.mk (HF.out.next hb); clear HS HF; have HS := n_; have HF := f_; clear n_ f_ ho hb
          refine hK.out _ _ ⟨(FX.oct HF m0_).1.1, (FX.oct HF m0_).1.2.1, (FX.oct HF m0_).1.2.2, (FX.oct HF m1_).1.1, (FX.oct HF m1_).1.2.1, (FX.oct HF m1_).1.2.2, (FX.oct HF m2_).1.1, (FX.oct HF m2_).1.2.1, (FX.oct HF m2_).1.2.2, (FX.oct HF m3_).1.1, (FX.oct HF m3_).1.2.1, (FX.oct HF m3_).1.2.2⟩ (fun hHeld => ?_)
          clear hK K
          refine nO_ 137 ?_
          refine one_ (i := 53) (N := some 139) (mB 56 18014398509481983) rfl rfl (one_of HT_.out (by kernel_rfl)) (by decide) (fun K hK => ?_)
          refine goes_ Try.func15 (by kernel_rfl) rfl #[zv.val, pv.val] (by rfl) rfl rfl vL ?_
          with_reducible refine (equal_o (HS.out.own _ m0_).oc (HS.out.own _ m2_).oc (Below.refl _ _) (hz.trans EP.out) (LZ.out _ (hz.trans EP.out)).1 (LZ.out _ (hz.trans EP.out)).2).mono ?_
          rintro e wk ⟨rfl, hb⟩; refine ⟨_, rfl, ?_⟩
          have n_ := Aside0.mk (HS.out.next hb); have f_ := Aside0.mk (HF.out.next hb); clear HS HF; have HS := n_; have HF := f_; clear n_ f_ hb
          refine hK.out _ _ ⟨(FX.oct HF m0_).1.1, (FX.oct HF m0_).1.2.1, (FX.oct HF m0_).1.2.2, (FX.oct HF m1_).1.1, (FX.oct HF m1_).1.2.1, (FX.oct HF m1_).1.2.2, (FX.oct HF m2_).1.1, (FX.oct HF m2_).1.2.1, (FX.oct HF m2_).1.2.2, (FX.oct HF m3_).1.1, (FX.oct HF m3_).1.2.1, (FX.oct HF m3_).1.2.2⟩ (fun hHeld => ?_)
          clear hK K
          refine nO_ 139 ?_
          refine pV_ 54 140 (mB 56 36028797018963967) HT_ ?_
          refine pV_ 55 141 (mB 56 72057594037927935) HT_ ?_
          refine done_ (done_of HT_.out (by kernel_rfl)) ?_
          clear HT_ HW_ hHeld
          have n_ := Aside0.mk (HS.out.sub (List.nil_sublist _)); have f_ := Aside0.mk (HF.out.sub (fs' := [(gi, .cells #[.int .i64 lo, .int .i64 hi] 37 (0, 0))]) (.cons _ (.cons _ (.cons _ (.cons _ (.cons _ (List.Sublist.refl _))))))); clear HS HF; have HS := n_; have HF := f_; clear n_ f_
          go_upto_region 13 with fail
          obtain ⟨ki0, ki1, fi0, fi1⟩ := FX.two HF m0_
          go_upto_region 14 with (first | ((with_reducible refine gate_dst (N := 15) rfl ?_); refine box_event ?hg (N := 15) ?hd (cs := #[.int .i64 0, .int .i64 0]) (t := 37) ?hr ?_; (case hd => rfl); (case hg => rfl); (case hr => first | (go_simp; done) | (go_simp; rfl)); intro gy hg wk hbox hb; have f_ := Aside0.mk ((FX.to HF).made (OS.bel HS).size hg hbox hb); have n_ := Aside0.mk ((OS.to HS).next hb); clear HS HF; have HS := n_; have HF := f_; clear n_ f_ hg hbox hb; obtain ⟨p0, p1, p2, p3⟩ := FX.two HF m0_))
          rw [YH.out]
          have f_ := Aside0.mk (HF.out.put2 (a' := .int .i64 lo) (b' := .int .i64 yh)); have n_ := Aside0.mk (OS.box2 (a' := .int .i64 lo) (b' := .int .i64 yh) HS.out (HF.out.all _ m0_).1 (HF.out.all _ m0_).2 (by decide) (by decide)); clear HS HF p0 p1 p2 p3 ki0 ki1 fi0 fi1; have HS := n_; have HF := f_; clear n_ f_
          generalize hW : ((World.setCell _ ⟨gy, 0, none⟩ (.int .i64 lo)).setCell ⟨gy, 1, none⟩ (.int .i64 yh)) = W9 at HS HF ⊢; clear hW
          have n_ := Aside0.mk (HS.out.next (below_drew (Below.refl _ _))); have f_ := Aside0.mk (HF.out.next (below_drew (Below.refl _ _))); clear HS HF; have HS := n_; have HF := f_; clear n_ f_
          refine startN_ (n := 10) (S := fun w' => w'.cell? ⟨gi, 0, none⟩ = some (.int .i64 lo) ∧ w'.cell? ⟨gi, 1, none⟩ = some (.int .i64 hi) ∧ w'.cell? ⟨gy, 0, none⟩ = some (.int .i64 lo) ∧ w'.cell? ⟨gy, 1, none⟩ = some (.int .i64 yh)) (ds := [8, 9]) (mB 10 0) (by kernel_rfl) rfl (by kernel_rfl) ⟨(FX.two HF m1_).1, (FX.two HF m1_).2.1, (FX.two HF m0_).1, (FX.two HF m0_).2.1⟩ (fun hHeld => ?_)
          refine with_tabW tu_tab14 tu_bits14 (fun HT_ HW_ => ?_)
          generalize hWd : World.drew _ = Wd at HS HF hHeld ⊢; clear hWd
          refine pV_ 0 152 (mB 10 1) HT_ ?_
          refine tV_ 1 153 (mB 10 3) HT_ HW_ hHeld ?_
          refine pV_ 3 155 (mB 10 11) HT_ ?_
          refine tV_ 4 156 (mB 10 27) HT_ HW_ hHeld ?_
          refine join_ (σ := Nat × Nat) 2 (mB 10 255) (fun s_ => [(154, .agg #[.int .i64 (dnT t lo), .int .i64 (upT t hi)]), (157, .agg #[.int .i64 (dnT t lo), .int .i64 (upT t yh)]), (16, .pointer (some ⟨s_.1, 0, none⟩)), (17, .pointer (some ⟨s_.2, 0, none⟩))]) (fun s_ w' => OS w [] w' ∧ FX w ((s_.1, .cells #[.int .i64 0, .int .i64 0] 37 (0, 0)) :: (s_.2, .cells #[.int .i64 0, .int .i64 0] 37 (0, 0)) :: [(gy, .cells #[.int .i64 lo, .int .i64 yh] 37 (0, 0)), (gi, .cells #[.int .i64 lo, .int .i64 hi] 37 (0, 0))]) w') ?_ ?_
          rotate_left
          · intro hJ
            refine three_ (i := 2) (j := 6) (k := 7) (Ni := some 154) (Nj := some 16) (Nk := some 17) (mB 10 31) (mB 10 91) (mB 10 155) rfl rfl rfl rfl rfl rfl (three_of HT_.out (by kernel_rfl)) (by decide) (by decide) (by decide) (fun K hK => ?_) (fun K hK => ?_) (fun K hK => ?_)
            ·
             refine goes_ Try.func31 (by kernel_rfl) rfl #[.slice tA t.length tc, .agg #[.int .i64 lo, .int .i64 hi]] (by rfl) rfl rfl vL ?_
             with_reducible refine (itv_o FT.out GT.out.1 GT.out.2 HS.out.below II.out.1 II.out.2.1 II.out.2.2.1 II.out.2.2.2.1 II.out.2.2.2.2).mono ?_
             rintro e wk ⟨rfl, hb⟩; refine ⟨_, rfl, ?_⟩
             have n_ := Aside0.mk (HS.out.next hb); have f_ := Aside0.mk (HF.out.next hb); clear HS HF; have HS := n_; have HF := f_; clear n_ f_ hb
             refine hK.out _ _ ⟨(FX.two HF m1_).1, (FX.two HF m1_).2.1, (FX.two HF m0_).1, (FX.two HF m0_).2.1⟩ (fun hHeld => ?_)
             clear hK K
             refine nO_ 154 ?_
             refine three_ (i := 5) (j := 6) (k := 7) (Ni := some 157) (Nj := some 16) (Nk := some 17) (mB 10 63) (mB 10 95) (mB 10 159) rfl rfl rfl rfl rfl rfl (three_of HT_.out (by kernel_rfl)) (by decide) (by decide) (by decide) (fun K hK => ?_) (fun K hK => ?_) (fun K hK => ?_)
             ·
              refine goes_ Try.func31 (by kernel_rfl) rfl #[.slice tA t.length tc, .agg #[.int .i64 lo, .int .i64 yh]] (by rfl) rfl rfl vL ?_
              with_reducible refine (itv_o FT.out GT.out.1 GT.out.2 HS.out.below IY.out.1 IY.out.2.1 IY.out.2.2.1 IY.out.2.2.2.1 IY.out.2.2.2.2).mono ?_
              rintro e wk ⟨rfl, hb⟩; refine ⟨_, rfl, ?_⟩
              have n_ := Aside0.mk (HS.out.next hb); have f_ := Aside0.mk (HF.out.next hb); clear HS HF; have HS := n_; have HF := f_; clear n_ f_ hb
              refine hK.out _ _ ⟨(FX.two HF m1_).1, (FX.two HF m1_).2.1, (FX.two HF m0_).1, (FX.two HF m0_).2.1⟩ (fun hHeld => ?_)
              clear hK K
              refine nO_ 157 ?_
              refine two_ (i := 6) (j := 7) (Ni := some 16) (Nj := some 17) (mB 10 127) (mB 10 191) rfl rfl rfl rfl (two_of HT_.out (by kernel_rfl)) (by decide) (by decide) (fun K hK => ?_) (fun K hK => ?_)
              ·
               refine box_step ?hg (N := 16) ?hd (cs := #[.int .i64 0, .int .i64 0]) (t := 37) ?hr ?_; (case hd => rfl); (case hg => rfl); (case hr => first | (go_simp; done) | (go_simp; rfl))
               intro gu hg wk hbox hb
               have f_ := Aside0.mk (HF.out.made HS.out.below.size hg hbox hb); have n_ := Aside0.mk (HS.out.next hb); clear HS HF; have HS := n_; have HF := f_; clear n_ f_ hg hbox hb
               refine hK.out _ _ ⟨(FX.two HF m2_).1, (FX.two HF m2_).2.1, (FX.two HF m1_).1, (FX.two HF m1_).2.1⟩ (fun hHeld => ?_)
               clear hK K
               refine nO_ 16 ?_
               refine one_ (i := 7) (N := some 17) (mB 10 255) rfl rfl (one_of HT_.out (by kernel_rfl)) (by decide) (fun K hK => ?_)
               refine box_step ?hg (N := 17) ?hd (cs := #[.int .i64 0, .int .i64 0]) (t := 37) ?hr ?_; (case hd => rfl); (case hg => rfl); (case hr => first | (go_simp; done) | (go_simp; rfl))
               intro gv hg wk hbox hb
               have f_ := Aside0.mk (HF.out.made HS.out.below.size hg hbox hb); have n_ := Aside0.mk (HS.out.next hb); clear HS HF; have HS := n_; have HF := f_; clear n_ f_ hg hbox hb
               refine hK.out _ _ ⟨(FX.two HF m3_).1, (FX.two HF m3_).2.1, (FX.two HF m2_).1, (FX.two HF m2_).2.1⟩ (fun hHeld => ?_)
               clear hK K
               refine nO_ 17 ?_
               exact nP_ (hJ (gu, gv) _ ⟨HS.out, HF.out.swap⟩)
              ·
               refine box_step ?hg (N := 17) ?hd (cs := #[.int .i64 0, .int .i64 0]) (t := 37) ?hr ?_; (case hd => rfl); (case hg => rfl); (case hr => first | (go_simp; done) | (go_simp; rfl))
               intro gv hg wk hbox hb
               have f_ := Aside0.mk (HF.out.made HS.out.below.size hg hbox hb); have n_ := Aside0.mk (HS.out.next hb); clear HS HF; have HS := n_; have HF := f_; clear n_ f_ hg hbox hb
               refine hK.out _ _ ⟨(FX.two HF m2_).1, (FX.two HF m2_).2.1, (FX.two HF m1_).1, (FX.two HF m1_).2.1⟩ (fun hHeld => ?_)
               clear hK K
               refine nO_ 17 ?_
               refine one_ (i := 6) (N := some 16) (mB 10 255) rfl rfl (one_of HT_.out (by kernel_rfl)) (by decide) (fun K hK => ?_)
               refine box_step ?hg (N := 16) ?hd (cs := #[.int .i64 0, .int .i64 0]) (t := 37) ?hr ?_; (case hd => rfl); (case hg => rfl); (case hr => first | (go_simp; done) | (go_simp; rfl))
               intro gu hg wk hbox hb
               have f_ := Aside0.mk (HF.out.made HS.out.below.size hg hbox hb); have n_ := Aside0.mk (HS.out.next hb); clear HS HF; have HS := n_; have HF := f_; clear n_ f_ hg hbox hb
               refine hK.out _ _ ⟨(FX.two HF m3_).1, (FX.two HF m3_).2.1, (FX.two HF m2_).1, (FX.two HF m2_).2.1⟩ (fun hHeld => ?_)
               clear hK K
               refine nO_ 16 ?_
               exact nP_ (hJ (gu, gv) _ ⟨HS.out, HF.out⟩)
             ·
              refine box_step ?hg (N := 16) ?hd (cs := #[.int .i64 0, .int .i64 0]) (t := 37) ?hr ?_; (case hd => rfl); (case hg => rfl); (case hr => first | (go_simp; done) | (go_simp; rfl))
              intro gu hg wk hbox hb
              have f_ := Aside0.mk (HF.out.made HS.out.below.size hg hbox hb); have n_ := Aside0.mk (HS.out.next hb); clear HS HF; have HS := n_; have HF := f_; clear n_ f_ hg hbox hb
              refine hK.out _ _ ⟨(FX.two HF m2_).1, (FX.two HF m2_).2.1, (FX.two HF m1_).1, (FX.two HF m1_).2.1⟩ (fun hHeld => ?_)
              clear hK K
              refine nO_ 16 ?_
              refine two_ (i := 5) (j := 7) (Ni := some 157) (Nj := some 17) (mB 10 127) (mB 10 223) rfl rfl rfl rfl (two_of HT_.out (by kernel_rfl)) (by decide) (by decide) (fun K hK => ?_) (fun K hK => ?_)
              ·
               refine goes_ Try.func31 (by kernel_rfl) rfl #[.slice tA t.length tc, .agg #[.int .i64 lo, .int .i64 yh]] (by rfl) rfl rfl vL ?_
               with_reducible refine (itv_o FT.out GT.out.1 GT.out.2 HS.out.below IY.out.1 IY.out.2.1 IY.out.2.2.1 IY.out.2.2.2.1 IY.out.2.2.2.2).mono ?_
               rintro e wk ⟨rfl, hb⟩; refine ⟨_, rfl, ?_⟩
               have n_ := Aside0.mk (HS.out.next hb); have f_ := Aside0.mk (HF.out.next hb); clear HS HF; have HS := n_; have HF := f_; clear n_ f_ hb
               refine hK.out _ _ ⟨(FX.two HF m2_).1, (FX.two HF m2_).2.1, (FX.two HF m1_).1, (FX.two HF m1_).2.1⟩ (fun hHeld => ?_)
               clear hK K
               refine nO_ 157 ?_
               refine one_ (i := 7) (N := some 17) (mB 10 255) rfl rfl (one_of HT_.out (by kernel_rfl)) (by decide) (fun K hK => ?_)
               refine box_step ?hg (N := 17) ?hd (cs := #[.int .i64 0, .int .i64 0]) (t := 37) ?hr ?_; (case hd => rfl); (case hg => rfl); (case hr => first | (go_simp; done) | (go_simp; rfl))
               intro gv hg wk hbox hb
               have f_ := Aside0.mk (HF.out.made HS.out.below.size hg hbox hb); have n_ := Aside0.mk (HS.out.next hb); clear HS HF; have HS := n_; have HF := f_; clear n_ f_ hg hbox hb
               refine hK.out _ _ ⟨(FX.two HF m3_).1, (FX.two HF m3_).2.1, (FX.two HF m2_).1, (FX.two HF m2_).2.1⟩ (fun hHeld => ?_)
               clear hK K
               refine nO_ 17 ?_
               exact nP_ (hJ (gu, gv) _ ⟨HS.out, HF.out.swap⟩)
              ·
               refine box_step ?hg (N := 17) ?hd (cs := #[.int .i64 0, .int .i64 0]) (t := 37) ?hr ?_; (case hd => rfl); (case hg => rfl); (case hr => first | (go_simp; done) | (go_simp; rfl))
               intro gv hg wk hbox hb
               have f_ := Aside0.mk (HF.out.made HS.out.below.size hg hbox hb); have n_ := Aside0.mk (HS.out.next hb); clear HS HF; have HS := n_; have HF := f_; clear n_ f_ hg hbox hb
               refine hK.out _ _ ⟨(FX.two HF m3_).1, (FX.two HF m3_).2.1, (FX.two HF m2_).1, (FX.two HF m2_).2.1⟩ (fun hHeld => ?_)
               clear hK K
               refine nO_ 17 ?_
               refine one_ (i := 5) (N := some 157) (mB 10 255) rfl rfl (one_of HT_.out (by kernel_rfl)) (by decide) (fun K hK => ?_)
               refine goes_ Try.func31 (by kernel_rfl) rfl #[.slice tA t.length tc, .agg #[.int .i64 lo, .int .i64 yh]] (by rfl) rfl rfl vL ?_
               with_reducible refine (itv_o FT.out GT.out.1 GT.out.2 HS.out.below IY.out.1 IY.out.2.1 IY.out.2.2.1 IY.out.2.2.2.1 IY.out.2.2.2.2).mono ?_
               rintro e wk ⟨rfl, hb⟩; refine ⟨_, rfl, ?_⟩
               have n_ := Aside0.mk (HS.out.next hb); have f_ := Aside0.mk (HF.out.next hb); clear HS HF; have HS := n_; have HF := f_; clear n_ f_ hb
               refine hK.out _ _ ⟨(FX.two HF m3_).1, (FX.two HF m3_).2.1, (FX.two HF m2_).1, (FX.two HF m2_).2.1⟩ (fun hHeld => ?_)
               clear hK K
               refine nO_ 157 ?_
               exact nP_ (hJ (gu, gv) _ ⟨HS.out, HF.out.swap⟩)
             ·
              refine box_step ?hg (N := 17) ?hd (cs := #[.int .i64 0, .int .i64 0]) (t := 37) ?hr ?_; (case hd => rfl); (case hg => rfl); (case hr => first | (go_simp; done) | (go_simp; rfl))
              intro gv hg wk hbox hb
              have f_ := Aside0.mk (HF.out.made HS.out.below.size hg hbox hb); have n_ := Aside0.mk (HS.out.next hb); clear HS HF; have HS := n_; have HF := f_; clear n_ f_ hg hbox hb
              refine hK.out _ _ ⟨(FX.two HF m2_).1, (FX.two HF m2_).2.1, (FX.two HF m1_).1, (FX.two HF m1_).2.1⟩ (fun hHeld => ?_)
              clear hK K
              refine nO_ 17 ?_
              refine two_ (i := 5) (j := 6) (Ni := some 157) (Nj := some 16) (mB 10 191) (mB 10 223) rfl rfl rfl rfl (two_of HT_.out (by kernel_rfl)) (by decide) (by decide) (fun K hK => ?_) (fun K hK => ?_)
              ·
               refine goes_ Try.func31 (by kernel_rfl) rfl #[.slice tA t.length tc, .agg #[.int .i64 lo, .int .i64 yh]] (by rfl) rfl rfl vL ?_
               with_reducible refine (itv_o FT.out GT.out.1 GT.out.2 HS.out.below IY.out.1 IY.out.2.1 IY.out.2.2.1 IY.out.2.2.2.1 IY.out.2.2.2.2).mono ?_
               rintro e wk ⟨rfl, hb⟩; refine ⟨_, rfl, ?_⟩
               have n_ := Aside0.mk (HS.out.next hb); have f_ := Aside0.mk (HF.out.next hb); clear HS HF; have HS := n_; have HF := f_; clear n_ f_ hb
               refine hK.out _ _ ⟨(FX.two HF m2_).1, (FX.two HF m2_).2.1, (FX.two HF m1_).1, (FX.two HF m1_).2.1⟩ (fun hHeld => ?_)
               clear hK K
               refine nO_ 157 ?_
               refine one_ (i := 6) (N := some 16) (mB 10 255) rfl rfl (one_of HT_.out (by kernel_rfl)) (by decide) (fun K hK => ?_)
               refine box_step ?hg (N := 16) ?hd (cs := #[.int .i64 0, .int .i64 0]) (t := 37) ?hr ?_; (case hd => rfl); (case hg => rfl); (case hr => first | (go_simp; done) | (go_simp; rfl))
               intro gu hg wk hbox hb
               have f_ := Aside0.mk (HF.out.made HS.out.below.size hg hbox hb); have n_ := Aside0.mk (HS.out.next hb); clear HS HF; have HS := n_; have HF := f_; clear n_ f_ hg hbox hb
               refine hK.out _ _ ⟨(FX.two HF m3_).1, (FX.two HF m3_).2.1, (FX.two HF m2_).1, (FX.two HF m2_).2.1⟩ (fun hHeld => ?_)
               clear hK K
               refine nO_ 16 ?_
               exact nP_ (hJ (gu, gv) _ ⟨HS.out, HF.out⟩)
              ·
               refine box_step ?hg (N := 16) ?hd (cs := #[.int .i64 0, .int .i64 0]) (t := 37) ?hr ?_; (case hd => rfl); (case hg => rfl); (case hr => first | (go_simp; done) | (go_simp; rfl))
               intro gu hg wk hbox hb
               have f_ := Aside0.mk (HF.out.made HS.out.below.size hg hbox hb); have n_ := Aside0.mk (HS.out.next hb); clear HS HF; have HS := n_; have HF := f_; clear n_ f_ hg hbox hb
               refine hK.out _ _ ⟨(FX.two HF m3_).1, (FX.two HF m3_).2.1, (FX.two HF m2_).1, (FX.two HF m2_).2.1⟩ (fun hHeld => ?_)
               clear hK K
               refine nO_ 16 ?_
               refine one_ (i := 5) (N := some 157) (mB 10 255) rfl rfl (one_of HT_.out (by kernel_rfl)) (by decide) (fun K hK => ?_)
               refine goes_ Try.func31 (by kernel_rfl) rfl #[.slice tA t.length tc, .agg #[.int .i64 lo, .int .i64 yh]] (by rfl) rfl rfl vL ?_
               with_reducible refine (itv_o FT.out GT.out.1 GT.out.2 HS.out.below IY.out.1 IY.out.2.1 IY.out.2.2.1 IY.out.2.2.2.1 IY.out.2.2.2.2).mono ?_
               rintro e wk ⟨rfl, hb⟩; refine ⟨_, rfl, ?_⟩
               have n_ := Aside0.mk (HS.out.next hb); have f_ := Aside0.mk (HF.out.next hb); clear HS HF; have HS := n_; have HF := f_; clear n_ f_ hb
               refine hK.out _ _ ⟨(FX.two HF m3_).1, (FX.two HF m3_).2.1, (FX.two HF m2_).1, (FX.two HF m2_).2.1⟩ (fun hHeld => ?_)
               clear hK K
               refine nO_ 157 ?_
               exact nP_ (hJ (gu, gv) _ ⟨HS.out, HF.out⟩)
            ·
             refine box_step ?hg (N := 16) ?hd (cs := #[.int .i64 0, .int .i64 0]) (t := 37) ?hr ?_; (case hd => rfl); (case hg => rfl); (case hr => first | (go_simp; done) | (go_simp; rfl))
             intro gu hg wk hbox hb
             have f_ := Aside0.mk (HF.out.made HS.out.below.size hg hbox hb); have n_ := Aside0.mk (HS.out.next hb); clear HS HF; have HS := n_; have HF := f_; clear n_ f_ hg hbox hb
             refine hK.out _ _ ⟨(FX.two HF m2_).1, (FX.two HF m2_).2.1, (FX.two HF m1_).1, (FX.two HF m1_).2.1⟩ (fun hHeld => ?_)
             clear hK K
             refine nO_ 16 ?_
             refine two_ (i := 2) (j := 7) (Ni := some 154) (Nj := some 17) (mB 10 95) (mB 10 219) rfl rfl rfl rfl (two_of HT_.out (by kernel_rfl)) (by decide) (by decide) (fun K hK => ?_) (fun K hK => ?_)
             ·
              refine goes_ Try.func31 (by kernel_rfl) rfl #[.slice tA t.length tc, .agg #[.int .i64 lo, .int .i64 hi]] (by rfl) rfl rfl vL ?_
              with_reducible refine (itv_o FT.out GT.out.1 GT.out.2 HS.out.below II.out.1 II.out.2.1 II.out.2.2.1 II.out.2.2.2.1 II.out.2.2.2.2).mono ?_
              rintro e wk ⟨rfl, hb⟩; refine ⟨_, rfl, ?_⟩
              have n_ := Aside0.mk (HS.out.next hb); have f_ := Aside0.mk (HF.out.next hb); clear HS HF; have HS := n_; have HF := f_; clear n_ f_ hb
              refine hK.out _ _ ⟨(FX.two HF m2_).1, (FX.two HF m2_).2.1, (FX.two HF m1_).1, (FX.two HF m1_).2.1⟩ (fun hHeld => ?_)
              clear hK K
              refine nO_ 154 ?_
              refine two_ (i := 5) (j := 7) (Ni := some 157) (Nj := some 17) (mB 10 127) (mB 10 223) rfl rfl rfl rfl (two_of HT_.out (by kernel_rfl)) (by decide) (by decide) (fun K hK => ?_) (fun K hK => ?_)
              ·
               refine goes_ Try.func31 (by kernel_rfl) rfl #[.slice tA t.length tc, .agg #[.int .i64 lo, .int .i64 yh]] (by rfl) rfl rfl vL ?_
               with_reducible refine (itv_o FT.out GT.out.1 GT.out.2 HS.out.below IY.out.1 IY.out.2.1 IY.out.2.2.1 IY.out.2.2.2.1 IY.out.2.2.2.2).mono ?_
               rintro e wk ⟨rfl, hb⟩; refine ⟨_, rfl, ?_⟩
               have n_ := Aside0.mk (HS.out.next hb); have f_ := Aside0.mk (HF.out.next hb); clear HS HF; have HS := n_; have HF := f_; clear n_ f_ hb
               refine hK.out _ _ ⟨(FX.two HF m2_).1, (FX.two HF m2_).2.1, (FX.two HF m1_).1, (FX.two HF m1_).2.1⟩ (fun hHeld => ?_)
               clear hK K
               refine nO_ 157 ?_
               refine one_ (i := 7) (N := some 17) (mB 10 255) rfl rfl (one_of HT_.out (by kernel_rfl)) (by decide) (fun K hK => ?_)
               refine box_step ?hg (N := 17) ?hd (cs := #[.int .i64 0, .int .i64 0]) (t := 37) ?hr ?_; (case hd => rfl); (case hg => rfl); (case hr => first | (go_simp; done) | (go_simp; rfl))
               intro gv hg wk hbox hb
               have f_ := Aside0.mk (HF.out.made HS.out.below.size hg hbox hb); have n_ := Aside0.mk (HS.out.next hb); clear HS HF; have HS := n_; have HF := f_; clear n_ f_ hg hbox hb
               refine hK.out _ _ ⟨(FX.two HF m3_).1, (FX.two HF m3_).2.1, (FX.two HF m2_).1, (FX.two HF m2_).2.1⟩ (fun hHeld => ?_)
               clear hK K
               refine nO_ 17 ?_
               exact nP_ (hJ (gu, gv) _ ⟨HS.out, HF.out.swap⟩)
              ·
               refine box_step ?hg (N := 17) ?hd (cs := #[.int .i64 0, .int .i64 0]) (t := 37) ?hr ?_; (case hd => rfl); (case hg => rfl); (case hr => first | (go_simp; done) | (go_simp; rfl))
               intro gv hg wk hbox hb
               have f_ := Aside0.mk (HF.out.made HS.out.below.size hg hbox hb); have n_ := Aside0.mk (HS.out.next hb); clear HS HF; have HS := n_; have HF := f_; clear n_ f_ hg hbox hb
               refine hK.out _ _ ⟨(FX.two HF m3_).1, (FX.two HF m3_).2.1, (FX.two HF m2_).1, (FX.two HF m2_).2.1⟩ (fun hHeld => ?_)
               clear hK K
               refine nO_ 17 ?_
               refine one_ (i := 5) (N := some 157) (mB 10 255) rfl rfl (one_of HT_.out (by kernel_rfl)) (by decide) (fun K hK => ?_)
               refine goes_ Try.func31 (by kernel_rfl) rfl #[.slice tA t.length tc, .agg #[.int .i64 lo, .int .i64 yh]] (by rfl) rfl rfl vL ?_
               with_reducible refine (itv_o FT.out GT.out.1 GT.out.2 HS.out.below IY.out.1 IY.out.2.1 IY.out.2.2.1 IY.out.2.2.2.1 IY.out.2.2.2.2).mono ?_
               rintro e wk ⟨rfl, hb⟩; refine ⟨_, rfl, ?_⟩
               have n_ := Aside0.mk (HS.out.next hb); have f_ := Aside0.mk (HF.out.next hb); clear HS HF; have HS := n_; have HF := f_; clear n_ f_ hb
               refine hK.out _ _ ⟨(FX.two HF m3_).1, (FX.two HF m3_).2.1, (FX.two HF m2_).1, (FX.two HF m2_).2.1⟩ (fun hHeld => ?_)
               clear hK K
               refine nO_ 157 ?_
               exact nP_ (hJ (gu, gv) _ ⟨HS.out, HF.out.swap⟩)
             ·
              refine box_step ?hg (N := 17) ?hd (cs := #[.int .i64 0, .int .i64 0]) (t := 37) ?hr ?_; (case hd => rfl); (case hg => rfl); (case hr => first | (go_simp; done) | (go_simp; rfl))
              intro gv hg wk hbox hb
              have f_ := Aside0.mk (HF.out.made HS.out.below.size hg hbox hb); have n_ := Aside0.mk (HS.out.next hb); clear HS HF; have HS := n_; have HF := f_; clear n_ f_ hg hbox hb
              refine hK.out _ _ ⟨(FX.two HF m3_).1, (FX.two HF m3_).2.1, (FX.two HF m2_).1, (FX.two HF m2_).2.1⟩ (fun hHeld => ?_)
              clear hK K
              refine nO_ 17 ?_
              refine one_ (i := 2) (N := some 154) (mB 10 223) rfl rfl (one_of HT_.out (by kernel_rfl)) (by decide) (fun K hK => ?_)
              refine goes_ Try.func31 (by kernel_rfl) rfl #[.slice tA t.length tc, .agg #[.int .i64 lo, .int .i64 hi]] (by rfl) rfl rfl vL ?_
              with_reducible refine (itv_o FT.out GT.out.1 GT.out.2 HS.out.below II.out.1 II.out.2.1 II.out.2.2.1 II.out.2.2.2.1 II.out.2.2.2.2).mono ?_
              rintro e wk ⟨rfl, hb⟩; refine ⟨_, rfl, ?_⟩
              have n_ := Aside0.mk (HS.out.next hb); have f_ := Aside0.mk (HF.out.next hb); clear HS HF; have HS := n_; have HF := f_; clear n_ f_ hb
              refine hK.out _ _ ⟨(FX.two HF m3_).1, (FX.two HF m3_).2.1, (FX.two HF m2_).1, (FX.two HF m2_).2.1⟩ (fun hHeld => ?_)
              clear hK K
              refine nO_ 154 ?_
              refine one_ (i := 5) (N := some 157) (mB 10 255) rfl rfl (one_of HT_.out (by kernel_rfl)) (by decide) (fun K hK => ?_)
              refine goes_ Try.func31 (by kernel_rfl) rfl #[.slice tA t.length tc, .agg #[.int .i64 lo, .int .i64 yh]] (by rfl) rfl rfl vL ?_
              with_reducible refine (itv_o FT.out GT.out.1 GT.out.2 HS.out.below IY.out.1 IY.out.2.1 IY.out.2.2.1 IY.out.2.2.2.1 IY.out.2.2.2.2).mono ?_
              rintro e wk ⟨rfl, hb⟩; refine ⟨_, rfl, ?_⟩
              have n_ := Aside0.mk (HS.out.next hb); have f_ := Aside0.mk (HF.out.next hb); clear HS HF; have HS := n_; have HF := f_; clear n_ f_ hb
              refine hK.out _ _ ⟨(FX.two HF m3_).1, (FX.two HF m3_).2.1, (FX.two HF m2_).1, (FX.two HF m2_).2.1⟩ (fun hHeld => ?_)
              clear hK K
              refine nO_ 157 ?_
              exact nP_ (hJ (gu, gv) _ ⟨HS.out, HF.out.swap⟩)
            ·
             refine box_step ?hg (N := 17) ?hd (cs := #[.int .i64 0, .int .i64 0]) (t := 37) ?hr ?_; (case hd => rfl); (case hg => rfl); (case hr => first | (go_simp; done) | (go_simp; rfl))
             intro gv hg wk hbox hb
             have f_ := Aside0.mk (HF.out.made HS.out.below.size hg hbox hb); have n_ := Aside0.mk (HS.out.next hb); clear HS HF; have HS := n_; have HF := f_; clear n_ f_ hg hbox hb
             refine hK.out _ _ ⟨(FX.two HF m2_).1, (FX.two HF m2_).2.1, (FX.two HF m1_).1, (FX.two HF m1_).2.1⟩ (fun hHeld => ?_)
             clear hK K
             refine nO_ 17 ?_
             refine two_ (i := 2) (j := 6) (Ni := some 154) (Nj := some 16) (mB 10 159) (mB 10 219) rfl rfl rfl rfl (two_of HT_.out (by kernel_rfl)) (by decide) (by decide) (fun K hK => ?_) (fun K hK => ?_)
             ·
              refine goes_ Try.func31 (by kernel_rfl) rfl #[.slice tA t.length tc, .agg #[.int .i64 lo, .int .i64 hi]] (by rfl) rfl rfl vL ?_
              with_reducible refine (itv_o FT.out GT.out.1 GT.out.2 HS.out.below II.out.1 II.out.2.1 II.out.2.2.1 II.out.2.2.2.1 II.out.2.2.2.2).mono ?_
              rintro e wk ⟨rfl, hb⟩; refine ⟨_, rfl, ?_⟩
              have n_ := Aside0.mk (HS.out.next hb); have f_ := Aside0.mk (HF.out.next hb); clear HS HF; have HS := n_; have HF := f_; clear n_ f_ hb
              refine hK.out _ _ ⟨(FX.two HF m2_).1, (FX.two HF m2_).2.1, (FX.two HF m1_).1, (FX.two HF m1_).2.1⟩ (fun hHeld => ?_)
              clear hK K
              refine nO_ 154 ?_
              refine two_ (i := 5) (j := 6) (Ni := some 157) (Nj := some 16) (mB 10 191) (mB 10 223) rfl rfl rfl rfl (two_of HT_.out (by kernel_rfl)) (by decide) (by decide) (fun K hK => ?_) (fun K hK => ?_)
              ·
               refine goes_ Try.func31 (by kernel_rfl) rfl #[.slice tA t.length tc, .agg #[.int .i64 lo, .int .i64 yh]] (by rfl) rfl rfl vL ?_
               with_reducible refine (itv_o FT.out GT.out.1 GT.out.2 HS.out.below IY.out.1 IY.out.2.1 IY.out.2.2.1 IY.out.2.2.2.1 IY.out.2.2.2.2).mono ?_
               rintro e wk ⟨rfl, hb⟩; refine ⟨_, rfl, ?_⟩
               have n_ := Aside0.mk (HS.out.next hb); have f_ := Aside0.mk (HF.out.next hb); clear HS HF; have HS := n_; have HF := f_; clear n_ f_ hb
               refine hK.out _ _ ⟨(FX.two HF m2_).1, (FX.two HF m2_).2.1, (FX.two HF m1_).1, (FX.two HF m1_).2.1⟩ (fun hHeld => ?_)
               clear hK K
               refine nO_ 157 ?_
               refine one_ (i := 6) (N := some 16) (mB 10 255) rfl rfl (one_of HT_.out (by kernel_rfl)) (by decide) (fun K hK => ?_)
               refine box_step ?hg (N := 16) ?hd (cs := #[.int .i64 0, .int .i64 0]) (t := 37) ?hr ?_; (case hd => rfl); (case hg => rfl); (case hr => first | (go_simp; done) | (go_simp; rfl))
               intro gu hg wk hbox hb
               have f_ := Aside0.mk (HF.out.made HS.out.below.size hg hbox hb); have n_ := Aside0.mk (HS.out.next hb); clear HS HF; have HS := n_; have HF := f_; clear n_ f_ hg hbox hb
               refine hK.out _ _ ⟨(FX.two HF m3_).1, (FX.two HF m3_).2.1, (FX.two HF m2_).1, (FX.two HF m2_).2.1⟩ (fun hHeld => ?_)
               clear hK K
               refine nO_ 16 ?_
               exact nP_ (hJ (gu, gv) _ ⟨HS.out, HF.out⟩)
              ·
               refine box_step ?hg (N := 16) ?hd (cs := #[.int .i64 0, .int .i64 0]) (t := 37) ?hr ?_; (case hd => rfl); (case hg => rfl); (case hr => first | (go_simp; done) | (go_simp; rfl))
               intro gu hg wk hbox hb
               have f_ := Aside0.mk (HF.out.made HS.out.below.size hg hbox hb); have n_ := Aside0.mk (HS.out.next hb); clear HS HF; have HS := n_; have HF := f_; clear n_ f_ hg hbox hb
               refine hK.out _ _ ⟨(FX.two HF m3_).1, (FX.two HF m3_).2.1, (FX.two HF m2_).1, (FX.two HF m2_).2.1⟩ (fun hHeld => ?_)
               clear hK K
               refine nO_ 16 ?_
               refine one_ (i := 5) (N := some 157) (mB 10 255) rfl rfl (one_of HT_.out (by kernel_rfl)) (by decide) (fun K hK => ?_)
               refine goes_ Try.func31 (by kernel_rfl) rfl #[.slice tA t.length tc, .agg #[.int .i64 lo, .int .i64 yh]] (by rfl) rfl rfl vL ?_
               with_reducible refine (itv_o FT.out GT.out.1 GT.out.2 HS.out.below IY.out.1 IY.out.2.1 IY.out.2.2.1 IY.out.2.2.2.1 IY.out.2.2.2.2).mono ?_
               rintro e wk ⟨rfl, hb⟩; refine ⟨_, rfl, ?_⟩
               have n_ := Aside0.mk (HS.out.next hb); have f_ := Aside0.mk (HF.out.next hb); clear HS HF; have HS := n_; have HF := f_; clear n_ f_ hb
               refine hK.out _ _ ⟨(FX.two HF m3_).1, (FX.two HF m3_).2.1, (FX.two HF m2_).1, (FX.two HF m2_).2.1⟩ (fun hHeld => ?_)
               clear hK K
               refine nO_ 157 ?_
               exact nP_ (hJ (gu, gv) _ ⟨HS.out, HF.out⟩)
             ·
              refine box_step ?hg (N := 16) ?hd (cs := #[.int .i64 0, .int .i64 0]) (t := 37) ?hr ?_; (case hd => rfl); (case hg => rfl); (case hr => first | (go_simp; done) | (go_simp; rfl))
              intro gu hg wk hbox hb
              have f_ := Aside0.mk (HF.out.made HS.out.below.size hg hbox hb); have n_ := Aside0.mk (HS.out.next hb); clear HS HF; have HS := n_; have HF := f_; clear n_ f_ hg hbox hb
              refine hK.out _ _ ⟨(FX.two HF m3_).1, (FX.two HF m3_).2.1, (FX.two HF m2_).1, (FX.two HF m2_).2.1⟩ (fun hHeld => ?_)
              clear hK K
              refine nO_ 16 ?_
              refine one_ (i := 2) (N := some 154) (mB 10 223) rfl rfl (one_of HT_.out (by kernel_rfl)) (by decide) (fun K hK => ?_)
              refine goes_ Try.func31 (by kernel_rfl) rfl #[.slice tA t.length tc, .agg #[.int .i64 lo, .int .i64 hi]] (by rfl) rfl rfl vL ?_
              with_reducible refine (itv_o FT.out GT.out.1 GT.out.2 HS.out.below II.out.1 II.out.2.1 II.out.2.2.1 II.out.2.2.2.1 II.out.2.2.2.2).mono ?_
              rintro e wk ⟨rfl, hb⟩; refine ⟨_, rfl, ?_⟩
              have n_ := Aside0.mk (HS.out.next hb); have f_ := Aside0.mk (HF.out.next hb); clear HS HF; have HS := n_; have HF := f_; clear n_ f_ hb
              refine hK.out _ _ ⟨(FX.two HF m3_).1, (FX.two HF m3_).2.1, (FX.two HF m2_).1, (FX.two HF m2_).2.1⟩ (fun hHeld => ?_)
              clear hK K
              refine nO_ 154 ?_
              refine one_ (i := 5) (N := some 157) (mB 10 255) rfl rfl (one_of HT_.out (by kernel_rfl)) (by decide) (fun K hK => ?_)
              refine goes_ Try.func31 (by kernel_rfl) rfl #[.slice tA t.length tc, .agg #[.int .i64 lo, .int .i64 yh]] (by rfl) rfl rfl vL ?_
              with_reducible refine (itv_o FT.out GT.out.1 GT.out.2 HS.out.below IY.out.1 IY.out.2.1 IY.out.2.2.1 IY.out.2.2.2.1 IY.out.2.2.2.2).mono ?_
              rintro e wk ⟨rfl, hb⟩; refine ⟨_, rfl, ?_⟩
              have n_ := Aside0.mk (HS.out.next hb); have f_ := Aside0.mk (HF.out.next hb); clear HS HF; have HS := n_; have HF := f_; clear n_ f_ hb
              refine hK.out _ _ ⟨(FX.two HF m3_).1, (FX.two HF m3_).2.1, (FX.two HF m2_).1, (FX.two HF m2_).2.1⟩ (fun hHeld => ?_)
              clear hK K
              refine nO_ 157 ?_
              exact nP_ (hJ (gu, gv) _ ⟨HS.out, HF.out⟩)
          rintro ⟨gu, gv⟩ W4 ⟨HS4, HF4⟩
          clear HS HF hHeld
          have HS := Aside0.mk HS4; have HF := Aside0.mk HF4
          have kne := FX.nes HF4; have kne' := fun e => kne (Eq.symm e)
          clear HS4 HF4
          dsimp only at HS HF kne kne'
          obtain ⟨p0, p1, p2, p3⟩ := FX.two HF m0_; obtain ⟨q0, q1, q2, q3⟩ := FX.two HF m1_
          refine nS_ ?_
          refine last_ (i := 8) (N := none) (mB 10 511) rfl rfl (one_of HT_.out (by kernel_rfl)) (by decide) (fun K hK => ?_)
          refine skip_ (w1 := ?_) (by rfl) rfl ?_ ?_
          rotate_left
          · go_simp
            rfl
          refine hK.out _ _ ?_
          clear hK K
          refine last_ (i := 9) (N := none) (mB 10 1023) rfl rfl (one_of HT_.out (by kernel_rfl)) (by decide) (fun K hK => ?_)
          refine skip_ (w1 := ?_) (by rfl) rfl ?_ ?_
          rotate_left
          · go_simp
            rfl
          refine hK.out _ _ ?_
          clear hK K
          refine done_ (done_of HT_.out (by kernel_rfl)) ?_
          clear p0 p1 p2 p3 q0 q1 q2 q3 kne kne' HT_ HW_
          unfold OnlyN
          have f1_ := HF.out.put2 (a' := .int .i64 (dnT t lo)) (b' := .int .i64 (upT t hi)); have s1_ := OS.box2 (a' := .int .i64 (dnT t lo)) (b' := .int .i64 (upT t hi)) HS.out (HF.out.all _ m0_).1 (HF.out.all _ m0_).2 (by decide) (by decide); have f2_ := f1_.swap; have f3_ := Aside0.mk (f2_.put2 (a' := .int .i64 (dnT t lo)) (b' := .int .i64 (upT t yh))); have s3_ := Aside0.mk (OS.box2 (a' := .int .i64 (dnT t lo)) (b' := .int .i64 (upT t yh)) s1_ (f2_.all _ m0_).1 (f2_.all _ m0_).2 (by decide) (by decide)); clear HS HF f1_ f2_ s1_; have HS := s3_; have HF := f3_; clear s3_ f3_
          generalize hW5 : ((((W4.setCell ⟨gu, 0, none⟩ (.int .i64 (dnT t lo))).setCell ⟨gu, 1, none⟩ (.int .i64 (upT t hi))).setCell ⟨gv, 0, none⟩ (.int .i64 (dnT t lo))).setCell ⟨gv, 1, none⟩ (.int .i64 (upT t yh))) = W5 at HS HF ⊢; clear hW5
          go_upto_region 15 with fail
          have d1 := D1.out; have d2 := D2.out; have d3 := D3.out
          have n_ := Aside0.mk (HS.out.next (below_drew (Below.refl _ _))); have f_ := Aside0.mk (HF.out.next (below_drew (Below.refl _ _))); clear HS HF; have HS := n_; have HF := f_; clear n_ f_
          refine start_ (n := 37) (S := fun w' => w'.cell? ⟨gv, 0, none⟩ = some (.int .i64 (dnT t lo)) ∧ w'.cell? ⟨gv, 1, none⟩ = some (.int .i64 (upT t yh)) ∧ w'.cell? ⟨gu, 0, none⟩ = some (.int .i64 (dnT t lo)) ∧ w'.cell? ⟨gu, 1, none⟩ = some (.int .i64 (upT t hi)) ∧ w'.cell? ⟨gi, 0, none⟩ = some (.int .i64 lo) ∧ w'.cell? ⟨gi, 1, none⟩ = some (.int .i64 hi)) (ds := []) (mB 37 0) (by kernel_rfl) rfl (by kernel_rfl) ⟨(FX.two HF m0_).1, (FX.two HF m0_).2.1, (FX.two HF m1_).1, (FX.two HF m1_).2.1, (FX.two HF m3_).1, (FX.two HF m3_).2.1⟩ (fun hHeld => ?_)
          refine with_tabW tu_tab15 tu_bits15 (fun HT_ HW_ => ?_)
          generalize hWd : World.drew _ = Wd at HS HF hHeld ⊢; clear hWd
          refine pV_ 0 158 (mB 37 1) HT_ ?_
          refine tV_ 1 159 (mB 37 3) HT_ HW_ hHeld ?_
          refine pV_ 2 160 (mB 37 7) HT_ ?_
          refine tV_ 3 161 (mB 37 15) HT_ HW_ hHeld ?_
          refine pV_ 4 162 (mB 37 31) HT_ ?_
          refine pV_ 5 163 (mB 37 63) HT_ ?_
          refine pV_ 6 164 (mB 37 127) HT_ ?_
          refine tV_ 7 165 (mB 37 255) HT_ HW_ hHeld ?_
          refine pV_ 8 166 (mB 37 511) HT_ ?_
          refine tV_ 9 167 (mB 37 1023) HT_ HW_ hHeld ?_
          refine pV_ 10 168 (mB 37 2047) HT_ ?_
          refine pV_ 11 169 (mB 37 4095) HT_ ?_
          refine pV_ 12 170 (mB 37 8191) HT_ ?_
          refine pV_ 13 171 (mB 37 16383) HT_ ?_
          refine tV_ 14 172 (mB 37 32767) HT_ HW_ hHeld ?_
          refine pV_ 15 173 (mB 37 65535) HT_ ?_
          refine tV_ 16 174 (mB 37 131071) HT_ HW_ hHeld ?_
          refine pV_ 17 175 (mB 37 262143) HT_ ?_
          refine pV_ 18 176 (mB 37 524287) HT_ ?_
          refine pV_ 19 177 (mB 37 1048575) HT_ ?_
          refine pV_ 20 178 (mB 37 2097151) HT_ ?_
          refine tV_ 21 179 (mB 37 4194303) HT_ HW_ hHeld ?_
          refine pV_ 22 180 (mB 37 8388607) HT_ ?_
          refine tV_ 23 181 (mB 37 16777215) HT_ HW_ hHeld ?_
          refine pV_ 24 182 (mB 37 33554431) HT_ ?_
          refine pV_ 25 183 (mB 37 67108863) HT_ ?_
          refine pV_ 26 184 (mB 37 134217727) HT_ ?_
          refine pV_ 27 185 (mB 37 268435455) HT_ ?_
          refine tV_ 28 186 (mB 37 536870911) HT_ HW_ hHeld ?_
          refine tV_ 30 188 (mB 37 1610612735) HT_ HW_ hHeld ?_
          refine one_ (i := 29) (N := some 187) (mB 37 2147483647) rfl rfl (one_of HT_.out (by kernel_rfl)) (by decide) (fun K hK => ?_)
          refine goes_ Try.func31 (by kernel_rfl) rfl #[.slice tA t.length tc, .agg #[.int .i64 (dnT t lo), .int .i64 (upT t hi)]] (by rfl) rfl rfl vL ?_
          with_reducible refine (IZ.out HS.out.below).mono ?_
          rintro e wk ⟨rfl, hb⟩; refine ⟨_, rfl, ?_⟩
          have n_ := Aside0.mk (HS.out.next hb); have f_ := Aside0.mk (HF.out.next hb); clear HS HF; have HS := n_; have HF := f_; clear n_ f_ hb
          refine hK.out _ _ ⟨(FX.two HF m0_).1, (FX.two HF m0_).2.1, (FX.two HF m1_).1, (FX.two HF m1_).2.1, (FX.two HF m3_).1, (FX.two HF m3_).2.1⟩ (fun hHeld => ?_)
          clear hK K
          refine nO_ 187 ?_
          refine pV_ 31 189 (mB 37 4294967295) HT_ ?_
          refine pV_ 32 190 (mB 37 8589934591) HT_ ?_
          refine pV_ 33 191 (mB 37 17179869183) HT_ ?_
          refine one_ (i := 34) (N := some 192) (mB 37 34359738367) rfl rfl (one_of HT_.out (by kernel_rfl)) (by decide) (fun K hK => ?_)
          refine goes_ Try.func25 (by kernel_rfl) rfl #[] (by rfl) rfl rfl vL ?_
          with_reducible refine (awake13_o).mono ?_
          rintro e wk ⟨rfl, hb⟩; refine ⟨_, rfl, ?_⟩
          have n_ := Aside0.mk (HS.out.next hb); have f_ := Aside0.mk (HF.out.next hb); clear HS HF; have HS := n_; have HF := f_; clear n_ f_ hb
          refine hK.out _ _ ⟨(FX.two HF m0_).1, (FX.two HF m0_).2.1, (FX.two HF m1_).1, (FX.two HF m1_).2.1, (FX.two HF m3_).1, (FX.two HF m3_).2.1⟩ (fun hHeld => ?_)
          clear hK K
          refine nO_ 192 ?_
          refine pV_ 35 193 (mB 37 68719476735) HT_ ?_
          refine pV_ 36 10 (mB 37 137438953471) HT_ ?_
          refine done_ (done_of HT_.out (by kernel_rfl)) ?_
          clear HT_ HW_ hHeld
          try go_wp2
          all_goals (go_ret; exact ⟨rfl, OS.bel HS⟩)
        · have q19 : ((qv.m.length : Int) != (cv.m.length : Int)) = true := bne_iff_ne.mpr cq
          have EQ1 : Aside0 (qv.e = true) := ⟨lq.resolve_right (fun h => cq (by rw [h.2]))⟩
          clear cq lq
          have n_ := Aside0.mk (HS.out.next (below_drew (Below.refl _ _))); have f_ := Aside0.mk (HF.out.next (below_drew (Below.refl _ _))); clear HS HF; have HS := n_; have HF := f_; clear n_ f_
          refine start_ (n := 56) (S := fun w' => w'.cell? ⟨gq, 0, none⟩ = some (.slice qv.P qv.v.length qv.p) ∧ w'.cell? ⟨gq, 1, none⟩ = some (.slice qv.Q qv.m.length qv.q) ∧ w'.cell? ⟨gq, 2, none⟩ = some (.bool qv.e) ∧ w'.cell? ⟨gp, 0, none⟩ = some (.slice pv.P pv.v.length pv.p) ∧ w'.cell? ⟨gp, 1, none⟩ = some (.slice pv.Q pv.m.length pv.q) ∧ w'.cell? ⟨gp, 2, none⟩ = some (.bool pv.e) ∧ w'.cell? ⟨gc, 0, none⟩ = some (.slice cv.P cv.v.length cv.p) ∧ w'.cell? ⟨gc, 1, none⟩ = some (.slice cv.Q cv.m.length cv.q) ∧ w'.cell? ⟨gc, 2, none⟩ = some (.bool cv.e) ∧ w'.cell? ⟨ga, 0, none⟩ = some (.slice X.P X.v.length X.p) ∧ w'.cell? ⟨ga, 1, none⟩ = some (.slice X.Q X.m.length X.q) ∧ w'.cell? ⟨ga, 2, none⟩ = some (.bool X.e)) (ds := []) (mB 56 0) (by kernel_rfl) rfl (by kernel_rfl) ⟨(FX.oct HF m0_).1.1, (FX.oct HF m0_).1.2.1, (FX.oct HF m0_).1.2.2, (FX.oct HF m1_).1.1, (FX.oct HF m1_).1.2.1, (FX.oct HF m1_).1.2.2, (FX.oct HF m2_).1.1, (FX.oct HF m2_).1.2.1, (FX.oct HF m2_).1.2.2, (FX.oct HF m3_).1.1, (FX.oct HF m3_).1.2.1, (FX.oct HF m3_).1.2.2⟩ (fun hHeld => ?_)
          refine with_tabW tu_tab11 tu_bits11 (fun HT_ HW_ => ?_)
          generalize hWd : World.drew _ = Wd at HS HF hHeld ⊢; clear hWd
          refine pV_ 0 86 (mB 56 1) HT_ ?_
          refine tV_ 1 87 (mB 56 3) HT_ HW_ hHeld ?_
          refine pV_ 2 88 (mB 56 7) HT_ ?_
          refine pV_ 3 89 (mB 56 15) HT_ ?_
          refine tV_ 4 90 (mB 56 31) HT_ HW_ hHeld ?_
          refine pV_ 5 91 (mB 56 63) HT_ ?_
          refine pV_ 6 92 (mB 56 127) HT_ ?_
          refine pV_ 7 93 (mB 56 255) HT_ ?_
          refine pU_ 8 94 (mB 56 511) HT_ ?_
          refine pU_ 9 95 (mB 56 1023) HT_ ?_
          refine pU_ 10 96 (mB 56 2047) HT_ ?_
          refine pV_ 11 97 (mB 56 4095) HT_ ?_
          refine pV_ 12 98 (mB 56 8191) HT_ ?_
          refine pV_ 13 99 (mB 56 16383) HT_ ?_
          refine tV_ 14 100 (mB 56 32767) HT_ HW_ hHeld ?_
          refine pV_ 15 101 (mB 56 65535) HT_ ?_
          refine pV_ 16 102 (mB 56 131071) HT_ ?_
          refine tV_ 17 103 (mB 56 262143) HT_ HW_ hHeld ?_
          refine pV_ 18 104 (mB 56 524287) HT_ ?_
          refine pV_ 19 105 (mB 56 1048575) HT_ ?_
          refine pV_ 20 106 (mB 56 2097151) HT_ ?_
          refine pV_ 21 107 (mB 56 4194303) HT_ ?_
          refine tV_ 22 108 (mB 56 8388607) HT_ HW_ hHeld ?_
          have eq' := EQ1.out
          refine pV_ 23 109 (mB 56 16777215) HT_ ?_
          refine pV_ 24 110 (mB 56 33554431) HT_ ?_
          refine pV_ 25 111 (mB 56 67108863) HT_ ?_
          refine pV_ 26 112 (mB 56 134217727) HT_ ?_
          clear eq'
          refine tV_ 27 113 (mB 56 268435455) HT_ HW_ hHeld ?_
          refine one_ (i := 28) (N := some 114) (mB 56 536870911) rfl rfl (one_of HT_.out (by kernel_rfl)) (by decide) (fun K hK => ?_)
          refine goes_ Try.func19 (by kernel_rfl) rfl #[pv.val] (by rfl) rfl rfl vL ?_
          with_reducible refine (rfit_true (HS.out.own _ m1_).oc (Below.refl _ _) GP.out).mono ?_
          rintro e wk ⟨rfl, hb⟩; refine ⟨_, rfl, ?_⟩
          have n_ := Aside0.mk (HS.out.next hb); have f_ := Aside0.mk (HF.out.next hb); clear HS HF; have HS := n_; have HF := f_; clear n_ f_ hb
          refine hK.out _ _ ⟨(FX.oct HF m0_).1.1, (FX.oct HF m0_).1.2.1, (FX.oct HF m0_).1.2.2, (FX.oct HF m1_).1.1, (FX.oct HF m1_).1.2.1, (FX.oct HF m1_).1.2.2, (FX.oct HF m2_).1.1, (FX.oct HF m2_).1.2.1, (FX.oct HF m2_).1.2.2, (FX.oct HF m3_).1.1, (FX.oct HF m3_).1.2.1, (FX.oct HF m3_).1.2.2⟩ (fun hHeld => ?_)
          clear hK K
          refine nO_ 114 ?_
          refine pV_ 29 115 (mB 56 1073741823) HT_ ?_
          refine pV_ 30 116 (mB 56 2147483647) HT_ ?_
          refine pV_ 31 117 (mB 56 4294967295) HT_ ?_
          refine tV_ 32 118 (mB 56 8589934591) HT_ HW_ hHeld ?_
          refine one_ (i := 33) (N := some 119) (mB 56 17179869183) rfl rfl (one_of HT_.out (by kernel_rfl)) (by decide) (fun K hK => ?_)
          refine goes_ Try.func19 (by kernel_rfl) rfl #[qv.val] (by rfl) rfl rfl vL ?_
          with_reducible refine (rfit_true (HS.out.own _ m0_).oc (Below.refl _ _) GQ.out).mono ?_
          rintro e wk ⟨rfl, hb⟩; refine ⟨_, rfl, ?_⟩
          have n_ := Aside0.mk (HS.out.next hb); have f_ := Aside0.mk (HF.out.next hb); clear HS HF; have HS := n_; have HF := f_; clear n_ f_ hb
          refine hK.out _ _ ⟨(FX.oct HF m0_).1.1, (FX.oct HF m0_).1.2.1, (FX.oct HF m0_).1.2.2, (FX.oct HF m1_).1.1, (FX.oct HF m1_).1.2.1, (FX.oct HF m1_).1.2.2, (FX.oct HF m2_).1.1, (FX.oct HF m2_).1.2.1, (FX.oct HF m2_).1.2.2, (FX.oct HF m3_).1.1, (FX.oct HF m3_).1.2.1, (FX.oct HF m3_).1.2.2⟩ (fun hHeld => ?_)
          clear hK K
          refine nO_ 119 ?_
          refine pV_ 34 120 (mB 56 34359738367) HT_ ?_
          refine pV_ 35 121 (mB 56 68719476735) HT_ ?_
          refine pV_ 36 122 (mB 56 137438953471) HT_ ?_
          refine tV_ 37 123 (mB 56 274877906943) HT_ HW_ hHeld ?_
          refine tV_ 38 124 (mB 56 549755813887) HT_ HW_ hHeld ?_
          refine one_ (i := 39) (N := some 125) (mB 56 1099511627775) rfl rfl (one_of HT_.out (by kernel_rfl)) (by decide) (fun K hK => ?_)
          refine goes_ Try.func30 (by kernel_rfl) rfl #[X.val, pv.val] (by rfl) rfl rfl vL ?_
          with_reducible refine (rleq_as (HX.out.next HS.out.below) (HS.out.own _ m1_).oc HS.out.below GX.out GP.out L1.out).mono ?_
          rintro e wk ⟨rfl, hb⟩; refine ⟨_, rfl, ?_⟩
          have n_ := Aside0.mk (HS.out.next hb); have f_ := Aside0.mk (HF.out.next hb); clear HS HF; have HS := n_; have HF := f_; clear n_ f_ hb
          refine hK.out _ _ ⟨(FX.oct HF m0_).1.1, (FX.oct HF m0_).1.2.1, (FX.oct HF m0_).1.2.2, (FX.oct HF m1_).1.1, (FX.oct HF m1_).1.2.1, (FX.oct HF m1_).1.2.2, (FX.oct HF m2_).1.1, (FX.oct HF m2_).1.2.1, (FX.oct HF m2_).1.2.2, (FX.oct HF m3_).1.1, (FX.oct HF m3_).1.2.1, (FX.oct HF m3_).1.2.2⟩ (fun hHeld => ?_)
          clear hK K
          refine nO_ 125 ?_
          refine pV_ 40 126 (mB 56 2199023255551) HT_ ?_
          refine pV_ 41 127 (mB 56 4398046511103) HT_ ?_
          refine pV_ 42 128 (mB 56 8796093022207) HT_ ?_
          refine tV_ 43 129 (mB 56 17592186044415) HT_ HW_ hHeld ?_
          refine tV_ 44 130 (mB 56 35184372088831) HT_ HW_ hHeld ?_
          refine one_ (i := 45) (N := some 131) (mB 56 70368744177663) rfl rfl (one_of HT_.out (by kernel_rfl)) (by decide) (fun K hK => ?_)
          refine goes_ Try.func30 (by kernel_rfl) rfl #[pv.val, qv.val] (by rfl) rfl rfl vL ?_
          with_reducible refine (rleq_as (HS.out.own _ m1_).oc (HS.out.own _ m0_).oc (Below.refl _ _) GP.out GQ.out L2.out).mono ?_
          rintro e wk ⟨rfl, hb⟩; refine ⟨_, rfl, ?_⟩
          have n_ := Aside0.mk (HS.out.next hb); have f_ := Aside0.mk (HF.out.next hb); clear HS HF; have HS := n_; have HF := f_; clear n_ f_ hb
          refine hK.out _ _ ⟨(FX.oct HF m0_).1.1, (FX.oct HF m0_).1.2.1, (FX.oct HF m0_).1.2.2, (FX.oct HF m1_).1.1, (FX.oct HF m1_).1.2.1, (FX.oct HF m1_).1.2.2, (FX.oct HF m2_).1.1, (FX.oct HF m2_).1.2.1, (FX.oct HF m2_).1.2.2, (FX.oct HF m3_).1.1, (FX.oct HF m3_).1.2.1, (FX.oct HF m3_).1.2.2⟩ (fun hHeld => ?_)
          clear hK K
          refine nO_ 131 ?_
          refine pV_ 46 132 (mB 56 140737488355327) HT_ ?_
          refine pV_ 47 133 (mB 56 281474976710655) HT_ ?_
          refine pV_ 48 134 (mB 56 562949953421311) HT_ ?_
          refine pV_ 49 135 (mB 56 1125899906842623) HT_ ?_
          refine tV_ 50 136 (mB 56 2251799813685247) HT_ HW_ hHeld ?_
          refine tV_ 52 138 (mB 56 6755399441055743) HT_ HW_ hHeld ?_
          refine one_ (i := 51) (N := some 137) (mB 56 9007199254740991) rfl rfl (one_of HT_.out (by kernel_rfl)) (by decide) (fun K hK => ?_)
          refine goes_ Try.func26 (by kernel_rfl) rfl #[.slice tA t.length tc, pv.val] (by rfl) rfl rfl vL ?_
          with_reducible refine (th_own FT.out GT.out.1 GT.out.2 HS.out.below (HS.out.own _ m1_).oc (Below.refl _ _) GP.out).mono ?_
          rintro e wk ⟨zv, rfl, hz, ho, hb⟩; refine ⟨_, rfl, ?_⟩
          have n_ := Aside0.mk (HS.out.call hb ho); have f_ := Aside0.mk (HF.out.next hb); clear HS HF; have HS := n_; have HF := f_; clear n_ f_ ho hb
          refine hK.out _ _ ⟨(FX.oct HF m0_).1.1, (FX.oct HF m0_).1.2.1, (FX.oct HF m0_).1.2.2, (FX.oct HF m1_).1.1, (FX.oct HF m1_).1.2.1, (FX.oct HF m1_).1.2.2, (FX.oct HF m2_).1.1, (FX.oct HF m2_).1.2.1, (FX.oct HF m2_).1.2.2, (FX.oct HF m3_).1.1, (FX.oct HF m3_).1.2.1, (FX.oct HF m3_).1.2.2⟩ (fun hHeld => ?_)
          clear hK K
          refine nO_ 137 ?_
          refine one_ (i := 53) (N := some 139) (mB 56 18014398509481983) rfl rfl (one_of HT_.out (by kernel_rfl)) (by decide) (fun K hK => ?_)
          refine goes_ Try.func15 (by kernel_rfl) rfl #[zv.val, pv.val] (by rfl) rfl rfl vL ?_
          with_reducible refine (equal_o (HS.out.own _ m0_).oc (HS.out.own _ m2_).oc (Below.refl _ _) (hz.trans EP.out) (LZ.out _ (hz.trans EP.out)).1 (LZ.out _ (hz.trans EP.out)).2).mono ?_
          rintro e wk ⟨rfl, hb⟩; refine ⟨_, rfl, ?_⟩
          have n_ := Aside0.mk (HS.out.next hb); have f_ := Aside0.mk (HF.out.next hb); clear HS HF; have HS := n_; have HF := f_; clear n_ f_ hb
          refine hK.out _ _ ⟨(FX.oct HF m0_).1.1, (FX.oct HF m0_).1.2.1, (FX.oct HF m0_).1.2.2, (FX.oct HF m1_).1.1, (FX.oct HF m1_).1.2.1, (FX.oct HF m1_).1.2.2, (FX.oct HF m2_).1.1, (FX.oct HF m2_).1.2.1, (FX.oct HF m2_).1.2.2, (FX.oct HF m3_).1.1, (FX.oct HF m3_).1.2.1, (FX.oct HF m3_).1.2.2⟩ (fun hHeld => ?_)
          clear hK K
          refine nO_ 139 ?_
          refine pV_ 54 140 (mB 56 36028797018963967) HT_ ?_
          refine pV_ 55 141 (mB 56 72057594037927935) HT_ ?_
          refine done_ (done_of HT_.out (by kernel_rfl)) ?_
          clear HT_ HW_ hHeld
          have n_ := Aside0.mk (HS.out.sub (List.nil_sublist _)); have f_ := Aside0.mk (HF.out.sub (fs' := [(gi, .cells #[.int .i64 lo, .int .i64 hi] 37 (0, 0))]) (.cons _ (.cons _ (.cons _ (.cons _ (.cons _ (List.Sublist.refl _))))))); clear HS HF; have HS := n_; have HF := f_; clear n_ f_
          go_upto_region 13 with fail
          obtain ⟨ki0, ki1, fi0, fi1⟩ := FX.two HF m0_
          go_upto_region 14 with (first | ((with_reducible refine gate_dst (N := 15) rfl ?_); refine box_event ?hg (N := 15) ?hd (cs := #[.int .i64 0, .int .i64 0]) (t := 37) ?hr ?_; (case hd => rfl); (case hg => rfl); (case hr => first | (go_simp; done) | (go_simp; rfl)); intro gy hg wk hbox hb; have f_ := Aside0.mk ((FX.to HF).made (OS.bel HS).size hg hbox hb); have n_ := Aside0.mk ((OS.to HS).next hb); clear HS HF; have HS := n_; have HF := f_; clear n_ f_ hg hbox hb; obtain ⟨p0, p1, p2, p3⟩ := FX.two HF m0_))
          rw [YH.out]
          have f_ := Aside0.mk (HF.out.put2 (a' := .int .i64 lo) (b' := .int .i64 yh)); have n_ := Aside0.mk (OS.box2 (a' := .int .i64 lo) (b' := .int .i64 yh) HS.out (HF.out.all _ m0_).1 (HF.out.all _ m0_).2 (by decide) (by decide)); clear HS HF p0 p1 p2 p3 ki0 ki1 fi0 fi1; have HS := n_; have HF := f_; clear n_ f_
          generalize hW : ((World.setCell _ ⟨gy, 0, none⟩ (.int .i64 lo)).setCell ⟨gy, 1, none⟩ (.int .i64 yh)) = W9 at HS HF ⊢; clear hW
          have n_ := Aside0.mk (HS.out.next (below_drew (Below.refl _ _))); have f_ := Aside0.mk (HF.out.next (below_drew (Below.refl _ _))); clear HS HF; have HS := n_; have HF := f_; clear n_ f_
          refine startN_ (n := 10) (S := fun w' => w'.cell? ⟨gi, 0, none⟩ = some (.int .i64 lo) ∧ w'.cell? ⟨gi, 1, none⟩ = some (.int .i64 hi) ∧ w'.cell? ⟨gy, 0, none⟩ = some (.int .i64 lo) ∧ w'.cell? ⟨gy, 1, none⟩ = some (.int .i64 yh)) (ds := [8, 9]) (mB 10 0) (by kernel_rfl) rfl (by kernel_rfl) ⟨(FX.two HF m1_).1, (FX.two HF m1_).2.1, (FX.two HF m0_).1, (FX.two HF m0_).2.1⟩ (fun hHeld => ?_)
          refine with_tabW tu_tab14 tu_bits14 (fun HT_ HW_ => ?_)
          generalize hWd : World.drew _ = Wd at HS HF hHeld ⊢; clear hWd
          refine pV_ 0 152 (mB 10 1) HT_ ?_
          refine tV_ 1 153 (mB 10 3) HT_ HW_ hHeld ?_
          refine pV_ 3 155 (mB 10 11) HT_ ?_
          refine tV_ 4 156 (mB 10 27) HT_ HW_ hHeld ?_
          refine join_ (σ := Nat × Nat) 2 (mB 10 255) (fun s_ => [(154, .agg #[.int .i64 (dnT t lo), .int .i64 (upT t hi)]), (157, .agg #[.int .i64 (dnT t lo), .int .i64 (upT t yh)]), (16, .pointer (some ⟨s_.1, 0, none⟩)), (17, .pointer (some ⟨s_.2, 0, none⟩))]) (fun s_ w' => OS w [] w' ∧ FX w ((s_.1, .cells #[.int .i64 0, .int .i64 0] 37 (0, 0)) :: (s_.2, .cells #[.int .i64 0, .int .i64 0] 37 (0, 0)) :: [(gy, .cells #[.int .i64 lo, .int .i64 yh] 37 (0, 0)), (gi, .cells #[.int .i64 lo, .int .i64 hi] 37 (0, 0))]) w') ?_ ?_
          rotate_left
          · intro hJ
            refine three_ (i := 2) (j := 6) (k := 7) (Ni := some 154) (Nj := some 16) (Nk := some 17) (mB 10 31) (mB 10 91) (mB 10 155) rfl rfl rfl rfl rfl rfl (three_of HT_.out (by kernel_rfl)) (by decide) (by decide) (by decide) (fun K hK => ?_) (fun K hK => ?_) (fun K hK => ?_)
            ·
             refine goes_ Try.func31 (by kernel_rfl) rfl #[.slice tA t.length tc, .agg #[.int .i64 lo, .int .i64 hi]] (by rfl) rfl rfl vL ?_
             with_reducible refine (itv_o FT.out GT.out.1 GT.out.2 HS.out.below II.out.1 II.out.2.1 II.out.2.2.1 II.out.2.2.2.1 II.out.2.2.2.2).mono ?_
             rintro e wk ⟨rfl, hb⟩; refine ⟨_, rfl, ?_⟩
             have n_ := Aside0.mk (HS.out.next hb); have f_ := Aside0.mk (HF.out.next hb); clear HS HF; have HS := n_; have HF := f_; clear n_ f_ hb
             refine hK.out _ _ ⟨(FX.two HF m1_).1, (FX.two HF m1_).2.1, (FX.two HF m0_).1, (FX.two HF m0_).2.1⟩ (fun hHeld => ?_)
             clear hK K
             refine nO_ 154 ?_
             refine three_ (i := 5) (j := 6) (k := 7) (Ni := some 157) (Nj := some 16) (Nk := some 17) (mB 10 63) (mB 10 95) (mB 10 159) rfl rfl rfl rfl rfl rfl (three_of HT_.out (by kernel_rfl)) (by decide) (by decide) (by decide) (fun K hK => ?_) (fun K hK => ?_) (fun K hK => ?_)
             ·
              refine goes_ Try.func31 (by kernel_rfl) rfl #[.slice tA t.length tc, .agg #[.int .i64 lo, .int .i64 yh]] (by rfl) rfl rfl vL ?_
              with_reducible refine (itv_o FT.out GT.out.1 GT.out.2 HS.out.below IY.out.1 IY.out.2.1 IY.out.2.2.1 IY.out.2.2.2.1 IY.out.2.2.2.2).mono ?_
              rintro e wk ⟨rfl, hb⟩; refine ⟨_, rfl, ?_⟩
              have n_ := Aside0.mk (HS.out.next hb); have f_ := Aside0.mk (HF.out.next hb); clear HS HF; have HS := n_; have HF := f_; clear n_ f_ hb
              refine hK.out _ _ ⟨(FX.two HF m1_).1, (FX.two HF m1_).2.1, (FX.two HF m0_).1, (FX.two HF m0_).2.1⟩ (fun hHeld => ?_)
              clear hK K
              refine nO_ 157 ?_
              refine two_ (i := 6) (j := 7) (Ni := some 16) (Nj := some 17) (mB 10 127) (mB 10 191) rfl rfl rfl rfl (two_of HT_.out (by kernel_rfl)) (by decide) (by decide) (fun K hK => ?_) (fun K hK => ?_)
              ·
               refine box_step ?hg (N := 16) ?hd (cs := #[.int .i64 0, .int .i64 0]) (t := 37) ?hr ?_; (case hd => rfl); (case hg => rfl); (case hr => first | (go_simp; done) | (go_simp; rfl))
               intro gu hg wk hbox hb
               have f_ := Aside0.mk (HF.out.made HS.out.below.size hg hbox hb); have n_ := Aside0.mk (HS.out.next hb); clear HS HF; have HS := n_; have HF := f_; clear n_ f_ hg hbox hb
               refine hK.out _ _ ⟨(FX.two HF m2_).1, (FX.two HF m2_).2.1, (FX.two HF m1_).1, (FX.two HF m1_).2.1⟩ (fun hHeld => ?_)
               clear hK K
               refine nO_ 16 ?_
               refine one_ (i := 7) (N := some 17) (mB 10 255) rfl rfl (one_of HT_.out (by kernel_rfl)) (by decide) (fun K hK => ?_)
               refine box_step ?hg (N := 17) ?hd (cs := #[.int .i64 0, .int .i64 0]) (t := 37) ?hr ?_; (case hd => rfl); (case hg => rfl); (case hr => first | (go_simp; done) | (go_simp; rfl))
               intro gv hg wk hbox hb
               have f_ := Aside0.mk (HF.out.made HS.out.below.size hg hbox hb); have n_ := Aside0.mk (HS.out.next hb); clear HS HF; have HS := n_; have HF := f_; clear n_ f_ hg hbox hb
               refine hK.out _ _ ⟨(FX.two HF m3_).1, (FX.two HF m3_).2.1, (FX.two HF m2_).1, (FX.two HF m2_).2.1⟩ (fun hHeld => ?_)
               clear hK K
               refine nO_ 17 ?_
               exact nP_ (hJ (gu, gv) _ ⟨HS.out, HF.out.swap⟩)
              ·
               refine box_step ?hg (N := 17) ?hd (cs := #[.int .i64 0, .int .i64 0]) (t := 37) ?hr ?_; (case hd => rfl); (case hg => rfl); (case hr => first | (go_simp; done) | (go_simp; rfl))
               intro gv hg wk hbox hb
               have f_ := Aside0.mk (HF.out.made HS.out.below.size hg hbox hb); have n_ := Aside0.mk (HS.out.next hb); clear HS HF; have HS := n_; have HF := f_; clear n_ f_ hg hbox hb
               refine hK.out _ _ ⟨(FX.two HF m2_).1, (FX.two HF m2_).2.1, (FX.two HF m1_).1, (FX.two HF m1_).2.1⟩ (fun hHeld => ?_)
               clear hK K
               refine nO_ 17 ?_
               refine one_ (i := 6) (N := some 16) (mB 10 255) rfl rfl (one_of HT_.out (by kernel_rfl)) (by decide) (fun K hK => ?_)
               refine box_step ?hg (N := 16) ?hd (cs := #[.int .i64 0, .int .i64 0]) (t := 37) ?hr ?_; (case hd => rfl); (case hg => rfl); (case hr => first | (go_simp; done) | (go_simp; rfl))
               intro gu hg wk hbox hb
               have f_ := Aside0.mk (HF.out.made HS.out.below.size hg hbox hb); have n_ := Aside0.mk (HS.out.next hb); clear HS HF; have HS := n_; have HF := f_; clear n_ f_ hg hbox hb
               refine hK.out _ _ ⟨(FX.two HF m3_).1, (FX.two HF m3_).2.1, (FX.two HF m2_).1, (FX.two HF m2_).2.1⟩ (fun hHeld => ?_)
               clear hK K
               refine nO_ 16 ?_
               exact nP_ (hJ (gu, gv) _ ⟨HS.out, HF.out⟩)
             ·
              refine box_step ?hg (N := 16) ?hd (cs := #[.int .i64 0, .int .i64 0]) (t := 37) ?hr ?_; (case hd => rfl); (case hg => rfl); (case hr => first | (go_simp; done) | (go_simp; rfl))
              intro gu hg wk hbox hb
              have f_ := Aside0.mk (HF.out.made HS.out.below.size hg hbox hb); have n_ := Aside0.mk (HS.out.next hb); clear HS HF; have HS := n_; have HF := f_; clear n_ f_ hg hbox hb
              refine hK.out _ _ ⟨(FX.two HF m2_).1, (FX.two HF m2_).2.1, (FX.two HF m1_).1, (FX.two HF m1_).2.1⟩ (fun hHeld => ?_)
              clear hK K
              refine nO_ 16 ?_
              refine two_ (i := 5) (j := 7) (Ni := some 157) (Nj := some 17) (mB 10 127) (mB 10 223) rfl rfl rfl rfl (two_of HT_.out (by kernel_rfl)) (by decide) (by decide) (fun K hK => ?_) (fun K hK => ?_)
              ·
               refine goes_ Try.func31 (by kernel_rfl) rfl #[.slice tA t.length tc, .agg #[.int .i64 lo, .int .i64 yh]] (by rfl) rfl rfl vL ?_
               with_reducible refine (itv_o FT.out GT.out.1 GT.out.2 HS.out.below IY.out.1 IY.out.2.1 IY.out.2.2.1 IY.out.2.2.2.1 IY.out.2.2.2.2).mono ?_
               rintro e wk ⟨rfl, hb⟩; refine ⟨_, rfl, ?_⟩
               have n_ := Aside0.mk (HS.out.next hb); have f_ := Aside0.mk (HF.out.next hb); clear HS HF; have HS := n_; have HF := f_; clear n_ f_ hb
               refine hK.out _ _ ⟨(FX.two HF m2_).1, (FX.two HF m2_).2.1, (FX.two HF m1_).1, (FX.two HF m1_).2.1⟩ (fun hHeld => ?_)
               clear hK K
               refine nO_ 157 ?_
               refine one_ (i := 7) (N := some 17) (mB 10 255) rfl rfl (one_of HT_.out (by kernel_rfl)) (by decide) (fun K hK => ?_)
               refine box_step ?hg (N := 17) ?hd (cs := #[.int .i64 0, .int .i64 0]) (t := 37) ?hr ?_; (case hd => rfl); (case hg => rfl); (case hr => first | (go_simp; done) | (go_simp; rfl))
               intro gv hg wk hbox hb
               have f_ := Aside0.mk (HF.out.made HS.out.below.size hg hbox hb); have n_ := Aside0.mk (HS.out.next hb); clear HS HF; have HS := n_; have HF := f_; clear n_ f_ hg hbox hb
               refine hK.out _ _ ⟨(FX.two HF m3_).1, (FX.two HF m3_).2.1, (FX.two HF m2_).1, (FX.two HF m2_).2.1⟩ (fun hHeld => ?_)
               clear hK K
               refine nO_ 17 ?_
               exact nP_ (hJ (gu, gv) _ ⟨HS.out, HF.out.swap⟩)
              ·
               refine box_step ?hg (N := 17) ?hd (cs := #[.int .i64 0, .int .i64 0]) (t := 37) ?hr ?_; (case hd => rfl); (case hg => rfl); (case hr => first | (go_simp; done) | (go_simp; rfl))
               intro gv hg wk hbox hb
               have f_ := Aside0.mk (HF.out.made HS.out.below.size hg hbox hb); have n_ := Aside0.mk (HS.out.next hb); clear HS HF; have HS := n_; have HF := f_; clear n_ f_ hg hbox hb
               refine hK.out _ _ ⟨(FX.two HF m3_).1, (FX.two HF m3_).2.1, (FX.two HF m2_).1, (FX.two HF m2_).2.1⟩ (fun hHeld => ?_)
               clear hK K
               refine nO_ 17 ?_
               refine one_ (i := 5) (N := some 157) (mB 10 255) rfl rfl (one_of HT_.out (by kernel_rfl)) (by decide) (fun K hK => ?_)
               refine goes_ Try.func31 (by kernel_rfl) rfl #[.slice tA t.length tc, .agg #[.int .i64 lo, .int .i64 yh]] (by rfl) rfl rfl vL ?_
               with_reducible refine (itv_o FT.out GT.out.1 GT.out.2 HS.out.below IY.out.1 IY.out.2.1 IY.out.2.2.1 IY.out.2.2.2.1 IY.out.2.2.2.2).mono ?_
               rintro e wk ⟨rfl, hb⟩; refine ⟨_, rfl, ?_⟩
               have n_ := Aside0.mk (HS.out.next hb); have f_ := Aside0.mk (HF.out.next hb); clear HS HF; have HS := n_; have HF := f_; clear n_ f_ hb
               refine hK.out _ _ ⟨(FX.two HF m3_).1, (FX.two HF m3_).2.1, (FX.two HF m2_).1, (FX.two HF m2_).2.1⟩ (fun hHeld => ?_)
               clear hK K
               refine nO_ 157 ?_
               exact nP_ (hJ (gu, gv) _ ⟨HS.out, HF.out.swap⟩)
             ·
              refine box_step ?hg (N := 17) ?hd (cs := #[.int .i64 0, .int .i64 0]) (t := 37) ?hr ?_; (case hd => rfl); (case hg => rfl); (case hr => first | (go_simp; done) | (go_simp; rfl))
              intro gv hg wk hbox hb
              have f_ := Aside0.mk (HF.out.made HS.out.below.size hg hbox hb); have n_ := Aside0.mk (HS.out.next hb); clear HS HF; have HS := n_; have HF := f_; clear n_ f_ hg hbox hb
              refine hK.out _ _ ⟨(FX.two HF m2_).1, (FX.two HF m2_).2.1, (FX.two HF m1_).1, (FX.two HF m1_).2.1⟩ (fun hHeld => ?_)
              clear hK K
              refine nO_ 17 ?_
              refine two_ (i := 5) (j := 6) (Ni := some 157) (Nj := some 16) (mB 10 191) (mB 10 223) rfl rfl rfl rfl (two_of HT_.out (by kernel_rfl)) (by decide) (by decide) (fun K hK => ?_) (fun K hK => ?_)
              ·
               refine goes_ Try.func31 (by kernel_rfl) rfl #[.slice tA t.length tc, .agg #[.int .i64 lo, .int .i64 yh]] (by rfl) rfl rfl vL ?_
               with_reducible refine (itv_o FT.out GT.out.1 GT.out.2 HS.out.below IY.out.1 IY.out.2.1 IY.out.2.2.1 IY.out.2.2.2.1 IY.out.2.2.2.2).mono ?_
               rintro e wk ⟨rfl, hb⟩; refine ⟨_, rfl, ?_⟩
               have n_ := Aside0.mk (HS.out.next hb); have f_ := Aside0.mk (HF.out.next hb); clear HS HF; have HS := n_; have HF := f_; clear n_ f_ hb
               refine hK.out _ _ ⟨(FX.two HF m2_).1, (FX.two HF m2_).2.1, (FX.two HF m1_).1, (FX.two HF m1_).2.1⟩ (fun hHeld => ?_)
               clear hK K
               refine nO_ 157 ?_
               refine one_ (i := 6) (N := some 16) (mB 10 255) rfl rfl (one_of HT_.out (by kernel_rfl)) (by decide) (fun K hK => ?_)
               refine box_step ?hg (N := 16) ?hd (cs := #[.int .i64 0, .int .i64 0]) (t := 37) ?hr ?_; (case hd => rfl); (case hg => rfl); (case hr => first | (go_simp; done) | (go_simp; rfl))
               intro gu hg wk hbox hb
               have f_ := Aside0.mk (HF.out.made HS.out.below.size hg hbox hb); have n_ := Aside0.mk (HS.out.next hb); clear HS HF; have HS := n_; have HF := f_; clear n_ f_ hg hbox hb
               refine hK.out _ _ ⟨(FX.two HF m3_).1, (FX.two HF m3_).2.1, (FX.two HF m2_).1, (FX.two HF m2_).2.1⟩ (fun hHeld => ?_)
               clear hK K
               refine nO_ 16 ?_
               exact nP_ (hJ (gu, gv) _ ⟨HS.out, HF.out⟩)
              ·
               refine box_step ?hg (N := 16) ?hd (cs := #[.int .i64 0, .int .i64 0]) (t := 37) ?hr ?_; (case hd => rfl); (case hg => rfl); (case hr => first | (go_simp; done) | (go_simp; rfl))
               intro gu hg wk hbox hb
               have f_ := Aside0.mk (HF.out.made HS.out.below.size hg hbox hb); have n_ := Aside0.mk (HS.out.next hb); clear HS HF; have HS := n_; have HF := f_; clear n_ f_ hg hbox hb
               refine hK.out _ _ ⟨(FX.two HF m3_).1, (FX.two HF m3_).2.1, (FX.two HF m2_).1, (FX.two HF m2_).2.1⟩ (fun hHeld => ?_)
               clear hK K
               refine nO_ 16 ?_
               refine one_ (i := 5) (N := some 157) (mB 10 255) rfl rfl (one_of HT_.out (by kernel_rfl)) (by decide) (fun K hK => ?_)
               refine goes_ Try.func31 (by kernel_rfl) rfl #[.slice tA t.length tc, .agg #[.int .i64 lo, .int .i64 yh]] (by rfl) rfl rfl vL ?_
               with_reducible refine (itv_o FT.out GT.out.1 GT.out.2 HS.out.below IY.out.1 IY.out.2.1 IY.out.2.2.1 IY.out.2.2.2.1 IY.out.2.2.2.2).mono ?_
               rintro e wk ⟨rfl, hb⟩; refine ⟨_, rfl, ?_⟩
               have n_ := Aside0.mk (HS.out.next hb); have f_ := Aside0.mk (HF.out.next hb); clear HS HF; have HS := n_; have HF := f_; clear n_ f_ hb
               refine hK.out _ _ ⟨(FX.two HF m3_).1, (FX.two HF m3_).2.1, (FX.two HF m2_).1, (FX.two HF m2_).2.1⟩ (fun hHeld => ?_)
               clear hK K
               refine nO_ 157 ?_
               exact nP_ (hJ (gu, gv) _ ⟨HS.out, HF.out⟩)
            ·
             refine box_step ?hg (N := 16) ?hd (cs := #[.int .i64 0, .int .i64 0]) (t := 37) ?hr ?_; (case hd => rfl); (case hg => rfl); (case hr => first | (go_simp; done) | (go_simp; rfl))
             intro gu hg wk hbox hb
             have f_ := Aside0.mk (HF.out.made HS.out.below.size hg hbox hb); have n_ := Aside0.mk (HS.out.next hb); clear HS HF; have HS := n_; have HF := f_; clear n_ f_ hg hbox hb
             refine hK.out _ _ ⟨(FX.two HF m2_).1, (FX.two HF m2_).2.1, (FX.two HF m1_).1, (FX.two HF m1_).2.1⟩ (fun hHeld => ?_)
             clear hK K
             refine nO_ 16 ?_
             refine two_ (i := 2) (j := 7) (Ni := some 154) (Nj := some 17) (mB 10 95) (mB 10 219) rfl rfl rfl rfl (two_of HT_.out (by kernel_rfl)) (by decide) (by decide) (fun K hK => ?_) (fun K hK => ?_)
             ·
              refine goes_ Try.func31 (by kernel_rfl) rfl #[.slice tA t.length tc, .agg #[.int .i64 lo, .int .i64 hi]] (by rfl) rfl rfl vL ?_
              with_reducible refine (itv_o FT.out GT.out.1 GT.out.2 HS.out.below II.out.1 II.out.2.1 II.out.2.2.1 II.out.2.2.2.1 II.out.2.2.2.2).mono ?_
              rintro e wk ⟨rfl, hb⟩; refine ⟨_, rfl, ?_⟩
              have n_ := Aside0.mk (HS.out.next hb); have f_ := Aside0.mk (HF.out.next hb); clear HS HF; have HS := n_; have HF := f_; clear n_ f_ hb
              refine hK.out _ _ ⟨(FX.two HF m2_).1, (FX.two HF m2_).2.1, (FX.two HF m1_).1, (FX.two HF m1_).2.1⟩ (fun hHeld => ?_)
              clear hK K
              refine nO_ 154 ?_
              refine two_ (i := 5) (j := 7) (Ni := some 157) (Nj := some 17) (mB 10 127) (mB 10 223) rfl rfl rfl rfl (two_of HT_.out (by kernel_rfl)) (by decide) (by decide) (fun K hK => ?_) (fun K hK => ?_)
              ·
               refine goes_ Try.func31 (by kernel_rfl) rfl #[.slice tA t.length tc, .agg #[.int .i64 lo, .int .i64 yh]] (by rfl) rfl rfl vL ?_
               with_reducible refine (itv_o FT.out GT.out.1 GT.out.2 HS.out.below IY.out.1 IY.out.2.1 IY.out.2.2.1 IY.out.2.2.2.1 IY.out.2.2.2.2).mono ?_
               rintro e wk ⟨rfl, hb⟩; refine ⟨_, rfl, ?_⟩
               have n_ := Aside0.mk (HS.out.next hb); have f_ := Aside0.mk (HF.out.next hb); clear HS HF; have HS := n_; have HF := f_; clear n_ f_ hb
               refine hK.out _ _ ⟨(FX.two HF m2_).1, (FX.two HF m2_).2.1, (FX.two HF m1_).1, (FX.two HF m1_).2.1⟩ (fun hHeld => ?_)
               clear hK K
               refine nO_ 157 ?_
               refine one_ (i := 7) (N := some 17) (mB 10 255) rfl rfl (one_of HT_.out (by kernel_rfl)) (by decide) (fun K hK => ?_)
               refine box_step ?hg (N := 17) ?hd (cs := #[.int .i64 0, .int .i64 0]) (t := 37) ?hr ?_; (case hd => rfl); (case hg => rfl); (case hr => first | (go_simp; done) | (go_simp; rfl))
               intro gv hg wk hbox hb
               have f_ := Aside0.mk (HF.out.made HS.out.below.size hg hbox hb); have n_ := Aside0.mk (HS.out.next hb); clear HS HF; have HS := n_; have HF := f_; clear n_ f_ hg hbox hb
               refine hK.out _ _ ⟨(FX.two HF m3_).1, (FX.two HF m3_).2.1, (FX.two HF m2_).1, (FX.two HF m2_).2.1⟩ (fun hHeld => ?_)
               clear hK K
               refine nO_ 17 ?_
               exact nP_ (hJ (gu, gv) _ ⟨HS.out, HF.out.swap⟩)
              ·
               refine box_step ?hg (N := 17) ?hd (cs := #[.int .i64 0, .int .i64 0]) (t := 37) ?hr ?_; (case hd => rfl); (case hg => rfl); (case hr => first | (go_simp; done) | (go_simp; rfl))
               intro gv hg wk hbox hb
               have f_ := Aside0.mk (HF.out.made HS.out.below.size hg hbox hb); have n_ := Aside0.mk (HS.out.next hb); clear HS HF; have HS := n_; have HF := f_; clear n_ f_ hg hbox hb
               refine hK.out _ _ ⟨(FX.two HF m3_).1, (FX.two HF m3_).2.1, (FX.two HF m2_).1, (FX.two HF m2_).2.1⟩ (fun hHeld => ?_)
               clear hK K
               refine nO_ 17 ?_
               refine one_ (i := 5) (N := some 157) (mB 10 255) rfl rfl (one_of HT_.out (by kernel_rfl)) (by decide) (fun K hK => ?_)
               refine goes_ Try.func31 (by kernel_rfl) rfl #[.slice tA t.length tc, .agg #[.int .i64 lo, .int .i64 yh]] (by rfl) rfl rfl vL ?_
               with_reducible refine (itv_o FT.out GT.out.1 GT.out.2 HS.out.below IY.out.1 IY.out.2.1 IY.out.2.2.1 IY.out.2.2.2.1 IY.out.2.2.2.2).mono ?_
               rintro e wk ⟨rfl, hb⟩; refine ⟨_, rfl, ?_⟩
               have n_ := Aside0.mk (HS.out.next hb); have f_ := Aside0.mk (HF.out.next hb); clear HS HF; have HS := n_; have HF := f_; clear n_ f_ hb
               refine hK.out _ _ ⟨(FX.two HF m3_).1, (FX.two HF m3_).2.1, (FX.two HF m2_).1, (FX.two HF m2_).2.1⟩ (fun hHeld => ?_)
               clear hK K
               refine nO_ 157 ?_
               exact nP_ (hJ (gu, gv) _ ⟨HS.out, HF.out.swap⟩)
             ·
              refine box_step ?hg (N := 17) ?hd (cs := #[.int .i64 0, .int .i64 0]) (t := 37) ?hr ?_; (case hd => rfl); (case hg => rfl); (case hr => first | (go_simp; done) | (go_simp; rfl))
              intro gv hg wk hbox hb
              have f_ := Aside0.mk (HF.out.made HS.out.below.size hg hbox hb); have n_ := Aside0.mk (HS.out.next hb); clear HS HF; have HS := n_; have HF := f_; clear n_ f_ hg hbox hb
              refine hK.out _ _ ⟨(FX.two HF m3_).1, (FX.two HF m3_).2.1, (FX.two HF m2_).1, (FX.two HF m2_).2.1⟩ (fun hHeld => ?_)
              clear hK K
              refine nO_ 17 ?_
              refine one_ (i := 2) (N := some 154) (mB 10 223) rfl rfl (one_of HT_.out (by kernel_rfl)) (by decide) (fun K hK => ?_)
              refine goes_ Try.func31 (by kernel_rfl) rfl #[.slice tA t.length tc, .agg #[.int .i64 lo, .int .i64 hi]] (by rfl) rfl rfl vL ?_
              with_reducible refine (itv_o FT.out GT.out.1 GT.out.2 HS.out.below II.out.1 II.out.2.1 II.out.2.2.1 II.out.2.2.2.1 II.out.2.2.2.2).mono ?_
              rintro e wk ⟨rfl, hb⟩; refine ⟨_, rfl, ?_⟩
              have n_ := Aside0.mk (HS.out.next hb); have f_ := Aside0.mk (HF.out.next hb); clear HS HF; have HS := n_; have HF := f_; clear n_ f_ hb
              refine hK.out _ _ ⟨(FX.two HF m3_).1, (FX.two HF m3_).2.1, (FX.two HF m2_).1, (FX.two HF m2_).2.1⟩ (fun hHeld => ?_)
              clear hK K
              refine nO_ 154 ?_
              refine one_ (i := 5) (N := some 157) (mB 10 255) rfl rfl (one_of HT_.out (by kernel_rfl)) (by decide) (fun K hK => ?_)
              refine goes_ Try.func31 (by kernel_rfl) rfl #[.slice tA t.length tc, .agg #[.int .i64 lo, .int .i64 yh]] (by rfl) rfl rfl vL ?_
              with_reducible refine (itv_o FT.out GT.out.1 GT.out.2 HS.out.below IY.out.1 IY.out.2.1 IY.out.2.2.1 IY.out.2.2.2.1 IY.out.2.2.2.2).mono ?_
              rintro e wk ⟨rfl, hb⟩; refine ⟨_, rfl, ?_⟩
              have n_ := Aside0.mk (HS.out.next hb); have f_ := Aside0.mk (HF.out.next hb); clear HS HF; have HS := n_; have HF := f_; clear n_ f_ hb
              refine hK.out _ _ ⟨(FX.two HF m3_).1, (FX.two HF m3_).2.1, (FX.two HF m2_).1, (FX.two HF m2_).2.1⟩ (fun hHeld => ?_)
              clear hK K
              refine nO_ 157 ?_
              exact nP_ (hJ (gu, gv) _ ⟨HS.out, HF.out.swap⟩)
            ·
             refine box_step ?hg (N := 17) ?hd (cs := #[.int .i64 0, .int .i64 0]) (t := 37) ?hr ?_; (case hd => rfl); (case hg => rfl); (case hr => first | (go_simp; done) | (go_simp; rfl))
             intro gv hg wk hbox hb
             have f_ := Aside0.mk (HF.out.made HS.out.below.size hg hbox hb); have n_ := Aside0.mk (HS.out.next hb); clear HS HF; have HS := n_; have HF := f_; clear n_ f_ hg hbox hb
             refine hK.out _ _ ⟨(FX.two HF m2_).1, (FX.two HF m2_).2.1, (FX.two HF m1_).1, (FX.two HF m1_).2.1⟩ (fun hHeld => ?_)
             clear hK K
             refine nO_ 17 ?_
             refine two_ (i := 2) (j := 6) (Ni := some 154) (Nj := some 16) (mB 10 159) (mB 10 219) rfl rfl rfl rfl (two_of HT_.out (by kernel_rfl)) (by decide) (by decide) (fun K hK => ?_) (fun K hK => ?_)
             ·
              refine goes_ Try.func31 (by kernel_rfl) rfl #[.slice tA t.length tc, .agg #[.int .i64 lo, .int .i64 hi]] (by rfl) rfl rfl vL ?_
              with_reducible refine (itv_o FT.out GT.out.1 GT.out.2 HS.out.below II.out.1 II.out.2.1 II.out.2.2.1 II.out.2.2.2.1 II.out.2.2.2.2).mono ?_
              rintro e wk ⟨rfl, hb⟩; refine ⟨_, rfl, ?_⟩
              have n_ := Aside0.mk (HS.out.next hb); have f_ := Aside0.mk (HF.out.next hb); clear HS HF; have HS := n_; have HF := f_; clear n_ f_ hb
              refine hK.out _ _ ⟨(FX.two HF m2_).1, (FX.two HF m2_).2.1, (FX.two HF m1_).1, (FX.two HF m1_).2.1⟩ (fun hHeld => ?_)
              clear hK K
              refine nO_ 154 ?_
              refine two_ (i := 5) (j := 6) (Ni := some 157) (Nj := some 16) (mB 10 191) (mB 10 223) rfl rfl rfl rfl (two_of HT_.out (by kernel_rfl)) (by decide) (by decide) (fun K hK => ?_) (fun K hK => ?_)
              ·
               refine goes_ Try.func31 (by kernel_rfl) rfl #[.slice tA t.length tc, .agg #[.int .i64 lo, .int .i64 yh]] (by rfl) rfl rfl vL ?_
               with_reducible refine (itv_o FT.out GT.out.1 GT.out.2 HS.out.below IY.out.1 IY.out.2.1 IY.out.2.2.1 IY.out.2.2.2.1 IY.out.2.2.2.2).mono ?_
               rintro e wk ⟨rfl, hb⟩; refine ⟨_, rfl, ?_⟩
               have n_ := Aside0.mk (HS.out.next hb); have f_ := Aside0.mk (HF.out.next hb); clear HS HF; have HS := n_; have HF := f_; clear n_ f_ hb
               refine hK.out _ _ ⟨(FX.two HF m2_).1, (FX.two HF m2_).2.1, (FX.two HF m1_).1, (FX.two HF m1_).2.1⟩ (fun hHeld => ?_)
               clear hK K
               refine nO_ 157 ?_
               refine one_ (i := 6) (N := some 16) (mB 10 255) rfl rfl (one_of HT_.out (by kernel_rfl)) (by decide) (fun K hK => ?_)
               refine box_step ?hg (N := 16) ?hd (cs := #[.int .i64 0, .int .i64 0]) (t := 37) ?hr ?_; (case hd => rfl); (case hg => rfl); (case hr => first | (go_simp; done) | (go_simp; rfl))
               intro gu hg wk hbox hb
               have f_ := Aside0.mk (HF.out.made HS.out.below.size hg hbox hb); have n_ := Aside0.mk (HS.out.next hb); clear HS HF; have HS := n_; have HF := f_; clear n_ f_ hg hbox hb
               refine hK.out _ _ ⟨(FX.two HF m3_).1, (FX.two HF m3_).2.1, (FX.two HF m2_).1, (FX.two HF m2_).2.1⟩ (fun hHeld => ?_)
               clear hK K
               refine nO_ 16 ?_
               exact nP_ (hJ (gu, gv) _ ⟨HS.out, HF.out⟩)
              ·
               refine box_step ?hg (N := 16) ?hd (cs := #[.int .i64 0, .int .i64 0]) (t := 37) ?hr ?_; (case hd => rfl); (case hg => rfl); (case hr => first | (go_simp; done) | (go_simp; rfl))
               intro gu hg wk hbox hb
               have f_ := Aside0.mk (HF.out.made HS.out.below.size hg hbox hb); have n_ := Aside0.mk (HS.out.next hb); clear HS HF; have HS := n_; have HF := f_; clear n_ f_ hg hbox hb
               refine hK.out _ _ ⟨(FX.two HF m3_).1, (FX.two HF m3_).2.1, (FX.two HF m2_).1, (FX.two HF m2_).2.1⟩ (fun hHeld => ?_)
               clear hK K
               refine nO_ 16 ?_
               refine one_ (i := 5) (N := some 157) (mB 10 255) rfl rfl (one_of HT_.out (by kernel_rfl)) (by decide) (fun K hK => ?_)
               refine goes_ Try.func31 (by kernel_rfl) rfl #[.slice tA t.length tc, .agg #[.int .i64 lo, .int .i64 yh]] (by rfl) rfl rfl vL ?_
               with_reducible refine (itv_o FT.out GT.out.1 GT.out.2 HS.out.below IY.out.1 IY.out.2.1 IY.out.2.2.1 IY.out.2.2.2.1 IY.out.2.2.2.2).mono ?_
               rintro e wk ⟨rfl, hb⟩; refine ⟨_, rfl, ?_⟩
               have n_ := Aside0.mk (HS.out.next hb); have f_ := Aside0.mk (HF.out.next hb); clear HS HF; have HS := n_; have HF := f_; clear n_ f_ hb
               refine hK.out _ _ ⟨(FX.two HF m3_).1, (FX.two HF m3_).2.1, (FX.two HF m2_).1, (FX.two HF m2_).2.1⟩ (fun hHeld => ?_)
               clear hK K
               refine nO_ 157 ?_
               exact nP_ (hJ (gu, gv) _ ⟨HS.out, HF.out⟩)
             ·
              refine box_step ?hg (N := 16) ?hd (cs := #[.int .i64 0, .int .i64 0]) (t := 37) ?hr ?_; (case hd => rfl); (case hg => rfl); (case hr => first | (go_simp; done) | (go_simp; rfl))
              intro gu hg wk hbox hb
              have f_ := Aside0.mk (HF.out.made HS.out.below.size hg hbox hb); have n_ := Aside0.mk (HS.out.next hb); clear HS HF; have HS := n_; have HF := f_; clear n_ f_ hg hbox hb
              refine hK.out _ _ ⟨(FX.two HF m3_).1, (FX.two HF m3_).2.1, (FX.two HF m2_).1, (FX.two HF m2_).2.1⟩ (fun hHeld => ?_)
              clear hK K
              refine nO_ 16 ?_
              refine one_ (i := 2) (N := some 154) (mB 10 223) rfl rfl (one_of HT_.out (by kernel_rfl)) (by decide) (fun K hK => ?_)
              refine goes_ Try.func31 (by kernel_rfl) rfl #[.slice tA t.length tc, .agg #[.int .i64 lo, .int .i64 hi]] (by rfl) rfl rfl vL ?_
              with_reducible refine (itv_o FT.out GT.out.1 GT.out.2 HS.out.below II.out.1 II.out.2.1 II.out.2.2.1 II.out.2.2.2.1 II.out.2.2.2.2).mono ?_
              rintro e wk ⟨rfl, hb⟩; refine ⟨_, rfl, ?_⟩
              have n_ := Aside0.mk (HS.out.next hb); have f_ := Aside0.mk (HF.out.next hb); clear HS HF; have HS := n_; have HF := f_; clear n_ f_ hb
              refine hK.out _ _ ⟨(FX.two HF m3_).1, (FX.two HF m3_).2.1, (FX.two HF m2_).1, (FX.two HF m2_).2.1⟩ (fun hHeld => ?_)
              clear hK K
              refine nO_ 154 ?_
              refine one_ (i := 5) (N := some 157) (mB 10 255) rfl rfl (one_of HT_.out (by kernel_rfl)) (by decide) (fun K hK => ?_)
              refine goes_ Try.func31 (by kernel_rfl) rfl #[.slice tA t.length tc, .agg #[.int .i64 lo, .int .i64 yh]] (by rfl) rfl rfl vL ?_
              with_reducible refine (itv_o FT.out GT.out.1 GT.out.2 HS.out.below IY.out.1 IY.out.2.1 IY.out.2.2.1 IY.out.2.2.2.1 IY.out.2.2.2.2).mono ?_
              rintro e wk ⟨rfl, hb⟩; refine ⟨_, rfl, ?_⟩
              have n_ := Aside0.mk (HS.out.next hb); have f_ := Aside0.mk (HF.out.next hb); clear HS HF; have HS := n_; have HF := f_; clear n_ f_ hb
              refine hK.out _ _ ⟨(FX.two HF m3_).1, (FX.two HF m3_).2.1, (FX.two HF m2_).1, (FX.two HF m2_).2.1⟩ (fun hHeld => ?_)
              clear hK K
              refine nO_ 157 ?_
              exact nP_ (hJ (gu, gv) _ ⟨HS.out, HF.out⟩)
          rintro ⟨gu, gv⟩ W4 ⟨HS4, HF4⟩
          clear HS HF hHeld
          have HS := Aside0.mk HS4; have HF := Aside0.mk HF4
          have kne := FX.nes HF4; have kne' := fun e => kne (Eq.symm e)
          clear HS4 HF4
          dsimp only at HS HF kne kne'
          obtain ⟨p0, p1, p2, p3⟩ := FX.two HF m0_; obtain ⟨q0, q1, q2, q3⟩ := FX.two HF m1_
          refine nS_ ?_
          refine last_ (i := 8) (N := none) (mB 10 511) rfl rfl (one_of HT_.out (by kernel_rfl)) (by decide) (fun K hK => ?_)
          refine skip_ (w1 := ?_) (by rfl) rfl ?_ ?_
          rotate_left
          · go_simp
            rfl
          refine hK.out _ _ ?_
          clear hK K
          refine last_ (i := 9) (N := none) (mB 10 1023) rfl rfl (one_of HT_.out (by kernel_rfl)) (by decide) (fun K hK => ?_)
          refine skip_ (w1 := ?_) (by rfl) rfl ?_ ?_
          rotate_left
          · go_simp
            rfl
          refine hK.out _ _ ?_
          clear hK K
          refine done_ (done_of HT_.out (by kernel_rfl)) ?_
          clear p0 p1 p2 p3 q0 q1 q2 q3 kne kne' HT_ HW_
          unfold OnlyN
          have f1_ := HF.out.put2 (a' := .int .i64 (dnT t lo)) (b' := .int .i64 (upT t hi)); have s1_ := OS.box2 (a' := .int .i64 (dnT t lo)) (b' := .int .i64 (upT t hi)) HS.out (HF.out.all _ m0_).1 (HF.out.all _ m0_).2 (by decide) (by decide); have f2_ := f1_.swap; have f3_ := Aside0.mk (f2_.put2 (a' := .int .i64 (dnT t lo)) (b' := .int .i64 (upT t yh))); have s3_ := Aside0.mk (OS.box2 (a' := .int .i64 (dnT t lo)) (b' := .int .i64 (upT t yh)) s1_ (f2_.all _ m0_).1 (f2_.all _ m0_).2 (by decide) (by decide)); clear HS HF f1_ f2_ s1_; have HS := s3_; have HF := f3_; clear s3_ f3_
          generalize hW5 : ((((W4.setCell ⟨gu, 0, none⟩ (.int .i64 (dnT t lo))).setCell ⟨gu, 1, none⟩ (.int .i64 (upT t hi))).setCell ⟨gv, 0, none⟩ (.int .i64 (dnT t lo))).setCell ⟨gv, 1, none⟩ (.int .i64 (upT t yh))) = W5 at HS HF ⊢; clear hW5
          go_upto_region 15 with fail
          have d1 := D1.out; have d2 := D2.out; have d3 := D3.out
          have n_ := Aside0.mk (HS.out.next (below_drew (Below.refl _ _))); have f_ := Aside0.mk (HF.out.next (below_drew (Below.refl _ _))); clear HS HF; have HS := n_; have HF := f_; clear n_ f_
          refine start_ (n := 37) (S := fun w' => w'.cell? ⟨gv, 0, none⟩ = some (.int .i64 (dnT t lo)) ∧ w'.cell? ⟨gv, 1, none⟩ = some (.int .i64 (upT t yh)) ∧ w'.cell? ⟨gu, 0, none⟩ = some (.int .i64 (dnT t lo)) ∧ w'.cell? ⟨gu, 1, none⟩ = some (.int .i64 (upT t hi)) ∧ w'.cell? ⟨gi, 0, none⟩ = some (.int .i64 lo) ∧ w'.cell? ⟨gi, 1, none⟩ = some (.int .i64 hi)) (ds := []) (mB 37 0) (by kernel_rfl) rfl (by kernel_rfl) ⟨(FX.two HF m0_).1, (FX.two HF m0_).2.1, (FX.two HF m1_).1, (FX.two HF m1_).2.1, (FX.two HF m3_).1, (FX.two HF m3_).2.1⟩ (fun hHeld => ?_)
          refine with_tabW tu_tab15 tu_bits15 (fun HT_ HW_ => ?_)
          generalize hWd : World.drew _ = Wd at HS HF hHeld ⊢; clear hWd
          refine pV_ 0 158 (mB 37 1) HT_ ?_
          refine tV_ 1 159 (mB 37 3) HT_ HW_ hHeld ?_
          refine pV_ 2 160 (mB 37 7) HT_ ?_
          refine tV_ 3 161 (mB 37 15) HT_ HW_ hHeld ?_
          refine pV_ 4 162 (mB 37 31) HT_ ?_
          refine pV_ 5 163 (mB 37 63) HT_ ?_
          refine pV_ 6 164 (mB 37 127) HT_ ?_
          refine tV_ 7 165 (mB 37 255) HT_ HW_ hHeld ?_
          refine pV_ 8 166 (mB 37 511) HT_ ?_
          refine tV_ 9 167 (mB 37 1023) HT_ HW_ hHeld ?_
          refine pV_ 10 168 (mB 37 2047) HT_ ?_
          refine pV_ 11 169 (mB 37 4095) HT_ ?_
          refine pV_ 12 170 (mB 37 8191) HT_ ?_
          refine pV_ 13 171 (mB 37 16383) HT_ ?_
          refine tV_ 14 172 (mB 37 32767) HT_ HW_ hHeld ?_
          refine pV_ 15 173 (mB 37 65535) HT_ ?_
          refine tV_ 16 174 (mB 37 131071) HT_ HW_ hHeld ?_
          refine pV_ 17 175 (mB 37 262143) HT_ ?_
          refine pV_ 18 176 (mB 37 524287) HT_ ?_
          refine pV_ 19 177 (mB 37 1048575) HT_ ?_
          refine pV_ 20 178 (mB 37 2097151) HT_ ?_
          refine tV_ 21 179 (mB 37 4194303) HT_ HW_ hHeld ?_
          refine pV_ 22 180 (mB 37 8388607) HT_ ?_
          refine tV_ 23 181 (mB 37 16777215) HT_ HW_ hHeld ?_
          refine pV_ 24 182 (mB 37 33554431) HT_ ?_
          refine pV_ 25 183 (mB 37 67108863) HT_ ?_
          refine pV_ 26 184 (mB 37 134217727) HT_ ?_
          refine pV_ 27 185 (mB 37 268435455) HT_ ?_
          refine tV_ 28 186 (mB 37 536870911) HT_ HW_ hHeld ?_
          refine tV_ 30 188 (mB 37 1610612735) HT_ HW_ hHeld ?_
          refine one_ (i := 29) (N := some 187) (mB 37 2147483647) rfl rfl (one_of HT_.out (by kernel_rfl)) (by decide) (fun K hK => ?_)
          refine goes_ Try.func31 (by kernel_rfl) rfl #[.slice tA t.length tc, .agg #[.int .i64 (dnT t lo), .int .i64 (upT t hi)]] (by rfl) rfl rfl vL ?_
          with_reducible refine (IZ.out HS.out.below).mono ?_
          rintro e wk ⟨rfl, hb⟩; refine ⟨_, rfl, ?_⟩
          have n_ := Aside0.mk (HS.out.next hb); have f_ := Aside0.mk (HF.out.next hb); clear HS HF; have HS := n_; have HF := f_; clear n_ f_ hb
          refine hK.out _ _ ⟨(FX.two HF m0_).1, (FX.two HF m0_).2.1, (FX.two HF m1_).1, (FX.two HF m1_).2.1, (FX.two HF m3_).1, (FX.two HF m3_).2.1⟩ (fun hHeld => ?_)
          clear hK K
          refine nO_ 187 ?_
          refine pV_ 31 189 (mB 37 4294967295) HT_ ?_
          refine pV_ 32 190 (mB 37 8589934591) HT_ ?_
          refine pV_ 33 191 (mB 37 17179869183) HT_ ?_
          refine one_ (i := 34) (N := some 192) (mB 37 34359738367) rfl rfl (one_of HT_.out (by kernel_rfl)) (by decide) (fun K hK => ?_)
          refine goes_ Try.func25 (by kernel_rfl) rfl #[] (by rfl) rfl rfl vL ?_
          with_reducible refine (awake13_o).mono ?_
          rintro e wk ⟨rfl, hb⟩; refine ⟨_, rfl, ?_⟩
          have n_ := Aside0.mk (HS.out.next hb); have f_ := Aside0.mk (HF.out.next hb); clear HS HF; have HS := n_; have HF := f_; clear n_ f_ hb
          refine hK.out _ _ ⟨(FX.two HF m0_).1, (FX.two HF m0_).2.1, (FX.two HF m1_).1, (FX.two HF m1_).2.1, (FX.two HF m3_).1, (FX.two HF m3_).2.1⟩ (fun hHeld => ?_)
          clear hK K
          refine nO_ 192 ?_
          refine pV_ 35 193 (mB 37 68719476735) HT_ ?_
          refine pV_ 36 10 (mB 37 137438953471) HT_ ?_
          refine done_ (done_of HT_.out (by kernel_rfl)) ?_
          clear HT_ HW_ hHeld
          try go_wp2
          all_goals (go_ret; exact ⟨rfl, OS.bel HS⟩)
      · have q6 : ((pv.m.length : Int) != (X.m.length : Int)) = true := bne_iff_ne.mpr cp
        have EP1 : Aside0 (pv.e = true) := ⟨lp.resolve_right (fun h => cp (by rw [h.2]))⟩
        clear cp lp
        by_cases cq : (qv.m.length : Int) = (cv.m.length : Int)
        · have q19 : ((qv.m.length : Int) != (cv.m.length : Int)) = false := bne_eq_false_iff_eq.mpr cq
          clear cq lq
          have n_ := Aside0.mk (HS.out.next (below_drew (Below.refl _ _))); have f_ := Aside0.mk (HF.out.next (below_drew (Below.refl _ _))); clear HS HF; have HS := n_; have HF := f_; clear n_ f_
          refine start_ (n := 56) (S := fun w' => w'.cell? ⟨gq, 0, none⟩ = some (.slice qv.P qv.v.length qv.p) ∧ w'.cell? ⟨gq, 1, none⟩ = some (.slice qv.Q qv.m.length qv.q) ∧ w'.cell? ⟨gq, 2, none⟩ = some (.bool qv.e) ∧ w'.cell? ⟨gp, 0, none⟩ = some (.slice pv.P pv.v.length pv.p) ∧ w'.cell? ⟨gp, 1, none⟩ = some (.slice pv.Q pv.m.length pv.q) ∧ w'.cell? ⟨gp, 2, none⟩ = some (.bool pv.e) ∧ w'.cell? ⟨gc, 0, none⟩ = some (.slice cv.P cv.v.length cv.p) ∧ w'.cell? ⟨gc, 1, none⟩ = some (.slice cv.Q cv.m.length cv.q) ∧ w'.cell? ⟨gc, 2, none⟩ = some (.bool cv.e) ∧ w'.cell? ⟨ga, 0, none⟩ = some (.slice X.P X.v.length X.p) ∧ w'.cell? ⟨ga, 1, none⟩ = some (.slice X.Q X.m.length X.q) ∧ w'.cell? ⟨ga, 2, none⟩ = some (.bool X.e)) (ds := []) (mB 56 0) (by kernel_rfl) rfl (by kernel_rfl) ⟨(FX.oct HF m0_).1.1, (FX.oct HF m0_).1.2.1, (FX.oct HF m0_).1.2.2, (FX.oct HF m1_).1.1, (FX.oct HF m1_).1.2.1, (FX.oct HF m1_).1.2.2, (FX.oct HF m2_).1.1, (FX.oct HF m2_).1.2.1, (FX.oct HF m2_).1.2.2, (FX.oct HF m3_).1.1, (FX.oct HF m3_).1.2.1, (FX.oct HF m3_).1.2.2⟩ (fun hHeld => ?_)
          refine with_tabW tu_tab11 tu_bits11 (fun HT_ HW_ => ?_)
          generalize hWd : World.drew _ = Wd at HS HF hHeld ⊢; clear hWd
          refine pV_ 0 86 (mB 56 1) HT_ ?_
          refine tV_ 1 87 (mB 56 3) HT_ HW_ hHeld ?_
          refine pV_ 2 88 (mB 56 7) HT_ ?_
          refine pV_ 3 89 (mB 56 15) HT_ ?_
          refine tV_ 4 90 (mB 56 31) HT_ HW_ hHeld ?_
          refine pV_ 5 91 (mB 56 63) HT_ ?_
          refine pV_ 6 92 (mB 56 127) HT_ ?_
          refine pV_ 7 93 (mB 56 255) HT_ ?_
          refine pV_ 8 94 (mB 56 511) HT_ ?_
          refine tV_ 9 95 (mB 56 1023) HT_ HW_ hHeld ?_
          have ep' := EP1.out
          refine pV_ 10 96 (mB 56 2047) HT_ ?_
          refine pV_ 11 97 (mB 56 4095) HT_ ?_
          refine pV_ 12 98 (mB 56 8191) HT_ ?_
          clear ep'
          refine pV_ 13 99 (mB 56 16383) HT_ ?_
          refine tV_ 14 100 (mB 56 32767) HT_ HW_ hHeld ?_
          refine pV_ 15 101 (mB 56 65535) HT_ ?_
          refine pV_ 16 102 (mB 56 131071) HT_ ?_
          refine tV_ 17 103 (mB 56 262143) HT_ HW_ hHeld ?_
          refine pV_ 18 104 (mB 56 524287) HT_ ?_
          refine pV_ 19 105 (mB 56 1048575) HT_ ?_
          refine pV_ 20 106 (mB 56 2097151) HT_ ?_
          refine pU_ 21 107 (mB 56 4194303) HT_ ?_
          refine pU_ 22 108 (mB 56 8388607) HT_ ?_
          refine pU_ 23 109 (mB 56 16777215) HT_ ?_
          refine pV_ 24 110 (mB 56 33554431) HT_ ?_
          refine pV_ 25 111 (mB 56 67108863) HT_ ?_
          refine pV_ 26 112 (mB 56 134217727) HT_ ?_
          refine tV_ 27 113 (mB 56 268435455) HT_ HW_ hHeld ?_
          refine one_ (i := 28) (N := some 114) (mB 56 536870911) rfl rfl (one_of HT_.out (by kernel_rfl)) (by decide) (fun K hK => ?_)
          refine goes_ Try.func19 (by kernel_rfl) rfl #[pv.val] (by rfl) rfl rfl vL ?_
          with_reducible refine (rfit_true (HS.out.own _ m1_).oc (Below.refl _ _) GP.out).mono ?_
          rintro e wk ⟨rfl, hb⟩; refine ⟨_, rfl, ?_⟩
          have n_ := Aside0.mk (HS.out.next hb); have f_ := Aside0.mk (HF.out.next hb); clear HS HF; have HS := n_; have HF := f_; clear n_ f_ hb
          refine hK.out _ _ ⟨(FX.oct HF m0_).1.1, (FX.oct HF m0_).1.2.1, (FX.oct HF m0_).1.2.2, (FX.oct HF m1_).1.1, (FX.oct HF m1_).1.2.1, (FX.oct HF m1_).1.2.2, (FX.oct HF m2_).1.1, (FX.oct HF m2_).1.2.1, (FX.oct HF m2_).1.2.2, (FX.oct HF m3_).1.1, (FX.oct HF m3_).1.2.1, (FX.oct HF m3_).1.2.2⟩ (fun hHeld => ?_)
          clear hK K
          refine nO_ 114 ?_
          refine pV_ 29 115 (mB 56 1073741823) HT_ ?_
          refine pV_ 30 116 (mB 56 2147483647) HT_ ?_
          refine pV_ 31 117 (mB 56 4294967295) HT_ ?_
          refine tV_ 32 118 (mB 56 8589934591) HT_ HW_ hHeld ?_
          refine one_ (i := 33) (N := some 119) (mB 56 17179869183) rfl rfl (one_of HT_.out (by kernel_rfl)) (by decide) (fun K hK => ?_)
          refine goes_ Try.func19 (by kernel_rfl) rfl #[qv.val] (by rfl) rfl rfl vL ?_
          with_reducible refine (rfit_true (HS.out.own _ m0_).oc (Below.refl _ _) GQ.out).mono ?_
          rintro e wk ⟨rfl, hb⟩; refine ⟨_, rfl, ?_⟩
          have n_ := Aside0.mk (HS.out.next hb); have f_ := Aside0.mk (HF.out.next hb); clear HS HF; have HS := n_; have HF := f_; clear n_ f_ hb
          refine hK.out _ _ ⟨(FX.oct HF m0_).1.1, (FX.oct HF m0_).1.2.1, (FX.oct HF m0_).1.2.2, (FX.oct HF m1_).1.1, (FX.oct HF m1_).1.2.1, (FX.oct HF m1_).1.2.2, (FX.oct HF m2_).1.1, (FX.oct HF m2_).1.2.1, (FX.oct HF m2_).1.2.2, (FX.oct HF m3_).1.1, (FX.oct HF m3_).1.2.1, (FX.oct HF m3_).1.2.2⟩ (fun hHeld => ?_)
          clear hK K
          refine nO_ 119 ?_
          refine pV_ 34 120 (mB 56 34359738367) HT_ ?_
          refine pV_ 35 121 (mB 56 68719476735) HT_ ?_
          refine pV_ 36 122 (mB 56 137438953471) HT_ ?_
          refine tV_ 37 123 (mB 56 274877906943) HT_ HW_ hHeld ?_
          refine tV_ 38 124 (mB 56 549755813887) HT_ HW_ hHeld ?_
          refine one_ (i := 39) (N := some 125) (mB 56 1099511627775) rfl rfl (one_of HT_.out (by kernel_rfl)) (by decide) (fun K hK => ?_)
          refine goes_ Try.func30 (by kernel_rfl) rfl #[X.val, pv.val] (by rfl) rfl rfl vL ?_
          with_reducible refine (rleq_as (HX.out.next HS.out.below) (HS.out.own _ m1_).oc HS.out.below GX.out GP.out L1.out).mono ?_
          rintro e wk ⟨rfl, hb⟩; refine ⟨_, rfl, ?_⟩
          have n_ := Aside0.mk (HS.out.next hb); have f_ := Aside0.mk (HF.out.next hb); clear HS HF; have HS := n_; have HF := f_; clear n_ f_ hb
          refine hK.out _ _ ⟨(FX.oct HF m0_).1.1, (FX.oct HF m0_).1.2.1, (FX.oct HF m0_).1.2.2, (FX.oct HF m1_).1.1, (FX.oct HF m1_).1.2.1, (FX.oct HF m1_).1.2.2, (FX.oct HF m2_).1.1, (FX.oct HF m2_).1.2.1, (FX.oct HF m2_).1.2.2, (FX.oct HF m3_).1.1, (FX.oct HF m3_).1.2.1, (FX.oct HF m3_).1.2.2⟩ (fun hHeld => ?_)
          clear hK K
          refine nO_ 125 ?_
          refine pV_ 40 126 (mB 56 2199023255551) HT_ ?_
          refine pV_ 41 127 (mB 56 4398046511103) HT_ ?_
          refine pV_ 42 128 (mB 56 8796093022207) HT_ ?_
          refine tV_ 43 129 (mB 56 17592186044415) HT_ HW_ hHeld ?_
          refine tV_ 44 130 (mB 56 35184372088831) HT_ HW_ hHeld ?_
          refine one_ (i := 45) (N := some 131) (mB 56 70368744177663) rfl rfl (one_of HT_.out (by kernel_rfl)) (by decide) (fun K hK => ?_)
          refine goes_ Try.func30 (by kernel_rfl) rfl #[pv.val, qv.val] (by rfl) rfl rfl vL ?_
          with_reducible refine (rleq_as (HS.out.own _ m1_).oc (HS.out.own _ m0_).oc (Below.refl _ _) GP.out GQ.out L2.out).mono ?_
          rintro e wk ⟨rfl, hb⟩; refine ⟨_, rfl, ?_⟩
          have n_ := Aside0.mk (HS.out.next hb); have f_ := Aside0.mk (HF.out.next hb); clear HS HF; have HS := n_; have HF := f_; clear n_ f_ hb
          refine hK.out _ _ ⟨(FX.oct HF m0_).1.1, (FX.oct HF m0_).1.2.1, (FX.oct HF m0_).1.2.2, (FX.oct HF m1_).1.1, (FX.oct HF m1_).1.2.1, (FX.oct HF m1_).1.2.2, (FX.oct HF m2_).1.1, (FX.oct HF m2_).1.2.1, (FX.oct HF m2_).1.2.2, (FX.oct HF m3_).1.1, (FX.oct HF m3_).1.2.1, (FX.oct HF m3_).1.2.2⟩ (fun hHeld => ?_)
          clear hK K
          refine nO_ 131 ?_
          refine pV_ 46 132 (mB 56 140737488355327) HT_ ?_
          refine pV_ 47 133 (mB 56 281474976710655) HT_ ?_
          refine pV_ 48 134 (mB 56 562949953421311) HT_ ?_
          refine pV_ 49 135 (mB 56 1125899906842623) HT_ ?_
          refine tV_ 50 136 (mB 56 2251799813685247) HT_ HW_ hHeld ?_
          refine tV_ 52 138 (mB 56 6755399441055743) HT_ HW_ hHeld ?_
          refine one_ (i := 51) (N := some 137) (mB 56 9007199254740991) rfl rfl (one_of HT_.out (by kernel_rfl)) (by decide) (fun K hK => ?_)
          refine goes_ Try.func26 (by kernel_rfl) rfl #[.slice tA t.length tc, pv.val] (by rfl) rfl rfl vL ?_
          with_reducible refine (th_own FT.out GT.out.1 GT.out.2 HS.out.below (HS.out.own _ m1_).oc (Below.refl _ _) GP.out).mono ?_
          rintro e wk ⟨zv, rfl, hz, ho, hb⟩; refine ⟨_, rfl, ?_⟩
          have n_ := Aside0.mk (HS.out.call hb ho); have f_ := Aside0.mk (HF.out.next hb); clear HS HF; have HS := n_; have HF := f_; clear n_ f_ ho hb
          refine hK.out _ _ ⟨(FX.oct HF m0_).1.1, (FX.oct HF m0_).1.2.1, (FX.oct HF m0_).1.2.2, (FX.oct HF m1_).1.1, (FX.oct HF m1_).1.2.1, (FX.oct HF m1_).1.2.2, (FX.oct HF m2_).1.1, (FX.oct HF m2_).1.2.1, (FX.oct HF m2_).1.2.2, (FX.oct HF m3_).1.1, (FX.oct HF m3_).1.2.1, (FX.oct HF m3_).1.2.2⟩ (fun hHeld => ?_)
          clear hK K
          refine nO_ 137 ?_
          refine one_ (i := 53) (N := some 139) (mB 56 18014398509481983) rfl rfl (one_of HT_.out (by kernel_rfl)) (by decide) (fun K hK => ?_)
          refine goes_ Try.func15 (by kernel_rfl) rfl #[zv.val, pv.val] (by rfl) rfl rfl vL ?_
          with_reducible refine (equal_o (HS.out.own _ m0_).oc (HS.out.own _ m2_).oc (Below.refl _ _) (hz.trans EP.out) (LZ.out _ (hz.trans EP.out)).1 (LZ.out _ (hz.trans EP.out)).2).mono ?_
          rintro e wk ⟨rfl, hb⟩; refine ⟨_, rfl, ?_⟩
          have n_ := Aside0.mk (HS.out.next hb); have f_ := Aside0.mk (HF.out.next hb); clear HS HF; have HS := n_; have HF := f_; clear n_ f_ hb
          refine hK.out _ _ ⟨(FX.oct HF m0_).1.1, (FX.oct HF m0_).1.2.1, (FX.oct HF m0_).1.2.2, (FX.oct HF m1_).1.1, (FX.oct HF m1_).1.2.1, (FX.oct HF m1_).1.2.2, (FX.oct HF m2_).1.1, (FX.oct HF m2_).1.2.1, (FX.oct HF m2_).1.2.2, (FX.oct HF m3_).1.1, (FX.oct HF m3_).1.2.1, (FX.oct HF m3_).1.2.2⟩ (fun hHeld => ?_)
          clear hK K
          refine nO_ 139 ?_
          refine pV_ 54 140 (mB 56 36028797018963967) HT_ ?_
          refine pV_ 55 141 (mB 56 72057594037927935) HT_ ?_
          refine done_ (done_of HT_.out (by kernel_rfl)) ?_
          clear HT_ HW_ hHeld
          have n_ := Aside0.mk (HS.out.sub (List.nil_sublist _)); have f_ := Aside0.mk (HF.out.sub (fs' := [(gi, .cells #[.int .i64 lo, .int .i64 hi] 37 (0, 0))]) (.cons _ (.cons _ (.cons _ (.cons _ (.cons _ (List.Sublist.refl _))))))); clear HS HF; have HS := n_; have HF := f_; clear n_ f_
          go_upto_region 13 with fail
          obtain ⟨ki0, ki1, fi0, fi1⟩ := FX.two HF m0_
          go_upto_region 14 with (first | ((with_reducible refine gate_dst (N := 15) rfl ?_); refine box_event ?hg (N := 15) ?hd (cs := #[.int .i64 0, .int .i64 0]) (t := 37) ?hr ?_; (case hd => rfl); (case hg => rfl); (case hr => first | (go_simp; done) | (go_simp; rfl)); intro gy hg wk hbox hb; have f_ := Aside0.mk ((FX.to HF).made (OS.bel HS).size hg hbox hb); have n_ := Aside0.mk ((OS.to HS).next hb); clear HS HF; have HS := n_; have HF := f_; clear n_ f_ hg hbox hb; obtain ⟨p0, p1, p2, p3⟩ := FX.two HF m0_))
          rw [YH.out]
          have f_ := Aside0.mk (HF.out.put2 (a' := .int .i64 lo) (b' := .int .i64 yh)); have n_ := Aside0.mk (OS.box2 (a' := .int .i64 lo) (b' := .int .i64 yh) HS.out (HF.out.all _ m0_).1 (HF.out.all _ m0_).2 (by decide) (by decide)); clear HS HF p0 p1 p2 p3 ki0 ki1 fi0 fi1; have HS := n_; have HF := f_; clear n_ f_
          generalize hW : ((World.setCell _ ⟨gy, 0, none⟩ (.int .i64 lo)).setCell ⟨gy, 1, none⟩ (.int .i64 yh)) = W9 at HS HF ⊢; clear hW
          have n_ := Aside0.mk (HS.out.next (below_drew (Below.refl _ _))); have f_ := Aside0.mk (HF.out.next (below_drew (Below.refl _ _))); clear HS HF; have HS := n_; have HF := f_; clear n_ f_
          refine startN_ (n := 10) (S := fun w' => w'.cell? ⟨gi, 0, none⟩ = some (.int .i64 lo) ∧ w'.cell? ⟨gi, 1, none⟩ = some (.int .i64 hi) ∧ w'.cell? ⟨gy, 0, none⟩ = some (.int .i64 lo) ∧ w'.cell? ⟨gy, 1, none⟩ = some (.int .i64 yh)) (ds := [8, 9]) (mB 10 0) (by kernel_rfl) rfl (by kernel_rfl) ⟨(FX.two HF m1_).1, (FX.two HF m1_).2.1, (FX.two HF m0_).1, (FX.two HF m0_).2.1⟩ (fun hHeld => ?_)
          refine with_tabW tu_tab14 tu_bits14 (fun HT_ HW_ => ?_)
          generalize hWd : World.drew _ = Wd at HS HF hHeld ⊢; clear hWd
          refine pV_ 0 152 (mB 10 1) HT_ ?_
          refine tV_ 1 153 (mB 10 3) HT_ HW_ hHeld ?_
          refine pV_ 3 155 (mB 10 11) HT_ ?_
          refine tV_ 4 156 (mB 10 27) HT_ HW_ hHeld ?_
          refine join_ (σ := Nat × Nat) 2 (mB 10 255) (fun s_ => [(154, .agg #[.int .i64 (dnT t lo), .int .i64 (upT t hi)]), (157, .agg #[.int .i64 (dnT t lo), .int .i64 (upT t yh)]), (16, .pointer (some ⟨s_.1, 0, none⟩)), (17, .pointer (some ⟨s_.2, 0, none⟩))]) (fun s_ w' => OS w [] w' ∧ FX w ((s_.1, .cells #[.int .i64 0, .int .i64 0] 37 (0, 0)) :: (s_.2, .cells #[.int .i64 0, .int .i64 0] 37 (0, 0)) :: [(gy, .cells #[.int .i64 lo, .int .i64 yh] 37 (0, 0)), (gi, .cells #[.int .i64 lo, .int .i64 hi] 37 (0, 0))]) w') ?_ ?_
          rotate_left
          · intro hJ
            refine three_ (i := 2) (j := 6) (k := 7) (Ni := some 154) (Nj := some 16) (Nk := some 17) (mB 10 31) (mB 10 91) (mB 10 155) rfl rfl rfl rfl rfl rfl (three_of HT_.out (by kernel_rfl)) (by decide) (by decide) (by decide) (fun K hK => ?_) (fun K hK => ?_) (fun K hK => ?_)
            ·
             refine goes_ Try.func31 (by kernel_rfl) rfl #[.slice tA t.length tc, .agg #[.int .i64 lo, .int .i64 hi]] (by rfl) rfl rfl vL ?_
             with_reducible refine (itv_o FT.out GT.out.1 GT.out.2 HS.out.below II.out.1 II.out.2.1 II.out.2.2.1 II.out.2.2.2.1 II.out.2.2.2.2).mono ?_
             rintro e wk ⟨rfl, hb⟩; refine ⟨_, rfl, ?_⟩
             have n_ := Aside0.mk (HS.out.next hb); have f_ := Aside0.mk (HF.out.next hb); clear HS HF; have HS := n_; have HF := f_; clear n_ f_ hb
             refine hK.out _ _ ⟨(FX.two HF m1_).1, (FX.two HF m1_).2.1, (FX.two HF m0_).1, (FX.two HF m0_).2.1⟩ (fun hHeld => ?_)
             clear hK K
             refine nO_ 154 ?_
             refine three_ (i := 5) (j := 6) (k := 7) (Ni := some 157) (Nj := some 16) (Nk := some 17) (mB 10 63) (mB 10 95) (mB 10 159) rfl rfl rfl rfl rfl rfl (three_of HT_.out (by kernel_rfl)) (by decide) (by decide) (by decide) (fun K hK => ?_) (fun K hK => ?_) (fun K hK => ?_)
             ·
              refine goes_ Try.func31 (by kernel_rfl) rfl #[.slice tA t.length tc, .agg #[.int .i64 lo, .int .i64 yh]] (by rfl) rfl rfl vL ?_
              with_reducible refine (itv_o FT.out GT.out.1 GT.out.2 HS.out.below IY.out.1 IY.out.2.1 IY.out.2.2.1 IY.out.2.2.2.1 IY.out.2.2.2.2).mono ?_
              rintro e wk ⟨rfl, hb⟩; refine ⟨_, rfl, ?_⟩
              have n_ := Aside0.mk (HS.out.next hb); have f_ := Aside0.mk (HF.out.next hb); clear HS HF; have HS := n_; have HF := f_; clear n_ f_ hb
              refine hK.out _ _ ⟨(FX.two HF m1_).1, (FX.two HF m1_).2.1, (FX.two HF m0_).1, (FX.two HF m0_).2.1⟩ (fun hHeld => ?_)
              clear hK K
              refine nO_ 157 ?_
              refine two_ (i := 6) (j := 7) (Ni := some 16) (Nj := some 17) (mB 10 127) (mB 10 191) rfl rfl rfl rfl (two_of HT_.out (by kernel_rfl)) (by decide) (by decide) (fun K hK => ?_) (fun K hK => ?_)
              ·
               refine box_step ?hg (N := 16) ?hd (cs := #[.int .i64 0, .int .i64 0]) (t := 37) ?hr ?_; (case hd => rfl); (case hg => rfl); (case hr => first | (go_simp; done) | (go_simp; rfl))
               intro gu hg wk hbox hb
               have f_ := Aside0.mk (HF.out.made HS.out.below.size hg hbox hb); have n_ := Aside0.mk (HS.out.next hb); clear HS HF; have HS := n_; have HF := f_; clear n_ f_ hg hbox hb
               refine hK.out _ _ ⟨(FX.two HF m2_).1, (FX.two HF m2_).2.1, (FX.two HF m1_).1, (FX.two HF m1_).2.1⟩ (fun hHeld => ?_)
               clear hK K
               refine nO_ 16 ?_
               refine one_ (i := 7) (N := some 17) (mB 10 255) rfl rfl (one_of HT_.out (by kernel_rfl)) (by decide) (fun K hK => ?_)
               refine box_step ?hg (N := 17) ?hd (cs := #[.int .i64 0, .int .i64 0]) (t := 37) ?hr ?_; (case hd => rfl); (case hg => rfl); (case hr => first | (go_simp; done) | (go_simp; rfl))
               intro gv hg wk hbox hb
               have f_ := Aside0.mk (HF.out.made HS.out.below.size hg hbox hb); have n_ := Aside0.mk (HS.out.next hb); clear HS HF; have HS := n_; have HF := f_; clear n_ f_ hg hbox hb
               refine hK.out _ _ ⟨(FX.two HF m3_).1, (FX.two HF m3_).2.1, (FX.two HF m2_).1, (FX.two HF m2_).2.1⟩ (fun hHeld => ?_)
               clear hK K
               refine nO_ 17 ?_
               exact nP_ (hJ (gu, gv) _ ⟨HS.out, HF.out.swap⟩)
              ·
               refine box_step ?hg (N := 17) ?hd (cs := #[.int .i64 0, .int .i64 0]) (t := 37) ?hr ?_; (case hd => rfl); (case hg => rfl); (case hr => first | (go_simp; done) | (go_simp; rfl))
               intro gv hg wk hbox hb
               have f_ := Aside0.mk (HF.out.made HS.out.below.size hg hbox hb); have n_ := Aside0.mk (HS.out.next hb); clear HS HF; have HS := n_; have HF := f_; clear n_ f_ hg hbox hb
               refine hK.out _ _ ⟨(FX.two HF m2_).1, (FX.two HF m2_).2.1, (FX.two HF m1_).1, (FX.two HF m1_).2.1⟩ (fun hHeld => ?_)
               clear hK K
               refine nO_ 17 ?_
               refine one_ (i := 6) (N := some 16) (mB 10 255) rfl rfl (one_of HT_.out (by kernel_rfl)) (by decide) (fun K hK => ?_)
               refine box_step ?hg (N := 16) ?hd (cs := #[.int .i64 0, .int .i64 0]) (t := 37) ?hr ?_; (case hd => rfl); (case hg => rfl); (case hr => first | (go_simp; done) | (go_simp; rfl))
               intro gu hg wk hbox hb
               have f_ := Aside0.mk (HF.out.made HS.out.below.size hg hbox hb); have n_ := Aside0.mk (HS.out.next hb); clear HS HF; have HS := n_; have HF := f_; clear n_ f_ hg hbox hb
               refine hK.out _ _ ⟨(FX.two HF m3_).1, (FX.two HF m3_).2.1, (FX.two HF m2_).1, (FX.two HF m2_).2.1⟩ (fun hHeld => ?_)
               clear hK K
               refine nO_ 16 ?_
               exact nP_ (hJ (gu, gv) _ ⟨HS.out, HF.out⟩)
             ·
              refine box_step ?hg (N := 16) ?hd (cs := #[.int .i64 0, .int .i64 0]) (t := 37) ?hr ?_; (case hd => rfl); (case hg => rfl); (case hr => first | (go_simp; done) | (go_simp; rfl))
              intro gu hg wk hbox hb
              have f_ := Aside0.mk (HF.out.made HS.out.below.size hg hbox hb); have n_ := Aside0.mk (HS.out.next hb); clear HS HF; have HS := n_; have HF := f_; clear n_ f_ hg hbox hb
              refine hK.out _ _ ⟨(FX.two HF m2_).1, (FX.two HF m2_).2.1, (FX.two HF m1_).1, (FX.two HF m1_).2.1⟩ (fun hHeld => ?_)
              clear hK K
              refine nO_ 16 ?_
              refine two_ (i := 5) (j := 7) (Ni := some 157) (Nj := some 17) (mB 10 127) (mB 10 223) rfl rfl rfl rfl (two_of HT_.out (by kernel_rfl)) (by decide) (by decide) (fun K hK => ?_) (fun K hK => ?_)
              ·
               refine goes_ Try.func31 (by kernel_rfl) rfl #[.slice tA t.length tc, .agg #[.int .i64 lo, .int .i64 yh]] (by rfl) rfl rfl vL ?_
               with_reducible refine (itv_o FT.out GT.out.1 GT.out.2 HS.out.below IY.out.1 IY.out.2.1 IY.out.2.2.1 IY.out.2.2.2.1 IY.out.2.2.2.2).mono ?_
               rintro e wk ⟨rfl, hb⟩; refine ⟨_, rfl, ?_⟩
               have n_ := Aside0.mk (HS.out.next hb); have f_ := Aside0.mk (HF.out.next hb); clear HS HF; have HS := n_; have HF := f_; clear n_ f_ hb
               refine hK.out _ _ ⟨(FX.two HF m2_).1, (FX.two HF m2_).2.1, (FX.two HF m1_).1, (FX.two HF m1_).2.1⟩ (fun hHeld => ?_)
               clear hK K
               refine nO_ 157 ?_
               refine one_ (i := 7) (N := some 17) (mB 10 255) rfl rfl (one_of HT_.out (by kernel_rfl)) (by decide) (fun K hK => ?_)
               refine box_step ?hg (N := 17) ?hd (cs := #[.int .i64 0, .int .i64 0]) (t := 37) ?hr ?_; (case hd => rfl); (case hg => rfl); (case hr => first | (go_simp; done) | (go_simp; rfl))
               intro gv hg wk hbox hb
               have f_ := Aside0.mk (HF.out.made HS.out.below.size hg hbox hb); have n_ := Aside0.mk (HS.out.next hb); clear HS HF; have HS := n_; have HF := f_; clear n_ f_ hg hbox hb
               refine hK.out _ _ ⟨(FX.two HF m3_).1, (FX.two HF m3_).2.1, (FX.two HF m2_).1, (FX.two HF m2_).2.1⟩ (fun hHeld => ?_)
               clear hK K
               refine nO_ 17 ?_
               exact nP_ (hJ (gu, gv) _ ⟨HS.out, HF.out.swap⟩)
              ·
               refine box_step ?hg (N := 17) ?hd (cs := #[.int .i64 0, .int .i64 0]) (t := 37) ?hr ?_; (case hd => rfl); (case hg => rfl); (case hr => first | (go_simp; done) | (go_simp; rfl))
               intro gv hg wk hbox hb
               have f_ := Aside0.mk (HF.out.made HS.out.below.size hg hbox hb); have n_ := Aside0.mk (HS.out.next hb); clear HS HF; have HS := n_; have HF := f_; clear n_ f_ hg hbox hb
               refine hK.out _ _ ⟨(FX.two HF m3_).1, (FX.two HF m3_).2.1, (FX.two HF m2_).1, (FX.two HF m2_).2.1⟩ (fun hHeld => ?_)
               clear hK K
               refine nO_ 17 ?_
               refine one_ (i := 5) (N := some 157) (mB 10 255) rfl rfl (one_of HT_.out (by kernel_rfl)) (by decide) (fun K hK => ?_)
               refine goes_ Try.func31 (by kernel_rfl) rfl #[.slice tA t.length tc, .agg #[.int .i64 lo, .int .i64 yh]] (by rfl) rfl rfl vL ?_
               with_reducible refine (itv_o FT.out GT.out.1 GT.out.2 HS.out.below IY.out.1 IY.out.2.1 IY.out.2.2.1 IY.out.2.2.2.1 IY.out.2.2.2.2).mono ?_
               rintro e wk ⟨rfl, hb⟩; refine ⟨_, rfl, ?_⟩
               have n_ := Aside0.mk (HS.out.next hb); have f_ := Aside0.mk (HF.out.next hb); clear HS HF; have HS := n_; have HF := f_; clear n_ f_ hb
               refine hK.out _ _ ⟨(FX.two HF m3_).1, (FX.two HF m3_).2.1, (FX.two HF m2_).1, (FX.two HF m2_).2.1⟩ (fun hHeld => ?_)
               clear hK K
               refine nO_ 157 ?_
               exact nP_ (hJ (gu, gv) _ ⟨HS.out, HF.out.swap⟩)
             ·
              refine box_step ?hg (N := 17) ?hd (cs := #[.int .i64 0, .int .i64 0]) (t := 37) ?hr ?_; (case hd => rfl); (case hg => rfl); (case hr => first | (go_simp; done) | (go_simp; rfl))
              intro gv hg wk hbox hb
              have f_ := Aside0.mk (HF.out.made HS.out.below.size hg hbox hb); have n_ := Aside0.mk (HS.out.next hb); clear HS HF; have HS := n_; have HF := f_; clear n_ f_ hg hbox hb
              refine hK.out _ _ ⟨(FX.two HF m2_).1, (FX.two HF m2_).2.1, (FX.two HF m1_).1, (FX.two HF m1_).2.1⟩ (fun hHeld => ?_)
              clear hK K
              refine nO_ 17 ?_
              refine two_ (i := 5) (j := 6) (Ni := some 157) (Nj := some 16) (mB 10 191) (mB 10 223) rfl rfl rfl rfl (two_of HT_.out (by kernel_rfl)) (by decide) (by decide) (fun K hK => ?_) (fun K hK => ?_)
              ·
               refine goes_ Try.func31 (by kernel_rfl) rfl #[.slice tA t.length tc, .agg #[.int .i64 lo, .int .i64 yh]] (by rfl) rfl rfl vL ?_
               with_reducible refine (itv_o FT.out GT.out.1 GT.out.2 HS.out.below IY.out.1 IY.out.2.1 IY.out.2.2.1 IY.out.2.2.2.1 IY.out.2.2.2.2).mono ?_
               rintro e wk ⟨rfl, hb⟩; refine ⟨_, rfl, ?_⟩
               have n_ := Aside0.mk (HS.out.next hb); have f_ := Aside0.mk (HF.out.next hb); clear HS HF; have HS := n_; have HF := f_; clear n_ f_ hb
               refine hK.out _ _ ⟨(FX.two HF m2_).1, (FX.two HF m2_).2.1, (FX.two HF m1_).1, (FX.two HF m1_).2.1⟩ (fun hHeld => ?_)
               clear hK K
               refine nO_ 157 ?_
               refine one_ (i := 6) (N := some 16) (mB 10 255) rfl rfl (one_of HT_.out (by kernel_rfl)) (by decide) (fun K hK => ?_)
               refine box_step ?hg (N := 16) ?hd (cs := #[.int .i64 0, .int .i64 0]) (t := 37) ?hr ?_; (case hd => rfl); (case hg => rfl); (case hr => first | (go_simp; done) | (go_simp; rfl))
               intro gu hg wk hbox hb
               have f_ := Aside0.mk (HF.out.made HS.out.below.size hg hbox hb); have n_ := Aside0.mk (HS.out.next hb); clear HS HF; have HS := n_; have HF := f_; clear n_ f_ hg hbox hb
               refine hK.out _ _ ⟨(FX.two HF m3_).1, (FX.two HF m3_).2.1, (FX.two HF m2_).1, (FX.two HF m2_).2.1⟩ (fun hHeld => ?_)
               clear hK K
               refine nO_ 16 ?_
               exact nP_ (hJ (gu, gv) _ ⟨HS.out, HF.out⟩)
              ·
               refine box_step ?hg (N := 16) ?hd (cs := #[.int .i64 0, .int .i64 0]) (t := 37) ?hr ?_; (case hd => rfl); (case hg => rfl); (case hr => first | (go_simp; done) | (go_simp; rfl))
               intro gu hg wk hbox hb
               have f_ := Aside0.mk (HF.out.made HS.out.below.size hg hbox hb); have n_ := Aside0.mk (HS.out.next hb); clear HS HF; have HS := n_; have HF := f_; clear n_ f_ hg hbox hb
               refine hK.out _ _ ⟨(FX.two HF m3_).1, (FX.two HF m3_).2.1, (FX.two HF m2_).1, (FX.two HF m2_).2.1⟩ (fun hHeld => ?_)
               clear hK K
               refine nO_ 16 ?_
               refine one_ (i := 5) (N := some 157) (mB 10 255) rfl rfl (one_of HT_.out (by kernel_rfl)) (by decide) (fun K hK => ?_)
               refine goes_ Try.func31 (by kernel_rfl) rfl #[.slice tA t.length tc, .agg #[.int .i64 lo, .int .i64 yh]] (by rfl) rfl rfl vL ?_
               with_reducible refine (itv_o FT.out GT.out.1 GT.out.2 HS.out.below IY.out.1 IY.out.2.1 IY.out.2.2.1 IY.out.2.2.2.1 IY.out.2.2.2.2).mono ?_
               rintro e wk ⟨rfl, hb⟩; refine ⟨_, rfl, ?_⟩
               have n_ := Aside0.mk (HS.out.next hb); have f_ := Aside0.mk (HF.out.next hb); clear HS HF; have HS := n_; have HF := f_; clear n_ f_ hb
               refine hK.out _ _ ⟨(FX.two HF m3_).1, (FX.two HF m3_).2.1, (FX.two HF m2_).1, (FX.two HF m2_).2.1⟩ (fun hHeld => ?_)
               clear hK K
               refine nO_ 157 ?_
               exact nP_ (hJ (gu, gv) _ ⟨HS.out, HF.out⟩)
            ·
             refine box_step ?hg (N := 16) ?hd (cs := #[.int .i64 0, .int .i64 0]) (t := 37) ?hr ?_; (case hd => rfl); (case hg => rfl); (case hr => first | (go_simp; done) | (go_simp; rfl))
             intro gu hg wk hbox hb
             have f_ := Aside0.mk (HF.out.made HS.out.below.size hg hbox hb); have n_ := Aside0.mk (HS.out.next hb); clear HS HF; have HS := n_; have HF := f_; clear n_ f_ hg hbox hb
             refine hK.out _ _ ⟨(FX.two HF m2_).1, (FX.two HF m2_).2.1, (FX.two HF m1_).1, (FX.two HF m1_).2.1⟩ (fun hHeld => ?_)
             clear hK K
             refine nO_ 16 ?_
             refine two_ (i := 2) (j := 7) (Ni := some 154) (Nj := some 17) (mB 10 95) (mB 10 219) rfl rfl rfl rfl (two_of HT_.out (by kernel_rfl)) (by decide) (by decide) (fun K hK => ?_) (fun K hK => ?_)
             ·
              refine goes_ Try.func31 (by kernel_rfl) rfl #[.slice tA t.length tc, .agg #[.int .i64 lo, .int .i64 hi]] (by rfl) rfl rfl vL ?_
              with_reducible refine (itv_o FT.out GT.out.1 GT.out.2 HS.out.below II.out.1 II.out.2.1 II.out.2.2.1 II.out.2.2.2.1 II.out.2.2.2.2).mono ?_
              rintro e wk ⟨rfl, hb⟩; refine ⟨_, rfl, ?_⟩
              have n_ := Aside0.mk (HS.out.next hb); have f_ := Aside0.mk (HF.out.next hb); clear HS HF; have HS := n_; have HF := f_; clear n_ f_ hb
              refine hK.out _ _ ⟨(FX.two HF m2_).1, (FX.two HF m2_).2.1, (FX.two HF m1_).1, (FX.two HF m1_).2.1⟩ (fun hHeld => ?_)
              clear hK K
              refine nO_ 154 ?_
              refine two_ (i := 5) (j := 7) (Ni := some 157) (Nj := some 17) (mB 10 127) (mB 10 223) rfl rfl rfl rfl (two_of HT_.out (by kernel_rfl)) (by decide) (by decide) (fun K hK => ?_) (fun K hK => ?_)
              ·
               refine goes_ Try.func31 (by kernel_rfl) rfl #[.slice tA t.length tc, .agg #[.int .i64 lo, .int .i64 yh]] (by rfl) rfl rfl vL ?_
               with_reducible refine (itv_o FT.out GT.out.1 GT.out.2 HS.out.below IY.out.1 IY.out.2.1 IY.out.2.2.1 IY.out.2.2.2.1 IY.out.2.2.2.2).mono ?_
               rintro e wk ⟨rfl, hb⟩; refine ⟨_, rfl, ?_⟩
               have n_ := Aside0.mk (HS.out.next hb); have f_ := Aside0.mk (HF.out.next hb); clear HS HF; have HS := n_; have HF := f_; clear n_ f_ hb
               refine hK.out _ _ ⟨(FX.two HF m2_).1, (FX.two HF m2_).2.1, (FX.two HF m1_).1, (FX.two HF m1_).2.1⟩ (fun hHeld => ?_)
               clear hK K
               refine nO_ 157 ?_
               refine one_ (i := 7) (N := some 17) (mB 10 255) rfl rfl (one_of HT_.out (by kernel_rfl)) (by decide) (fun K hK => ?_)
               refine box_step ?hg (N := 17) ?hd (cs := #[.int .i64 0, .int .i64 0]) (t := 37) ?hr ?_; (case hd => rfl); (case hg => rfl); (case hr => first | (go_simp; done) | (go_simp; rfl))
               intro gv hg wk hbox hb
               have f_ := Aside0.mk (HF.out.made HS.out.below.size hg hbox hb); have n_ := Aside0.mk (HS.out.next hb); clear HS HF; have HS := n_; have HF := f_; clear n_ f_ hg hbox hb
               refine hK.out _ _ ⟨(FX.two HF m3_).1, (FX.two HF m3_).2.1, (FX.two HF m2_).1, (FX.two HF m2_).2.1⟩ (fun hHeld => ?_)
               clear hK K
               refine nO_ 17 ?_
               exact nP_ (hJ (gu, gv) _ ⟨HS.out, HF.out.swap⟩)
              ·
               refine box_step ?hg (N := 17) ?hd (cs := #[.int .i64 0, .int .i64 0]) (t := 37) ?hr ?_; (case hd => rfl); (case hg => rfl); (case hr => first | (go_simp; done) | (go_simp; rfl))
               intro gv hg wk hbox hb
               have f_ := Aside0.mk (HF.out.made HS.out.below.size hg hbox hb); have n_ := Aside0.mk (HS.out.next hb); clear HS HF; have HS := n_; have HF := f_; clear n_ f_ hg hbox hb
               refine hK.out _ _ ⟨(FX.two HF m3_).1, (FX.two HF m3_).2.1, (FX.two HF m2_).1, (FX.two HF m2_).2.1⟩ (fun hHeld => ?_)
               clear hK K
               refine nO_ 17 ?_
               refine one_ (i := 5) (N := some 157) (mB 10 255) rfl rfl (one_of HT_.out (by kernel_rfl)) (by decide) (fun K hK => ?_)
               refine goes_ Try.func31 (by kernel_rfl) rfl #[.slice tA t.length tc, .agg #[.int .i64 lo, .int .i64 yh]] (by rfl) rfl rfl vL ?_
               with_reducible refine (itv_o FT.out GT.out.1 GT.out.2 HS.out.below IY.out.1 IY.out.2.1 IY.out.2.2.1 IY.out.2.2.2.1 IY.out.2.2.2.2).mono ?_
               rintro e wk ⟨rfl, hb⟩; refine ⟨_, rfl, ?_⟩
               have n_ := Aside0.mk (HS.out.next hb); have f_ := Aside0.mk (HF.out.next hb); clear HS HF; have HS := n_; have HF := f_; clear n_ f_ hb
               refine hK.out _ _ ⟨(FX.two HF m3_).1, (FX.two HF m3_).2.1, (FX.two HF m2_).1, (FX.two HF m2_).2.1⟩ (fun hHeld => ?_)
               clear hK K
               refine nO_ 157 ?_
               exact nP_ (hJ (gu, gv) _ ⟨HS.out, HF.out.swap⟩)
             ·
              refine box_step ?hg (N := 17) ?hd (cs := #[.int .i64 0, .int .i64 0]) (t := 37) ?hr ?_; (case hd => rfl); (case hg => rfl); (case hr => first | (go_simp; done) | (go_simp; rfl))
              intro gv hg wk hbox hb
              have f_ := Aside0.mk (HF.out.made HS.out.below.size hg hbox hb); have n_ := Aside0.mk (HS.out.next hb); clear HS HF; have HS := n_; have HF := f_; clear n_ f_ hg hbox hb
              refine hK.out _ _ ⟨(FX.two HF m3_).1, (FX.two HF m3_).2.1, (FX.two HF m2_).1, (FX.two HF m2_).2.1⟩ (fun hHeld => ?_)
              clear hK K
              refine nO_ 17 ?_
              refine one_ (i := 2) (N := some 154) (mB 10 223) rfl rfl (one_of HT_.out (by kernel_rfl)) (by decide) (fun K hK => ?_)
              refine goes_ Try.func31 (by kernel_rfl) rfl #[.slice tA t.length tc, .agg #[.int .i64 lo, .int .i64 hi]] (by rfl) rfl rfl vL ?_
              with_reducible refine (itv_o FT.out GT.out.1 GT.out.2 HS.out.below II.out.1 II.out.2.1 II.out.2.2.1 II.out.2.2.2.1 II.out.2.2.2.2).mono ?_
              rintro e wk ⟨rfl, hb⟩; refine ⟨_, rfl, ?_⟩
              have n_ := Aside0.mk (HS.out.next hb); have f_ := Aside0.mk (HF.out.next hb); clear HS HF; have HS := n_; have HF := f_; clear n_ f_ hb
              refine hK.out _ _ ⟨(FX.two HF m3_).1, (FX.two HF m3_).2.1, (FX.two HF m2_).1, (FX.two HF m2_).2.1⟩ (fun hHeld => ?_)
              clear hK K
              refine nO_ 154 ?_
              refine one_ (i := 5) (N := some 157) (mB 10 255) rfl rfl (one_of HT_.out (by kernel_rfl)) (by decide) (fun K hK => ?_)
              refine goes_ Try.func31 (by kernel_rfl) rfl #[.slice tA t.length tc, .agg #[.int .i64 lo, .int .i64 yh]] (by rfl) rfl rfl vL ?_
              with_reducible refine (itv_o FT.out GT.out.1 GT.out.2 HS.out.below IY.out.1 IY.out.2.1 IY.out.2.2.1 IY.out.2.2.2.1 IY.out.2.2.2.2).mono ?_
              rintro e wk ⟨rfl, hb⟩; refine ⟨_, rfl, ?_⟩
              have n_ := Aside0.mk (HS.out.next hb); have f_ := Aside0.mk (HF.out.next hb); clear HS HF; have HS := n_; have HF := f_; clear n_ f_ hb
              refine hK.out _ _ ⟨(FX.two HF m3_).1, (FX.two HF m3_).2.1, (FX.two HF m2_).1, (FX.two HF m2_).2.1⟩ (fun hHeld => ?_)
              clear hK K
              refine nO_ 157 ?_
              exact nP_ (hJ (gu, gv) _ ⟨HS.out, HF.out.swap⟩)
            ·
             refine box_step ?hg (N := 17) ?hd (cs := #[.int .i64 0, .int .i64 0]) (t := 37) ?hr ?_; (case hd => rfl); (case hg => rfl); (case hr => first | (go_simp; done) | (go_simp; rfl))
             intro gv hg wk hbox hb
             have f_ := Aside0.mk (HF.out.made HS.out.below.size hg hbox hb); have n_ := Aside0.mk (HS.out.next hb); clear HS HF; have HS := n_; have HF := f_; clear n_ f_ hg hbox hb
             refine hK.out _ _ ⟨(FX.two HF m2_).1, (FX.two HF m2_).2.1, (FX.two HF m1_).1, (FX.two HF m1_).2.1⟩ (fun hHeld => ?_)
             clear hK K
             refine nO_ 17 ?_
             refine two_ (i := 2) (j := 6) (Ni := some 154) (Nj := some 16) (mB 10 159) (mB 10 219) rfl rfl rfl rfl (two_of HT_.out (by kernel_rfl)) (by decide) (by decide) (fun K hK => ?_) (fun K hK => ?_)
             ·
              refine goes_ Try.func31 (by kernel_rfl) rfl #[.slice tA t.length tc, .agg #[.int .i64 lo, .int .i64 hi]] (by rfl) rfl rfl vL ?_
              with_reducible refine (itv_o FT.out GT.out.1 GT.out.2 HS.out.below II.out.1 II.out.2.1 II.out.2.2.1 II.out.2.2.2.1 II.out.2.2.2.2).mono ?_
              rintro e wk ⟨rfl, hb⟩; refine ⟨_, rfl, ?_⟩
              have n_ := Aside0.mk (HS.out.next hb); have f_ := Aside0.mk (HF.out.next hb); clear HS HF; have HS := n_; have HF := f_; clear n_ f_ hb
              refine hK.out _ _ ⟨(FX.two HF m2_).1, (FX.two HF m2_).2.1, (FX.two HF m1_).1, (FX.two HF m1_).2.1⟩ (fun hHeld => ?_)
              clear hK K
              refine nO_ 154 ?_
              refine two_ (i := 5) (j := 6) (Ni := some 157) (Nj := some 16) (mB 10 191) (mB 10 223) rfl rfl rfl rfl (two_of HT_.out (by kernel_rfl)) (by decide) (by decide) (fun K hK => ?_) (fun K hK => ?_)
              ·
               refine goes_ Try.func31 (by kernel_rfl) rfl #[.slice tA t.length tc, .agg #[.int .i64 lo, .int .i64 yh]] (by rfl) rfl rfl vL ?_
               with_reducible refine (itv_o FT.out GT.out.1 GT.out.2 HS.out.below IY.out.1 IY.out.2.1 IY.out.2.2.1 IY.out.2.2.2.1 IY.out.2.2.2.2).mono ?_
               rintro e wk ⟨rfl, hb⟩; refine ⟨_, rfl, ?_⟩
               have n_ := Aside0.mk (HS.out.next hb); have f_ := Aside0.mk (HF.out.next hb); clear HS HF; have HS := n_; have HF := f_; clear n_ f_ hb
               refine hK.out _ _ ⟨(FX.two HF m2_).1, (FX.two HF m2_).2.1, (FX.two HF m1_).1, (FX.two HF m1_).2.1⟩ (fun hHeld => ?_)
               clear hK K
               refine nO_ 157 ?_
               refine one_ (i := 6) (N := some 16) (mB 10 255) rfl rfl (one_of HT_.out (by kernel_rfl)) (by decide) (fun K hK => ?_)
               refine box_step ?hg (N := 16) ?hd (cs := #[.int .i64 0, .int .i64 0]) (t := 37) ?hr ?_; (case hd => rfl); (case hg => rfl); (case hr => first | (go_simp; done) | (go_simp; rfl))
               intro gu hg wk hbox hb
               have f_ := Aside0.mk (HF.out.made HS.out.below.size hg hbox hb); have n_ := Aside0.mk (HS.out.next hb); clear HS HF; have HS := n_; have HF := f_; clear n_ f_ hg hbox hb
               refine hK.out _ _ ⟨(FX.two HF m3_).1, (FX.two HF m3_).2.1, (FX.two HF m2_).1, (FX.two HF m2_).2.1⟩ (fun hHeld => ?_)
               clear hK K
               refine nO_ 16 ?_
               exact nP_ (hJ (gu, gv) _ ⟨HS.out, HF.out⟩)
              ·
               refine box_step ?hg (N := 16) ?hd (cs := #[.int .i64 0, .int .i64 0]) (t := 37) ?hr ?_; (case hd => rfl); (case hg => rfl); (case hr => first | (go_simp; done) | (go_simp; rfl))
               intro gu hg wk hbox hb
               have f_ := Aside0.mk (HF.out.made HS.out.below.size hg hbox hb); have n_ := Aside0.mk (HS.out.next hb); clear HS HF; have HS := n_; have HF := f_; clear n_ f_ hg hbox hb
               refine hK.out _ _ ⟨(FX.two HF m3_).1, (FX.two HF m3_).2.1, (FX.two HF m2_).1, (FX.two HF m2_).2.1⟩ (fun hHeld => ?_)
               clear hK K
               refine nO_ 16 ?_
               refine one_ (i := 5) (N := some 157) (mB 10 255) rfl rfl (one_of HT_.out (by kernel_rfl)) (by decide) (fun K hK => ?_)
               refine goes_ Try.func31 (by kernel_rfl) rfl #[.slice tA t.length tc, .agg #[.int .i64 lo, .int .i64 yh]] (by rfl) rfl rfl vL ?_
               with_reducible refine (itv_o FT.out GT.out.1 GT.out.2 HS.out.below IY.out.1 IY.out.2.1 IY.out.2.2.1 IY.out.2.2.2.1 IY.out.2.2.2.2).mono ?_
               rintro e wk ⟨rfl, hb⟩; refine ⟨_, rfl, ?_⟩
               have n_ := Aside0.mk (HS.out.next hb); have f_ := Aside0.mk (HF.out.next hb); clear HS HF; have HS := n_; have HF := f_; clear n_ f_ hb
               refine hK.out _ _ ⟨(FX.two HF m3_).1, (FX.two HF m3_).2.1, (FX.two HF m2_).1, (FX.two HF m2_).2.1⟩ (fun hHeld => ?_)
               clear hK K
               refine nO_ 157 ?_
               exact nP_ (hJ (gu, gv) _ ⟨HS.out, HF.out⟩)
             ·
              refine box_step ?hg (N := 16) ?hd (cs := #[.int .i64 0, .int .i64 0]) (t := 37) ?hr ?_; (case hd => rfl); (case hg => rfl); (case hr => first | (go_simp; done) | (go_simp; rfl))
              intro gu hg wk hbox hb
              have f_ := Aside0.mk (HF.out.made HS.out.below.size hg hbox hb); have n_ := Aside0.mk (HS.out.next hb); clear HS HF; have HS := n_; have HF := f_; clear n_ f_ hg hbox hb
              refine hK.out _ _ ⟨(FX.two HF m3_).1, (FX.two HF m3_).2.1, (FX.two HF m2_).1, (FX.two HF m2_).2.1⟩ (fun hHeld => ?_)
              clear hK K
              refine nO_ 16 ?_
              refine one_ (i := 2) (N := some 154) (mB 10 223) rfl rfl (one_of HT_.out (by kernel_rfl)) (by decide) (fun K hK => ?_)
              refine goes_ Try.func31 (by kernel_rfl) rfl #[.slice tA t.length tc, .agg #[.int .i64 lo, .int .i64 hi]] (by rfl) rfl rfl vL ?_
              with_reducible refine (itv_o FT.out GT.out.1 GT.out.2 HS.out.below II.out.1 II.out.2.1 II.out.2.2.1 II.out.2.2.2.1 II.out.2.2.2.2).mono ?_
              rintro e wk ⟨rfl, hb⟩; refine ⟨_, rfl, ?_⟩
              have n_ := Aside0.mk (HS.out.next hb); have f_ := Aside0.mk (HF.out.next hb); clear HS HF; have HS := n_; have HF := f_; clear n_ f_ hb
              refine hK.out _ _ ⟨(FX.two HF m3_).1, (FX.two HF m3_).2.1, (FX.two HF m2_).1, (FX.two HF m2_).2.1⟩ (fun hHeld => ?_)
              clear hK K
              refine nO_ 154 ?_
              refine one_ (i := 5) (N := some 157) (mB 10 255) rfl rfl (one_of HT_.out (by kernel_rfl)) (by decide) (fun K hK => ?_)
              refine goes_ Try.func31 (by kernel_rfl) rfl #[.slice tA t.length tc, .agg #[.int .i64 lo, .int .i64 yh]] (by rfl) rfl rfl vL ?_
              with_reducible refine (itv_o FT.out GT.out.1 GT.out.2 HS.out.below IY.out.1 IY.out.2.1 IY.out.2.2.1 IY.out.2.2.2.1 IY.out.2.2.2.2).mono ?_
              rintro e wk ⟨rfl, hb⟩; refine ⟨_, rfl, ?_⟩
              have n_ := Aside0.mk (HS.out.next hb); have f_ := Aside0.mk (HF.out.next hb); clear HS HF; have HS := n_; have HF := f_; clear n_ f_ hb
              refine hK.out _ _ ⟨(FX.two HF m3_).1, (FX.two HF m3_).2.1, (FX.two HF m2_).1, (FX.two HF m2_).2.1⟩ (fun hHeld => ?_)
              clear hK K
              refine nO_ 157 ?_
              exact nP_ (hJ (gu, gv) _ ⟨HS.out, HF.out⟩)
          rintro ⟨gu, gv⟩ W4 ⟨HS4, HF4⟩
          clear HS HF hHeld
          have HS := Aside0.mk HS4; have HF := Aside0.mk HF4
          have kne := FX.nes HF4; have kne' := fun e => kne (Eq.symm e)
          clear HS4 HF4
          dsimp only at HS HF kne kne'
          obtain ⟨p0, p1, p2, p3⟩ := FX.two HF m0_; obtain ⟨q0, q1, q2, q3⟩ := FX.two HF m1_
          refine nS_ ?_
          refine last_ (i := 8) (N := none) (mB 10 511) rfl rfl (one_of HT_.out (by kernel_rfl)) (by decide) (fun K hK => ?_)
          refine skip_ (w1 := ?_) (by rfl) rfl ?_ ?_
          rotate_left
          · go_simp
            rfl
          refine hK.out _ _ ?_
          clear hK K
          refine last_ (i := 9) (N := none) (mB 10 1023) rfl rfl (one_of HT_.out (by kernel_rfl)) (by decide) (fun K hK => ?_)
          refine skip_ (w1 := ?_) (by rfl) rfl ?_ ?_
          rotate_left
          · go_simp
            rfl
          refine hK.out _ _ ?_
          clear hK K
          refine done_ (done_of HT_.out (by kernel_rfl)) ?_
          clear p0 p1 p2 p3 q0 q1 q2 q3 kne kne' HT_ HW_
          unfold OnlyN
          have f1_ := HF.out.put2 (a' := .int .i64 (dnT t lo)) (b' := .int .i64 (upT t hi)); have s1_ := OS.box2 (a' := .int .i64 (dnT t lo)) (b' := .int .i64 (upT t hi)) HS.out (HF.out.all _ m0_).1 (HF.out.all _ m0_).2 (by decide) (by decide); have f2_ := f1_.swap; have f3_ := Aside0.mk (f2_.put2 (a' := .int .i64 (dnT t lo)) (b' := .int .i64 (upT t yh))); have s3_ := Aside0.mk (OS.box2 (a' := .int .i64 (dnT t lo)) (b' := .int .i64 (upT t yh)) s1_ (f2_.all _ m0_).1 (f2_.all _ m0_).2 (by decide) (by decide)); clear HS HF f1_ f2_ s1_; have HS := s3_; have HF := f3_; clear s3_ f3_
          generalize hW5 : ((((W4.setCell ⟨gu, 0, none⟩ (.int .i64 (dnT t lo))).setCell ⟨gu, 1, none⟩ (.int .i64 (upT t hi))).setCell ⟨gv, 0, none⟩ (.int .i64 (dnT t lo))).setCell ⟨gv, 1, none⟩ (.int .i64 (upT t yh))) = W5 at HS HF ⊢; clear hW5
          go_upto_region 15 with fail
          have d1 := D1.out; have d2 := D2.out; have d3 := D3.out
          have n_ := Aside0.mk (HS.out.next (below_drew (Below.refl _ _))); have f_ := Aside0.mk (HF.out.next (below_drew (Below.refl _ _))); clear HS HF; have HS := n_; have HF := f_; clear n_ f_
          refine start_ (n := 37) (S := fun w' => w'.cell? ⟨gv, 0, none⟩ = some (.int .i64 (dnT t lo)) ∧ w'.cell? ⟨gv, 1, none⟩ = some (.int .i64 (upT t yh)) ∧ w'.cell? ⟨gu, 0, none⟩ = some (.int .i64 (dnT t lo)) ∧ w'.cell? ⟨gu, 1, none⟩ = some (.int .i64 (upT t hi)) ∧ w'.cell? ⟨gi, 0, none⟩ = some (.int .i64 lo) ∧ w'.cell? ⟨gi, 1, none⟩ = some (.int .i64 hi)) (ds := []) (mB 37 0) (by kernel_rfl) rfl (by kernel_rfl) ⟨(FX.two HF m0_).1, (FX.two HF m0_).2.1, (FX.two HF m1_).1, (FX.two HF m1_).2.1, (FX.two HF m3_).1, (FX.two HF m3_).2.1⟩ (fun hHeld => ?_)
          refine with_tabW tu_tab15 tu_bits15 (fun HT_ HW_ => ?_)
          generalize hWd : World.drew _ = Wd at HS HF hHeld ⊢; clear hWd
          refine pV_ 0 158 (mB 37 1) HT_ ?_
          refine tV_ 1 159 (mB 37 3) HT_ HW_ hHeld ?_
          refine pV_ 2 160 (mB 37 7) HT_ ?_
          refine tV_ 3 161 (mB 37 15) HT_ HW_ hHeld ?_
          refine pV_ 4 162 (mB 37 31) HT_ ?_
          refine pV_ 5 163 (mB 37 63) HT_ ?_
          refine pV_ 6 164 (mB 37 127) HT_ ?_
          refine tV_ 7 165 (mB 37 255) HT_ HW_ hHeld ?_
          refine pV_ 8 166 (mB 37 511) HT_ ?_
          refine tV_ 9 167 (mB 37 1023) HT_ HW_ hHeld ?_
          refine pV_ 10 168 (mB 37 2047) HT_ ?_
          refine pV_ 11 169 (mB 37 4095) HT_ ?_
          refine pV_ 12 170 (mB 37 8191) HT_ ?_
          refine pV_ 13 171 (mB 37 16383) HT_ ?_
          refine tV_ 14 172 (mB 37 32767) HT_ HW_ hHeld ?_
          refine pV_ 15 173 (mB 37 65535) HT_ ?_
          refine tV_ 16 174 (mB 37 131071) HT_ HW_ hHeld ?_
          refine pV_ 17 175 (mB 37 262143) HT_ ?_
          refine pV_ 18 176 (mB 37 524287) HT_ ?_
          refine pV_ 19 177 (mB 37 1048575) HT_ ?_
          refine pV_ 20 178 (mB 37 2097151) HT_ ?_
          refine tV_ 21 179 (mB 37 4194303) HT_ HW_ hHeld ?_
          refine pV_ 22 180 (mB 37 8388607) HT_ ?_
          refine tV_ 23 181 (mB 37 16777215) HT_ HW_ hHeld ?_
          refine pV_ 24 182 (mB 37 33554431) HT_ ?_
          refine pV_ 25 183 (mB 37 67108863) HT_ ?_
          refine pV_ 26 184 (mB 37 134217727) HT_ ?_
          refine pV_ 27 185 (mB 37 268435455) HT_ ?_
          refine tV_ 28 186 (mB 37 536870911) HT_ HW_ hHeld ?_
          refine tV_ 30 188 (mB 37 1610612735) HT_ HW_ hHeld ?_
          refine one_ (i := 29) (N := some 187) (mB 37 2147483647) rfl rfl (one_of HT_.out (by kernel_rfl)) (by decide) (fun K hK => ?_)
          refine goes_ Try.func31 (by kernel_rfl) rfl #[.slice tA t.length tc, .agg #[.int .i64 (dnT t lo), .int .i64 (upT t hi)]] (by rfl) rfl rfl vL ?_
          with_reducible refine (IZ.out HS.out.below).mono ?_
          rintro e wk ⟨rfl, hb⟩; refine ⟨_, rfl, ?_⟩
          have n_ := Aside0.mk (HS.out.next hb); have f_ := Aside0.mk (HF.out.next hb); clear HS HF; have HS := n_; have HF := f_; clear n_ f_ hb
          refine hK.out _ _ ⟨(FX.two HF m0_).1, (FX.two HF m0_).2.1, (FX.two HF m1_).1, (FX.two HF m1_).2.1, (FX.two HF m3_).1, (FX.two HF m3_).2.1⟩ (fun hHeld => ?_)
          clear hK K
          refine nO_ 187 ?_
          refine pV_ 31 189 (mB 37 4294967295) HT_ ?_
          refine pV_ 32 190 (mB 37 8589934591) HT_ ?_
          refine pV_ 33 191 (mB 37 17179869183) HT_ ?_
          refine one_ (i := 34) (N := some 192) (mB 37 34359738367) rfl rfl (one_of HT_.out (by kernel_rfl)) (by decide) (fun K hK => ?_)
          refine goes_ Try.func25 (by kernel_rfl) rfl #[] (by rfl) rfl rfl vL ?_
          with_reducible refine (awake13_o).mono ?_
          rintro e wk ⟨rfl, hb⟩; refine ⟨_, rfl, ?_⟩
          have n_ := Aside0.mk (HS.out.next hb); have f_ := Aside0.mk (HF.out.next hb); clear HS HF; have HS := n_; have HF := f_; clear n_ f_ hb
          refine hK.out _ _ ⟨(FX.two HF m0_).1, (FX.two HF m0_).2.1, (FX.two HF m1_).1, (FX.two HF m1_).2.1, (FX.two HF m3_).1, (FX.two HF m3_).2.1⟩ (fun hHeld => ?_)
          clear hK K
          refine nO_ 192 ?_
          refine pV_ 35 193 (mB 37 68719476735) HT_ ?_
          refine pV_ 36 10 (mB 37 137438953471) HT_ ?_
          refine done_ (done_of HT_.out (by kernel_rfl)) ?_
          clear HT_ HW_ hHeld
          try go_wp2
          all_goals (go_ret; exact ⟨rfl, OS.bel HS⟩)
        · have q19 : ((qv.m.length : Int) != (cv.m.length : Int)) = true := bne_iff_ne.mpr cq
          have EQ1 : Aside0 (qv.e = true) := ⟨lq.resolve_right (fun h => cq (by rw [h.2]))⟩
          clear cq lq
          have n_ := Aside0.mk (HS.out.next (below_drew (Below.refl _ _))); have f_ := Aside0.mk (HF.out.next (below_drew (Below.refl _ _))); clear HS HF; have HS := n_; have HF := f_; clear n_ f_
          refine start_ (n := 56) (S := fun w' => w'.cell? ⟨gq, 0, none⟩ = some (.slice qv.P qv.v.length qv.p) ∧ w'.cell? ⟨gq, 1, none⟩ = some (.slice qv.Q qv.m.length qv.q) ∧ w'.cell? ⟨gq, 2, none⟩ = some (.bool qv.e) ∧ w'.cell? ⟨gp, 0, none⟩ = some (.slice pv.P pv.v.length pv.p) ∧ w'.cell? ⟨gp, 1, none⟩ = some (.slice pv.Q pv.m.length pv.q) ∧ w'.cell? ⟨gp, 2, none⟩ = some (.bool pv.e) ∧ w'.cell? ⟨gc, 0, none⟩ = some (.slice cv.P cv.v.length cv.p) ∧ w'.cell? ⟨gc, 1, none⟩ = some (.slice cv.Q cv.m.length cv.q) ∧ w'.cell? ⟨gc, 2, none⟩ = some (.bool cv.e) ∧ w'.cell? ⟨ga, 0, none⟩ = some (.slice X.P X.v.length X.p) ∧ w'.cell? ⟨ga, 1, none⟩ = some (.slice X.Q X.m.length X.q) ∧ w'.cell? ⟨ga, 2, none⟩ = some (.bool X.e)) (ds := []) (mB 56 0) (by kernel_rfl) rfl (by kernel_rfl) ⟨(FX.oct HF m0_).1.1, (FX.oct HF m0_).1.2.1, (FX.oct HF m0_).1.2.2, (FX.oct HF m1_).1.1, (FX.oct HF m1_).1.2.1, (FX.oct HF m1_).1.2.2, (FX.oct HF m2_).1.1, (FX.oct HF m2_).1.2.1, (FX.oct HF m2_).1.2.2, (FX.oct HF m3_).1.1, (FX.oct HF m3_).1.2.1, (FX.oct HF m3_).1.2.2⟩ (fun hHeld => ?_)
          refine with_tabW tu_tab11 tu_bits11 (fun HT_ HW_ => ?_)
          generalize hWd : World.drew _ = Wd at HS HF hHeld ⊢; clear hWd
          refine pV_ 0 86 (mB 56 1) HT_ ?_
          refine tV_ 1 87 (mB 56 3) HT_ HW_ hHeld ?_
          refine pV_ 2 88 (mB 56 7) HT_ ?_
          refine pV_ 3 89 (mB 56 15) HT_ ?_
          refine tV_ 4 90 (mB 56 31) HT_ HW_ hHeld ?_
          refine pV_ 5 91 (mB 56 63) HT_ ?_
          refine pV_ 6 92 (mB 56 127) HT_ ?_
          refine pV_ 7 93 (mB 56 255) HT_ ?_
          refine pV_ 8 94 (mB 56 511) HT_ ?_
          refine tV_ 9 95 (mB 56 1023) HT_ HW_ hHeld ?_
          have ep' := EP1.out
          refine pV_ 10 96 (mB 56 2047) HT_ ?_
          refine pV_ 11 97 (mB 56 4095) HT_ ?_
          refine pV_ 12 98 (mB 56 8191) HT_ ?_
          clear ep'
          refine pV_ 13 99 (mB 56 16383) HT_ ?_
          refine tV_ 14 100 (mB 56 32767) HT_ HW_ hHeld ?_
          refine pV_ 15 101 (mB 56 65535) HT_ ?_
          refine pV_ 16 102 (mB 56 131071) HT_ ?_
          refine tV_ 17 103 (mB 56 262143) HT_ HW_ hHeld ?_
          refine pV_ 18 104 (mB 56 524287) HT_ ?_
          refine pV_ 19 105 (mB 56 1048575) HT_ ?_
          refine pV_ 20 106 (mB 56 2097151) HT_ ?_
          refine pV_ 21 107 (mB 56 4194303) HT_ ?_
          refine tV_ 22 108 (mB 56 8388607) HT_ HW_ hHeld ?_
          have eq' := EQ1.out
          refine pV_ 23 109 (mB 56 16777215) HT_ ?_
          refine pV_ 24 110 (mB 56 33554431) HT_ ?_
          refine pV_ 25 111 (mB 56 67108863) HT_ ?_
          refine pV_ 26 112 (mB 56 134217727) HT_ ?_
          clear eq'
          refine tV_ 27 113 (mB 56 268435455) HT_ HW_ hHeld ?_
          refine one_ (i := 28) (N := some 114) (mB 56 536870911) rfl rfl (one_of HT_.out (by kernel_rfl)) (by decide) (fun K hK => ?_)
          refine goes_ Try.func19 (by kernel_rfl) rfl #[pv.val] (by rfl) rfl rfl vL ?_
          with_reducible refine (rfit_true (HS.out.own _ m1_).oc (Below.refl _ _) GP.out).mono ?_
          rintro e wk ⟨rfl, hb⟩; refine ⟨_, rfl, ?_⟩
          have n_ := Aside0.mk (HS.out.next hb); have f_ := Aside0.mk (HF.out.next hb); clear HS HF; have HS := n_; have HF := f_; clear n_ f_ hb
          refine hK.out _ _ ⟨(FX.oct HF m0_).1.1, (FX.oct HF m0_).1.2.1, (FX.oct HF m0_).1.2.2, (FX.oct HF m1_).1.1, (FX.oct HF m1_).1.2.1, (FX.oct HF m1_).1.2.2, (FX.oct HF m2_).1.1, (FX.oct HF m2_).1.2.1, (FX.oct HF m2_).1.2.2, (FX.oct HF m3_).1.1, (FX.oct HF m3_).1.2.1, (FX.oct HF m3_).1.2.2⟩ (fun hHeld => ?_)
          clear hK K
          refine nO_ 114 ?_
          refine pV_ 29 115 (mB 56 1073741823) HT_ ?_
          refine pV_ 30 116 (mB 56 2147483647) HT_ ?_
          refine pV_ 31 117 (mB 56 4294967295) HT_ ?_
          refine tV_ 32 118 (mB 56 8589934591) HT_ HW_ hHeld ?_
          refine one_ (i := 33) (N := some 119) (mB 56 17179869183) rfl rfl (one_of HT_.out (by kernel_rfl)) (by decide) (fun K hK => ?_)
          refine goes_ Try.func19 (by kernel_rfl) rfl #[qv.val] (by rfl) rfl rfl vL ?_
          with_reducible refine (rfit_true (HS.out.own _ m0_).oc (Below.refl _ _) GQ.out).mono ?_
          rintro e wk ⟨rfl, hb⟩; refine ⟨_, rfl, ?_⟩
          have n_ := Aside0.mk (HS.out.next hb); have f_ := Aside0.mk (HF.out.next hb); clear HS HF; have HS := n_; have HF := f_; clear n_ f_ hb
          refine hK.out _ _ ⟨(FX.oct HF m0_).1.1, (FX.oct HF m0_).1.2.1, (FX.oct HF m0_).1.2.2, (FX.oct HF m1_).1.1, (FX.oct HF m1_).1.2.1, (FX.oct HF m1_).1.2.2, (FX.oct HF m2_).1.1, (FX.oct HF m2_).1.2.1, (FX.oct HF m2_).1.2.2, (FX.oct HF m3_).1.1, (FX.oct HF m3_).1.2.1, (FX.oct HF m3_).1.2.2⟩ (fun hHeld => ?_)
          clear hK K
          refine nO_ 119 ?_
          refine pV_ 34 120 (mB 56 34359738367) HT_ ?_
          refine pV_ 35 121 (mB 56 68719476735) HT_ ?_
          refine pV_ 36 122 (mB 56 137438953471) HT_ ?_
          refine tV_ 37 123 (mB 56 274877906943) HT_ HW_ hHeld ?_
          refine tV_ 38 124 (mB 56 549755813887) HT_ HW_ hHeld ?_
          refine one_ (i := 39) (N := some 125) (mB 56 1099511627775) rfl rfl (one_of HT_.out (by kernel_rfl)) (by decide) (fun K hK => ?_)
          refine goes_ Try.func30 (by kernel_rfl) rfl #[X.val, pv.val] (by rfl) rfl rfl vL ?_
          with_reducible refine (rleq_as (HX.out.next HS.out.below) (HS.out.own _ m1_).oc HS.out.below GX.out GP.out L1.out).mono ?_
          rintro e wk ⟨rfl, hb⟩; refine ⟨_, rfl, ?_⟩
          have n_ := Aside0.mk (HS.out.next hb); have f_ := Aside0.mk (HF.out.next hb); clear HS HF; have HS := n_; have HF := f_; clear n_ f_ hb
          refine hK.out _ _ ⟨(FX.oct HF m0_).1.1, (FX.oct HF m0_).1.2.1, (FX.oct HF m0_).1.2.2, (FX.oct HF m1_).1.1, (FX.oct HF m1_).1.2.1, (FX.oct HF m1_).1.2.2, (FX.oct HF m2_).1.1, (FX.oct HF m2_).1.2.1, (FX.oct HF m2_).1.2.2, (FX.oct HF m3_).1.1, (FX.oct HF m3_).1.2.1, (FX.oct HF m3_).1.2.2⟩ (fun hHeld => ?_)
          clear hK K
          refine nO_ 125 ?_
          refine pV_ 40 126 (mB 56 2199023255551) HT_ ?_
          refine pV_ 41 127 (mB 56 4398046511103) HT_ ?_
          refine pV_ 42 128 (mB 56 8796093022207) HT_ ?_
          refine tV_ 43 129 (mB 56 17592186044415) HT_ HW_ hHeld ?_
          refine tV_ 44 130 (mB 56 35184372088831) HT_ HW_ hHeld ?_
          refine one_ (i := 45) (N := some 131) (mB 56 70368744177663) rfl rfl (one_of HT_.out (by kernel_rfl)) (by decide) (fun K hK => ?_)
          refine goes_ Try.func30 (by kernel_rfl) rfl #[pv.val, qv.val] (by rfl) rfl rfl vL ?_
          with_reducible refine (rleq_as (HS.out.own _ m1_).oc (HS.out.own _ m0_).oc (Below.refl _ _) GP.out GQ.out L2.out).mono ?_
          rintro e wk ⟨rfl, hb⟩; refine ⟨_, rfl, ?_⟩
          have n_ := Aside0.mk (HS.out.next hb); have f_ := Aside0.mk (HF.out.next hb); clear HS HF; have HS := n_; have HF := f_; clear n_ f_ hb
          refine hK.out _ _ ⟨(FX.oct HF m0_).1.1, (FX.oct HF m0_).1.2.1, (FX.oct HF m0_).1.2.2, (FX.oct HF m1_).1.1, (FX.oct HF m1_).1.2.1, (FX.oct HF m1_).1.2.2, (FX.oct HF m2_).1.1, (FX.oct HF m2_).1.2.1, (FX.oct HF m2_).1.2.2, (FX.oct HF m3_).1.1, (FX.oct HF m3_).1.2.1, (FX.oct HF m3_).1.2.2⟩ (fun hHeld => ?_)
          clear hK K
          refine nO_ 131 ?_
          refine pV_ 46 132 (mB 56 140737488355327) HT_ ?_
          refine pV_ 47 133 (mB 56 281474976710655) HT_ ?_
          refine pV_ 48 134 (mB 56 562949953421311) HT_ ?_
          refine pV_ 49 135 (mB 56 1125899906842623) HT_ ?_
          refine tV_ 50 136 (mB 56 2251799813685247) HT_ HW_ hHeld ?_
          refine tV_ 52 138 (mB 56 6755399441055743) HT_ HW_ hHeld ?_
          refine one_ (i := 51) (N := some 137) (mB 56 9007199254740991) rfl rfl (one_of HT_.out (by kernel_rfl)) (by decide) (fun K hK => ?_)
          refine goes_ Try.func26 (by kernel_rfl) rfl #[.slice tA t.length tc, pv.val] (by rfl) rfl rfl vL ?_
          with_reducible refine (th_own FT.out GT.out.1 GT.out.2 HS.out.below (HS.out.own _ m1_).oc (Below.refl _ _) GP.out).mono ?_
          rintro e wk ⟨zv, rfl, hz, ho, hb⟩; refine ⟨_, rfl, ?_⟩
          have n_ := Aside0.mk (HS.out.call hb ho); have f_ := Aside0.mk (HF.out.next hb); clear HS HF; have HS := n_; have HF := f_; clear n_ f_ ho hb
          refine hK.out _ _ ⟨(FX.oct HF m0_).1.1, (FX.oct HF m0_).1.2.1, (FX.oct HF m0_).1.2.2, (FX.oct HF m1_).1.1, (FX.oct HF m1_).1.2.1, (FX.oct HF m1_).1.2.2, (FX.oct HF m2_).1.1, (FX.oct HF m2_).1.2.1, (FX.oct HF m2_).1.2.2, (FX.oct HF m3_).1.1, (FX.oct HF m3_).1.2.1, (FX.oct HF m3_).1.2.2⟩ (fun hHeld => ?_)
          clear hK K
          refine nO_ 137 ?_
          refine one_ (i := 53) (N := some 139) (mB 56 18014398509481983) rfl rfl (one_of HT_.out (by kernel_rfl)) (by decide) (fun K hK => ?_)
          refine goes_ Try.func15 (by kernel_rfl) rfl #[zv.val, pv.val] (by rfl) rfl rfl vL ?_
          with_reducible refine (equal_o (HS.out.own _ m0_).oc (HS.out.own _ m2_).oc (Below.refl _ _) (hz.trans EP.out) (LZ.out _ (hz.trans EP.out)).1 (LZ.out _ (hz.trans EP.out)).2).mono ?_
          rintro e wk ⟨rfl, hb⟩; refine ⟨_, rfl, ?_⟩
          have n_ := Aside0.mk (HS.out.next hb); have f_ := Aside0.mk (HF.out.next hb); clear HS HF; have HS := n_; have HF := f_; clear n_ f_ hb
          refine hK.out _ _ ⟨(FX.oct HF m0_).1.1, (FX.oct HF m0_).1.2.1, (FX.oct HF m0_).1.2.2, (FX.oct HF m1_).1.1, (FX.oct HF m1_).1.2.1, (FX.oct HF m1_).1.2.2, (FX.oct HF m2_).1.1, (FX.oct HF m2_).1.2.1, (FX.oct HF m2_).1.2.2, (FX.oct HF m3_).1.1, (FX.oct HF m3_).1.2.1, (FX.oct HF m3_).1.2.2⟩ (fun hHeld => ?_)
          clear hK K
          refine nO_ 139 ?_
          refine pV_ 54 140 (mB 56 36028797018963967) HT_ ?_
          refine pV_ 55 141 (mB 56 72057594037927935) HT_ ?_
          refine done_ (done_of HT_.out (by kernel_rfl)) ?_
          clear HT_ HW_ hHeld
          have n_ := Aside0.mk (HS.out.sub (List.nil_sublist _)); have f_ := Aside0.mk (HF.out.sub (fs' := [(gi, .cells #[.int .i64 lo, .int .i64 hi] 37 (0, 0))]) (.cons _ (.cons _ (.cons _ (.cons _ (.cons _ (List.Sublist.refl _))))))); clear HS HF; have HS := n_; have HF := f_; clear n_ f_
          go_upto_region 13 with fail
          obtain ⟨ki0, ki1, fi0, fi1⟩ := FX.two HF m0_
          go_upto_region 14 with (first | ((with_reducible refine gate_dst (N := 15) rfl ?_); refine box_event ?hg (N := 15) ?hd (cs := #[.int .i64 0, .int .i64 0]) (t := 37) ?hr ?_; (case hd => rfl); (case hg => rfl); (case hr => first | (go_simp; done) | (go_simp; rfl)); intro gy hg wk hbox hb; have f_ := Aside0.mk ((FX.to HF).made (OS.bel HS).size hg hbox hb); have n_ := Aside0.mk ((OS.to HS).next hb); clear HS HF; have HS := n_; have HF := f_; clear n_ f_ hg hbox hb; obtain ⟨p0, p1, p2, p3⟩ := FX.two HF m0_))
          rw [YH.out]
          have f_ := Aside0.mk (HF.out.put2 (a' := .int .i64 lo) (b' := .int .i64 yh)); have n_ := Aside0.mk (OS.box2 (a' := .int .i64 lo) (b' := .int .i64 yh) HS.out (HF.out.all _ m0_).1 (HF.out.all _ m0_).2 (by decide) (by decide)); clear HS HF p0 p1 p2 p3 ki0 ki1 fi0 fi1; have HS := n_; have HF := f_; clear n_ f_
          generalize hW : ((World.setCell _ ⟨gy, 0, none⟩ (.int .i64 lo)).setCell ⟨gy, 1, none⟩ (.int .i64 yh)) = W9 at HS HF ⊢; clear hW
          have n_ := Aside0.mk (HS.out.next (below_drew (Below.refl _ _))); have f_ := Aside0.mk (HF.out.next (below_drew (Below.refl _ _))); clear HS HF; have HS := n_; have HF := f_; clear n_ f_
          refine startN_ (n := 10) (S := fun w' => w'.cell? ⟨gi, 0, none⟩ = some (.int .i64 lo) ∧ w'.cell? ⟨gi, 1, none⟩ = some (.int .i64 hi) ∧ w'.cell? ⟨gy, 0, none⟩ = some (.int .i64 lo) ∧ w'.cell? ⟨gy, 1, none⟩ = some (.int .i64 yh)) (ds := [8, 9]) (mB 10 0) (by kernel_rfl) rfl (by kernel_rfl) ⟨(FX.two HF m1_).1, (FX.two HF m1_).2.1, (FX.two HF m0_).1, (FX.two HF m0_).2.1⟩ (fun hHeld => ?_)
          refine with_tabW tu_tab14 tu_bits14 (fun HT_ HW_ => ?_)
          generalize hWd : World.drew _ = Wd at HS HF hHeld ⊢; clear hWd
          refine pV_ 0 152 (mB 10 1) HT_ ?_
          refine tV_ 1 153 (mB 10 3) HT_ HW_ hHeld ?_
          refine pV_ 3 155 (mB 10 11) HT_ ?_
          refine tV_ 4 156 (mB 10 27) HT_ HW_ hHeld ?_
          refine join_ (σ := Nat × Nat) 2 (mB 10 255) (fun s_ => [(154, .agg #[.int .i64 (dnT t lo), .int .i64 (upT t hi)]), (157, .agg #[.int .i64 (dnT t lo), .int .i64 (upT t yh)]), (16, .pointer (some ⟨s_.1, 0, none⟩)), (17, .pointer (some ⟨s_.2, 0, none⟩))]) (fun s_ w' => OS w [] w' ∧ FX w ((s_.1, .cells #[.int .i64 0, .int .i64 0] 37 (0, 0)) :: (s_.2, .cells #[.int .i64 0, .int .i64 0] 37 (0, 0)) :: [(gy, .cells #[.int .i64 lo, .int .i64 yh] 37 (0, 0)), (gi, .cells #[.int .i64 lo, .int .i64 hi] 37 (0, 0))]) w') ?_ ?_
          rotate_left
          · intro hJ
            refine three_ (i := 2) (j := 6) (k := 7) (Ni := some 154) (Nj := some 16) (Nk := some 17) (mB 10 31) (mB 10 91) (mB 10 155) rfl rfl rfl rfl rfl rfl (three_of HT_.out (by kernel_rfl)) (by decide) (by decide) (by decide) (fun K hK => ?_) (fun K hK => ?_) (fun K hK => ?_)
            ·
             refine goes_ Try.func31 (by kernel_rfl) rfl #[.slice tA t.length tc, .agg #[.int .i64 lo, .int .i64 hi]] (by rfl) rfl rfl vL ?_
             with_reducible refine (itv_o FT.out GT.out.1 GT.out.2 HS.out.below II.out.1 II.out.2.1 II.out.2.2.1 II.out.2.2.2.1 II.out.2.2.2.2).mono ?_
             rintro e wk ⟨rfl, hb⟩; refine ⟨_, rfl, ?_⟩
             have n_ := Aside0.mk (HS.out.next hb); have f_ := Aside0.mk (HF.out.next hb); clear HS HF; have HS := n_; have HF := f_; clear n_ f_ hb
             refine hK.out _ _ ⟨(FX.two HF m1_).1, (FX.two HF m1_).2.1, (FX.two HF m0_).1, (FX.two HF m0_).2.1⟩ (fun hHeld => ?_)
             clear hK K
             refine nO_ 154 ?_
             refine three_ (i := 5) (j := 6) (k := 7) (Ni := some 157) (Nj := some 16) (Nk := some 17) (mB 10 63) (mB 10 95) (mB 10 159) rfl rfl rfl rfl rfl rfl (three_of HT_.out (by kernel_rfl)) (by decide) (by decide) (by decide) (fun K hK => ?_) (fun K hK => ?_) (fun K hK => ?_)
             ·
              refine goes_ Try.func31 (by kernel_rfl) rfl #[.slice tA t.length tc, .agg #[.int .i64 lo, .int .i64 yh]] (by rfl) rfl rfl vL ?_
              with_reducible refine (itv_o FT.out GT.out.1 GT.out.2 HS.out.below IY.out.1 IY.out.2.1 IY.out.2.2.1 IY.out.2.2.2.1 IY.out.2.2.2.2).mono ?_
              rintro e wk ⟨rfl, hb⟩; refine ⟨_, rfl, ?_⟩
              have n_ := Aside0.mk (HS.out.next hb); have f_ := Aside0.mk (HF.out.next hb); clear HS HF; have HS := n_; have HF := f_; clear n_ f_ hb
              refine hK.out _ _ ⟨(FX.two HF m1_).1, (FX.two HF m1_).2.1, (FX.two HF m0_).1, (FX.two HF m0_).2.1⟩ (fun hHeld => ?_)
              clear hK K
              refine nO_ 157 ?_
              refine two_ (i := 6) (j := 7) (Ni := some 16) (Nj := some 17) (mB 10 127) (mB 10 191) rfl rfl rfl rfl (two_of HT_.out (by kernel_rfl)) (by decide) (by decide) (fun K hK => ?_) (fun K hK => ?_)
              ·
               refine box_step ?hg (N := 16) ?hd (cs := #[.int .i64 0, .int .i64 0]) (t := 37) ?hr ?_; (case hd => rfl); (case hg => rfl); (case hr => first | (go_simp; done) | (go_simp; rfl))
               intro gu hg wk hbox hb
               have f_ := Aside0.mk (HF.out.made HS.out.below.size hg hbox hb); have n_ := Aside0.mk (HS.out.next hb); clear HS HF; have HS := n_; have HF := f_; clear n_ f_ hg hbox hb
               refine hK.out _ _ ⟨(FX.two HF m2_).1, (FX.two HF m2_).2.1, (FX.two HF m1_).1, (FX.two HF m1_).2.1⟩ (fun hHeld => ?_)
               clear hK K
               refine nO_ 16 ?_
               refine one_ (i := 7) (N := some 17) (mB 10 255) rfl rfl (one_of HT_.out (by kernel_rfl)) (by decide) (fun K hK => ?_)
               refine box_step ?hg (N := 17) ?hd (cs := #[.int .i64 0, .int .i64 0]) (t := 37) ?hr ?_; (case hd => rfl); (case hg => rfl); (case hr => first | (go_simp; done) | (go_simp; rfl))
               intro gv hg wk hbox hb
               have f_ := Aside0.mk (HF.out.made HS.out.below.size hg hbox hb); have n_ := Aside0.mk (HS.out.next hb); clear HS HF; have HS := n_; have HF := f_; clear n_ f_ hg hbox hb
               refine hK.out _ _ ⟨(FX.two HF m3_).1, (FX.two HF m3_).2.1, (FX.two HF m2_).1, (FX.two HF m2_).2.1⟩ (fun hHeld => ?_)
               clear hK K
               refine nO_ 17 ?_
               exact nP_ (hJ (gu, gv) _ ⟨HS.out, HF.out.swap⟩)
              ·
               refine box_step ?hg (N := 17) ?hd (cs := #[.int .i64 0, .int .i64 0]) (t := 37) ?hr ?_; (case hd => rfl); (case hg => rfl); (case hr => first | (go_simp; done) | (go_simp; rfl))
               intro gv hg wk hbox hb
               have f_ := Aside0.mk (HF.out.made HS.out.below.size hg hbox hb); have n_ := Aside0.mk (HS.out.next hb); clear HS HF; have HS := n_; have HF := f_; clear n_ f_ hg hbox hb
               refine hK.out _ _ ⟨(FX.two HF m2_).1, (FX.two HF m2_).2.1, (FX.two HF m1_).1, (FX.two HF m1_).2.1⟩ (fun hHeld => ?_)
               clear hK K
               refine nO_ 17 ?_
               refine one_ (i := 6) (N := some 16) (mB 10 255) rfl rfl (one_of HT_.out (by kernel_rfl)) (by decide) (fun K hK => ?_)
               refine box_step ?hg (N := 16) ?hd (cs := #[.int .i64 0, .int .i64 0]) (t := 37) ?hr ?_; (case hd => rfl); (case hg => rfl); (case hr => first | (go_simp; done) | (go_simp; rfl))
               intro gu hg wk hbox hb
               have f_ := Aside0.mk (HF.out.made HS.out.below.size hg hbox hb); have n_ := Aside0.mk (HS.out.next hb); clear HS HF; have HS := n_; have HF := f_; clear n_ f_ hg hbox hb
               refine hK.out _ _ ⟨(FX.two HF m3_).1, (FX.two HF m3_).2.1, (FX.two HF m2_).1, (FX.two HF m2_).2.1⟩ (fun hHeld => ?_)
               clear hK K
               refine nO_ 16 ?_
               exact nP_ (hJ (gu, gv) _ ⟨HS.out, HF.out⟩)
             ·
              refine box_step ?hg (N := 16) ?hd (cs := #[.int .i64 0, .int .i64 0]) (t := 37) ?hr ?_; (case hd => rfl); (case hg => rfl); (case hr => first | (go_simp; done) | (go_simp; rfl))
              intro gu hg wk hbox hb
              have f_ := Aside0.mk (HF.out.made HS.out.below.size hg hbox hb); have n_ := Aside0.mk (HS.out.next hb); clear HS HF; have HS := n_; have HF := f_; clear n_ f_ hg hbox hb
              refine hK.out _ _ ⟨(FX.two HF m2_).1, (FX.two HF m2_).2.1, (FX.two HF m1_).1, (FX.two HF m1_).2.1⟩ (fun hHeld => ?_)
              clear hK K
              refine nO_ 16 ?_
              refine two_ (i := 5) (j := 7) (Ni := some 157) (Nj := some 17) (mB 10 127) (mB 10 223) rfl rfl rfl rfl (two_of HT_.out (by kernel_rfl)) (by decide) (by decide) (fun K hK => ?_) (fun K hK => ?_)
              ·
               refine goes_ Try.func31 (by kernel_rfl) rfl #[.slice tA t.length tc, .agg #[.int .i64 lo, .int .i64 yh]] (by rfl) rfl rfl vL ?_
               with_reducible refine (itv_o FT.out GT.out.1 GT.out.2 HS.out.below IY.out.1 IY.out.2.1 IY.out.2.2.1 IY.out.2.2.2.1 IY.out.2.2.2.2).mono ?_
               rintro e wk ⟨rfl, hb⟩; refine ⟨_, rfl, ?_⟩
               have n_ := Aside0.mk (HS.out.next hb); have f_ := Aside0.mk (HF.out.next hb); clear HS HF; have HS := n_; have HF := f_; clear n_ f_ hb
               refine hK.out _ _ ⟨(FX.two HF m2_).1, (FX.two HF m2_).2.1, (FX.two HF m1_).1, (FX.two HF m1_).2.1⟩ (fun hHeld => ?_)
               clear hK K
               refine nO_ 157 ?_
               refine one_ (i := 7) (N := some 17) (mB 10 255) rfl rfl (one_of HT_.out (by kernel_rfl)) (by decide) (fun K hK => ?_)
               refine box_step ?hg (N := 17) ?hd (cs := #[.int .i64 0, .int .i64 0]) (t := 37) ?hr ?_; (case hd => rfl); (case hg => rfl); (case hr => first | (go_simp; done) | (go_simp; rfl))
               intro gv hg wk hbox hb
               have f_ := Aside0.mk (HF.out.made HS.out.below.size hg hbox hb); have n_ := Aside0.mk (HS.out.next hb); clear HS HF; have HS := n_; have HF := f_; clear n_ f_ hg hbox hb
               refine hK.out _ _ ⟨(FX.two HF m3_).1, (FX.two HF m3_).2.1, (FX.two HF m2_).1, (FX.two HF m2_).2.1⟩ (fun hHeld => ?_)
               clear hK K
               refine nO_ 17 ?_
               exact nP_ (hJ (gu, gv) _ ⟨HS.out, HF.out.swap⟩)
              ·
               refine box_step ?hg (N := 17) ?hd (cs := #[.int .i64 0, .int .i64 0]) (t := 37) ?hr ?_; (case hd => rfl); (case hg => rfl); (case hr => first | (go_simp; done) | (go_simp; rfl))
               intro gv hg wk hbox hb
               have f_ := Aside0.mk (HF.out.made HS.out.below.size hg hbox hb); have n_ := Aside0.mk (HS.out.next hb); clear HS HF; have HS := n_; have HF := f_; clear n_ f_ hg hbox hb
               refine hK.out _ _ ⟨(FX.two HF m3_).1, (FX.two HF m3_).2.1, (FX.two HF m2_).1, (FX.two HF m2_).2.1⟩ (fun hHeld => ?_)
               clear hK K
               refine nO_ 17 ?_
               refine one_ (i := 5) (N := some 157) (mB 10 255) rfl rfl (one_of HT_.out (by kernel_rfl)) (by decide) (fun K hK => ?_)
               refine goes_ Try.func31 (by kernel_rfl) rfl #[.slice tA t.length tc, .agg #[.int .i64 lo, .int .i64 yh]] (by rfl) rfl rfl vL ?_
               with_reducible refine (itv_o FT.out GT.out.1 GT.out.2 HS.out.below IY.out.1 IY.out.2.1 IY.out.2.2.1 IY.out.2.2.2.1 IY.out.2.2.2.2).mono ?_
               rintro e wk ⟨rfl, hb⟩; refine ⟨_, rfl, ?_⟩
               have n_ := Aside0.mk (HS.out.next hb); have f_ := Aside0.mk (HF.out.next hb); clear HS HF; have HS := n_; have HF := f_; clear n_ f_ hb
               refine hK.out _ _ ⟨(FX.two HF m3_).1, (FX.two HF m3_).2.1, (FX.two HF m2_).1, (FX.two HF m2_).2.1⟩ (fun hHeld => ?_)
               clear hK K
               refine nO_ 157 ?_
               exact nP_ (hJ (gu, gv) _ ⟨HS.out, HF.out.swap⟩)
             ·
              refine box_step ?hg (N := 17) ?hd (cs := #[.int .i64 0, .int .i64 0]) (t := 37) ?hr ?_; (case hd => rfl); (case hg => rfl); (case hr => first | (go_simp; done) | (go_simp; rfl))
              intro gv hg wk hbox hb
              have f_ := Aside0.mk (HF.out.made HS.out.below.size hg hbox hb); have n_ := Aside0.mk (HS.out.next hb); clear HS HF; have HS := n_; have HF := f_; clear n_ f_ hg hbox hb
              refine hK.out _ _ ⟨(FX.two HF m2_).1, (FX.two HF m2_).2.1, (FX.two HF m1_).1, (FX.two HF m1_).2.1⟩ (fun hHeld => ?_)
              clear hK K
              refine nO_ 17 ?_
              refine two_ (i := 5) (j := 6) (Ni := some 157) (Nj := some 16) (mB 10 191) (mB 10 223) rfl rfl rfl rfl (two_of HT_.out (by kernel_rfl)) (by decide) (by decide) (fun K hK => ?_) (fun K hK => ?_)
              ·
               refine goes_ Try.func31 (by kernel_rfl) rfl #[.slice tA t.length tc, .agg #[.int .i64 lo, .int .i64 yh]] (by rfl) rfl rfl vL ?_
               with_reducible refine (itv_o FT.out GT.out.1 GT.out.2 HS.out.below IY.out.1 IY.out.2.1 IY.out.2.2.1 IY.out.2.2.2.1 IY.out.2.2.2.2).mono ?_
               rintro e wk ⟨rfl, hb⟩; refine ⟨_, rfl, ?_⟩
               have n_ := Aside0.mk (HS.out.next hb); have f_ := Aside0.mk (HF.out.next hb); clear HS HF; have HS := n_; have HF := f_; clear n_ f_ hb
               refine hK.out _ _ ⟨(FX.two HF m2_).1, (FX.two HF m2_).2.1, (FX.two HF m1_).1, (FX.two HF m1_).2.1⟩ (fun hHeld => ?_)
               clear hK K
               refine nO_ 157 ?_
               refine one_ (i := 6) (N := some 16) (mB 10 255) rfl rfl (one_of HT_.out (by kernel_rfl)) (by decide) (fun K hK => ?_)
               refine box_step ?hg (N := 16) ?hd (cs := #[.int .i64 0, .int .i64 0]) (t := 37) ?hr ?_; (case hd => rfl); (case hg => rfl); (case hr => first | (go_simp; done) | (go_simp; rfl))
               intro gu hg wk hbox hb
               have f_ := Aside0.mk (HF.out.made HS.out.below.size hg hbox hb); have n_ := Aside0.mk (HS.out.next hb); clear HS HF; have HS := n_; have HF := f_; clear n_ f_ hg hbox hb
               refine hK.out _ _ ⟨(FX.two HF m3_).1, (FX.two HF m3_).2.1, (FX.two HF m2_).1, (FX.two HF m2_).2.1⟩ (fun hHeld => ?_)
               clear hK K
               refine nO_ 16 ?_
               exact nP_ (hJ (gu, gv) _ ⟨HS.out, HF.out⟩)
              ·
               refine box_step ?hg (N := 16) ?hd (cs := #[.int .i64 0, .int .i64 0]) (t := 37) ?hr ?_; (case hd => rfl); (case hg => rfl); (case hr => first | (go_simp; done) | (go_simp; rfl))
               intro gu hg wk hbox hb
               have f_ := Aside0.mk (HF.out.made HS.out.below.size hg hbox hb); have n_ := Aside0.mk (HS.out.next hb); clear HS HF; have HS := n_; have HF := f_; clear n_ f_ hg hbox hb
               refine hK.out _ _ ⟨(FX.two HF m3_).1, (FX.two HF m3_).2.1, (FX.two HF m2_).1, (FX.two HF m2_).2.1⟩ (fun hHeld => ?_)
               clear hK K
               refine nO_ 16 ?_
               refine one_ (i := 5) (N := some 157) (mB 10 255) rfl rfl (one_of HT_.out (by kernel_rfl)) (by decide) (fun K hK => ?_)
               refine goes_ Try.func31 (by kernel_rfl) rfl #[.slice tA t.length tc, .agg #[.int .i64 lo, .int .i64 yh]] (by rfl) rfl rfl vL ?_
               with_reducible refine (itv_o FT.out GT.out.1 GT.out.2 HS.out.below IY.out.1 IY.out.2.1 IY.out.2.2.1 IY.out.2.2.2.1 IY.out.2.2.2.2).mono ?_
               rintro e wk ⟨rfl, hb⟩; refine ⟨_, rfl, ?_⟩
               have n_ := Aside0.mk (HS.out.next hb); have f_ := Aside0.mk (HF.out.next hb); clear HS HF; have HS := n_; have HF := f_; clear n_ f_ hb
               refine hK.out _ _ ⟨(FX.two HF m3_).1, (FX.two HF m3_).2.1, (FX.two HF m2_).1, (FX.two HF m2_).2.1⟩ (fun hHeld => ?_)
               clear hK K
               refine nO_ 157 ?_
               exact nP_ (hJ (gu, gv) _ ⟨HS.out, HF.out⟩)
            ·
             refine box_step ?hg (N := 16) ?hd (cs := #[.int .i64 0, .int .i64 0]) (t := 37) ?hr ?_; (case hd => rfl); (case hg => rfl); (case hr => first | (go_simp; done) | (go_simp; rfl))
             intro gu hg wk hbox hb
             have f_ := Aside0.mk (HF.out.made HS.out.below.size hg hbox hb); have n_ := Aside0.mk (HS.out.next hb); clear HS HF; have HS := n_; have HF := f_; clear n_ f_ hg hbox hb
             refine hK.out _ _ ⟨(FX.two HF m2_).1, (FX.two HF m2_).2.1, (FX.two HF m1_).1, (FX.two HF m1_).2.1⟩ (fun hHeld => ?_)
             clear hK K
             refine nO_ 16 ?_
             refine two_ (i := 2) (j := 7) (Ni := some 154) (Nj := some 17) (mB 10 95) (mB 10 219) rfl rfl rfl rfl (two_of HT_.out (by kernel_rfl)) (by decide) (by decide) (fun K hK => ?_) (fun K hK => ?_)
             ·
              refine goes_ Try.func31 (by kernel_rfl) rfl #[.slice tA t.length tc, .agg #[.int .i64 lo, .int .i64 hi]] (by rfl) rfl rfl vL ?_
              with_reducible refine (itv_o FT.out GT.out.1 GT.out.2 HS.out.below II.out.1 II.out.2.1 II.out.2.2.1 II.out.2.2.2.1 II.out.2.2.2.2).mono ?_
              rintro e wk ⟨rfl, hb⟩; refine ⟨_, rfl, ?_⟩
              have n_ := Aside0.mk (HS.out.next hb); have f_ := Aside0.mk (HF.out.next hb); clear HS HF; have HS := n_; have HF := f_; clear n_ f_ hb
              refine hK.out _ _ ⟨(FX.two HF m2_).1, (FX.two HF m2_).2.1, (FX.two HF m1_).1, (FX.two HF m1_).2.1⟩ (fun hHeld => ?_)
              clear hK K
              refine nO_ 154 ?_
              refine two_ (i := 5) (j := 7) (Ni := some 157) (Nj := some 17) (mB 10 127) (mB 10 223) rfl rfl rfl rfl (two_of HT_.out (by kernel_rfl)) (by decide) (by decide) (fun K hK => ?_) (fun K hK => ?_)
              ·
               refine goes_ Try.func31 (by kernel_rfl) rfl #[.slice tA t.length tc, .agg #[.int .i64 lo, .int .i64 yh]] (by rfl) rfl rfl vL ?_
               with_reducible refine (itv_o FT.out GT.out.1 GT.out.2 HS.out.below IY.out.1 IY.out.2.1 IY.out.2.2.1 IY.out.2.2.2.1 IY.out.2.2.2.2).mono ?_
               rintro e wk ⟨rfl, hb⟩; refine ⟨_, rfl, ?_⟩
               have n_ := Aside0.mk (HS.out.next hb); have f_ := Aside0.mk (HF.out.next hb); clear HS HF; have HS := n_; have HF := f_; clear n_ f_ hb
               refine hK.out _ _ ⟨(FX.two HF m2_).1, (FX.two HF m2_).2.1, (FX.two HF m1_).1, (FX.two HF m1_).2.1⟩ (fun hHeld => ?_)
               clear hK K
               refine nO_ 157 ?_
               refine one_ (i := 7) (N := some 17) (mB 10 255) rfl rfl (one_of HT_.out (by kernel_rfl)) (by decide) (fun K hK => ?_)
               refine box_step ?hg (N := 17) ?hd (cs := #[.int .i64 0, .int .i64 0]) (t := 37) ?hr ?_; (case hd => rfl); (case hg => rfl); (case hr => first | (go_simp; done) | (go_simp; rfl))
               intro gv hg wk hbox hb
               have f_ := Aside0.mk (HF.out.made HS.out.below.size hg hbox hb); have n_ := Aside0.mk (HS.out.next hb); clear HS HF; have HS := n_; have HF := f_; clear n_ f_ hg hbox hb
               refine hK.out _ _ ⟨(FX.two HF m3_).1, (FX.two HF m3_).2.1, (FX.two HF m2_).1, (FX.two HF m2_).2.1⟩ (fun hHeld => ?_)
               clear hK K
               refine nO_ 17 ?_
               exact nP_ (hJ (gu, gv) _ ⟨HS.out, HF.out.swap⟩)
              ·
               refine box_step ?hg (N := 17) ?hd (cs := #[.int .i64 0, .int .i64 0]) (t := 37) ?hr ?_; (case hd => rfl); (case hg => rfl); (case hr => first | (go_simp; done) | (go_simp; rfl))
               intro gv hg wk hbox hb
               have f_ := Aside0.mk (HF.out.made HS.out.below.size hg hbox hb); have n_ := Aside0.mk (HS.out.next hb); clear HS HF; have HS := n_; have HF := f_; clear n_ f_ hg hbox hb
               refine hK.out _ _ ⟨(FX.two HF m3_).1, (FX.two HF m3_).2.1, (FX.two HF m2_).1, (FX.two HF m2_).2.1⟩ (fun hHeld => ?_)
               clear hK K
               refine nO_ 17 ?_
               refine one_ (i := 5) (N := some 157) (mB 10 255) rfl rfl (one_of HT_.out (by kernel_rfl)) (by decide) (fun K hK => ?_)
               refine goes_ Try.func31 (by kernel_rfl) rfl #[.slice tA t.length tc, .agg #[.int .i64 lo, .int .i64 yh]] (by rfl) rfl rfl vL ?_
               with_reducible refine (itv_o FT.out GT.out.1 GT.out.2 HS.out.below IY.out.1 IY.out.2.1 IY.out.2.2.1 IY.out.2.2.2.1 IY.out.2.2.2.2).mono ?_
               rintro e wk ⟨rfl, hb⟩; refine ⟨_, rfl, ?_⟩
               have n_ := Aside0.mk (HS.out.next hb); have f_ := Aside0.mk (HF.out.next hb); clear HS HF; have HS := n_; have HF := f_; clear n_ f_ hb
               refine hK.out _ _ ⟨(FX.two HF m3_).1, (FX.two HF m3_).2.1, (FX.two HF m2_).1, (FX.two HF m2_).2.1⟩ (fun hHeld => ?_)
               clear hK K
               refine nO_ 157 ?_
               exact nP_ (hJ (gu, gv) _ ⟨HS.out, HF.out.swap⟩)
             ·
              refine box_step ?hg (N := 17) ?hd (cs := #[.int .i64 0, .int .i64 0]) (t := 37) ?hr ?_; (case hd => rfl); (case hg => rfl); (case hr => first | (go_simp; done) | (go_simp; rfl))
              intro gv hg wk hbox hb
              have f_ := Aside0.mk (HF.out.made HS.out.below.size hg hbox hb); have n_ := Aside0.mk (HS.out.next hb); clear HS HF; have HS := n_; have HF := f_; clear n_ f_ hg hbox hb
              refine hK.out _ _ ⟨(FX.two HF m3_).1, (FX.two HF m3_).2.1, (FX.two HF m2_).1, (FX.two HF m2_).2.1⟩ (fun hHeld => ?_)
              clear hK K
              refine nO_ 17 ?_
              refine one_ (i := 2) (N := some 154) (mB 10 223) rfl rfl (one_of HT_.out (by kernel_rfl)) (by decide) (fun K hK => ?_)
              refine goes_ Try.func31 (by kernel_rfl) rfl #[.slice tA t.length tc, .agg #[.int .i64 lo, .int .i64 hi]] (by rfl) rfl rfl vL ?_
              with_reducible refine (itv_o FT.out GT.out.1 GT.out.2 HS.out.below II.out.1 II.out.2.1 II.out.2.2.1 II.out.2.2.2.1 II.out.2.2.2.2).mono ?_
              rintro e wk ⟨rfl, hb⟩; refine ⟨_, rfl, ?_⟩
              have n_ := Aside0.mk (HS.out.next hb); have f_ := Aside0.mk (HF.out.next hb); clear HS HF; have HS := n_; have HF := f_; clear n_ f_ hb
              refine hK.out _ _ ⟨(FX.two HF m3_).1, (FX.two HF m3_).2.1, (FX.two HF m2_).1, (FX.two HF m2_).2.1⟩ (fun hHeld => ?_)
              clear hK K
              refine nO_ 154 ?_
              refine one_ (i := 5) (N := some 157) (mB 10 255) rfl rfl (one_of HT_.out (by kernel_rfl)) (by decide) (fun K hK => ?_)
              refine goes_ Try.func31 (by kernel_rfl) rfl #[.slice tA t.length tc, .agg #[.int .i64 lo, .int .i64 yh]] (by rfl) rfl rfl vL ?_
              with_reducible refine (itv_o FT.out GT.out.1 GT.out.2 HS.out.below IY.out.1 IY.out.2.1 IY.out.2.2.1 IY.out.2.2.2.1 IY.out.2.2.2.2).mono ?_
              rintro e wk ⟨rfl, hb⟩; refine ⟨_, rfl, ?_⟩
              have n_ := Aside0.mk (HS.out.next hb); have f_ := Aside0.mk (HF.out.next hb); clear HS HF; have HS := n_; have HF := f_; clear n_ f_ hb
              refine hK.out _ _ ⟨(FX.two HF m3_).1, (FX.two HF m3_).2.1, (FX.two HF m2_).1, (FX.two HF m2_).2.1⟩ (fun hHeld => ?_)
              clear hK K
              refine nO_ 157 ?_
              exact nP_ (hJ (gu, gv) _ ⟨HS.out, HF.out.swap⟩)
            ·
             refine box_step ?hg (N := 17) ?hd (cs := #[.int .i64 0, .int .i64 0]) (t := 37) ?hr ?_; (case hd => rfl); (case hg => rfl); (case hr => first | (go_simp; done) | (go_simp; rfl))
             intro gv hg wk hbox hb
             have f_ := Aside0.mk (HF.out.made HS.out.below.size hg hbox hb); have n_ := Aside0.mk (HS.out.next hb); clear HS HF; have HS := n_; have HF := f_; clear n_ f_ hg hbox hb
             refine hK.out _ _ ⟨(FX.two HF m2_).1, (FX.two HF m2_).2.1, (FX.two HF m1_).1, (FX.two HF m1_).2.1⟩ (fun hHeld => ?_)
             clear hK K
             refine nO_ 17 ?_
             refine two_ (i := 2) (j := 6) (Ni := some 154) (Nj := some 16) (mB 10 159) (mB 10 219) rfl rfl rfl rfl (two_of HT_.out (by kernel_rfl)) (by decide) (by decide) (fun K hK => ?_) (fun K hK => ?_)
             ·
              refine goes_ Try.func31 (by kernel_rfl) rfl #[.slice tA t.length tc, .agg #[.int .i64 lo, .int .i64 hi]] (by rfl) rfl rfl vL ?_
              with_reducible refine (itv_o FT.out GT.out.1 GT.out.2 HS.out.below II.out.1 II.out.2.1 II.out.2.2.1 II.out.2.2.2.1 II.out.2.2.2.2).mono ?_
              rintro e wk ⟨rfl, hb⟩; refine ⟨_, rfl, ?_⟩
              have n_ := Aside0.mk (HS.out.next hb); have f_ := Aside0.mk (HF.out.next hb); clear HS HF; have HS := n_; have HF := f_; clear n_ f_ hb
              refine hK.out _ _ ⟨(FX.two HF m2_).1, (FX.two HF m2_).2.1, (FX.two HF m1_).1, (FX.two HF m1_).2.1⟩ (fun hHeld => ?_)
              clear hK K
              refine nO_ 154 ?_
              refine two_ (i := 5) (j := 6) (Ni := some 157) (Nj := some 16) (mB 10 191) (mB 10 223) rfl rfl rfl rfl (two_of HT_.out (by kernel_rfl)) (by decide) (by decide) (fun K hK => ?_) (fun K hK => ?_)
              ·
               refine goes_ Try.func31 (by kernel_rfl) rfl #[.slice tA t.length tc, .agg #[.int .i64 lo, .int .i64 yh]] (by rfl) rfl rfl vL ?_
               with_reducible refine (itv_o FT.out GT.out.1 GT.out.2 HS.out.below IY.out.1 IY.out.2.1 IY.out.2.2.1 IY.out.2.2.2.1 IY.out.2.2.2.2).mono ?_
               rintro e wk ⟨rfl, hb⟩; refine ⟨_, rfl, ?_⟩
               have n_ := Aside0.mk (HS.out.next hb); have f_ := Aside0.mk (HF.out.next hb); clear HS HF; have HS := n_; have HF := f_; clear n_ f_ hb
               refine hK.out _ _ ⟨(FX.two HF m2_).1, (FX.two HF m2_).2.1, (FX.two HF m1_).1, (FX.two HF m1_).2.1⟩ (fun hHeld => ?_)
               clear hK K
               refine nO_ 157 ?_
               refine one_ (i := 6) (N := some 16) (mB 10 255) rfl rfl (one_of HT_.out (by kernel_rfl)) (by decide) (fun K hK => ?_)
               refine box_step ?hg (N := 16) ?hd (cs := #[.int .i64 0, .int .i64 0]) (t := 37) ?hr ?_; (case hd => rfl); (case hg => rfl); (case hr => first | (go_simp; done) | (go_simp; rfl))
               intro gu hg wk hbox hb
               have f_ := Aside0.mk (HF.out.made HS.out.below.size hg hbox hb); have n_ := Aside0.mk (HS.out.next hb); clear HS HF; have HS := n_; have HF := f_; clear n_ f_ hg hbox hb
               refine hK.out _ _ ⟨(FX.two HF m3_).1, (FX.two HF m3_).2.1, (FX.two HF m2_).1, (FX.two HF m2_).2.1⟩ (fun hHeld => ?_)
               clear hK K
               refine nO_ 16 ?_
               exact nP_ (hJ (gu, gv) _ ⟨HS.out, HF.out⟩)
              ·
               refine box_step ?hg (N := 16) ?hd (cs := #[.int .i64 0, .int .i64 0]) (t := 37) ?hr ?_; (case hd => rfl); (case hg => rfl); (case hr => first | (go_simp; done) | (go_simp; rfl))
               intro gu hg wk hbox hb
               have f_ := Aside0.mk (HF.out.made HS.out.below.size hg hbox hb); have n_ := Aside0.mk (HS.out.next hb); clear HS HF; have HS := n_; have HF := f_; clear n_ f_ hg hbox hb
               refine hK.out _ _ ⟨(FX.two HF m3_).1, (FX.two HF m3_).2.1, (FX.two HF m2_).1, (FX.two HF m2_).2.1⟩ (fun hHeld => ?_)
               clear hK K
               refine nO_ 16 ?_
               refine one_ (i := 5) (N := some 157) (mB 10 255) rfl rfl (one_of HT_.out (by kernel_rfl)) (by decide) (fun K hK => ?_)
               refine goes_ Try.func31 (by kernel_rfl) rfl #[.slice tA t.length tc, .agg #[.int .i64 lo, .int .i64 yh]] (by rfl) rfl rfl vL ?_
               with_reducible refine (itv_o FT.out GT.out.1 GT.out.2 HS.out.below IY.out.1 IY.out.2.1 IY.out.2.2.1 IY.out.2.2.2.1 IY.out.2.2.2.2).mono ?_
               rintro e wk ⟨rfl, hb⟩; refine ⟨_, rfl, ?_⟩
               have n_ := Aside0.mk (HS.out.next hb); have f_ := Aside0.mk (HF.out.next hb); clear HS HF; have HS := n_; have HF := f_; clear n_ f_ hb
               refine hK.out _ _ ⟨(FX.two HF m3_).1, (FX.two HF m3_).2.1, (FX.two HF m2_).1, (FX.two HF m2_).2.1⟩ (fun hHeld => ?_)
               clear hK K
               refine nO_ 157 ?_
               exact nP_ (hJ (gu, gv) _ ⟨HS.out, HF.out⟩)
             ·
              refine box_step ?hg (N := 16) ?hd (cs := #[.int .i64 0, .int .i64 0]) (t := 37) ?hr ?_; (case hd => rfl); (case hg => rfl); (case hr => first | (go_simp; done) | (go_simp; rfl))
              intro gu hg wk hbox hb
              have f_ := Aside0.mk (HF.out.made HS.out.below.size hg hbox hb); have n_ := Aside0.mk (HS.out.next hb); clear HS HF; have HS := n_; have HF := f_; clear n_ f_ hg hbox hb
              refine hK.out _ _ ⟨(FX.two HF m3_).1, (FX.two HF m3_).2.1, (FX.two HF m2_).1, (FX.two HF m2_).2.1⟩ (fun hHeld => ?_)
              clear hK K
              refine nO_ 16 ?_
              refine one_ (i := 2) (N := some 154) (mB 10 223) rfl rfl (one_of HT_.out (by kernel_rfl)) (by decide) (fun K hK => ?_)
              refine goes_ Try.func31 (by kernel_rfl) rfl #[.slice tA t.length tc, .agg #[.int .i64 lo, .int .i64 hi]] (by rfl) rfl rfl vL ?_
              with_reducible refine (itv_o FT.out GT.out.1 GT.out.2 HS.out.below II.out.1 II.out.2.1 II.out.2.2.1 II.out.2.2.2.1 II.out.2.2.2.2).mono ?_
              rintro e wk ⟨rfl, hb⟩; refine ⟨_, rfl, ?_⟩
              have n_ := Aside0.mk (HS.out.next hb); have f_ := Aside0.mk (HF.out.next hb); clear HS HF; have HS := n_; have HF := f_; clear n_ f_ hb
              refine hK.out _ _ ⟨(FX.two HF m3_).1, (FX.two HF m3_).2.1, (FX.two HF m2_).1, (FX.two HF m2_).2.1⟩ (fun hHeld => ?_)
              clear hK K
              refine nO_ 154 ?_
              refine one_ (i := 5) (N := some 157) (mB 10 255) rfl rfl (one_of HT_.out (by kernel_rfl)) (by decide) (fun K hK => ?_)
              refine goes_ Try.func31 (by kernel_rfl) rfl #[.slice tA t.length tc, .agg #[.int .i64 lo, .int .i64 yh]] (by rfl) rfl rfl vL ?_
              with_reducible refine (itv_o FT.out GT.out.1 GT.out.2 HS.out.below IY.out.1 IY.out.2.1 IY.out.2.2.1 IY.out.2.2.2.1 IY.out.2.2.2.2).mono ?_
              rintro e wk ⟨rfl, hb⟩; refine ⟨_, rfl, ?_⟩
              have n_ := Aside0.mk (HS.out.next hb); have f_ := Aside0.mk (HF.out.next hb); clear HS HF; have HS := n_; have HF := f_; clear n_ f_ hb
              refine hK.out _ _ ⟨(FX.two HF m3_).1, (FX.two HF m3_).2.1, (FX.two HF m2_).1, (FX.two HF m2_).2.1⟩ (fun hHeld => ?_)
              clear hK K
              refine nO_ 157 ?_
              exact nP_ (hJ (gu, gv) _ ⟨HS.out, HF.out⟩)
          rintro ⟨gu, gv⟩ W4 ⟨HS4, HF4⟩
          clear HS HF hHeld
          have HS := Aside0.mk HS4; have HF := Aside0.mk HF4
          have kne := FX.nes HF4; have kne' := fun e => kne (Eq.symm e)
          clear HS4 HF4
          dsimp only at HS HF kne kne'
          obtain ⟨p0, p1, p2, p3⟩ := FX.two HF m0_; obtain ⟨q0, q1, q2, q3⟩ := FX.two HF m1_
          refine nS_ ?_
          refine last_ (i := 8) (N := none) (mB 10 511) rfl rfl (one_of HT_.out (by kernel_rfl)) (by decide) (fun K hK => ?_)
          refine skip_ (w1 := ?_) (by rfl) rfl ?_ ?_
          rotate_left
          · go_simp
            rfl
          refine hK.out _ _ ?_
          clear hK K
          refine last_ (i := 9) (N := none) (mB 10 1023) rfl rfl (one_of HT_.out (by kernel_rfl)) (by decide) (fun K hK => ?_)
          refine skip_ (w1 := ?_) (by rfl) rfl ?_ ?_
          rotate_left
          · go_simp
            rfl
          refine hK.out _ _ ?_
          clear hK K
          refine done_ (done_of HT_.out (by kernel_rfl)) ?_
          clear p0 p1 p2 p3 q0 q1 q2 q3 kne kne' HT_ HW_
          unfold OnlyN
          have f1_ := HF.out.put2 (a' := .int .i64 (dnT t lo)) (b' := .int .i64 (upT t hi)); have s1_ := OS.box2 (a' := .int .i64 (dnT t lo)) (b' := .int .i64 (upT t hi)) HS.out (HF.out.all _ m0_).1 (HF.out.all _ m0_).2 (by decide) (by decide); have f2_ := f1_.swap; have f3_ := Aside0.mk (f2_.put2 (a' := .int .i64 (dnT t lo)) (b' := .int .i64 (upT t yh))); have s3_ := Aside0.mk (OS.box2 (a' := .int .i64 (dnT t lo)) (b' := .int .i64 (upT t yh)) s1_ (f2_.all _ m0_).1 (f2_.all _ m0_).2 (by decide) (by decide)); clear HS HF f1_ f2_ s1_; have HS := s3_; have HF := f3_; clear s3_ f3_
          generalize hW5 : ((((W4.setCell ⟨gu, 0, none⟩ (.int .i64 (dnT t lo))).setCell ⟨gu, 1, none⟩ (.int .i64 (upT t hi))).setCell ⟨gv, 0, none⟩ (.int .i64 (dnT t lo))).setCell ⟨gv, 1, none⟩ (.int .i64 (upT t yh))) = W5 at HS HF ⊢; clear hW5
          go_upto_region 15 with fail
          have d1 := D1.out; have d2 := D2.out; have d3 := D3.out
          have n_ := Aside0.mk (HS.out.next (below_drew (Below.refl _ _))); have f_ := Aside0.mk (HF.out.next (below_drew (Below.refl _ _))); clear HS HF; have HS := n_; have HF := f_; clear n_ f_
          refine start_ (n := 37) (S := fun w' => w'.cell? ⟨gv, 0, none⟩ = some (.int .i64 (dnT t lo)) ∧ w'.cell? ⟨gv, 1, none⟩ = some (.int .i64 (upT t yh)) ∧ w'.cell? ⟨gu, 0, none⟩ = some (.int .i64 (dnT t lo)) ∧ w'.cell? ⟨gu, 1, none⟩ = some (.int .i64 (upT t hi)) ∧ w'.cell? ⟨gi, 0, none⟩ = some (.int .i64 lo) ∧ w'.cell? ⟨gi, 1, none⟩ = some (.int .i64 hi)) (ds := []) (mB 37 0) (by kernel_rfl) rfl (by kernel_rfl) ⟨(FX.two HF m0_).1, (FX.two HF m0_).2.1, (FX.two HF m1_).1, (FX.two HF m1_).2.1, (FX.two HF m3_).1, (FX.two HF m3_).2.1⟩ (fun hHeld => ?_)
          refine with_tabW tu_tab15 tu_bits15 (fun HT_ HW_ => ?_)
          generalize hWd : World.drew _ = Wd at HS HF hHeld ⊢; clear hWd
          refine pV_ 0 158 (mB 37 1) HT_ ?_
          refine tV_ 1 159 (mB 37 3) HT_ HW_ hHeld ?_
          refine pV_ 2 160 (mB 37 7) HT_ ?_
          refine tV_ 3 161 (mB 37 15) HT_ HW_ hHeld ?_
          refine pV_ 4 162 (mB 37 31) HT_ ?_
          refine pV_ 5 163 (mB 37 63) HT_ ?_
          refine pV_ 6 164 (mB 37 127) HT_ ?_
          refine tV_ 7 165 (mB 37 255) HT_ HW_ hHeld ?_
          refine pV_ 8 166 (mB 37 511) HT_ ?_
          refine tV_ 9 167 (mB 37 1023) HT_ HW_ hHeld ?_
          refine pV_ 10 168 (mB 37 2047) HT_ ?_
          refine pV_ 11 169 (mB 37 4095) HT_ ?_
          refine pV_ 12 170 (mB 37 8191) HT_ ?_
          refine pV_ 13 171 (mB 37 16383) HT_ ?_
          refine tV_ 14 172 (mB 37 32767) HT_ HW_ hHeld ?_
          refine pV_ 15 173 (mB 37 65535) HT_ ?_
          refine tV_ 16 174 (mB 37 131071) HT_ HW_ hHeld ?_
          refine pV_ 17 175 (mB 37 262143) HT_ ?_
          refine pV_ 18 176 (mB 37 524287) HT_ ?_
          refine pV_ 19 177 (mB 37 1048575) HT_ ?_
          refine pV_ 20 178 (mB 37 2097151) HT_ ?_
          refine tV_ 21 179 (mB 37 4194303) HT_ HW_ hHeld ?_
          refine pV_ 22 180 (mB 37 8388607) HT_ ?_
          refine tV_ 23 181 (mB 37 16777215) HT_ HW_ hHeld ?_
          refine pV_ 24 182 (mB 37 33554431) HT_ ?_
          refine pV_ 25 183 (mB 37 67108863) HT_ ?_
          refine pV_ 26 184 (mB 37 134217727) HT_ ?_
          refine pV_ 27 185 (mB 37 268435455) HT_ ?_
          refine tV_ 28 186 (mB 37 536870911) HT_ HW_ hHeld ?_
          refine tV_ 30 188 (mB 37 1610612735) HT_ HW_ hHeld ?_
          refine one_ (i := 29) (N := some 187) (mB 37 2147483647) rfl rfl (one_of HT_.out (by kernel_rfl)) (by decide) (fun K hK => ?_)
          refine goes_ Try.func31 (by kernel_rfl) rfl #[.slice tA t.length tc, .agg #[.int .i64 (dnT t lo), .int .i64 (upT t hi)]] (by rfl) rfl rfl vL ?_
          with_reducible refine (IZ.out HS.out.below).mono ?_
          rintro e wk ⟨rfl, hb⟩; refine ⟨_, rfl, ?_⟩
          have n_ := Aside0.mk (HS.out.next hb); have f_ := Aside0.mk (HF.out.next hb); clear HS HF; have HS := n_; have HF := f_; clear n_ f_ hb
          refine hK.out _ _ ⟨(FX.two HF m0_).1, (FX.two HF m0_).2.1, (FX.two HF m1_).1, (FX.two HF m1_).2.1, (FX.two HF m3_).1, (FX.two HF m3_).2.1⟩ (fun hHeld => ?_)
          clear hK K
          refine nO_ 187 ?_
          refine pV_ 31 189 (mB 37 4294967295) HT_ ?_
          refine pV_ 32 190 (mB 37 8589934591) HT_ ?_
          refine pV_ 33 191 (mB 37 17179869183) HT_ ?_
          refine one_ (i := 34) (N := some 192) (mB 37 34359738367) rfl rfl (one_of HT_.out (by kernel_rfl)) (by decide) (fun K hK => ?_)
          refine goes_ Try.func25 (by kernel_rfl) rfl #[] (by rfl) rfl rfl vL ?_
          with_reducible refine (awake13_o).mono ?_
          rintro e wk ⟨rfl, hb⟩; refine ⟨_, rfl, ?_⟩
          have n_ := Aside0.mk (HS.out.next hb); have f_ := Aside0.mk (HF.out.next hb); clear HS HF; have HS := n_; have HF := f_; clear n_ f_ hb
          refine hK.out _ _ ⟨(FX.two HF m0_).1, (FX.two HF m0_).2.1, (FX.two HF m1_).1, (FX.two HF m1_).2.1, (FX.two HF m3_).1, (FX.two HF m3_).2.1⟩ (fun hHeld => ?_)
          clear hK K
          refine nO_ 192 ?_
          refine pV_ 35 193 (mB 37 68719476735) HT_ ?_
          refine pV_ 36 10 (mB 37 137438953471) HT_ ?_
          refine done_ (done_of HT_.out (by kernel_rfl)) ?_
          clear HT_ HW_ hHeld
          try go_wp2
          all_goals (go_ret; exact ⟨rfl, OS.bel HS⟩)
end Go.Proofs.Ytomgebmimgaojaa.QO
end
end
section
namespace Go.Proofs.Ytomgebmimgaojaa.Open
open Go.RowKit Go.ChangeShapes Go.WideShapes Go.Proofs.YtomgebmimgaojaaW.PrintWords Go.Proofs.YtomgebmimgaojaaW.PrintMore
def Opens {α : Type} (P : Program) (t : TypeId) (R : World → α → List Value → Prop) (Q : α → Prop) : Prop :=
  ∀ (H : Type) (enc : TypeId × Value → H) (w : World) (base : Nat) (spare : Nat → Bool) (held : Bool) (fuel : Nat) (cs : List Value) (x : DataW H × List MemPlace),
    DataW.trod enc P w base spare held fuel t cs = some x → (∀ n ∈ DataW.weights P t x.1, n ≤ 140737488351232) → ∃ a : α, R w a cs ∧ Q a
variable {P : Program} {t e : TypeId}
theorem opens_int {k : IntKind} (ht : P.underlying t = some (.int k)) : Opens P t (Kd.int k).K (fun n => (Lit.int k n).wf = true) := by
  intro H enc w base spare held fuel cs x h _
  obtain ⟨n, rfl, _, hw⟩ := DataW.trod_int ht h
  exact ⟨n, rfl, hw⟩
theorem opens_bool (ht : P.underlying t = some .bool) : Opens P t Kd.bool.K (fun _ => True) := by
  intro H enc w base spare held fuel cs x h _
  obtain ⟨n, rfl, _⟩ := DataW.trod_bool ht h
  exact ⟨n, rfl, trivial⟩
theorem weightsAll_mem {H : Type} {l : List (DataW H)} {d : DataW H} (hd : d ∈ l) {n : Nat} (hn : n ∈ DataW.weights P e d) : n ∈ DataW.weightsAll P e l := by
  induction l with
  | nil => cases hd
  | cons y r ih =>
    unfold DataW.weightsAll
    rcases List.mem_cons.1 hd with rfl | h
    · exact List.mem_append_left _ hn
    · exact List.mem_append_right _ (ih h)
theorem weightsEach_mem {H : Type} : ∀ {ts : List TypeId} {l : List (DataW H)} {i : Nat} {t : TypeId} {d : DataW H}, ts[i]? = some t → l[i]? = some d → ∀ {n : Nat}, n ∈ DataW.weights P t d → n ∈ DataW.weightsEach P ts l
  | [], _, i, _, _, h, _, _, _ => by simp at h
  | _ :: _, [], i, _, _, _, h, _, _ => by simp at h
  | t' :: ts, d' :: l, 0, t, d, h1, h2, n, hn => by
    simp at h1 h2; subst h1; subst h2
    unfold DataW.weightsEach; exact List.mem_append_left _ hn
  | t' :: ts, d' :: l, i + 1, t, d, h1, h2, n, hn => by
    simp at h1 h2
    unfold DataW.weightsEach; exact List.mem_append_right _ (weightsEach_mem h1 h2 hn)
theorem all_some {α β : Type} {Q : Nat → α → β → Prop} : ∀ (xs : List β) (_ : ∀ i y, xs[i]? = some y → ∃ a, Q i a y), ∃ l : List α, l.length = xs.length ∧ ∀ i a, l[i]? = some a → ∃ y, xs[i]? = some y ∧ Q i a y
  | [], _ => ⟨[], rfl, fun i a h => by simp at h⟩
  | y :: r, h => by
    obtain ⟨a0, h0⟩ := h 0 y rfl
    obtain ⟨l, hl, hr⟩ := all_some (Q := fun i a y => Q (i + 1) a y) r (fun i y hy => h (i + 1) y (by simpa using hy))
    refine ⟨a0 :: l, by simp [hl], fun i a hi => ?_⟩
    cases i with
    | zero => simp at hi; subst hi; exact ⟨y, rfl, h0⟩
    | succ i => obtain ⟨z, hz, hq⟩ := hr i a (by simpa using hi); exact ⟨z, by simpa using hz, hq⟩
theorem opens_slice {α : Type} {d : Kd α} {Q : α → Prop} {B : Nat} (ht : P.underlying t = some (.slice e)) (hs : P.cellsOf e = d.sz) (hB : P.bytesOf e = B) (ho : Opens P e d.K Q) :
    Opens P t (Kd.slice e d).K (fun l => l.length * B ≤ 140737488351232 ∧ l.length ≤ maxLen ∧ ∀ x ∈ l, Q x) := by
  intro H enc w base spare held fuel cs x h hw
  rcases DataW.trod_slice ht h with ⟨rfl, _⟩ | ⟨a, len, cap, elems, rest, n, _, rfl, rfl, hb, hl, hc, hlen, hel, _, _⟩
  · exact ⟨[], ⟨none, 0, rfl, Nat.le_refl _, ⟨rfl, by simp, fun h => absurd h (by simp)⟩⟩, by simp, by simp, fun x hx => by cases hx⟩
  · have hwt : ∀ m ∈ DataW.weights P t (.slice (elems.map (·.1)) (rest.map (·.1))), m ≤ 140737488351232 := hw
    have each : ∀ i y, elems[i]? = some y → ∃ a' : α, (∃ c : List Value, c.length = d.sz ∧ d.K w a' c ∧ ∀ j u, c[j]? = some u → w.cell? (a.add (i * d.sz + j)) = some u) ∧ Q a' := by
      intro i y hy
      have hi : i < len := by rw [← hlen]; exact (List.getElem?_eq_some_iff.1 hy).1
      have h1 := hel i hi
      rw [hy] at h1
      obtain ⟨c, hc1, hc2⟩ := Option.bind_eq_some_iff.1 h1
      obtain ⟨a', hk, hq⟩ := ho H enc w base spare held n c y hc2 (fun m hm => hwt m (by
        simp only [DataW.weights, ht]
        exact List.mem_cons_of_mem _ (List.mem_append_left _ (weightsAll_mem (List.mem_map_of_mem (List.mem_of_getElem? hy)) hm))))
      refine ⟨a', ⟨c, d.K_len hk, hk, fun j u hj => ?_⟩, hq⟩
      unfold World.cells? at hc1
      split at hc1
      · have hlc := mapM_some_length hc1
        have hj' : j < P.cellsOf e := by have := (List.getElem?_eq_some_iff.1 hj).1; rw [List.length_range] at hlc; omega
        have := mapM_some_get hc1 j j (by simp [hj'])
        rw [hj] at this
        rw [← hs, ← Addr.add_add]
        exact this
      · cases hc1
    obtain ⟨l, hll, hlr⟩ := all_some elems each
    refine ⟨l, ⟨some a, cap, ?_, by omega, ⟨rfl, ?_, fun _ => ⟨a, rfl, fun j p hj => ?_⟩⟩⟩, ?_, by omega, fun x hx => ?_⟩
    · rw [hll, hlen]
    · unfold maxLen at hc; omega
    · obtain ⟨_, _, ⟨c, h1, h2, h3⟩, _⟩ := hlr j p hj
      exact ⟨c, h1, h2, h3⟩
    · have := hwt (((elems.map (·.1)).length + (rest.map (·.1)).length) * P.bytesOf e) (by simp only [DataW.weights, ht]; exact List.mem_cons_self ..)
      rw [hB] at this
      simp only [List.length_map] at this
      rw [hll]
      exact Nat.le_trans (Nat.mul_le_mul_right _ (by omega)) this
    · obtain ⟨i, hi⟩ := List.getElem?_of_mem hx
      obtain ⟨_, _, _, hq⟩ := hlr i x hi
      exact hq
theorem open_field {H : Type} {enc : TypeId × Value → H} {w : World} {base : Nat} {spare : Nat → Bool} {held : Bool} {fs : Array Field} {xs : List (DataW H × List MemPlace)} {n : Nat} {cs : List Value}
    (ht : P.underlying t = some (.struct fs)) (hw : ∀ m ∈ DataW.weights P t (.agg (xs.map (·.1))), m ≤ 140737488351232) (hx : xs.length = fs.size)
    (hf : ∀ (i : Nat) (f : Field), fs[i]? = some f → DataW.trod enc P w base spare held n f.type ((cs.drop f.offset).take (P.cellsOf f.type)) = xs[i]?)
    (i : Nat) (f : Field) (hi : fs[i]? = some f) (o s : Nat) (eo : f.offset = o) (es : P.cellsOf f.type = s) {α : Type} {R : World → α → List Value → Prop} {Q : α → Prop} (ho : Opens P f.type R Q) : ∃ a : α, R w a ((cs.drop o).take s) ∧ Q a := by
  have h1 := hf i f hi
  rw [eo, es] at h1
  have hlt : i < xs.length := by rw [hx]; exact (Array.getElem?_eq_some_iff.1 hi).1
  rw [List.getElem?_eq_getElem hlt] at h1
  refine ho H enc w base spare held n _ _ h1 (fun m hm => hw m ?_)
  simp only [DataW.weights, ht]
  refine weightsEach_mem (i := i) (t := f.type) (d := xs[i].1) ?_ ?_ hm
  · simp only [List.getElem?_map, Array.getElem?_toList, hi, Option.map_some]
  · simp only [List.getElem?_map, List.getElem?_eq_getElem hlt, Option.map_some]
theorem arg_slice {H : Type} {enc : TypeId × Value → H} {w : World} {base : Nat} {spare : Nat → Bool} {held : Bool} {v : Value} {dd : DataW H} {ps : List MemPlace} {α : Type} {d : Kd α} {Q : List α → Prop}
    (ho : Opens P t (Kd.slice e d).K Q) (h : DataW.Trod enc P w base spare held t v dd ps) (hw : ∀ m ∈ DataW.weights P t dd, m ≤ 140737488351232) (hv : ∃ a n c, v = .slice a n c) :
    ∃ A c l, v = .slice A l.length c ∧ l.length ≤ c ∧ Kd.C d w A l.length l ∧ Q l := by
  obtain ⟨fuel, hf⟩ := h
  obtain ⟨l, ⟨A, c, hc, hl, hr⟩, hq⟩ := ho H enc w base spare held fuel _ _ hf hw
  obtain ⟨a, n, c', rfl⟩ := hv
  simp [Value.cells] at hc
  obtain ⟨rfl, rfl, rfl⟩ := hc
  exact ⟨_, _, l, rfl, hl, hr, hq⟩
theorem weights_at {H : Type} {ts : List TypeId} {ds : List (DataW H)} (hsz : (DataW.weightsEach P ts ds).all (· ≤ reachBytes) = true) {j : Nat} {d : DataW H} (h1 : ts[j]? = some t) (h2 : ds[j]? = some d) : ∀ m ∈ DataW.weights P t d, m ≤ 140737488351232 := by
  intro m hm
  exact of_decide_eq_true (List.all_eq_true.1 hsz m (weightsEach_mem h1 h2 hm))
end Go.Proofs.Ytomgebmimgaojaa.Open
end
