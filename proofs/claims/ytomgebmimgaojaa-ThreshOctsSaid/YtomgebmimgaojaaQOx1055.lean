/- Written by a program of this session out of the translation. -/
import Derived.Test.YtomgebmimgaojaaQOx0
import Derived.Test.YtomgebmimgaojaaQOx1018
import Derived.Test.YtomgebmimgaojaaQOx1051
import Derived.Test.YtomgebmimgaojaaQOx1052
noncomputable section
namespace Go.Proofs.Ytomgebmimgaojaa.QO
open Go.RowKit Go.Proofs.YtomgebmimgaojaaW.PrintWords Go.Proofs.YtomgebmimgaojaaW.PrintLast
set_option linter.unusedVariables false
set_option linter.unusedSimpArgs false

/-! ### oct_of: function 55 -/
/-- the value that stands for an octagon's table -/
def tableV (n : Int) (A : Option Addr) (len cap : Nat) : Value := .iface 85 (.agg #[.int .i64 n, .slice A len cap])
set_option maxHeartbeats 8000000 in
set_option maxRecDepth 100000 in
theorem oct_of_any (A0 : Option Addr) (n0 c0 : Nat) (A1 : Option Addr) (n1 c1 : Nat) (b : Bool) (w : World) (hn : n0 ≤ 17592186044416) :
    Calls Try.prog 55 #[.agg #[.slice A0 n0 c0, .slice A1 n1 c1, .bool b]] w fun e w' => e = .returned (tableV (2 * (n0 : Int)) A1 n1 c1) ∧ Below w.heap.size w w' := by
  have hu25 := Try.underlying25
  have hw : wrap64 (2 * (n0 : Int)) = 2 * (n0 : Int) := by unfold wrap64; omega
  have hw2 : IntKind.i64.wrap (2 * (n0 : Int)) = 2 * (n0 : Int) := by rw [IntKind.wrap_i64]; omega
  clear hn
  go_enter Try.func55, Try.ntmps55
  go_wp2
  go_ret
  exact ⟨rfl, below_alloc (Below.refl _ _) _⟩
/-- the two methods of a table, found at its type -/
theorem meth_size (m : Int) (A : Option Addr) (n c : Nat) (w : World) : (method 213 85 (.agg #[.int .i64 m, .slice A n c]) "gimbal/oct.size").run Try.prog w = .ok (110, .agg #[.int .i64 m, .slice A n c]) w := by kernel_rfl
theorem meth_at (m : Int) (A : Option Addr) (n c : Nat) (w : World) : (method 213 85 (.agg #[.int .i64 m, .slice A n c]) "gimbal/oct.at").run Try.prog w = .ok (111, .agg #[.int .i64 m, .slice A n c]) w := by kernel_rfl
set_option maxHeartbeats 8000000 in
set_option maxRecDepth 100000 in
theorem oct_size_any (m : Int) (A : Option Addr) (n c : Nat) (w : World) :
    Calls Try.prog 110 #[.agg #[.int .i64 m, .slice A n c]] w fun e w' => e = .returned (.int .i64 m) ∧ Below w.heap.size w w' := by
  have hu58 := Try.underlying58
  go_enter Try.func110, Try.ntmps110
  go_wp2
  go_ret
  exact ⟨rfl, below_alloc (Below.refl _ _) _⟩
/-- an entry by way of the half that is not mirrored -/
def lowAt (n2 : Int) (m : List Int) (i j : Int) : Int := if j / 2 > i / 2 then rd m (nbar j * n2 + nbar i) else rd m (i * n2 + j)
set_option maxHeartbeats 8000000 in
set_option maxRecDepth 100000 in
theorem oct_lower_at_any (n : Nat) (A : Option Addr) (c : Nat) (m : List Int) (i j : Int) (w : World) (hr : Kd.C (Kd.int .i64) w A m.length m) (hc : m.length ≤ c) (hn : n ≤ 8) (hm : (m.length : Int) = (2 * (n : Int)) * (2 * (n : Int)))
    (h0 : 0 ≤ i) (h1 : i < 2 * (n : Int)) (h2 : 0 ≤ j) (h3 : j < 2 * (n : Int)) :
    Calls Try.prog 111 #[.agg #[.int .i64 (2 * (n : Int)), .slice A m.length c], .int .i64 i, .int .i64 j] w fun e w' => e = .returned (.int .i64 (lowAt (2 * (n : Int)) m i j)) ∧ Below w.heap.size w w' := by
  have hu58 := Try.underlying58
  have hu85 := Try.underlying85
  have nj := nbar_in (i := j) (n := n) h2 h3
  have ni := nbar_in (i := i) (n := n) h0 h1
  have a1 := at_ok (n := n) (m := m) (i := i) (j := j) hn hm h0 h1 h2 h3
  have a2 := at_ok (n := n) (m := m) (i := nbar j) (j := nbar i) hn hm nj.1 nj.2 ni.1 ni.2
  have b1 : oct_bar.f j = some (nbar j) := by unfold oct_bar.f; rw [if_pos ⟨h2, by omega⟩]
  have b2 : oct_bar.f i = some (nbar i) := by unfold oct_bar.f; rw [if_pos ⟨h0, by omega⟩]
  have HR := Aside0.mk hr
  obtain ⟨i2, hi2⟩ : ∃ i2 : Int, i / 2 = i2 := ⟨_, rfl⟩
  obtain ⟨j2, hj2⟩ : ∃ j2 : Int, j / 2 = j2 := ⟨_, rfl⟩
  have d1 : i.tdiv 2 = i2 := by rw [Int.tdiv_eq_ediv_of_nonneg h0]; exact hi2
  have d2 : j.tdiv 2 = j2 := by rw [Int.tdiv_eq_ediv_of_nonneg h2]; exact hj2
  have d3 : wrap64 i2 = i2 := by unfold wrap64; omega
  have d4 : wrap64 j2 = j2 := by unfold wrap64; omega
  by_cases hlt : j / 2 > i / 2
  · have e : lowAt (2 * (n : Int)) m i j = rd m (nbar j * (2 * (n : Int)) + nbar i) := by unfold lowAt; rw [if_pos hlt]
    rw [e]
    obtain ⟨n2, hn2⟩ : ∃ n2 : Int, 2 * (n : Int) = n2 := ⟨_, rfl⟩
    rw [hn2] at a2 ⊢
    obtain ⟨p, hp⟩ : ∃ p, nbar j = p := ⟨_, rfl⟩
    obtain ⟨q, hq⟩ : ∃ q, nbar i = q := ⟨_, rfl⟩
    rw [hp, hq] at a2 ⊢
    rw [hp] at b1
    rw [hq] at b2
    obtain ⟨y, hy⟩ : ∃ y, rd m (p * n2 + q) = y := ⟨_, rfl⟩
    rw [hy] at a2 ⊢
    have C2 := Aside0.mk (fun W (hW : Kd.C (Kd.int .i64) W A m.length m) => oct_full_at.calls n2 A c m p q y W hW hc a2)
    have B1 := Aside0.mk (fun W => oct_bar_still j p W b1)
    have B2 := Aside0.mk (fun W => oct_bar_still i q W b2)
    have f1 : decide (i2 < j2) = true := decide_eq_true (by omega)
    clear nj ni a1 a2 b1 b2 hr hlt hi2 hj2 e hy hp hq hm hn hn2 h1 h3 h0 h2 hc
    go_enter Try.func111, Try.ntmps111
    go_wp2_with (first | (go_at_call 52; (with_reducible refine (B1.out _).mono ?_); rintro e w' ⟨rfl, rfl⟩) | (go_at_call 52; (with_reducible refine (B2.out _).mono ?_); rintro e w' ⟨rfl, rfl⟩) | (go_at_call 51; (with_reducible refine (C2.out _ ?s1).mono ?_); (case s1 => exact Kd.C_alloc HR.out _); rintro e w1 ⟨rfl, hb⟩))
    go_ret
    exact ⟨rfl, (below_alloc (Below.refl _ _) _).trans (hb.mono (by simp))⟩
  · have e : lowAt (2 * (n : Int)) m i j = rd m (i * (2 * (n : Int)) + j) := by unfold lowAt; rw [if_neg hlt]
    rw [e]
    obtain ⟨n2, hn2⟩ : ∃ n2 : Int, 2 * (n : Int) = n2 := ⟨_, rfl⟩
    rw [hn2] at a1 ⊢
    obtain ⟨y, hy⟩ : ∃ y, rd m (i * n2 + j) = y := ⟨_, rfl⟩
    rw [hy] at a1 ⊢
    have C1 := Aside0.mk (fun W (hW : Kd.C (Kd.int .i64) W A m.length m) => oct_full_at.calls n2 A c m i j y W hW hc a1)
    have f1 : decide (i2 < j2) = false := decide_eq_false (by omega)
    clear nj ni a1 a2 b1 b2 hr hlt hi2 hj2 e hy hm hn hn2 h1 h3 h0 h2 hc
    go_enter Try.func111, Try.ntmps111
    go_wp2_with (go_at_call 51; (with_reducible refine (C1.out _ ?s1).mono ?_); (case s1 => exact Kd.C_alloc HR.out _); rintro e w1 ⟨rfl, hb⟩)
    go_ret
    exact ⟨rfl, (below_alloc (Below.refl _ _) _).trans (hb.mono (by simp))⟩

end Go.Proofs.Ytomgebmimgaojaa.QO
