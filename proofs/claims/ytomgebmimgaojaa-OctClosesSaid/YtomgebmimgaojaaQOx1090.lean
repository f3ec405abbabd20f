/- Written by a program of this session out of the translation. -/
import Derived.Test.YtomgebmimgaojaaQOx0
noncomputable section
namespace Go.Proofs.Ytomgebmimgaojaa.QO
open Go.RowKit Go.Proofs.YtomgebmimgaojaaW.PrintWords Go.Proofs.YtomgebmimgaojaaW.PrintLast
set_option linter.unusedVariables false
set_option linter.unusedSimpArgs false

/-! ### oct_less: function 90 -/
/-- the entry that stands for math/bits.Sub64 -/
def sub64Row : Array Value → Sem Value := fun args => do
  let (x, y, b) ← Extern.MathBitsCarry.three "Sub64" args
  pure (Extern.MathBitsCarry.pair ((x + Extern.MathBitsCarry.m64 - y - b) % Extern.MathBitsCarry.m64) (if x < y + b then 1 else 0))
theorem run_sub64Row (x y b : Nat) (hb : b ≤ 1) (w : World) :
    (sub64Row #[.int .u64 x, .int .u64 y, .int .u64 b]).run Try.prog w =
      .ok (.tuple #[.int .u64 (((x + 18446744073709551616 - y - b) % 18446744073709551616 : Nat) : Int), .int .u64 ((if x < y + b then 1 else 0 : Nat) : Int)]) w := by
  have : b = 0 ∨ b = 1 := by omega
  rcases this with rfl | rfl <;> rfl
theorem sub64_call (x y b : Nat) (hb : b ≤ 1) (w : World) :
    (callFunc 94 #[.int .u64 x, .int .u64 y, .int .u64 b]).run Try.prog w =
      .ok (.value (.tuple #[.int .u64 (((x + 18446744073709551616 - y - b) % 18446744073709551616 : Nat) : Int), .int .u64 ((if x < y + b then 1 else 0 : Nat) : Int)])) w := by
  rw [run_callFunc_extern Try.func94 (by kernel_rfl) (by kernel_rfl) (by kernel_rfl) (e := sub64Row) (by kernel_rfl), run_sub64Row x y b hb]
  rfl
theorem sub64_int (x y c : Int) (w : World) (hx : 0 ≤ x) (hx' : x < 18446744073709551616) (hy : 0 ≤ y) (hy' : y < 18446744073709551616) (hc : 0 ≤ c) (hc' : c ≤ 1) :
    (callFunc 94 #[.int .u64 x, .int .u64 y, .int .u64 c]).run Try.prog w = .ok (.value (.tuple #[.int .u64 ((x - y - c) % 18446744073709551616), .int .u64 (if x < y + c then 1 else 0)])) w := by
  obtain ⟨x, rfl⟩ := Int.eq_ofNat_of_zero_le hx
  obtain ⟨y, rfl⟩ := Int.eq_ofNat_of_zero_le hy
  obtain ⟨c, rfl⟩ := Int.eq_ofNat_of_zero_le hc
  rw [sub64_call x y c (by omega) w]
  have e1 : (((x + 18446744073709551616 - y - c) % 18446744073709551616 : Nat) : Int) = ((x : Int) - y - c) % 18446744073709551616 := by omega
  have e2 : ((if x < y + c then 1 else 0 : Nat) : Int) = if (x : Int) < y + c then 1 else 0 := by split <;> split <;> omega
  rw [e1, e2]
theorem u64_in (x : Int) : 0 ≤ IntKind.u64.wrap x ∧ IntKind.u64.wrap x < 18446744073709551616 := by rw [IntKind.wrap_u64]; omega
theorem less_lo (a b : Int) : (IntKind.u64.wrap b - IntKind.u64.wrap a - 0) % 18446744073709551616 = (b - a) % 18446744073709551616 := by
  rw [IntKind.wrap_u64, IntKind.wrap_u64, Int.sub_zero, ← Int.sub_emod]
theorem less_num (a b hi bo : Int) (ha : -9223372036854775808 ≤ a ∧ a ≤ 9223372036854775807) (hb : -9223372036854775808 ≤ b ∧ b ≤ 9223372036854775807)
    (hb0 : IntKind.u64.wrap b = b % 18446744073709551616) (ha0 : IntKind.u64.wrap a = a % 18446744073709551616)
    (hb1 : IntKind.u64.wrap (b / 9223372036854775808) = b / 9223372036854775808 % 18446744073709551616) (ha1 : IntKind.u64.wrap (a / 9223372036854775808) = a / 9223372036854775808 % 18446744073709551616)
    (hbo : (if IntKind.u64.wrap b < IntKind.u64.wrap a then 1 else 0) = bo)
    (hhi : (IntKind.u64.wrap (b / 9223372036854775808) - IntKind.u64.wrap (a / 9223372036854775808) - bo) % 18446744073709551616 = hi) :
    IntKind.i64.wrap hi = (b - a) / 18446744073709551616 := by
  rw [hb0, ha0] at hbo
  rw [hb1, ha1] at hhi
  have B : (b < 0 ∧ b % 18446744073709551616 = b + 18446744073709551616 ∧ b / 9223372036854775808 % 18446744073709551616 = 18446744073709551615) ∨ (0 ≤ b ∧ b % 18446744073709551616 = b ∧ b / 9223372036854775808 % 18446744073709551616 = 0) := by omega
  have A : (a < 0 ∧ a % 18446744073709551616 = a + 18446744073709551616 ∧ a / 9223372036854775808 % 18446744073709551616 = 18446744073709551615) ∨ (0 ≤ a ∧ a % 18446744073709551616 = a ∧ a / 9223372036854775808 % 18446744073709551616 = 0) := by omega
  have D : (b - a) / 18446744073709551616 = if b < a then -1 else 0 := by split <;> omega
  rw [D, IntKind.wrap_i64]
  clear D hb0 ha0 hb1 ha1
  generalize b / 9223372036854775808 % 18446744073709551616 = b1 at *
  generalize a / 9223372036854775808 % 18446744073709551616 = a1 at *
  generalize b % 18446744073709551616 = b2 at *
  generalize a % 18446744073709551616 = a2 at *
  rcases B with ⟨B1, rfl, rfl⟩ | ⟨B1, rfl, rfl⟩ <;> rcases A with ⟨A1, rfl, rfl⟩ | ⟨A1, rfl, rfl⟩ <;> split at hbo <;> subst hbo <;> subst hhi <;> split <;> omega
set_option maxHeartbeats 8000000 in
set_option maxRecDepth 100000 in
theorem oct_less_any (a b : Int) (w : World) (ha : -9223372036854775808 ≤ a ∧ a ≤ 9223372036854775807) (hb : -9223372036854775808 ≤ b ∧ b ≤ 9223372036854775807) :
    Calls Try.prog 90 #[.int .i64 a, .int .i64 b] w fun e w' => e = .returned (.tuple #[.int .i64 ((b - a) / 18446744073709551616), .int .u64 ((b - a) % 18446744073709551616)]) ∧ Drawn0 w w' := by
  have hb0 := IntKind.wrap_u64 b
  have ha0 := IntKind.wrap_u64 a
  have hb1 := IntKind.wrap_u64 (b / 9223372036854775808)
  have ha1 := IntKind.wrap_u64 (a / 9223372036854775808)
  obtain ⟨lo, hlo⟩ : ∃ lo : Int, (IntKind.u64.wrap b - IntKind.u64.wrap a - 0) % 18446744073709551616 = lo := ⟨_, rfl⟩
  obtain ⟨bo, hbo⟩ : ∃ bo : Int, (if IntKind.u64.wrap b < IntKind.u64.wrap a + 0 then 1 else 0) = bo := ⟨_, rfl⟩
  obtain ⟨hi, hhi⟩ : ∃ hi : Int, (IntKind.u64.wrap (b / 9223372036854775808) - IntKind.u64.wrap (a / 9223372036854775808) - bo) % 18446744073709551616 = hi := ⟨_, rfl⟩
  obtain ⟨bp, hbp⟩ : ∃ bp : Int, (if IntKind.u64.wrap (b / 9223372036854775808) < IntKind.u64.wrap (a / 9223372036854775808) + bo then 1 else 0) = bp := ⟨_, rfl⟩
  have hbo2 : 0 ≤ bo ∧ bo ≤ 1 := by rw [← hbo]; split <;> decide
  have h1 : ∀ w, (callFunc 94 #[.int .u64 (IntKind.u64.wrap b), .int .u64 (IntKind.u64.wrap a), .int .u64 0]).run Try.prog w = .ok (.value (.tuple #[.int .u64 lo, .int .u64 bo])) w := by
    intro w
    rw [sub64_int _ _ 0 w (u64_in _).1 (u64_in _).2 (u64_in _).1 (u64_in _).2 (by decide) (by decide), hlo, hbo]
  have h2 : ∀ w, (callFunc 94 #[.int .u64 (IntKind.u64.wrap (b / 9223372036854775808)), .int .u64 (IntKind.u64.wrap (a / 9223372036854775808)), .int .u64 bo]).run Try.prog w = .ok (.value (.tuple #[.int .u64 hi, .int .u64 bp])) w := by
    intro w
    rw [sub64_int _ _ bo w (u64_in _).1 (u64_in _).2 (u64_in _).1 (u64_in _).2 hbo2.1 hbo2.2, hhi, hbp]
  have e1 : lo = (b - a) % 18446744073709551616 := by rw [← hlo]; exact less_lo a b
  have e2 : wrap64 hi = (b - a) / 18446744073709551616 := by
    rw [Int.add_zero] at hbo
    unfold wrap64
    rw [← IntKind.wrap_i64]
    exact less_num a b hi bo ha hb hb0 ha0 hb1 ha1 hbo hhi
  have E1 := Aside0.mk e1
  have E2 := Aside0.mk e2
  clear hb0 ha0 hb1 ha1 hlo hbo hhi hbp hbo2 e1 e2 ha hb
  go_enter Try.func90, Try.ntmps90
  go_wp2
  go_ret2
  refine ⟨?_, Drawn0.refl _⟩
  rw [← E1.out, ← E2.out]
  rfl

end Go.Proofs.Ytomgebmimgaojaa.QO
