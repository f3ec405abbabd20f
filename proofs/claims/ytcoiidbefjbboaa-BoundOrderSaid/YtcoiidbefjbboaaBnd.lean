/- Plain arithmetic of bounds: whole numbers with an infinity at each end. -/
import Derived.WalkKit
import Derived.OpenShut
import Derived.Lib.Mul64
import Derived.Laws.Bits64b
import Derived.Laws.BitsLemmas
namespace Go.Proofs.Ytcoiidbefjbboaa.Bnd
open Go.RowKit

/-- brought into the bounds -/
def bfit (a : Int) : Int := if a < -4611686018427387904 then -4611686018427387904 else if a > 4611686018427387904 then 4611686018427387904 else a
def bup (a b : Int) : Int :=
  if bfit a = 4611686018427387904 then 4611686018427387904 else if bfit b = 4611686018427387904 then 4611686018427387904
  else if bfit a + bfit b ≥ 4611686018427387904 then 4611686018427387904 else if bfit a + bfit b < -4611686018427387903 then -4611686018427387903 else bfit a + bfit b
def bdown (a b : Int) : Int := - bup (- bfit a) (- bfit b)
def bneg (a : Int) : Int := - bfit a
def bhalf (a : Int) : Int := if a ≥ 4611686018427387904 then 4611686018427387904 else if a ≤ -4611686018427387904 then -4611686018427387904 else a / 2
def bmul (a b : Int) : Int := bfit (bfit a * bfit b)

theorem fit_in (a : Int) : -4611686018427387904 ≤ bfit a ∧ bfit a ≤ 4611686018427387904 := by unfold bfit; split <;> (try split) <;> omega
theorem fit_id {a : Int} (h : -4611686018427387904 ≤ a) (h' : a ≤ 4611686018427387904) : bfit a = a := by unfold bfit; rw [if_neg (by omega), if_neg (by omega)]
theorem fit_fit (a : Int) : bfit (bfit a) = bfit a := fit_id (fit_in a).1 (fit_in a).2
theorem fit_mono {a b : Int} (h : a ≤ b) : bfit a ≤ bfit b := by unfold bfit; split <;> split <;> (try split) <;> (try split) <;> omega
theorem fit_neg (a : Int) : bfit (-a) = - bfit a := by unfold bfit; split <;> split <;> (try split) <;> (try split) <;> omega
theorem up_in (a b : Int) : -4611686018427387903 ≤ bup a b ∧ bup a b ≤ 4611686018427387904 := by unfold bup; repeat' split; all_goals omega
theorem up_comm (a b : Int) : bup a b = bup b a := by unfold bup; repeat' split; all_goals omega
theorem down_comm (a b : Int) : bdown a b = bdown b a := by unfold bdown; rw [up_comm]
theorem up_mono {a b c d : Int} (h : a ≤ c) (h' : b ≤ d) : bup a b ≤ bup c d := by
  have h1 := fit_mono h; have h2 := fit_mono h'
  have := fit_in a; have := fit_in b; have := fit_in c; have := fit_in d
  unfold bup; generalize bfit a = A at *; generalize bfit b = B at *; generalize bfit c = C at *; generalize bfit d = D at *
  repeat' split
  all_goals omega
theorem down_mono {a b c d : Int} (h : a ≤ c) (h' : b ≤ d) : bdown a b ≤ bdown c d := by
  have h1 := fit_mono h; have h2 := fit_mono h'
  have := up_mono (a := - bfit c) (b := - bfit d) (c := - bfit a) (d := - bfit b) (by omega) (by omega)
  unfold bdown; omega
theorem half_mono {a b : Int} (h : a ≤ b) : bhalf a ≤ bhalf b := by unfold bhalf; repeat' split; all_goals omega
theorem mul_comm' (a b : Int) : bmul a b = bmul b a := by unfold bmul; rw [Int.mul_comm]
theorem mul_mono {a b c : Int} (h : a ≤ b) (hc : 0 ≤ c) : bmul a c ≤ bmul b c := by
  unfold bmul; exact fit_mono (Int.mul_le_mul_of_nonneg_right (fit_mono h) (by have := fit_mono hc; simpa [bfit] using this))
theorem mul_anti {a b c : Int} (h : a ≤ b) (hc : c ≤ 0) : bmul b c ≤ bmul a c := by
  unfold bmul; exact fit_mono (Int.mul_le_mul_of_nonpos_right (fit_mono h) (by have := fit_mono hc; simpa [bfit] using this))
theorem in64 {x : Int} (h : (Lit.int .i64 x).wf = true) : -9223372036854775808 ≤ x ∧ x ≤ 9223372036854775807 := bounds_i64 h
theorem w64 {x : Int} (h : -9223372036854775808 ≤ x) (h' : x ≤ 9223372036854775807) : wrap64 x = x := by unfold wrap64; omega

/-- the size of a bound, in 64 bits without a sign -/
theorem size_u (x : Int) (h : -9223372036854775808 ≤ x ∧ x ≤ 9223372036854775807) :
    (if x < 0 then IntKind.u64.wrap (wrap64 (-x)) else IntKind.u64.wrap x) = (x.natAbs : Int) := by
  split
  · rw [IntKind.wrap_u64]; unfold wrap64; omega
  · rw [IntKind.wrap_u64]; omega

theorem mask_nat (a : Nat) (ha : a < 18446744073709551616) : bits .and .u64 (a : Int) 4294967295 = ((a % 4294967296 : Nat) : Int) := by
  have e : a &&& 4294967295 = a % 4294967296 := Nat.and_two_pow_sub_one_eq_mod a 32
  have h := bits_and_u64_nat a 4294967295 ha (by omega)
  rw [e] at h; exact h
theorem div_nat (a : Nat) : (a : Int) / 4294967296 = ((a / 4294967296 : Nat) : Int) := by omega
theorem mul_nat (a b : Nat) : (a : Int) * (b : Int) = ((a * b : Nat) : Int) := (Int.natCast_mul a b).symm
theorem add_nat (a b : Nat) : (a : Int) + (b : Int) = ((a + b : Nat) : Int) := (Int.natCast_add a b).symm
theorem wrap_nat (a : Nat) (ha : a < 18446744073709551616) : IntKind.u64.wrap (a : Int) = (a : Int) := by rw [IntKind.wrap_u64]; omega
theorem wrap_mod (a : Nat) : IntKind.u64.wrap (a : Int) = ((a % 18446744073709551616 : Nat) : Int) := by rw [IntKind.wrap_u64]; omega

/-- the two halves of a product of two numbers of 64 bits -/
theorem mul64 (x y : Nat) (hx : x < 18446744073709551616) (hy : y < 18446744073709551616) :
    (some (IntKind.u64.wrap ((IntKind.u64.wrap ((IntKind.u64.wrap (((x : Int) / 4294967296) * ((y : Int) / 4294967296))) + ((IntKind.u64.wrap ((IntKind.u64.wrap (((x : Int) / 4294967296) * (Go.bits .and .u64 (y : Int) 4294967295))) + ((IntKind.u64.wrap ((Go.bits .and .u64 (x : Int) 4294967295) * (Go.bits .and .u64 (y : Int) 4294967295))) / 4294967296))) / 4294967296))) + ((IntKind.u64.wrap ((Go.bits .and .u64 (IntKind.u64.wrap ((IntKind.u64.wrap (((x : Int) / 4294967296) * (Go.bits .and .u64 (y : Int) 4294967295))) + ((IntKind.u64.wrap ((Go.bits .and .u64 (x : Int) 4294967295) * (Go.bits .and .u64 (y : Int) 4294967295))) / 4294967296))) 4294967295) + (IntKind.u64.wrap ((Go.bits .and .u64 (x : Int) 4294967295) * ((y : Int) / 4294967296))))) / 4294967296)), IntKind.u64.wrap ((x : Int) * (y : Int))) : Option (Int × Int))
    = some (((x * y / 18446744073709551616 : Nat) : Int), ((x * y % 18446744073709551616 : Nat) : Int)) := by
  obtain ⟨bd, bt, bw, hhi⟩ := Lib.mul64_hi x y hx hy
  have ba := Lib.half_mul_le (a := x / 4294967296) (b := y / 4294967296) (by omega) (by omega)
  have bb := Lib.half_mul_le (a := x / 4294967296) (b := y % 4294967296) (by omega) (by omega)
  have bc := Lib.half_mul_le (a := x % 4294967296) (b := y / 4294967296) (by omega) (by omega)
  have ba' : x / 4294967296 * (y / 4294967296) < 18446744073709551616 := by omega
  have bb' : x / 4294967296 * (y % 4294967296) < 18446744073709551616 := by omega
  have bc' : x % 4294967296 * (y / 4294967296) < 18446744073709551616 := by omega
  have bh1 : x / 4294967296 * (y / 4294967296) + (x / 4294967296 * (y % 4294967296) + x % 4294967296 * (y % 4294967296) / 4294967296) / 4294967296 < 18446744073709551616 := by omega
  have bh : x / 4294967296 * (y / 4294967296) + (x / 4294967296 * (y % 4294967296) + x % 4294967296 * (y % 4294967296) / 4294967296) / 4294967296 + ((x / 4294967296 * (y % 4294967296) + x % 4294967296 * (y % 4294967296) / 4294967296) % 4294967296 + x % 4294967296 * (y / 4294967296)) / 4294967296 < 18446744073709551616 := by omega
  simp only [mask_nat x hx, mask_nat y hy, div_nat, mul_nat, add_nat, wrap_nat _ bd, wrap_nat _ bb', wrap_nat _ bt, mask_nat _ bt, wrap_nat _ bc', wrap_nat _ bw, wrap_nat _ ba', wrap_nat _ bh1, wrap_nat _ bh, wrap_mod (x * y)]
  rw [hhi]

/-- what Mul does with the two halves -/
theorem mul_is (a b : Int) (h0 : bfit a ≠ 0) (h1 : bfit b ≠ 0) :
    bmul a b = (let p := (bfit a).natAbs * (bfit b).natAbs
      let r : Int := if p / 18446744073709551616 = 0 ∧ p % 18446744073709551616 < 4611686018427387904 then (p % 18446744073709551616 : Nat) else 4611686018427387904
      if (decide (bfit a < 0)) != (decide (bfit b < 0)) then -r else r) := by
  have ha := fit_in a; have hb := fit_in b
  unfold bmul
  generalize bfit a = A at *; generalize bfit b = B at *
  have hp : (A * B).natAbs = A.natAbs * B.natAbs := Int.natAbs_mul A B
  simp only []
  have hdm : A.natAbs * B.natAbs / 18446744073709551616 = 0 ∧ A.natAbs * B.natAbs % 18446744073709551616 < 4611686018427387904 ↔ A.natAbs * B.natAbs < 4611686018427387904 := by omega
  have hs : (decide (A < 0) != decide (B < 0)) = true ↔ A * B < 0 := by
    by_cases hA : A < 0 <;> by_cases hB : B < 0 <;> simp [hA, hB]
    · have := Int.mul_pos_of_neg_of_neg hA hB; omega
    · exact Int.mul_neg_of_neg_of_pos hA (by omega)
    · exact Int.mul_neg_of_pos_of_neg (by omega) hB
    · have := Int.mul_pos (a := A) (b := B) (by omega) (by omega); omega
  rw [← hp] at hdm ⊢
  unfold bfit
  by_cases hn : A * B < 0
  · rw [if_pos (hs.2 hn)]
    by_cases hbig : (A * B).natAbs < 4611686018427387904
    · rw [if_pos (hdm.2 hbig), if_neg (by omega), if_neg (by omega)]; omega
    · rw [if_neg (fun h => hbig (hdm.1 h))]
      split
      · rfl
      · rw [if_neg (by omega)]; omega
  · rw [if_neg (fun h => hn (hs.1 h))]
    by_cases hbig : (A * B).natAbs < 4611686018427387904
    · rw [if_pos (hdm.2 hbig), if_neg (by omega), if_neg (by omega)]; omega
    · rw [if_neg (fun h => hbig (hdm.1 h)), if_neg (by omega)]
      split
      · rfl
      · omega
end Go.Proofs.Ytcoiidbefjbboaa.Bnd
