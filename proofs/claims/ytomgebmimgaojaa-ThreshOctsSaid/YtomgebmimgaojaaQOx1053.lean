/- Written by a program of this session out of the translation. -/
import Derived.Test.YtomgebmimgaojaaQOx0
import Derived.Test.YtomgebmimgaojaaQOx1052
noncomputable section
namespace Go.Proofs.Ytomgebmimgaojaa.QO
open Go.RowKit Go.Proofs.YtomgebmimgaojaaW.PrintWords Go.Proofs.YtomgebmimgaojaaW.PrintLast
set_option linter.unusedVariables false
set_option linter.unusedSimpArgs false

/-! ### gimbalref11_bar: function 53 -/
def gimbalref11_bar.f (a0 : Int) : Option Int := if 0 ≤ a0 ∧ a0 < 16 then some (nbar a0) else none
set_option maxHeartbeats 8000000 in
set_option maxRecDepth 100000 in
theorem gimbalref11_bar.calls (a0 : Int) (r : Int) (w : World) (h : gimbalref11_bar.f a0 = some r) :
    Calls Try.prog 53 #[.int .i64 a0] w fun e w' => e = .returned (.int .i64 r) ∧ Drawn0 w w' := by
  have hr : r = Go.bits .xor .i64 a0 1 := by
    unfold gimbalref11_bar.f at h; split at h
    · rename_i hc; rw [xor_one a0 hc.1 hc.2]; exact (Option.some.inj h).symm
    · cases h
  subst hr
  clear h
  go_enter Try.func53, Try.ntmps53
  go_wp2
  go_ret
  exact ⟨rfl, Drawn0.refl _⟩
set_option maxHeartbeats 8000000 in
set_option maxRecDepth 100000 in
theorem gimbalref11_bar_still (a0 : Int) (r : Int) (w : World) (h : gimbalref11_bar.f a0 = some r) :
    Calls Try.prog 53 #[.int .i64 a0] w fun e w' => e = .returned (.int .i64 r) ∧ w' = w := by
  have hr : r = Go.bits .xor .i64 a0 1 := by
    unfold gimbalref11_bar.f at h; split at h
    · rename_i hc; rw [xor_one a0 hc.1 hc.2]; exact (Option.some.inj h).symm
    · cases h
  subst hr
  clear h
  go_enter Try.func53, Try.ntmps53
  go_wp2
  go_ret
  exact ⟨rfl, rfl⟩

end Go.Proofs.Ytomgebmimgaojaa.QO
