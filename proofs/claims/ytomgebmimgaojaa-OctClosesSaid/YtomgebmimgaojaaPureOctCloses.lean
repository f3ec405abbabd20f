import Derived.Test.YtomgebmimgaojaaQOx1004
import Derived.Test.YtomgebmimgaojaaOcts
namespace Go.Proofs.Ytomgebmimgaojaa.Pure
open Go.RowKit Go.Proofs.Ytomgebmimgaojaa.QO Go.Proofs.YtomgebmimgaojaaW.PrintWords Go.Proofs.YtomgebmimgaojaaW.PrintLast Go.Proofs.YtomgebmimgaojaaW.PrintMore
open Octs
theorem OctCloses : gimballaw11_OctCloses.Pure := by
  intro v m e hv hm
  suffices h : Ev (fun k => gimballaw11_OctCloses.f k v m e) true by
    obtain ⟨K, hK⟩ := h; exact ⟨K, hK K (Nat.le_refl _)⟩
  cases hf : ofitB v m e with
  | false =>
    refine Ev.congr (h := fun k => (gimballaw11_awake.f k).bind fun t => some t) (fun k => ?_) (Ev.bind awake_ev (Ev.of _))
    unfold gimballaw11_OctCloses.f gimbalref11_Fit.f
    rw [hf, if_pos (show v.length ≤ 17592186044416 by omega)]; rfl
  | true =>
    have h := ofitB_true.1 hf
    have hl := fit_lens h
    have hc := closeF_len h
    obtain ⟨sp, hsp⟩ := spoil_ev (closeF v m e).1 (closeF v m e).2.1 (closeF v m e).2.2 hc.1 hc.2
    have hes := eq_ev v m e (by omega) (by omega)
    refine Ev.congr (h := fun k => (gimbalref11_Close.f k v m e).bind fun r => (gimbalref11_Equal.f k (closeF v m e).1 (closeF v m e).2.1 (closeF v m e).2.2 r.1 r.2.1 r.2.2).bind fun t => (if t = true then ((gimbalref11_Equal.f k v m e v m e).bind fun t2 => ((gimballaw11_spoil.f k (closeF v m e).1 (closeF v m e).2.1 (closeF v m e).2.2).bind fun _ => (if t2 = true then ((gimbalref11_Equal.f k v m e v m e).bind fun t3 => (if t3 = true then ((gimballaw11_awake.f k).bind fun t4 => some t4) else some false)) else some false))) else ((gimballaw11_spoil.f k (closeF v m e).1 (closeF v m e).2.1 (closeF v m e).2.2).bind fun _ => some false))) (fun k => ?_) ?_
    · unfold gimballaw11_OctCloses.f gimbalref11_Fit.f
      rw [hf, if_pos (show v.length ≤ 17592186044416 by omega)]
      simp only [Option.bind_some, if_true, copied_f (show v.length < 17592186044416 by omega) (show m.length < 17592186044416 by omega), oct_close_f h]
    · refine Ev.bind (close_ev h) (Ev.bind (eq_ev _ _ _ hc.1 hc.2) ?_)
      refine Ev.congr (fun k => if_pos rfl) ?_
      refine Ev.bind hes (Ev.bind hsp ?_)
      refine Ev.congr (fun k => if_pos rfl) ?_
      refine Ev.bind hes ?_
      refine Ev.congr (fun k => if_pos rfl) ?_
      exact Ev.bind awake_ev (Ev.of _)
end Go.Proofs.Ytomgebmimgaojaa.Pure
