/- thresh.Oct: the walk through it. -/
import Derived.Test.YtomgebmimgaojaaRound
import Derived.Test.YtomgebmimgaojaaQOx1013
import Derived.Test.YtomgebmimgaojaaQOx1063
import Derived.Test.YtomgebmimgaojaaQOx1065
noncomputable section
namespace Go.Proofs.Ytomgebmimgaojaa.QO
open Go.RowKit Go.Shelf Go.Proofs.YtomgebmimgaojaaW.PrintWords Go.Proofs.YtomgebmimgaojaaW.PrintLast Go.Proofs.YtomgebmimgaojaaW.PrintMore
open OctMath (over overs plus Bd Fin' Top62)
attribute [local go_sem] max2_int min2_int max_two min_two max_three min_three max_four min_four
attribute [local go_sem ↓] Go.wp_at_zero Go.wp_at_succ
set_option linter.unusedVariables false
set_option linter.unusedSimpArgs false

/-- the first k entries are put -/
def upK (c : Nat → Nat → Int) (n k : Nat) : Nat → Nat → Int := fun a b => if a * n + b < k then c a b else 0
theorem upK_zero (n : Nat) (c : Nat → Nat → Int) : List.replicate (n * n) (0 : Int) = lst n (upK c n 0) := by
  apply List.ext_getElem
  · simp [lst]
  · intro t h1 h2; simp [lst, upK]
theorem upK_all {c : Nat → Nat → Int} {n : Nat} (a b : Nat) (ha : a < n) (hb : b < n) : upK c n (n * n) a b = c a b := by unfold upK; rw [if_pos (ij_lt ha hb)]
theorem upK_step {c : Nat → Nat → Int} {n i j : Nat} (hj : j < n) (a b : Nat) (hb : b < n) : upK c n (i * n + j + 1) a b = if a = i ∧ b = j then c i j else upK c n (i * n + j) a b := by
  unfold upK
  by_cases e : a = i ∧ b = j
  · rw [if_pos e, e.1, e.2, if_pos (by omega)]
  · rw [if_neg e]
    have hne : a * n + b ≠ i * n + j := fun h => e (by
      have h1 := ij_div (n := n) (i := a) hb; have h2 := ij_div (n := n) (i := i) hj
      have h3 := ij_mod (n := n) (i := a) hb; have h4 := ij_mod (n := n) (i := i) hj
      rw [h] at h1 h3
      exact ⟨by rw [← h1, h2], by rw [← h3, h4]⟩)
    by_cases h : a * n + b < i * n + j
    · rw [if_pos h, if_pos (by omega)]
    · rw [if_neg h, if_neg (by omega)]
theorem upK_diag {c : Nat → Nat → Int} {n i : Nat} (hi : i < n) (h0 : c i i = 0) (a b : Nat) (hb : b < n) : upK c n (i * n + i + 1) a b = upK c n (i * n + i) a b := by
  rw [upK_step hi a b hb]
  by_cases e : a = i ∧ b = i
  · rw [if_pos e, e.1, e.2, h0]; unfold upK; rw [if_neg (by omega)]
  · rw [if_neg e]

/-- what the rounding's loop knows of a world -/
structure QS (w : World) (bo br bc bq s : Nat) (ov : Array Value) (vv vd vq : Value) (vars : List Int) (W : World) (rowd rowq : List Int) : Prop where
  ob : OB w bo br ov W
  c : W.heap[bc]? = some (.cells #[vv, vd, .bool false] 25 (0, 0))
  q : W.heap[bq]? = some (.cells #[vv, vq, .bool false] 25 (0, 0))
  rv : Kd.R (Kd.int .i64) 3 W w.heap.size (fun _ => True) vv vars
  rd : Kd.R (Kd.int .i64) 2 W w.heap.size (fun k => k < s) vd rowd
  rq : Kd.R (Kd.int .i64) 2 W s (fun _ => True) vq rowq
  hs : w.heap.size ≤ s
theorem QS.next {w : World} {bo br bc bq s : Nat} {ov : Array Value} {vv vd vq : Value} {vars : List Int} {W W' : World} {rowd rowq : List Int} (h : QS w bo br bc bq s ov vv vd vq vars W rowd rowq) (hb : Below W.heap.size W W') : QS w bo br bc bq s ov vv vd vq vars W' rowd rowq :=
  ⟨h.ob.next hb, blk_below h.c hb, blk_below h.q hb, Kd.R_below h.rv hb, Kd.R_below h.rd hb, Kd.R_below h.rq hb, h.hs⟩
theorem QS.put {w : World} {bo br bc bq s g len cap : Nat} {ov : Array Value} {vv vd : Value} {vars : List Int} {W : World} {rowd rowq : List Int} (h : QS w bo br bc bq s ov vv vd (.slice (some ⟨g, 0, none⟩) len cap) vars W rowd rowq) (hp : 0 < rowq.length) (i v : Int) :
    QS w bo br bc bq s ov vv vd (.slice (some ⟨g, 0, none⟩) len cap) vars (W.setCell ⟨g, i.toNat, none⟩ (.int .i64 v)) rowd (rowq.set i.toNat v) := by
  obtain ⟨hg, cells, hc⟩ := row_block h.rq hp
  have n1 := typed_ne h.ob.o hc (by decide)
  have n2 := typed_ne h.ob.r hc (by decide)
  have n3 := typed_ne h.c hc (by decide)
  have n4 := typed_ne h.q hc (by decide)
  have hw : w.heap.size ≤ g := Nat.le_trans h.hs hg
  refine ⟨⟨blk_far h.ob.o n1 _, blk_far h.ob.r n2 _, below_set h.ob.below hw, h.ob.ob, h.ob.rb, h.ob.ne⟩, blk_far h.c n3 _, blk_far h.q n4 _, ?_, ?_, (Kd.R_putg h.rq i v).1, h.hs⟩
  · exact Kd.R_set h.rv hc (fun q hq => by
      rcases List.mem_cons.1 hq with rfl | hq
      · decide
      · cases hq) _ _
  · exact Kd.R_far (p := ⟨g, i.toNat, none⟩) h.rd (fun k hk e => by subst e; exact absurd hk (by simp; omega)) _

theorem th_clip (x : Int) : thresh_clip.f x = some (clipV x) := by
  unfold thresh_clip.f clipV mx
  by_cases e : x > 1099511627776
  · rw [if_pos e, if_pos e]
  · rw [if_neg e, if_neg e]
theorem th_twice (x : Int) : thresh_twice.f x = some (twiceV x) := by
  unfold thresh_twice.f twiceV
  by_cases e : x > 1099511627776
  · rw [if_pos e, if_pos e]
  · rw [if_neg e, if_neg e, th_clip]
    have h : wrap64 (2 * mx x (-1099511627776)) = 2 * mx x (-1099511627776) := by unfold mx wrap64; split <;> omega
    rw [h]; rfl
theorem th_up {k : Nat} {t : List Int} (h : thresh_Fit.f k t = some true) (hu : UpOk t) (x : Int) : thresh_Up.f k t x = some (upT t x) := by
  unfold thresh_Up.f upT
  rw [h, Option.bind_some, if_pos rfl, if_pos ⟨hu.1 x, by have := hu.2; omega⟩]

set_option maxHeartbeats 16000000 in
set_option maxRecDepth 100000 in
theorem thresh_Oct_any (k : Nat) (At : Option Addr) (ct : Nat) (t : List Int) (A0 : Option Addr) (c0 : Nat) (vars : List Int) (A1 : Option Addr) (c1 : Nat) (m : List Int) (e : Bool) (w : World) (hrt : Kd.C (Kd.int .i64) w At t.length t) (hct : t.length ≤ ct)
    (hr0 : Kd.C (Kd.int .i64) w A0 vars.length vars) (hc0 : vars.length ≤ c0) (hr1 : Kd.C (Kd.int .i64) w A1 m.length m) (hc1 : m.length ≤ c1) (hfit : OFit vars m e) (r : List Int × List Int × Bool)
    (h : ((closeF vars m e).2.2 = true ∧ r = closeF vars m e) ∨ ((closeF vars m e).2.2 = false ∧ thresh_Fit.f k t = some false ∧ oct_Top.f k vars = some r) ∨
      ((closeF vars m e).2.2 = false ∧ thresh_Fit.f k t = some true ∧ UpOk t ∧ r = closeF vars (lst (2 * vars.length) (roundM t (closeM (2 * vars.length) (lowM vars.length m)))) false)) :
    Calls Try.prog 26 #[.slice At t.length ct, .agg #[.slice A0 vars.length c0, .slice A1 m.length c1, .bool e]] w fun e' w' => ∃ v0_ v1_ : Value, e' = .returned (.agg #[v0_, v1_, .bool r.2.2]) ∧
      Kd.R (Kd.int .i64) 3 w' w.heap.size (fun _ => True) v0_ r.1 ∧ Kd.R (Kd.int .i64) 2 w' w.heap.size (fun _ => True) v1_ r.2.1 ∧ Below w.heap.size w w' := by
  have hu25 := Try.underlying25
  have CLS := Aside0.mk (fun (W : World) (hW : Below w.heap.size w W) => oct_Close_any A0 c0 vars A1 c1 m e W (Kd.C_below hr0 hW) hc0 (Kd.C_below hr1 hW) hc1 hfit)
  have FIT := Aside0.mk (fun (b : Bool) (W : World) (hW : Below w.heap.size w W) (hb : thresh_Fit.f k t = some b) => thresh_Fit.calls k At ct t b W (Kd.C_below hrt hW) hct hb)
  have UPT := Aside0.mk (fun (x y : Int) (W : World) (hW : Below w.heap.size w W) (hb : thresh_Up.f k t x = some y) => thresh_Up.calls k At ct t x y W (Kd.C_below hrt hW) hct hb)
  have HFIT := Aside0.mk hfit
  clear hrt hct hr0 hc0 hr1 hc1 hfit
  obtain ⟨rc, hrc⟩ : ∃ rc, closeF vars m e = rc := ⟨_, rfl⟩
  rw [hrc] at CLS h
  have HRC := Aside0.mk hrc
  clear hrc
  obtain ⟨rv, rm, rb⟩ := rc
  go_enter Try.func26, Try.ntmps26
  go_upto_region 2 with (first
      | ((with_reducible refine gate_dst (N := 3) rfl ?_); refine box_event ?hg (N := 3) ?hd (cs := #[.slice A0 vars.length c0, .slice A1 m.length c1, .bool e]) (t := 25) ?hr ?_; (case hd => rfl); (case hg => rfl); (case hr => first | (go_simp; done) | (go_simp; rfl)); intro bo hgo wa hbo hba; have HBO := Aside0.mk (And.intro hgo (And.intro hbo hba)); clear hgo hbo hba)
      | ((with_reducible refine gate_dst (N := 4) rfl ?_); refine box_event ?hg (N := 4) ?hd (cs := #[.slice none 0 0, .slice none 0 0, .bool false]) (t := 25) ?hr ?_; (case hd => rfl); (case hg => rfl); (case hr => first | (go_simp; done) | (go_simp; rfl)); intro br hgr wb hbr hbb; have HOB : Aside0 (OB w bo br #[.slice A0 vars.length c0, .slice A1 m.length c1, .bool e] wb) := ⟨⟨blk_below HBO.out.2.1 hbb, hbr, HBO.out.2.2.trans (hbb.mono HBO.out.2.2.size), by rw [HBO.out.1]; exact Nat.le_refl _, by rw [hgr]; exact HBO.out.2.2.size, by rw [hgr]; exact Nat.ne_of_lt (blk_lt HBO.out.2.1)⟩⟩; obtain ⟨ho0, ho1, ho2⟩ := HOB.out.cells; clear hgr hbr hbb HBO)
      | (go_at_call 22; (with_reducible refine (CLS.out _ ?s1).mono ?_); (case s1 => exact HOB.out.below); rintro e' w1 ⟨v0, v1, rfl, h0, h1, hb⟩; obtain ⟨Av, cv, ev⟩ := Kd.R_slice h0; subst ev; obtain ⟨Ad, cd, ed⟩ := Kd.R_slice h1; subst ed; have H0 := Aside0.mk (Kd.R_lower h0 HOB.out.below.size); have H1 := Aside0.mk (Kd.R_lower h1 HOB.out.below.size); have HO1 := Aside0.mk (OB.next HOB.out hb); clear h0 h1 hb HOB ho0 ho1 ho2 CLS))
  obtain ⟨s, hs⟩ : ∃ s, w1.heap.size = s := ⟨_, rfl⟩
  rw [hs]
  obtain ⟨w2, hw2⟩ : ∃ w2, w1.alloc (.cells #[.slice Av rv.length cv, .slice Ad rm.length cd, .bool rb] 25) = w2 := ⟨_, rfl⟩
  rw [hw2]
  have HO2 : Aside0 (OB w bo br #[.slice A0 vars.length c0, .slice A1 m.length c1, .bool e] w2) := ⟨by rw [← hw2]; exact OB.next HO1.out (below_alloc (Below.refl _ _) _)⟩
  have HC2 : Aside0 (w2.heap[s]? = some (.cells #[.slice Av rv.length cv, .slice Ad rm.length cd, .bool rb] 25 (0, 0))) := ⟨by rw [← hw2, ← hs]; exact blk_new _ _⟩
  have HV2 : Aside0 (Kd.R (Kd.int .i64) 3 w2 w.heap.size (fun _ => True) (.slice Av rv.length cv) rv) := ⟨by rw [← hw2]; exact Kd.R_alloc H0.out _⟩
  have HD2 : Aside0 (Kd.R (Kd.int .i64) 2 w2 w.heap.size (fun k => k < s) (.slice Ad rm.length cd) rm) := ⟨by rw [← hw2, ← hs]; exact Kd.R_alloc (Kd.R_mono (Kd.R_bound H1.out) (fun k hk => hk.2.2.1)) _⟩
  have HS : Aside0 (w.heap.size ≤ s ∧ s < w2.heap.size) := ⟨by rw [← hs, ← hw2]; exact ⟨HO1.out.below.size, by simp⟩⟩
  clear hw2 hs HO1 H0 H1
  obtain ⟨hq0, hq1, hq2⟩ : w2.cell? ⟨s, 0, none⟩ = some (.slice Av rv.length cv) ∧ w2.cell? ⟨s, 1, none⟩ = some (.slice Ad rm.length cd) ∧ w2.cell? ⟨s, 2, none⟩ = some (.bool rb) := ⟨blk_cell HC2.out 0, blk_cell HC2.out 1, blk_cell HC2.out 2⟩
  rcases h with ⟨hb1, rfl⟩ | ⟨hb1, hb2, hb3⟩ | ⟨hb1, hb2, hb3, hr⟩
  · obtain rfl : rb = true := hb1
    obtain ⟨⟨hr0, hr1, hr2⟩, hr3, hr4, hr5⟩ := HO2.out.res
    go_wp2
    refine bodyPost_ret (results_cell_row rfl _ _ br 25 #[.slice Av rv.length cv, .slice Ad rm.length cd, .bool true] (0, 0) _ rfl (store3 HO2.out.r _ _ _).1 Try.underlying25 rfl (by kernel_rfl)) rfl ?_
    exact ⟨_, _, rfl, OB.answer HO2.out (Nat.le_refl _) HV2.out (Kd.R_mono HD2.out (fun _ _ => trivial)) _⟩
  · obtain rfl : rb = false := hb1
    have ev : rv = vars := by have := HRC.out; unfold closeF at this; split at this <;> exact (congrArg Prod.fst this).symm
    subst ev
    have HB2 := Aside0.mk hb2
    have TOP := Aside0.mk (fun (W : World) (hW : Below w2.heap.size w2 W) => oct_Top.calls k Av cv rv r.1 r.2.1 r.2.2 W (Kd.C_below (Kd.R_reads' HV2.out).2.2 hW) (Kd.R_reads' HV2.out).2.1 hb3)
    clear hb2 hb3
    go_wp2_with (first
      | (go_at_call 63; (with_reducible refine (FIT.out false _ ?s1 HB2.out).mono ?_); (case s1 => exact HO2.out.below); rintro e' w3 ⟨rfl, hb⟩; have HBB := Aside0.mk hb.below; have hz0 := (blk_cell (blk_below HC2.out hb.below) 0).trans rfl; clear hb hq0 hq1 hq2)
      | (go_at_call 13; (with_reducible refine (TOP.out _ HBB.out).mono ?_); rintro e' w4 ⟨v0, v1, rfl, h0, h1, hb⟩; obtain ⟨Ao, co, eo⟩ := Kd.R_slice h0; subst eo; obtain ⟨Ap, cp, ep⟩ := Kd.R_slice h1; subst ep; have H0 := Aside0.mk h0; have H1 := Aside0.mk h1; have HO4 := Aside0.mk ((HO2.out.next HBB.out).next hb); have HBW := Aside0.mk (HO2.out.next HBB.out).below.size; obtain ⟨⟨hr0, hr1, hr2⟩, hr3, hr4, hr5⟩ := HO4.out.res; clear h0 h1 hb hz0))
    refine bodyPost_ret (results_cell_row rfl _ _ br 25 #[.slice Ao r.1.length co, .slice Ap r.2.1.length cp, .bool r.2.2] (0, 0) _ rfl (store3 HO4.out.r _ _ _).1 Try.underlying25 rfl (by kernel_rfl)) rfl ?_
    exact ⟨_, _, rfl, OB.answer HO4.out HBW.out H0.out H1.out _⟩
  · obtain rfl : rb = false := hb1
    have ev : rv = vars := by have := HRC.out; unfold closeF at this; split at this <;> exact (congrArg Prod.fst this).symm
    subst ev
    have ee : e = false := by
      cases e with
      | true => have := HRC.out; unfold closeF at this; rw [if_pos rfl] at this; cases this
      | false => rfl
    subst ee
    obtain ⟨n2, hn2⟩ : ∃ n2, n2 = 2 * rv.length := ⟨_, rfl⟩
    obtain ⟨NN, hNN⟩ : ∃ NN, n2 * n2 = NN := ⟨_, rfl⟩
    have hok : CloseOk (2 * rv.length) (lowM rv.length m) := closeB_true.1 (by
      have := HRC.out; unfold closeF at this; rw [if_neg (by decide)] at this
      have h3 := congrArg (fun p => p.2.2) this
      cases hc : closeB (2 * rv.length) (lowM rv.length m) with
      | true => rfl
      | false => simp [hc] at h3)
    have hrm : rm = lst n2 (closeM n2 (lowM rv.length m)) := by
      have := HRC.out; unfold closeF closeL at this; rw [if_neg (by decide), if_pos (closeB_true.2 hok)] at this
      rw [hn2]; exact (congrArg (fun p => p.2.1) this).symm
    have HRF := Aside0.mk (round_fit (t := t) HFIT.out hok)
    rw [← hn2] at HRF hr
    obtain ⟨C0, hC0⟩ : ∃ C0, closeM n2 (lowM rv.length m) = C0 := ⟨_, rfl⟩
    rw [hC0] at HRF hrm hr
    obtain ⟨R0, hR0⟩ : ∃ R0, roundM t C0 = R0 := ⟨_, rfl⟩
    rw [hR0] at HRF hr
    have HR0 := Aside0.mk hR0
    have HCB : Aside0 (Bd n2 1152921504606846976 C0) := ⟨fun i j _ _ => by rw [← hC0]; have := clipV_range (strg (tig (overs (lowM rv.length m) n2)) i j); unfold closeM Fin'; omega⟩
    have HRR := Aside0.mk hr
    have HL := Aside0.mk HFIT.out.1.1
    have HN2 := Aside0.mk hn2
    have HNN := Aside0.mk hNN
    subst hrm
    have hll : (lst n2 C0).length = NN := by rw [lst_length, hNN]
    rw [hll] at HD2 HC2 hq1
    try rw [hll]
    obtain ⟨mc, mk1, mk2⟩ := make64 NN (by rw [← hNN]; have := HL.out; exact Nat.le_trans (Nat.mul_le_mul (show n2 ≤ 16 by omega) (show n2 ≤ 16 by omega)) (by omega))
    have HMK := Aside0.mk mk2
    obtain ⟨nn, hnn⟩ : ∃ nn : Int, 2 * (rv.length : Int) = nn := ⟨_, rfl⟩
    have hw : wrap64 (2 * (rv.length : Int)) = nn := by have := HL.out; unfold wrap64; omega
    have hw' : IntKind.i64.wrap (2 * (rv.length : Int)) = nn := (i64_w _).trans hw
    have HNV := Aside0.mk hnn
    have HB2 := Aside0.mk hb2
    have HB3 := Aside0.mk hb3
    clear hb2 hb3 hC0 hR0 hn2 hNN hll mk2 hok hnn HRC hr
    go_wp2_with (first
      | (go_at_call 63; (with_reducible refine (FIT.out true _ ?s1 HB2.out).mono ?_); (case s1 => exact HO2.out.below); rintro e' w3 ⟨rfl, hb⟩; have HBB := Aside0.mk hb.below; have hz0 := (blk_cell (blk_below HC2.out hb.below) 0).trans rfl; have hz1 : w3.cell? ⟨s, 1, none⟩ = some (.slice Ad NN cd) := (blk_cell (blk_below HC2.out hb.below) 1).trans rfl; clear hb hq0 hq1 hq2))
    have KN := World.new_ne _ _ hz0
    have kb1 : s ≠ w3.heap.size := Nat.ne_of_lt (Nat.lt_of_lt_of_le HS.out.2 HBB.out.size)
    have kb2 : s ≠ w3.heap.size + 1 := by have := Nat.lt_of_lt_of_le HS.out.2 HBB.out.size; omega
    have kb3 : w3.heap.size ≠ s := fun e => kb1 e.symm
    have kb4 : w3.heap.size + 1 ≠ s := fun e => kb2 e.symm
    go_cut [7] (fun v7 wc => ∃ (bq : Nat) (Ac : Option Addr) (cc : Nat), v7 = .pointer (some ⟨bq, 0, none⟩) ∧ Aside0 (QS w bo br s bq s #[.slice A0 rv.length c0, .slice A1 m.length c1, .bool false] (.slice Av rv.length cv) (.slice Ad NN cd) (.slice Ac NN cc) rv wc (lst n2 C0) (lst n2 (upK R0 n2 0))))
    case first =>
      go_region_held3 (fun w' => w'.cell? ⟨s, 0, none⟩ = some (.slice Av rv.length cv) ∧ w'.cell? ⟨s, 1, none⟩ = some (.slice Ad NN cd)) (go_keep) (fail)
      all_goals go_wp2
      all_goals go_meet
      all_goals have HZ : List.replicate NN (0 : Int) = lst n2 (upK R0 n2 0) := by rw [← HNN.out]; exact upK_zero _ _
      all_goals have BA : ∀ (W : World) (o : Obj), Below W.heap.size W (W.alloc o) := fun W o => below_alloc (Below.refl _ _) o
      all_goals have BD : ∀ (W : World), Below W.heap.size W W.drew := fun W => below_drew (Below.refl _ _)
      all_goals have sz : s ≤ w3.heap.size := Nat.le_of_lt (Nat.lt_of_lt_of_le HS.out.2 HBB.out.size)
      · have rq := HMK.out w3 s sz
        rw [HZ] at rq
        have hq := blk_new (w3.alloc (.cells mc 2)) (.cells #[.slice Av rv.length cv, .slice (some ⟨w3.heap.size, 0, none⟩) NN NN, .bool false] 25)
        rw [World.size_alloc] at hq
        exact ⟨_, _, _, rfl, ⟨⟨(((HO2.out.next HBB.out).next (BA _ _)).next (BA _ _)).next (BD _), blk_drew (blk_alloc (blk_alloc (blk_below HC2.out HBB.out) _) _), blk_drew hq, Kd.R_drew (Kd.R_alloc (Kd.R_alloc (Kd.R_below HV2.out HBB.out) _) _), Kd.R_drew (Kd.R_alloc (Kd.R_alloc (Kd.R_below HD2.out HBB.out) _) _), Kd.R_drew (Kd.R_alloc rq _), HS.out.1⟩⟩⟩
      · have rq := HMK.out (w3.alloc (.cells #[.slice Av rv.length cv, .slice (some ⟨w3.heap.size + 1, 0, none⟩) NN NN, .bool false] 25)) s (by rw [World.size_alloc]; omega)
        rw [HZ, World.size_alloc] at rq
        exact ⟨_, _, _, rfl, ⟨⟨(((HO2.out.next HBB.out).next (BA _ _)).next (BA _ _)).next (BD _), blk_drew (blk_alloc (blk_alloc (blk_below HC2.out HBB.out) _) _), blk_drew (blk_alloc (blk_new _ _) _), Kd.R_drew (Kd.R_alloc (Kd.R_alloc (Kd.R_below HV2.out HBB.out) _) _), Kd.R_drew (Kd.R_alloc (Kd.R_alloc (Kd.R_below HD2.out HBB.out) _) _), Kd.R_drew rq, HS.out.1⟩⟩⟩
    case rest =>
      clear hz0 hz1 KN kb1 kb2 kb3 kb4 HMK mk1 HO2 HC2 HV2 HD2 HBB
      obtain ⟨bq, Ac, cc, rfl, HQ⟩ := hcut
      have hs0 := (blk_cell HQ.out.c 0).trans rfl
      have hs1 : wc.cell? ⟨s, 1, none⟩ = some (.slice Ad NN cd) := (blk_cell HQ.out.c 1).trans rfl
      go_wp2
      clear hs0 hs1
      go_loopg [37] NN (fun gg s37 wr => ∃ (q : Nat) (qq : Int), s37 = .int .i64 qq ∧ Aside0 (qq = (q : Int) ∧ q ≤ NN ∧ NN - q ≤ gg) ∧ Aside0 (QS w bo br s bq s #[.slice A0 rv.length c0, .slice A1 m.length c1, .bool false] (.slice Av rv.length cv) (.slice Ad NN cd) (.slice Ac NN cc) rv wr (lst n2 C0) (lst n2 (upK R0 n2 q))))
      case atStart => exact ⟨0, 0, rfl, ⟨rfl, Nat.zero_le _, by omega⟩, HQ⟩
      case round =>
        clear HQ
        obtain ⟨q, qq, rfl, HQQ, HQ⟩ := hrel
        by_cases hlt : q < NN
        · have f3 : decide (qq < (NN : Int)) = true := decide_eq_true (by have := HQQ.out; omega)
          have HQL := Aside0.mk hlt
          have hi0 : 0 < n2 := by
            rcases Nat.eq_zero_or_pos n2 with h | h
            · have h9 := HNN.out; rw [h] at h9; omega
            · exact h
          obtain ⟨i, hi⟩ : ∃ i, q / n2 = i := ⟨_, rfl⟩
          obtain ⟨j, hj⟩ : ∃ j, q % n2 = j := ⟨_, rfl⟩
          have HI : Aside0 (i < n2 ∧ j < n2 ∧ q = i * n2 + j) := ⟨by
            have h1 := Nat.div_add_mod q n2
            rw [hi, hj, Nat.mul_comm] at h1
            exact ⟨by rw [← hi]; exact Nat.div_lt_of_lt_mul (by rw [HNN.out]; exact hlt), by rw [← hj]; exact Nat.mod_lt _ hi0, h1.symm⟩⟩
          have HW : Aside0 (wrap64 (qq + 1) = ((q + 1 : Nat) : Int)) := ⟨by
            have h1 := HQQ.out; have h2 := HQL.out; have h3 := HNN.out; have h4 := HL.out; have h5 := HN2.out
            have : n2 * n2 ≤ 16 * 16 := Nat.mul_le_mul (by omega) (by omega)
            unfold wrap64; omega⟩
          have hp1 : 0 < (lst n2 C0).length := by rw [lst_length, HNN.out]; omega
          obtain ⟨gd, cap, eg, _⟩ := Kd.R_form HQ.out.rd hp1
          injection eg with e1 e2 e3
          subst e1
          clear e2 e3 cap hp1
          have hp2 : 0 < (lst n2 (upK R0 n2 q)).length := by rw [lst_length, HNN.out]; omega
          obtain ⟨g, cap, eg, hg1, hg2, cells, hg3⟩ := Kd.R_form HQ.out.rq hp2
          injection eg with e1 e2 e3
          subst e1
          have HP0 : Aside0 (∀ d, 0 < (lst n2 d).length) := ⟨fun d => by rw [lst_length, HNN.out]; omega⟩
          have n5 : bq ≠ g := typed_ne HQ.out.q hg3 (by decide)
          have n6 : g ≠ bq := fun e => n5 e.symm
          clear e2 e3 cap hg1 hg2 hg3 cells hp2
          have HQB : Aside0 (0 ≤ qq ∧ qq < (NN : Int)) := ⟨by have := HQQ.out; omega⟩
          have r10 := eq_true HQB.out.1
          have r11 := eq_true HQB.out.2
          obtain ⟨x, hx⟩ : ∃ x, C0 i j = x := ⟨_, rfl⟩
          have HX := Aside0.mk hx
          have hx1 : wr.cell? ⟨gd, qq.toNat, none⟩ = some (.int .i64 x) := (Kd.R_celln 0 HQ.out.rd qq HQB.out.1 HQB.out.2).1.trans (congrArg (fun v => some (Value.int .i64 v)) (by
            show rd (lst n2 C0) qq = x
            rw [lst_rd HI.out.1 HI.out.2.1 (HQQ.out.1.trans (congrArg Int.ofNat HI.out.2.2)), hx]))
          obtain ⟨ii, hii⟩ : ∃ ii : Int, ii = (i : Int) := ⟨_, rfl⟩
          obtain ⟨jj, hjj⟩ : ∃ jj : Int, jj = (j : Int) := ⟨_, rfl⟩
          have HIJ := Aside0.mk (And.intro hii hjj)
          have hn0 : nn ≠ 0 := by have := HNV.out; have := HN2.out; omega
          have hdi : IntKind.i64.wrap (qq.tdiv nn) = ii := by
            have e1 : nn = (n2 : Int) := by have := HNV.out; have := HN2.out; omega
            have e2 : qq.tdiv nn = ii := by rw [HQQ.out.1, e1, hii, ← hi]; rfl
            have h5 := HN2.out; have h4 := HL.out; have h6 := HI.out.1
            rw [e2, IntKind.wrap_i64, hii]; omega
          have hmo : qq.tmod nn = jj := by
            have e1 : nn = (n2 : Int) := by have := HNV.out; have := HN2.out; omega
            rw [HQQ.out.1, e1, hjj, ← hj]; rfl
          have hdi' := (i64_w _).symm.trans hdi
          obtain ⟨bj, hbj⟩ : ∃ b, nbar jj = b := ⟨_, rfl⟩
          have hxo : Go.bits .xor .i64 jj 1 = bj := by rw [← hbj]; exact xor_one jj (by omega) (by have h5 := HN2.out; have h4 := HL.out; have h6 := HI.out.2.1; omega)
          have HBJ : Aside0 (bj = ((nb j : Nat) : Int)) := ⟨by rw [← hbj, hjj, nbar_nb]⟩
          clear hlt hi hj hi0 hx hii hjj hbj
          have hs1 : wr.cell? ⟨bq, 1, none⟩ = some (.slice (some ⟨g, 0, none⟩) NN cc) := (blk_cell HQ.out.q 1).trans rfl
          by_cases hd : ii = jj
          · have f5 : (ii == jj) = true := by simpa using hd
            have HD := Aside0.mk hd
            clear hd
            go_wp2
            go_quiet (fail)
            go_wp2
            go_roundg (NN - (q + 1))
            case measure => have := HQQ.out; have := HQL.out; omega
            case rel =>
              refine ⟨q + 1, wrap64 (qq + 1), rfl, ⟨by have := HW.out; have := HQL.out; omega⟩, ⟨?_⟩⟩
              have h1 := QS.next HQ.out (pw_below_drewN (Below.refl _ _) nq)
              have hij : i = j := by have := HIJ.out; have := HD.out; omega
              have h0 : R0 i i = 0 := by rw [← HR0.out]; unfold roundM; rw [if_pos rfl]
              have hq : q = i * n2 + i := by rw [HI.out.2.2, hij]
              rw [lst_congr (d := upK R0 n2 q) (e := upK R0 n2 (q + 1)) (fun a b _ hb => by rw [hq]; exact (upK_diag HI.out.1 h0 a b hb).symm)] at h1
              exact h1
          · have f5 : (ii == jj) = false := by simpa using hd
            have HD := Aside0.mk hd
            clear hd
            have hxb := HX.out ▸ HCB.out i j HI.out.1 HI.out.2.1
            have HXB := Aside0.mk hxb
            clear hxb
            by_cases hd : ii = bj
            · have f6 : (ii == bj) = true := by simpa using hd
              have HD2 := Aside0.mk hd
              obtain ⟨hf, hhf⟩ : ∃ h, half x = h := ⟨_, rfl⟩
              obtain ⟨u, hu⟩ : ∃ u, upT t hf = u := ⟨_, rfl⟩
              obtain ⟨v, hv⟩ : ∃ v, twiceV u = v := ⟨_, rfl⟩
              have HALF := Aside0.mk (fun (W : World) => bound_Half.calls x hf W (by rw [← hhf]; exact half_half HXB.out))
              have HU : Aside0 (thresh_Up.f k t hf = some u) := ⟨by rw [← hu]; exact th_up HB2.out HB3.out hf⟩
              have TW := Aside0.mk (fun (W : World) => thresh_twice.calls u v W (by rw [← hv]; exact th_twice u))
              have HVV : Aside0 (R0 i j = v) := ⟨by
                have h1 : i ≠ j := by have := HIJ.out; have := HD.out; omega
                have h2 : i = nb j := by have := HIJ.out; have := HBJ.out; omega
                rw [← HR0.out]; unfold roundM; rw [if_neg h1, if_pos h2, HX.out, hhf, hu, hv]⟩
              clear hd hhf hu hv
              go_wp2
              go_quiet (fail)
              go_wp2
              obtain ⟨wq, hwq⟩ : ∃ wq, wr.drewN nq = wq := ⟨_, rfl⟩
              have HQ' := Aside0.mk (QS.next HQ.out (pw_below_drewN (Below.refl _ _) nq))
              clear hs1 HQ
              have HQ := HQ'
              clear HQ'
              have hs1 : (wr.drewN nq).cell? ⟨bq, 1, none⟩ = some (.slice (some ⟨g, 0, none⟩) NN cc) := (blk_cell HQ.out.q 1).trans rfl
              rw [hwq] at HQ hs1 ⊢
              clear hwq hx1
              go_region_held3 (fun w' => w'.cell? ⟨bq, 1, none⟩ = some (.slice (some ⟨g, 0, none⟩) NN cc)) (first | go_keep | exact KS)
                (first
               | (go_at_call 56; (with_reducible refine (HALF.out _).mono ?_); rintro e' w7 ⟨rfl, hb⟩; have HQ7 := Aside0.mk (QS.next (QS.next HQ.out (below_drew (Below.refl _ _))) hb.below); have KS : w7.cell? ⟨bq, 1, none⟩ = some (.slice (some ⟨g, 0, none⟩) NN cc) := (blk_cell HQ7.out.q 1).trans rfl; clear hb)
               | (go_at_call 61; (with_reducible refine (UPT.out hf u _ HQ7.out.ob.below HU.out).mono ?_); rintro e' w8 ⟨rfl, hb⟩; have HQ8 := Aside0.mk (QS.next HQ7.out hb); have KS : w8.cell? ⟨bq, 1, none⟩ = some (.slice (some ⟨g, 0, none⟩) NN cc) := (blk_cell HQ8.out.q 1).trans rfl; clear hb)
               | (go_at_call 64; (with_reducible refine (TW.out _).mono ?_); rintro e' w9 ⟨rfl, hb⟩; have HQ9 := Aside0.mk (QS.next HQ8.out hb); have KS : w9.cell? ⟨bq, 1, none⟩ = some (.slice (some ⟨g, 0, none⟩) NN cc) := (blk_cell HQ9.out.q 1).trans rfl; clear hb; obtain ⟨hz1, hz2⟩ := Kd.R_celln 0 HQ9.out.rq qq HQB.out.1 HQB.out.2))
              go_wp2
              go_roundg (NN - (q + 1))
              case measure => have := HQQ.out; have := HQL.out; omega
              case rel =>
                refine ⟨q + 1, wrap64 (qq + 1), rfl, ⟨by have := HW.out; have := HQL.out; omega⟩, ⟨?_⟩⟩
                have h1 := QS.put HQ9.out (HP0.out _) qq v
                have hv : R0 i j = v := HVV.out
                rw [lst_set HI.out.1 HI.out.2.1 (HQQ.out.1.trans (congrArg Int.ofNat HI.out.2.2)), lst_congr (d := fun a b => if a = i ∧ b = j then v else upK R0 n2 q a b) (e := upK R0 n2 (q + 1)) (fun a b _ hb => by
                  rw [show q + 1 = i * n2 + j + 1 by have := HI.out.2.2; omega, upK_step HI.out.2.1 a b hb, ← HI.out.2.2]
                  by_cases h : a = i ∧ b = j
                  · rw [if_pos h, if_pos h, hv]
                  · rw [if_neg h, if_neg h])] at h1
                exact h1
            · have f6 : (ii == bj) = false := by simpa using hd
              have HD2 := Aside0.mk hd
              obtain ⟨u, hu⟩ : ∃ u, upT t x = u := ⟨_, rfl⟩
              obtain ⟨v, hv⟩ : ∃ v, clipV u = v := ⟨_, rfl⟩
              have HU : Aside0 (thresh_Up.f k t x = some u) := ⟨by rw [← hu]; exact th_up HB2.out HB3.out x⟩
              have TW := Aside0.mk (fun (W : World) => thresh_clip.calls u v W (by rw [← hv]; exact th_clip u))
              have HVV : Aside0 (R0 i j = v) := ⟨by
                have h1 : i ≠ j := by have := HIJ.out; have := HD.out; omega
                have h2 : i ≠ nb j := by have := HIJ.out; have := HBJ.out; have := HD2.out; omega
                rw [← HR0.out]; unfold roundM; rw [if_neg h1, if_neg h2, HX.out, hu, hv]⟩
              clear hd hu hv
              go_wp2
              go_quiet (fail)
              go_wp2
              obtain ⟨wq, hwq⟩ : ∃ wq, wr.drewN nq = wq := ⟨_, rfl⟩
              have HQ' := Aside0.mk (QS.next HQ.out (pw_below_drewN (Below.refl _ _) nq))
              clear hs1 HQ
              have HQ := HQ'
              clear HQ'
              have hs1 : (wr.drewN nq).cell? ⟨bq, 1, none⟩ = some (.slice (some ⟨g, 0, none⟩) NN cc) := (blk_cell HQ.out.q 1).trans rfl
              rw [hwq] at HQ hs1 ⊢
              clear hwq hx1
              go_region_held3 (fun w' => w'.cell? ⟨bq, 1, none⟩ = some (.slice (some ⟨g, 0, none⟩) NN cc)) (first | go_keep | exact KS)
                (first
               | (go_at_call 61; (with_reducible refine (UPT.out x u _ (QS.next HQ.out (below_drew (Below.refl _ _))).ob.below HU.out).mono ?_); rintro e' w8 ⟨rfl, hb⟩; have HQ8 := Aside0.mk (QS.next (QS.next HQ.out (below_drew (Below.refl _ _))) hb); have KS : w8.cell? ⟨bq, 1, none⟩ = some (.slice (some ⟨g, 0, none⟩) NN cc) := (blk_cell HQ8.out.q 1).trans rfl; clear hb)
               | (go_at_call 65; (with_reducible refine (TW.out _).mono ?_); rintro e' w9 ⟨rfl, hb⟩; have HQ9 := Aside0.mk (QS.next HQ8.out hb); have KS : w9.cell? ⟨bq, 1, none⟩ = some (.slice (some ⟨g, 0, none⟩) NN cc) := (blk_cell HQ9.out.q 1).trans rfl; clear hb; obtain ⟨hz1, hz2⟩ := Kd.R_celln 0 HQ9.out.rq qq HQB.out.1 HQB.out.2))
              go_wp2
              go_roundg (NN - (q + 1))
              case measure => have := HQQ.out; have := HQL.out; omega
              case rel =>
                refine ⟨q + 1, wrap64 (qq + 1), rfl, ⟨by have := HW.out; have := HQL.out; omega⟩, ⟨?_⟩⟩
                have h1 := QS.put HQ9.out (HP0.out _) qq v
                have hv : R0 i j = v := HVV.out
                rw [lst_set HI.out.1 HI.out.2.1 (HQQ.out.1.trans (congrArg Int.ofNat HI.out.2.2)), lst_congr (d := fun a b => if a = i ∧ b = j then v else upK R0 n2 q a b) (e := upK R0 n2 (q + 1)) (fun a b _ hb => by
                  rw [show q + 1 = i * n2 + j + 1 by have := HI.out.2.2; omega, upK_step HI.out.2.1 a b hb, ← HI.out.2.2]
                  by_cases h : a = i ∧ b = j
                  · rw [if_pos h, if_pos h, hv]
                  · rw [if_neg h, if_neg h])] at h1
                exact h1
        · have f3 : decide (qq < (NN : Int)) = false := decide_eq_false (by have := HQQ.out; omega)
          have eq : q = NN := by have := HQQ.out; omega
          have HEQ := Aside0.mk eq
          clear hlt eq
          have hrow := HQ.out.rq
          rw [HEQ.out, ← HNN.out, lst_congr (fun a b ha hb => upK_all a b ha hb)] at hrow
          have CL2 := Aside0.mk (fun (W : World) (hW : Below wr.heap.size wr W) => oct_Close_any Av cv rv Ac cc (lst n2 R0) false W (Kd.C_below (Kd.R_reads' HQ.out.rv).2.2 hW) (Kd.R_reads' HQ.out.rv).2.1 (Kd.C_below (by have := Kd.R_reads' hrow; exact this.2.2) hW) (by have := Kd.R_reads' hrow; rw [← this.1]; exact this.2.1) HRF.out)
          have hs0 : wr.cell? ⟨bq, 0, none⟩ = some (.slice Av rv.length cv) := (blk_cell HQ.out.q 0).trans rfl
          have hs1 : wr.cell? ⟨bq, 1, none⟩ = some (.slice Ac NN cc) := (blk_cell HQ.out.q 1).trans rfl
          have hs2 : wr.cell? ⟨bq, 2, none⟩ = some (.bool false) := (blk_cell HQ.out.q 2).trans rfl
          have hll : (lst n2 R0).length = NN := by rw [lst_length, HNN.out]
          rw [hll, ← HRR.out] at CL2
          clear hrow hll
          go_wp2_with (go_at_call 22; (with_reducible refine (CL2.out _ (Below.refl _ _)).mono ?_); rintro e' w4 ⟨v0, v1, rfl, h0, h1, hb⟩; obtain ⟨Ao, co, eo⟩ := Kd.R_slice h0; subst eo; obtain ⟨Ap, cp, ep⟩ := Kd.R_slice h1; subst ep; have H0 := Aside0.mk h0; have H1 := Aside0.mk h1; have HO4 := Aside0.mk (HQ.out.ob.next hb); have HBW := Aside0.mk HQ.out.ob.below.size; obtain ⟨⟨hr0, hr1, hr2⟩, hr3, hr4, hr5⟩ := HO4.out.res; clear h0 h1 hb hs0 hs1 hs2)
          refine bodyPost_ret (results_cell_row rfl _ _ br 25 #[.slice Ao r.1.length co, .slice Ap r.2.1.length cp, .bool r.2.2] (0, 0) _ rfl (store3 HO4.out.r _ _ _).1 Try.underlying25 rfl (by kernel_rfl)) rfl ?_
          exact ⟨_, _, rfl, OB.answer HO4.out HBW.out H0.out H1.out _⟩
end Go.Proofs.Ytomgebmimgaojaa.QO
