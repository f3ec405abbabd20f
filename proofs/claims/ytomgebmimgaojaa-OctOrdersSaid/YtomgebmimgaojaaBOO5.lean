/- Own texts of this claim, joined: RMeet, WalkRLeq, WalkRJoin, WalkRSame, OSL, WalkOctOrders, Open -/
import Derived.Test.YtomgebmimgaojaaBOO0
import Derived.Test.YtomgebmimgaojaaBOO2
import Derived.Test.YtomgebmimgaojaaBOO3
import Derived.Test.YtomgebmimgaojaaBOO4
import Derived.ChangeArms
import Derived.SizedLaws
section
/- The document's Meet comes to what the program's comes to. -/
noncomputable section
namespace Go.Proofs.Ytomgebmimgaojaa.Pure
open Go.RowKit Go.Proofs.Ytomgebmimgaojaa.QO Go.Proofs.YtomgebmimgaojaaW.PrintWords Go.Proofs.YtomgebmimgaojaaW.PrintLast Go.Proofs.YtomgebmimgaojaaW.PrintMore
open Go.Proofs.Ytomgebmimgaojaa.OctMath (over overs plus Bd Fin' Top62 dbl dbls least IsClosure)
theorem fit_len {vars m : List Int} (h : OFit vars m false) : m.length = (2 * vars.length) * (2 * vars.length) := by
  have h1 := (h.2.2 rfl).1
  have e : ((m.length : Nat) : Int) = (((2 * vars.length) * (2 * vars.length) : Nat) : Int) := by rw [h1]; push_cast; rfl
  omega
/-- a sound octagon's list is its matrix's -/
theorem fit_lst {vars m : List Int} (h : OFit vars m false) : m = lst (2 * vars.length) (lowM vars.length m) := by
  have hl := fit_len h
  apply List.ext_getElem
  · rw [lst_length]; exact hl
  · intro t h1 h2
    have ht : t < (2 * vars.length) * (2 * vars.length) := by omega
    have h0 : 0 < 2 * vars.length := by
      rcases Nat.eq_zero_or_pos (2 * vars.length) with e | e
      · rw [e] at ht; omega
      · exact e
    have ha : t / (2 * vars.length) < 2 * vars.length := Nat.div_lt_of_lt_mul ht
    have hb := Nat.mod_lt t h0
    have hdm := Nat.div_add_mod t (2 * vars.length)
    simp only [lst, List.getElem_map, List.getElem_range]
    generalize t / (2 * vars.length) = a at *
    generalize t % (2 * vars.length) = b at *
    unfold lowM
    rw [lowAt_same h (by omega) (by omega) (by omega) (by omega)]
    have e : (a : Int) * (2 * (vars.length : Int)) + (b : Int) = (t : Int) := by
      have e2 : ((2 * vars.length * a + b : Nat) : Int) = (t : Int) := by rw [hdm]
      push_cast at e2
      rw [Int.mul_comm]; exact e2
    rw [e]; unfold rd; rw [Int.toNat_natCast]; simp [h1]
/-- the lesser entries, one by one -/
theorem min_lst {vars m1 m2 : List Int} (h1 : OFit vars m1 false) (h2 : OFit vars m2 false) : (List.range m1.length).map (fun (k : Nat) => mn (rd m1 (k : Int)) (rd m2 (k : Int))) = mixL mn (2 * vars.length) m1 m2 := by
  rw [mixL_lst]
  have l1 := fit_len h1
  have e1 := fit_lst h1
  have e2 := fit_lst h2
  rw [l1]
  unfold lst
  refine List.map_congr_left fun k hk => ?_
  have hk' : k < 2 * vars.length * (2 * vars.length) := by simpa using hk
  have at_ : ∀ (C : Nat → Nat → Int), rd (lst (2 * vars.length) C) (k : Int) = C (k / (2 * vars.length)) (k % (2 * vars.length)) := fun C => by
    have h0 : 0 < 2 * vars.length := by
      by_cases e : 2 * vars.length = 0
      · rw [e] at hk'; omega
      · omega
    refine lst_rd (Nat.div_lt_of_lt_mul hk') (Nat.mod_lt _ h0) ?_
    congr 1
    rw [Nat.mul_comm]; exact (Nat.div_add_mod k _).symm
  have a1 := at_ (lowM vars.length m1)
  have a2 := at_ (lowM vars.length m2)
  rw [← e1] at a1
  rw [← e2] at a2
  rw [a1, a2]
theorem rmeet_l0 {vars m1 m2 : List Int} (h1 : OFit vars m1 false) (h2 : OFit vars m2 false) : ∀ d i : Nat, i + d = m1.length →
    Ev (fun k => gimbalref11_Meet.l0 k (m1.length : Int) (i : Int) vars m1 false vars m2 false vars ((List.range i).map (fun (k : Nat) => mn (rd m1 (k : Int)) (rd m2 (k : Int)))) false) (closeF vars (mixL mn (2 * vars.length) m1 m2) false) := by
  have hl : m1.length ≤ 256 := by rw [fit_len h1]; have := h1.1.1; exact Nat.le_trans (Nat.mul_le_mul (show 2 * vars.length ≤ 16 by omega) (show 2 * vars.length ≤ 16 by omega)) (by decide)
  have hl2 : m2.length = m1.length := by rw [fit_len h1, fit_len h2]
  intro d
  induction d with
  | zero =>
    intro i hi
    refine Ev.step (h := fun k => (gimbalref11_Close.f k vars ((List.range i).map (fun (k : Nat) => mn (rd m1 (k : Int)) (rd m2 (k : Int)))) false).bind fun bt => some (bt.1, bt.2.1, bt.2.2)) (fun k => by rw [gimbalref11_Meet.l0, if_neg (by omega)]) ?_
    rw [show i = m1.length by omega, min_lst h1 h2]
    refine Ev.bind (close_ev (min_fit h1 h2)) ?_
    exact Ev.of _
  | succ d ih =>
    intro i hi
    refine Ev.step (h := fun k => gimbalref11_Meet.l0 k (m1.length : Int) ((i + 1 : Nat) : Int) vars m1 false vars m2 false vars ((List.range (i + 1)).map (fun (k : Nat) => mn (rd m1 (k : Int)) (rd m2 (k : Int)))) false) (fun k => ?_) (ih (i + 1) (by omega))
    have hw : wrap64 ((i : Int) + 1) = ((i + 1 : Nat) : Int) := by unfold wrap64; omega
    rw [gimbalref11_Meet.l0, if_pos (by omega), if_pos (by omega), if_pos (by omega), if_pos (by omega), if_pos (by simp; omega), hw, List.range_succ, List.map_append]
    rfl
/-- **the document's Meet is the program's** -/
theorem rmeet_ev {vars m1 m2 : List Int} {e1 e2 : Bool} (h1 : OFit vars m1 e1) (h2 : OFit vars m2 e2) : Ev (fun k => gimbalref11_Meet.f k vars m1 e1 vars m2 e2) (meetF vars m1 e1 m2 e2) := by
  have h8 := h1.1.1
  have hc : gimbalref11_copied.f vars = some vars := by unfold gimbalref11_copied.f; rw [if_pos (by simp; omega)]; rfl
  have hb : gimbalref11_Bottom.f vars = some (vars, [], true) := by unfold gimbalref11_Bottom.f gimbalref11_VarsFit.f; rw [varsB_true.2 h1.1, bsome, if_pos rfl, hc]; rfl
  have bot : Ev (fun k => gimbalref11_Meet.j0 k true vars m1 e1 vars m2 e2) (vars, [], true) := by
    refine Ev.step (h := fun _ => some (vars, [], true)) (fun k => ?_) (Ev.of _)
    rw [gimbalref11_Meet.j0, if_pos rfl, hb]; rfl
  unfold meetF
  cases e1 with
  | true =>
    rw [if_pos (.inl rfl)]
    exact Ev.congr (fun k => by unfold gimbalref11_Meet.f; rw [if_pos rfl]) bot
  | false =>
    cases e2 with
    | true =>
      rw [if_pos (.inr rfl)]
      exact Ev.congr (fun k => by unfold gimbalref11_Meet.f; rw [if_neg (by decide)]) bot
    | false =>
      rw [if_neg (by simp)]
      refine Ev.congr (h := fun k => gimbalref11_Meet.j0 k false vars m1 false vars m2 false) (fun k => by unfold gimbalref11_Meet.f; rw [if_neg (by decide)]) ?_
      refine Ev.step (h := fun k => gimbalref11_Meet.l0 k (m1.length : Int) 0 vars m1 false vars m2 false vars [] false) (fun k => ?_) ?_
      · rw [gimbalref11_Meet.j0, if_neg (by decide), hc, bsome]
      · exact rmeet_l0 h1 h2 m1.length 0 (by omega)
end Go.Proofs.Ytomgebmimgaojaa.Pure
end
end
section
/- The document's Leq walked: it answers what the program's does. Printed by gen_rleq.py. -/
noncomputable section
namespace Go.Proofs.Ytomgebmimgaojaa.QO
open Go.RowKit Go.Shelf Go.Proofs.YtomgebmimgaojaaW.PrintWords Go.Proofs.YtomgebmimgaojaaW.PrintLast Go.Proofs.YtomgebmimgaojaaW.PrintMore
open Go.Proofs.Ytomgebmimgaojaa.Pure Octs Two
attribute [local go_sem] Oper.semAt_some
attribute [local go_sem ↓] Go.wp_at_zero Go.wp_at_succ
set_option linter.unusedVariables false
set_option linter.unusedSimpArgs false
theorem leqL_at {vars : List Int} {A B : Mx} (hv : VarsOk vars) (ha : Snd (2 * vars.length) A) (hb : Snd (2 * vars.length) B) : leqL (2 * vars.length) (lst (2 * vars.length) A) (lst (2 * vars.length) B) = true ↔ ∀ k : Nat, k < 2 * vars.length * (2 * vars.length) → rd (lst (2 * vars.length) A) (k : Int) ≤ rd (lst (2 * vars.length) B) (k : Int) := by
 have at_ : ∀ (C : Mx) (k : Nat), k < 2 * vars.length * (2 * vars.length) → rd (lst (2 * vars.length) C) (k : Int) = C (k / (2 * vars.length)) (k % (2 * vars.length)) := fun C k hk => by
  have h0 : 0 < 2 * vars.length := by
   by_cases e : 2 * vars.length = 0
   ·
    rw [e] at hk; omega
   ·
    omega
  refine lst_rd (Nat.div_lt_of_lt_mul hk) (Nat.mod_lt _ h0) ?_
  congr 1
  rw [Nat.mul_comm]; exact (Nat.div_add_mod k _).symm
 unfold leqL
 rw [List.all_eq_true]
 constructor
 ·
  intro h k hk
  have := h k (by simpa using hk)
  obtain ⟨h1, h2⟩ := pairAt_lst hv ha hb k hk
  rw [h1, h2] at this
  rw [at_ A k hk, at_ B k hk]
  exact of_decide_eq_true this
 ·
  intro h k hk
  have hk' : k < 2 * vars.length * (2 * vars.length) := by simpa using hk
  obtain ⟨h1, h2⟩ := pairAt_lst hv ha hb k hk'
  rw [h1, h2]
  have := h k hk'
  rw [at_ A k hk', at_ B k hk'] at this
  exact decide_eq_true this
def rleq_T : Bool × List (List Nat × List Nat) := (true, [([], []), ([0], [0]), ([], []), ([2, 1], [2]), ([], []), ([], []), ([4, 1, 3, 0, 1, 4, 5], [1, 4]), ([5, 3, 6, 0, 1, 2, 3, 4, 5, 6], [3, 5])])
def rleq_T7 : Bool × List (List Nat × List Nat) := (true, [([], []), ([0], [0]), ([], []), ([1, 2], [1, 2]), ([3], [3]), ([], []), ([5], [5]), ([], []), ([6, 7], [6, 7]), ([8], [8]), ([4, 9], [4, 9])])
def rleq_B7 : List Nat := [0, 1, 0, 7, 15, 0, 32, 0, 224, 480, 1023]
theorem rleq_tab7 : rtab .any (opsOf Try.f30 7) = rleq_T7 := by kernel_rfl
theorem rleq_bits7 : waitsOk rleq_T7.2 rleq_B7 = true := by kernel_rfl
def rleq_B : List Nat := [0, 1, 0, 7, 0, 0, 63, 127]
theorem rleq_tab : rtab .any (opsOf Try.f30 1) = rleq_T := by kernel_rfl
theorem rleq_bits : waitsOk rleq_T.2 rleq_B = true := by kernel_rfl
theorem rclose_o {w W : World} {x : OV} (hx : Oc w W x) (hb : Below w.heap.size w W) (fx : OFit x.v x.m x.e) :
 Calls Try.prog 23 #[x.val] W fun e W' => ∃ z : OV, e = .returned z.val ∧ z.o = closeF x.v x.m x.e ∧ Oc w W' z ∧ Below W.heap.size W W' := by
 obtain ⟨K, hK⟩ := close_ev fx
 exact of_calls (gimbalref11_Close.calls K x.P x.p x.v x.Q x.q x.m x.e _ _ _ W (hx.r0.reads hb) hx.r0.le (hx.r1.reads hb) hx.r1.le (hK K (Nat.le_refl _)))
set_option maxHeartbeats 16000000 in
set_option maxRecDepth 100000 in
theorem rleq_o {vars : List Int} {X Y : OV} {w0 w : World} (hX : Oc w0 w X) (hY : Oc w0 w Y) (h0 : Below w0.heap.size w0 w) (fx : OkV vars X) (fy : OkV vars Y) : Says 30 #[X.val, Y.val] w (.bool (leqF vars X.m X.e Y.m Y.e)) := by
 have hu25 := Try.underlying25
 obtain ⟨ans, hans⟩ : ∃ t, leqF vars X.m X.e Y.m Y.e = t := ⟨_, rfl⟩
 rw [hans]
 have HAN := Aside0.mk hans
 clear hans
 have hX' : Oc w w X := ⟨⟨hX.r0.le, .inl (hX.r0.reads h0)⟩, ⟨hX.r1.le, .inl (hX.r1.reads h0)⟩⟩
 have hY' : Oc w w Y := ⟨⟨hY.r0.le, .inl (hY.r0.reads h0)⟩, ⟨hY.r1.le, .inl (hY.r1.reads h0)⟩⟩
 have HS := Aside0.mk (LS.two X Y hX' hY')
 have HF := Aside0.mk (And.intro fx fy)
 clear hX hY h0 hX' hY' fx fy
 go_enter Try.func30, Try.ntmps30
 go_upto_region 1 with fail
 generalize hW2 : ((w.alloc X.cells).alloc Y.cells) = W2 at HS ⊢
 generalize hgb : w.heap.size + 1 = gb at HS ⊢
 generalize hga : w.heap.size = ga at HS ⊢
 clear hW2 hgb hga
 refine startN_ (n := 8) (S := fun w' => w'.cell? ⟨ga, 0, none⟩ = some (.slice X.P X.v.length X.p) ∧ w'.cell? ⟨ga, 1, none⟩ = some (.slice X.Q X.m.length X.q) ∧ w'.cell? ⟨ga, 2, none⟩ = some (.bool X.e) ∧ w'.cell? ⟨gb, 0, none⟩ = some (.slice Y.P Y.v.length Y.p) ∧ w'.cell? ⟨gb, 1, none⟩ = some (.slice Y.Q Y.m.length Y.q) ∧ w'.cell? ⟨gb, 2, none⟩ = some (.bool Y.e)) (ds := [6, 7]) (mB 8 0) (by kernel_rfl) rfl (by kernel_rfl) ⟨(HS.out.drew.cell m0_).1, (HS.out.drew.cell m0_).2.1, (HS.out.drew.cell m0_).2.2, HS.out.drew.cell m1_⟩ (fun hHeld => ?_)
 refine with_tabW rleq_tab rleq_bits (fun HT_ HW_ => ?_)
 have n_ := Aside0.mk HS.out.drew; clear HS; have HS := n_; clear n_
 generalize hWd : World.drew _ = Wd at HS hHeld ⊢; clear hWd
 refine tV_ 0 8 (mB 8 1) HT_ HW_ hHeld ?_
 refine tV_ 2 10 (mB 8 5) HT_ HW_ hHeld ?_
 refine join_ (σ := OV × OV × Nat × Nat) 2 (mB 8 63) (fun s_ => [(9, .agg #[.slice s_.1.P s_.1.v.length s_.1.p, .slice s_.1.Q s_.1.m.length s_.1.q, .bool s_.1.e]), (11, .agg #[.slice s_.2.1.P s_.2.1.v.length s_.2.1.p, .slice s_.2.1.Q s_.2.1.m.length s_.2.1.q, .bool s_.2.1.e]), (5, .pointer (some ⟨s_.2.2.1, 0, none⟩)), (6, .pointer (some ⟨s_.2.2.2, 0, none⟩))]) (fun s_ w' => (s_.1.o = closeF X.v X.m X.e) ∧ (s_.2.1.o = closeF Y.v Y.m Y.e) ∧ LS w [(ga, X), (gb, Y)] [s_.2.1, s_.1] [s_.2.2.1, s_.2.2.2] w') ?_ ?_
 rotate_left
 ·
  intro hJ
  refine three_ (i := 1) (j := 4) (k := 5) (Ni := some 9) (Nj := some 5) (Nk := some 6) (mB 8 7) (mB 8 21) (mB 8 37) rfl rfl rfl rfl rfl rfl (three_of HT_.out (by kernel_rfl)) (by decide) (by decide) (by decide) (fun K hK => ?_) (fun K hK => ?_) (fun K hK => ?_)
  ·
   refine goes_ Try.func23 (by kernel_rfl) rfl #[X.val] (by rfl) rfl rfl vL ?_
   with_reducible refine (rclose_o (LS.oc HS m0_) (LS.bel HS) HF.out.1.1).mono ?_
   rintro e wk ⟨xv, rfl, hx, ho, hb⟩; refine ⟨_, rfl, ?_⟩
   have n_ := Aside0.mk (HS.out.call hb ho); clear HS; have HS := n_; clear n_ ho hb
   refine hK.out _ _ ⟨(HS.out.cell m0_).1, (HS.out.cell m0_).2.1, (HS.out.cell m0_).2.2, HS.out.cell m1_⟩ (fun hHeld => ?_)
   clear hK K
   refine nO_ 9 ?_
   refine three_ (i := 3) (j := 4) (k := 5) (Ni := some 11) (Nj := some 5) (Nk := some 6) (mB 8 15) (mB 8 23) (mB 8 39) rfl rfl rfl rfl rfl rfl (three_of HT_.out (by kernel_rfl)) (by decide) (by decide) (by decide) (fun K hK => ?_) (fun K hK => ?_) (fun K hK => ?_)
   ·
    refine goes_ Try.func23 (by kernel_rfl) rfl #[Y.val] (by rfl) rfl rfl vL ?_
    with_reducible refine (rclose_o (LS.oc HS m1_) (LS.bel HS) HF.out.2.1).mono ?_
    rintro e wk ⟨yv, rfl, hy, ho, hb⟩; refine ⟨_, rfl, ?_⟩
    have n_ := Aside0.mk (HS.out.call hb ho); clear HS; have HS := n_; clear n_ ho hb
    refine hK.out _ _ ⟨(HS.out.cell m0_).1, (HS.out.cell m0_).2.1, (HS.out.cell m0_).2.2, HS.out.cell m1_⟩ (fun hHeld => ?_)
    clear hK K
    refine nO_ 11 ?_
    refine two_ (i := 4) (j := 5) (Ni := some 5) (Nj := some 6) (mB 8 31) (mB 8 47) rfl rfl rfl rfl (two_of HT_.out (by kernel_rfl)) (by decide) (by decide) (fun K hK => ?_) (fun K hK => ?_)
    ·
     refine box_step ?hg (N := 5) ?hd (cs := #[.slice none 0 0, .slice none 0 0, .bool false]) (t := 25) ?hr ?_; (case hd => rfl); (case hg => rfl); (case hr => first | (go_simp; done) | (go_simp; rfl))
     intro gx hg wk hbox hb
     have n_ := Aside0.mk (HS.out.made hg hbox hb); clear HS; have HS := n_; clear n_ hg hbox hb
     refine hK.out _ _ ⟨(HS.out.cell m0_).1, (HS.out.cell m0_).2.1, (HS.out.cell m0_).2.2, HS.out.cell m1_⟩ (fun hHeld => ?_)
     clear hK K
     refine nO_ 5 ?_
     refine one_ (i := 5) (N := some 6) (mB 8 63) rfl rfl (one_of HT_.out (by kernel_rfl)) (by decide) (fun K hK => ?_)
     refine box_step ?hg (N := 6) ?hd (cs := #[.slice none 0 0, .slice none 0 0, .bool false]) (t := 25) ?hr ?_; (case hd => rfl); (case hg => rfl); (case hr => first | (go_simp; done) | (go_simp; rfl))
     intro gy hg wk hbox hb
     have n_ := Aside0.mk (HS.out.made hg hbox hb); clear HS; have HS := n_; clear n_ hg hbox hb
     refine hK.out _ _ ⟨(HS.out.cell m0_).1, (HS.out.cell m0_).2.1, (HS.out.cell m0_).2.2, HS.out.cell m1_⟩ (fun hHeld => ?_)
     clear hK K
     refine nO_ 6 ?_
     exact nP_ (hJ (xv, yv, gx, gy) _ ⟨hx, hy, HS.out.swap⟩)
    ·
     refine box_step ?hg (N := 6) ?hd (cs := #[.slice none 0 0, .slice none 0 0, .bool false]) (t := 25) ?hr ?_; (case hd => rfl); (case hg => rfl); (case hr => first | (go_simp; done) | (go_simp; rfl))
     intro gy hg wk hbox hb
     have n_ := Aside0.mk (HS.out.made hg hbox hb); clear HS; have HS := n_; clear n_ hg hbox hb
     refine hK.out _ _ ⟨(HS.out.cell m0_).1, (HS.out.cell m0_).2.1, (HS.out.cell m0_).2.2, HS.out.cell m1_⟩ (fun hHeld => ?_)
     clear hK K
     refine nO_ 6 ?_
     refine one_ (i := 4) (N := some 5) (mB 8 63) rfl rfl (one_of HT_.out (by kernel_rfl)) (by decide) (fun K hK => ?_)
     refine box_step ?hg (N := 5) ?hd (cs := #[.slice none 0 0, .slice none 0 0, .bool false]) (t := 25) ?hr ?_; (case hd => rfl); (case hg => rfl); (case hr => first | (go_simp; done) | (go_simp; rfl))
     intro gx hg wk hbox hb
     have n_ := Aside0.mk (HS.out.made hg hbox hb); clear HS; have HS := n_; clear n_ hg hbox hb
     refine hK.out _ _ ⟨(HS.out.cell m0_).1, (HS.out.cell m0_).2.1, (HS.out.cell m0_).2.2, HS.out.cell m1_⟩ (fun hHeld => ?_)
     clear hK K
     refine nO_ 5 ?_
     exact nP_ (hJ (xv, yv, gx, gy) _ ⟨hx, hy, HS.out⟩)
   ·
    refine box_step ?hg (N := 5) ?hd (cs := #[.slice none 0 0, .slice none 0 0, .bool false]) (t := 25) ?hr ?_; (case hd => rfl); (case hg => rfl); (case hr => first | (go_simp; done) | (go_simp; rfl))
    intro gx hg wk hbox hb
    have n_ := Aside0.mk (HS.out.made hg hbox hb); clear HS; have HS := n_; clear n_ hg hbox hb
    refine hK.out _ _ ⟨(HS.out.cell m0_).1, (HS.out.cell m0_).2.1, (HS.out.cell m0_).2.2, HS.out.cell m1_⟩ (fun hHeld => ?_)
    clear hK K
    refine nO_ 5 ?_
    refine two_ (i := 3) (j := 5) (Ni := some 11) (Nj := some 6) (mB 8 31) (mB 8 55) rfl rfl rfl rfl (two_of HT_.out (by kernel_rfl)) (by decide) (by decide) (fun K hK => ?_) (fun K hK => ?_)
    ·
     refine goes_ Try.func23 (by kernel_rfl) rfl #[Y.val] (by rfl) rfl rfl vL ?_
     with_reducible refine (rclose_o (LS.oc HS m1_) (LS.bel HS) HF.out.2.1).mono ?_
     rintro e wk ⟨yv, rfl, hy, ho, hb⟩; refine ⟨_, rfl, ?_⟩
     have n_ := Aside0.mk (HS.out.call hb ho); clear HS; have HS := n_; clear n_ ho hb
     refine hK.out _ _ ⟨(HS.out.cell m0_).1, (HS.out.cell m0_).2.1, (HS.out.cell m0_).2.2, HS.out.cell m1_⟩ (fun hHeld => ?_)
     clear hK K
     refine nO_ 11 ?_
     refine one_ (i := 5) (N := some 6) (mB 8 63) rfl rfl (one_of HT_.out (by kernel_rfl)) (by decide) (fun K hK => ?_)
     refine box_step ?hg (N := 6) ?hd (cs := #[.slice none 0 0, .slice none 0 0, .bool false]) (t := 25) ?hr ?_; (case hd => rfl); (case hg => rfl); (case hr => first | (go_simp; done) | (go_simp; rfl))
     intro gy hg wk hbox hb
     have n_ := Aside0.mk (HS.out.made hg hbox hb); clear HS; have HS := n_; clear n_ hg hbox hb
     refine hK.out _ _ ⟨(HS.out.cell m0_).1, (HS.out.cell m0_).2.1, (HS.out.cell m0_).2.2, HS.out.cell m1_⟩ (fun hHeld => ?_)
     clear hK K
     refine nO_ 6 ?_
     exact nP_ (hJ (xv, yv, gx, gy) _ ⟨hx, hy, HS.out.swap⟩)
    ·
     refine box_step ?hg (N := 6) ?hd (cs := #[.slice none 0 0, .slice none 0 0, .bool false]) (t := 25) ?hr ?_; (case hd => rfl); (case hg => rfl); (case hr => first | (go_simp; done) | (go_simp; rfl))
     intro gy hg wk hbox hb
     have n_ := Aside0.mk (HS.out.made hg hbox hb); clear HS; have HS := n_; clear n_ hg hbox hb
     refine hK.out _ _ ⟨(HS.out.cell m0_).1, (HS.out.cell m0_).2.1, (HS.out.cell m0_).2.2, HS.out.cell m1_⟩ (fun hHeld => ?_)
     clear hK K
     refine nO_ 6 ?_
     refine one_ (i := 3) (N := some 11) (mB 8 63) rfl rfl (one_of HT_.out (by kernel_rfl)) (by decide) (fun K hK => ?_)
     refine goes_ Try.func23 (by kernel_rfl) rfl #[Y.val] (by rfl) rfl rfl vL ?_
     with_reducible refine (rclose_o (LS.oc HS m1_) (LS.bel HS) HF.out.2.1).mono ?_
     rintro e wk ⟨yv, rfl, hy, ho, hb⟩; refine ⟨_, rfl, ?_⟩
     have n_ := Aside0.mk (HS.out.call hb ho); clear HS; have HS := n_; clear n_ ho hb
     refine hK.out _ _ ⟨(HS.out.cell m0_).1, (HS.out.cell m0_).2.1, (HS.out.cell m0_).2.2, HS.out.cell m1_⟩ (fun hHeld => ?_)
     clear hK K
     refine nO_ 11 ?_
     exact nP_ (hJ (xv, yv, gx, gy) _ ⟨hx, hy, HS.out.swap⟩)
   ·
    refine box_step ?hg (N := 6) ?hd (cs := #[.slice none 0 0, .slice none 0 0, .bool false]) (t := 25) ?hr ?_; (case hd => rfl); (case hg => rfl); (case hr => first | (go_simp; done) | (go_simp; rfl))
    intro gy hg wk hbox hb
    have n_ := Aside0.mk (HS.out.made hg hbox hb); clear HS; have HS := n_; clear n_ hg hbox hb
    refine hK.out _ _ ⟨(HS.out.cell m0_).1, (HS.out.cell m0_).2.1, (HS.out.cell m0_).2.2, HS.out.cell m1_⟩ (fun hHeld => ?_)
    clear hK K
    refine nO_ 6 ?_
    refine two_ (i := 3) (j := 4) (Ni := some 11) (Nj := some 5) (mB 8 47) (mB 8 55) rfl rfl rfl rfl (two_of HT_.out (by kernel_rfl)) (by decide) (by decide) (fun K hK => ?_) (fun K hK => ?_)
    ·
     refine goes_ Try.func23 (by kernel_rfl) rfl #[Y.val] (by rfl) rfl rfl vL ?_
     with_reducible refine (rclose_o (LS.oc HS m1_) (LS.bel HS) HF.out.2.1).mono ?_
     rintro e wk ⟨yv, rfl, hy, ho, hb⟩; refine ⟨_, rfl, ?_⟩
     have n_ := Aside0.mk (HS.out.call hb ho); clear HS; have HS := n_; clear n_ ho hb
     refine hK.out _ _ ⟨(HS.out.cell m0_).1, (HS.out.cell m0_).2.1, (HS.out.cell m0_).2.2, HS.out.cell m1_⟩ (fun hHeld => ?_)
     clear hK K
     refine nO_ 11 ?_
     refine one_ (i := 4) (N := some 5) (mB 8 63) rfl rfl (one_of HT_.out (by kernel_rfl)) (by decide) (fun K hK => ?_)
     refine box_step ?hg (N := 5) ?hd (cs := #[.slice none 0 0, .slice none 0 0, .bool false]) (t := 25) ?hr ?_; (case hd => rfl); (case hg => rfl); (case hr => first | (go_simp; done) | (go_simp; rfl))
     intro gx hg wk hbox hb
     have n_ := Aside0.mk (HS.out.made hg hbox hb); clear HS; have HS := n_; clear n_ hg hbox hb
     refine hK.out _ _ ⟨(HS.out.cell m0_).1, (HS.out.cell m0_).2.1, (HS.out.cell m0_).2.2, HS.out.cell m1_⟩ (fun hHeld => ?_)
     clear hK K
     refine nO_ 5 ?_
     exact nP_ (hJ (xv, yv, gx, gy) _ ⟨hx, hy, HS.out⟩)
    ·
     refine box_step ?hg (N := 5) ?hd (cs := #[.slice none 0 0, .slice none 0 0, .bool false]) (t := 25) ?hr ?_; (case hd => rfl); (case hg => rfl); (case hr => first | (go_simp; done) | (go_simp; rfl))
     intro gx hg wk hbox hb
     have n_ := Aside0.mk (HS.out.made hg hbox hb); clear HS; have HS := n_; clear n_ hg hbox hb
     refine hK.out _ _ ⟨(HS.out.cell m0_).1, (HS.out.cell m0_).2.1, (HS.out.cell m0_).2.2, HS.out.cell m1_⟩ (fun hHeld => ?_)
     clear hK K
     refine nO_ 5 ?_
     refine one_ (i := 3) (N := some 11) (mB 8 63) rfl rfl (one_of HT_.out (by kernel_rfl)) (by decide) (fun K hK => ?_)
     refine goes_ Try.func23 (by kernel_rfl) rfl #[Y.val] (by rfl) rfl rfl vL ?_
     with_reducible refine (rclose_o (LS.oc HS m1_) (LS.bel HS) HF.out.2.1).mono ?_
     rintro e wk ⟨yv, rfl, hy, ho, hb⟩; refine ⟨_, rfl, ?_⟩
     have n_ := Aside0.mk (HS.out.call hb ho); clear HS; have HS := n_; clear n_ ho hb
     refine hK.out _ _ ⟨(HS.out.cell m0_).1, (HS.out.cell m0_).2.1, (HS.out.cell m0_).2.2, HS.out.cell m1_⟩ (fun hHeld => ?_)
     clear hK K
     refine nO_ 11 ?_
     exact nP_ (hJ (xv, yv, gx, gy) _ ⟨hx, hy, HS.out⟩)
  ·
   refine box_step ?hg (N := 5) ?hd (cs := #[.slice none 0 0, .slice none 0 0, .bool false]) (t := 25) ?hr ?_; (case hd => rfl); (case hg => rfl); (case hr => first | (go_simp; done) | (go_simp; rfl))
   intro gx hg wk hbox hb
   have n_ := Aside0.mk (HS.out.made hg hbox hb); clear HS; have HS := n_; clear n_ hg hbox hb
   refine hK.out _ _ ⟨(HS.out.cell m0_).1, (HS.out.cell m0_).2.1, (HS.out.cell m0_).2.2, HS.out.cell m1_⟩ (fun hHeld => ?_)
   clear hK K
   refine nO_ 5 ?_
   refine two_ (i := 1) (j := 5) (Ni := some 9) (Nj := some 6) (mB 8 23) (mB 8 53) rfl rfl rfl rfl (two_of HT_.out (by kernel_rfl)) (by decide) (by decide) (fun K hK => ?_) (fun K hK => ?_)
   ·
    refine goes_ Try.func23 (by kernel_rfl) rfl #[X.val] (by rfl) rfl rfl vL ?_
    with_reducible refine (rclose_o (LS.oc HS m0_) (LS.bel HS) HF.out.1.1).mono ?_
    rintro e wk ⟨xv, rfl, hx, ho, hb⟩; refine ⟨_, rfl, ?_⟩
    have n_ := Aside0.mk (HS.out.call hb ho); clear HS; have HS := n_; clear n_ ho hb
    refine hK.out _ _ ⟨(HS.out.cell m0_).1, (HS.out.cell m0_).2.1, (HS.out.cell m0_).2.2, HS.out.cell m1_⟩ (fun hHeld => ?_)
    clear hK K
    refine nO_ 9 ?_
    refine two_ (i := 3) (j := 5) (Ni := some 11) (Nj := some 6) (mB 8 31) (mB 8 55) rfl rfl rfl rfl (two_of HT_.out (by kernel_rfl)) (by decide) (by decide) (fun K hK => ?_) (fun K hK => ?_)
    ·
     refine goes_ Try.func23 (by kernel_rfl) rfl #[Y.val] (by rfl) rfl rfl vL ?_
     with_reducible refine (rclose_o (LS.oc HS m1_) (LS.bel HS) HF.out.2.1).mono ?_
     rintro e wk ⟨yv, rfl, hy, ho, hb⟩; refine ⟨_, rfl, ?_⟩
     have n_ := Aside0.mk (HS.out.call hb ho); clear HS; have HS := n_; clear n_ ho hb
     refine hK.out _ _ ⟨(HS.out.cell m0_).1, (HS.out.cell m0_).2.1, (HS.out.cell m0_).2.2, HS.out.cell m1_⟩ (fun hHeld => ?_)
     clear hK K
     refine nO_ 11 ?_
     refine one_ (i := 5) (N := some 6) (mB 8 63) rfl rfl (one_of HT_.out (by kernel_rfl)) (by decide) (fun K hK => ?_)
     refine box_step ?hg (N := 6) ?hd (cs := #[.slice none 0 0, .slice none 0 0, .bool false]) (t := 25) ?hr ?_; (case hd => rfl); (case hg => rfl); (case hr => first | (go_simp; done) | (go_simp; rfl))
     intro gy hg wk hbox hb
     have n_ := Aside0.mk (HS.out.made hg hbox hb); clear HS; have HS := n_; clear n_ hg hbox hb
     refine hK.out _ _ ⟨(HS.out.cell m0_).1, (HS.out.cell m0_).2.1, (HS.out.cell m0_).2.2, HS.out.cell m1_⟩ (fun hHeld => ?_)
     clear hK K
     refine nO_ 6 ?_
     exact nP_ (hJ (xv, yv, gx, gy) _ ⟨hx, hy, HS.out.swap⟩)
    ·
     refine box_step ?hg (N := 6) ?hd (cs := #[.slice none 0 0, .slice none 0 0, .bool false]) (t := 25) ?hr ?_; (case hd => rfl); (case hg => rfl); (case hr => first | (go_simp; done) | (go_simp; rfl))
     intro gy hg wk hbox hb
     have n_ := Aside0.mk (HS.out.made hg hbox hb); clear HS; have HS := n_; clear n_ hg hbox hb
     refine hK.out _ _ ⟨(HS.out.cell m0_).1, (HS.out.cell m0_).2.1, (HS.out.cell m0_).2.2, HS.out.cell m1_⟩ (fun hHeld => ?_)
     clear hK K
     refine nO_ 6 ?_
     refine one_ (i := 3) (N := some 11) (mB 8 63) rfl rfl (one_of HT_.out (by kernel_rfl)) (by decide) (fun K hK => ?_)
     refine goes_ Try.func23 (by kernel_rfl) rfl #[Y.val] (by rfl) rfl rfl vL ?_
     with_reducible refine (rclose_o (LS.oc HS m1_) (LS.bel HS) HF.out.2.1).mono ?_
     rintro e wk ⟨yv, rfl, hy, ho, hb⟩; refine ⟨_, rfl, ?_⟩
     have n_ := Aside0.mk (HS.out.call hb ho); clear HS; have HS := n_; clear n_ ho hb
     refine hK.out _ _ ⟨(HS.out.cell m0_).1, (HS.out.cell m0_).2.1, (HS.out.cell m0_).2.2, HS.out.cell m1_⟩ (fun hHeld => ?_)
     clear hK K
     refine nO_ 11 ?_
     exact nP_ (hJ (xv, yv, gx, gy) _ ⟨hx, hy, HS.out.swap⟩)
   ·
    refine box_step ?hg (N := 6) ?hd (cs := #[.slice none 0 0, .slice none 0 0, .bool false]) (t := 25) ?hr ?_; (case hd => rfl); (case hg => rfl); (case hr => first | (go_simp; done) | (go_simp; rfl))
    intro gy hg wk hbox hb
    have n_ := Aside0.mk (HS.out.made hg hbox hb); clear HS; have HS := n_; clear n_ hg hbox hb
    refine hK.out _ _ ⟨(HS.out.cell m0_).1, (HS.out.cell m0_).2.1, (HS.out.cell m0_).2.2, HS.out.cell m1_⟩ (fun hHeld => ?_)
    clear hK K
    refine nO_ 6 ?_
    refine one_ (i := 1) (N := some 9) (mB 8 55) rfl rfl (one_of HT_.out (by kernel_rfl)) (by decide) (fun K hK => ?_)
    refine goes_ Try.func23 (by kernel_rfl) rfl #[X.val] (by rfl) rfl rfl vL ?_
    with_reducible refine (rclose_o (LS.oc HS m0_) (LS.bel HS) HF.out.1.1).mono ?_
    rintro e wk ⟨xv, rfl, hx, ho, hb⟩; refine ⟨_, rfl, ?_⟩
    have n_ := Aside0.mk (HS.out.call hb ho); clear HS; have HS := n_; clear n_ ho hb
    refine hK.out _ _ ⟨(HS.out.cell m0_).1, (HS.out.cell m0_).2.1, (HS.out.cell m0_).2.2, HS.out.cell m1_⟩ (fun hHeld => ?_)
    clear hK K
    refine nO_ 9 ?_
    refine one_ (i := 3) (N := some 11) (mB 8 63) rfl rfl (one_of HT_.out (by kernel_rfl)) (by decide) (fun K hK => ?_)
    refine goes_ Try.func23 (by kernel_rfl) rfl #[Y.val] (by rfl) rfl rfl vL ?_
    with_reducible refine (rclose_o (LS.oc HS m1_) (LS.bel HS) HF.out.2.1).mono ?_
    rintro e wk ⟨yv, rfl, hy, ho, hb⟩; refine ⟨_, rfl, ?_⟩
    have n_ := Aside0.mk (HS.out.call hb ho); clear HS; have HS := n_; clear n_ ho hb
    refine hK.out _ _ ⟨(HS.out.cell m0_).1, (HS.out.cell m0_).2.1, (HS.out.cell m0_).2.2, HS.out.cell m1_⟩ (fun hHeld => ?_)
    clear hK K
    refine nO_ 11 ?_
    exact nP_ (hJ (xv, yv, gx, gy) _ ⟨hx, hy, HS.out.swap⟩)
  ·
   refine box_step ?hg (N := 6) ?hd (cs := #[.slice none 0 0, .slice none 0 0, .bool false]) (t := 25) ?hr ?_; (case hd => rfl); (case hg => rfl); (case hr => first | (go_simp; done) | (go_simp; rfl))
   intro gy hg wk hbox hb
   have n_ := Aside0.mk (HS.out.made hg hbox hb); clear HS; have HS := n_; clear n_ hg hbox hb
   refine hK.out _ _ ⟨(HS.out.cell m0_).1, (HS.out.cell m0_).2.1, (HS.out.cell m0_).2.2, HS.out.cell m1_⟩ (fun hHeld => ?_)
   clear hK K
   refine nO_ 6 ?_
   refine two_ (i := 1) (j := 4) (Ni := some 9) (Nj := some 5) (mB 8 39) (mB 8 53) rfl rfl rfl rfl (two_of HT_.out (by kernel_rfl)) (by decide) (by decide) (fun K hK => ?_) (fun K hK => ?_)
   ·
    refine goes_ Try.func23 (by kernel_rfl) rfl #[X.val] (by rfl) rfl rfl vL ?_
    with_reducible refine (rclose_o (LS.oc HS m0_) (LS.bel HS) HF.out.1.1).mono ?_
    rintro e wk ⟨xv, rfl, hx, ho, hb⟩; refine ⟨_, rfl, ?_⟩
    have n_ := Aside0.mk (HS.out.call hb ho); clear HS; have HS := n_; clear n_ ho hb
    refine hK.out _ _ ⟨(HS.out.cell m0_).1, (HS.out.cell m0_).2.1, (HS.out.cell m0_).2.2, HS.out.cell m1_⟩ (fun hHeld => ?_)
    clear hK K
    refine nO_ 9 ?_
    refine two_ (i := 3) (j := 4) (Ni := some 11) (Nj := some 5) (mB 8 47) (mB 8 55) rfl rfl rfl rfl (two_of HT_.out (by kernel_rfl)) (by decide) (by decide) (fun K hK => ?_) (fun K hK => ?_)
    ·
     refine goes_ Try.func23 (by kernel_rfl) rfl #[Y.val] (by rfl) rfl rfl vL ?_
     with_reducible refine (rclose_o (LS.oc HS m1_) (LS.bel HS) HF.out.2.1).mono ?_
     rintro e wk ⟨yv, rfl, hy, ho, hb⟩; refine ⟨_, rfl, ?_⟩
     have n_ := Aside0.mk (HS.out.call hb ho); clear HS; have HS := n_; clear n_ ho hb
     refine hK.out _ _ ⟨(HS.out.cell m0_).1, (HS.out.cell m0_).2.1, (HS.out.cell m0_).2.2, HS.out.cell m1_⟩ (fun hHeld => ?_)
     clear hK K
     refine nO_ 11 ?_
     refine one_ (i := 4) (N := some 5) (mB 8 63) rfl rfl (one_of HT_.out (by kernel_rfl)) (by decide) (fun K hK => ?_)
     refine box_step ?hg (N := 5) ?hd (cs := #[.slice none 0 0, .slice none 0 0, .bool false]) (t := 25) ?hr ?_; (case hd => rfl); (case hg => rfl); (case hr => first | (go_simp; done) | (go_simp; rfl))
     intro gx hg wk hbox hb
     have n_ := Aside0.mk (HS.out.made hg hbox hb); clear HS; have HS := n_; clear n_ hg hbox hb
     refine hK.out _ _ ⟨(HS.out.cell m0_).1, (HS.out.cell m0_).2.1, (HS.out.cell m0_).2.2, HS.out.cell m1_⟩ (fun hHeld => ?_)
     clear hK K
     refine nO_ 5 ?_
     exact nP_ (hJ (xv, yv, gx, gy) _ ⟨hx, hy, HS.out⟩)
    ·
     refine box_step ?hg (N := 5) ?hd (cs := #[.slice none 0 0, .slice none 0 0, .bool false]) (t := 25) ?hr ?_; (case hd => rfl); (case hg => rfl); (case hr => first | (go_simp; done) | (go_simp; rfl))
     intro gx hg wk hbox hb
     have n_ := Aside0.mk (HS.out.made hg hbox hb); clear HS; have HS := n_; clear n_ hg hbox hb
     refine hK.out _ _ ⟨(HS.out.cell m0_).1, (HS.out.cell m0_).2.1, (HS.out.cell m0_).2.2, HS.out.cell m1_⟩ (fun hHeld => ?_)
     clear hK K
     refine nO_ 5 ?_
     refine one_ (i := 3) (N := some 11) (mB 8 63) rfl rfl (one_of HT_.out (by kernel_rfl)) (by decide) (fun K hK => ?_)
     refine goes_ Try.func23 (by kernel_rfl) rfl #[Y.val] (by rfl) rfl rfl vL ?_
     with_reducible refine (rclose_o (LS.oc HS m1_) (LS.bel HS) HF.out.2.1).mono ?_
     rintro e wk ⟨yv, rfl, hy, ho, hb⟩; refine ⟨_, rfl, ?_⟩
     have n_ := Aside0.mk (HS.out.call hb ho); clear HS; have HS := n_; clear n_ ho hb
     refine hK.out _ _ ⟨(HS.out.cell m0_).1, (HS.out.cell m0_).2.1, (HS.out.cell m0_).2.2, HS.out.cell m1_⟩ (fun hHeld => ?_)
     clear hK K
     refine nO_ 11 ?_
     exact nP_ (hJ (xv, yv, gx, gy) _ ⟨hx, hy, HS.out⟩)
   ·
    refine box_step ?hg (N := 5) ?hd (cs := #[.slice none 0 0, .slice none 0 0, .bool false]) (t := 25) ?hr ?_; (case hd => rfl); (case hg => rfl); (case hr => first | (go_simp; done) | (go_simp; rfl))
    intro gx hg wk hbox hb
    have n_ := Aside0.mk (HS.out.made hg hbox hb); clear HS; have HS := n_; clear n_ hg hbox hb
    refine hK.out _ _ ⟨(HS.out.cell m0_).1, (HS.out.cell m0_).2.1, (HS.out.cell m0_).2.2, HS.out.cell m1_⟩ (fun hHeld => ?_)
    clear hK K
    refine nO_ 5 ?_
    refine one_ (i := 1) (N := some 9) (mB 8 55) rfl rfl (one_of HT_.out (by kernel_rfl)) (by decide) (fun K hK => ?_)
    refine goes_ Try.func23 (by kernel_rfl) rfl #[X.val] (by rfl) rfl rfl vL ?_
    with_reducible refine (rclose_o (LS.oc HS m0_) (LS.bel HS) HF.out.1.1).mono ?_
    rintro e wk ⟨xv, rfl, hx, ho, hb⟩; refine ⟨_, rfl, ?_⟩
    have n_ := Aside0.mk (HS.out.call hb ho); clear HS; have HS := n_; clear n_ ho hb
    refine hK.out _ _ ⟨(HS.out.cell m0_).1, (HS.out.cell m0_).2.1, (HS.out.cell m0_).2.2, HS.out.cell m1_⟩ (fun hHeld => ?_)
    clear hK K
    refine nO_ 9 ?_
    refine one_ (i := 3) (N := some 11) (mB 8 63) rfl rfl (one_of HT_.out (by kernel_rfl)) (by decide) (fun K hK => ?_)
    refine goes_ Try.func23 (by kernel_rfl) rfl #[Y.val] (by rfl) rfl rfl vL ?_
    with_reducible refine (rclose_o (LS.oc HS m1_) (LS.bel HS) HF.out.2.1).mono ?_
    rintro e wk ⟨yv, rfl, hy, ho, hb⟩; refine ⟨_, rfl, ?_⟩
    have n_ := Aside0.mk (HS.out.call hb ho); clear HS; have HS := n_; clear n_ ho hb
    refine hK.out _ _ ⟨(HS.out.cell m0_).1, (HS.out.cell m0_).2.1, (HS.out.cell m0_).2.2, HS.out.cell m1_⟩ (fun hHeld => ?_)
    clear hK K
    refine nO_ 11 ?_
    exact nP_ (hJ (xv, yv, gx, gy) _ ⟨hx, hy, HS.out⟩)
 rintro ⟨xv, yv, gx, gy⟩ W4 ⟨hx, hy, HS4⟩
 clear HS hHeld
 have HS := Aside0.mk HS4
 clear HS4
 dsimp only at HS hx hy
 obtain ⟨⟨p0, p1, p2, p3, p4, p5⟩, ⟨q0, q1, q2, q3, q4, q5⟩, kne, kne'⟩ := HS.out.two_new
 refine nS_ ?_
 refine last_ (i := 6) (N := none) (mB 8 127) rfl rfl (one_of HT_.out (by kernel_rfl)) (by decide) (fun K hK => ?_)
 refine skip_ (w1 := ?_) (by rfl) rfl ?_ ?_
 rotate_left
 ·
  go_simp
  rfl
 refine hK.out _ _ ?_
 clear hK K
 refine last_ (i := 7) (N := none) (mB 8 255) rfl rfl (one_of HT_.out (by kernel_rfl)) (by decide) (fun K hK => ?_)
 refine skip_ (w1 := ?_) (by rfl) rfl ?_ ?_
 rotate_left
 ·
  go_simp
  rfl
 refine hK.out _ _ ?_
 clear hK K
 refine done_ (done_of HT_.out (by kernel_rfl)) ?_
 clear p0 p1 p2 p3 p4 p5 q0 q1 q2 q3 q4 q5 kne kne' HT_ HW_
 unfold OnlyN
 have n_ := Aside0.mk HS.out.put_two; clear HS; have HS := n_; clear n_
 generalize hW5 : ((((((W4.setCell ⟨gx, 0, none⟩ (.slice xv.P xv.v.length xv.p)).setCell ⟨gx, 1, none⟩ (.slice xv.Q xv.m.length xv.q)).setCell ⟨gx, 2, none⟩ (.bool xv.e)).setCell ⟨gy, 0, none⟩ (.slice yv.P yv.v.length yv.p)).setCell ⟨gy, 1, none⟩ (.slice yv.Q yv.m.length yv.q)).setCell ⟨gy, 2, none⟩ (.bool yv.e)) = W5 at HS ⊢; clear hW5
 obtain ⟨xP, xp, xQ, xq, xV, xM, xE⟩ := xv
 obtain ⟨yP, yp, yQ, yq, yV, yM, yE⟩ := yv
 have gx1 := hx
 have gy1 := hy
 clear hx hy
 have hans := HAN.out
 have HC : Aside0 ((xE = true ∨ yE = true → ans = xE) ∧ (xE = false → yE = false → xM.length = yM.length ∧ (xM.length < 4611686018427387904) ∧ (ans = true ↔ ∀ k : Nat, k < xM.length → rd xM (k : Int) ≤ rd yM (k : Int)))) := ⟨by
  obtain ⟨fx, e1⟩ := HF.out.1
  obtain ⟨fy, e2⟩ := HF.out.2
  rw [e1] at fx gx1
  rw [e2] at fy gy1
  rw [← hans]
  unfold leqF
  obtain ⟨A, a⟩ := mean_ex fx
  obtain ⟨B, b⟩ := mean_ex fy
  cases a with
  | none q _ =>
   rw [q] at gx1
   rw [q]
   obtain ⟨_, rfl, rfl⟩ := Prod.mk.inj gx1 |>.imp id Prod.mk.inj
   exact ⟨fun _ => if_pos (.inl rfl), fun h => by cases h⟩
  | some q _ _ s1 =>
   rw [q] at gx1
   obtain ⟨_, rfl, rfl⟩ := Prod.mk.inj gx1 |>.imp id Prod.mk.inj
   cases b with
   | none q' _ =>
    rw [q'] at gy1
    obtain ⟨_, rfl, rfl⟩ := Prod.mk.inj gy1 |>.imp id Prod.mk.inj
    rw [q, q']
    exact ⟨fun _ => if_pos (.inr rfl), fun _ h => by cases h⟩
   | some q' _ _ s2 =>
    rw [q'] at gy1
    obtain ⟨_, rfl, rfl⟩ := Prod.mk.inj gy1 |>.imp id Prod.mk.inj
    rw [q, q', if_neg (by simp)]
    have hl : (lst (2 * vars.length) (closeM (2 * vars.length) (lowM vars.length X.m))).length = 2 * vars.length * (2 * vars.length) := lst_length _ _
    refine ⟨fun h => (by rcases h with h | h <;> cases h), fun _ _ => ⟨by rw [lst_length, lst_length], by rw [hl]; have := fx.1.1; exact Nat.lt_of_le_of_lt (Nat.mul_le_mul (show 2 * vars.length ≤ 16 by omega) (show 2 * vars.length ≤ 16 by omega)) (by decide), ?_⟩⟩
    rw [hl]
    exact leqL_at fx.1 s1 s2⟩
 clear gx1 gy1 hans
 obtain ⟨⟨ky0, ky1, ky2⟩, fy0, fy1, fy2⟩ := LS.cells HS m0_; obtain ⟨⟨kx0, kx1, kx2⟩, fx0, fx1, fx2⟩ := LS.cells HS m1_; obtain ⟨⟨ka0, ka1, ka2⟩, fa0, fa1, fa2⟩ := LS.cells HS m2_; obtain ⟨⟨kb0, kb1, kb2⟩, fb0, fb1, fb2⟩ := LS.cells HS m3_
 dsimp only at kx0 kx1 kx2 ky0 ky1 ky2 ⊢
 cases xE with
 | true =>
  have ha := HC.out.1 (.inl rfl)
  subst ha
  go_wp2
  go_ret
  exact ⟨rfl, LS.bel HS⟩
 | false =>
  cases yE with
  | true =>
   have ha := HC.out.1 (.inr rfl)
   subst ha
   go_wp2
   go_ret
   exact ⟨rfl, LS.bel HS⟩
  | false =>
   have HL := Aside0.mk (HC.out.2 rfl rfl)
   clear HC
   go_wp2
   go_loopg [23] xM.length (fun kq v23 w' => ∃ (i : Int), v23 = .int .i64 i ∧ Aside0 (0 ≤ i ∧ i + (kq : Int) = (xM.length : Int)) ∧ Aside0 (∀ j : Nat, (j : Int) < i → rd xM (j : Int) ≤ rd yM (j : Int)) ∧ Aside0 (LS w [(gy, ⟨yP, yp, yQ, yq, yV, yM, false⟩), (gx, ⟨xP, xp, xQ, xq, xV, xM, false⟩), (ga, X), (gb, Y)] [⟨yP, yp, yQ, yq, yV, yM, false⟩, ⟨xP, xp, xQ, xq, xV, xM, false⟩] [] w'))
   case atStart => exact ⟨0, by rfl, ⟨by omega⟩, ⟨fun j h => absurd h (by omega)⟩, ⟨LS.to HS⟩⟩
   case round =>
    clear HS kx0 kx1 kx2 fx0 fx1 fx2 ky0 ky1 ky2 fy0 fy1 fy2 ka0 ka1 ka2 fa0 fa1 fa2 kb0 kb1 kb2 fb0 fb1 fb2
    obtain ⟨i, rfl, HI, HJ, HS⟩ := hrel
    obtain ⟨⟨ky0, ky1, ky2⟩, fy0, fy1, fy2⟩ := LS.cells HS m0_; obtain ⟨⟨kx0, kx1, kx2⟩, fx0, fx1, fx2⟩ := LS.cells HS m1_
    dsimp only at kx0 kx1 kx2 ky0 ky1 ky2
    cases gk with
    | succ k =>
     have q1 : (decide (i < (xM.length : Int))) = true := decide_eq_true (by have := HI.out; omega)
     have p2 : 0 ≤ i := HI.out.1
     have q2 : i < (xM.length : Int) := by have := HI.out; omega
     have q3 : i < (yM.length : Int) := by have := HI.out; have := HL.out.1; omega
     obtain ⟨ad, ea, hx0⟩ := Kd.at_int ((HS.out.box _ m1_).2.2.r1.reads HS.out.below) i p2 q2
     obtain ⟨bd, eb, hy0⟩ := Kd.at_int ((HS.out.box _ m0_).2.2.r1.reads HS.out.below) i p2 q3
     cases ea
     cases eb
     replace p2 := eq_true p2
     replace q2 := eq_true q2
     replace q3 := eq_true q3
     by_cases d1 : rd yM i < rd xM i
     ·
      have d1' := decide_eq_true d1
      have HD := Aside0.mk d1
      clear d1
      go_upto_region 7 with fail
      refine start_ (n := 11) (S := fun w' => w'.cell? ⟨gx, 1, none⟩ = some (.slice (some ad) xM.length xq) ∧ w'.cell? ⟨gy, 1, none⟩ = some (.slice (some bd) yM.length yq) ∧ w'.cell? (ad.add i.toNat) = some (.int .i64 (rd xM i)) ∧ w'.cell? (bd.add i.toNat) = some (.int .i64 (rd yM i))) (ds := []) (mB 11 0) (by kernel_rfl) rfl (by kernel_rfl) ⟨(HS.out.drew.cell m1_).2.1, (HS.out.drew.cell m0_).2.1, hx0, hy0⟩ (fun hHeld => ?_)
      refine with_tabW rleq_tab7 rleq_bits7 (fun HT_ HW_ => ?_)
      have n_ := Aside0.mk HS.out.drew; clear HS; have HS := n_; clear n_
      generalize hWd : World.drew _ = Wd at HS hHeld ⊢; clear hWd
      refine pV_ 0 26 (mB 11 1) HT_ ?_
      refine tV_ 1 27 (mB 11 3) HT_ HW_ hHeld ?_
      refine pV_ 2 28 (mB 11 7) HT_ ?_
      refine pV_ 3 29 (mB 11 15) HT_ ?_
      refine tV_ 4 30 (mB 11 31) HT_ HW_ hHeld ?_
      refine pV_ 5 31 (mB 11 63) HT_ ?_
      refine tV_ 6 32 (mB 11 127) HT_ HW_ hHeld ?_
      refine pV_ 7 33 (mB 11 255) HT_ ?_
      refine pV_ 8 34 (mB 11 511) HT_ ?_
      refine tV_ 9 35 (mB 11 1023) HT_ HW_ hHeld ?_
      refine pV_ 10 36 (mB 11 2047) HT_ ?_
      refine done_ (done_of HT_.out (by kernel_rfl)) ?_
      clear HT_ HW_ hHeld
      try go_wp2
      go_ret
      have hf : ans = false := by
       cases ans with
       | false => rfl
       | true =>
        have := (HL.out.2.2.1 rfl) i.toNat (by have := HI.out; omega)
        rw [Int.toNat_of_nonneg HI.out.1] at this
        have := HD.out; omega
      rw [hf]
      exact ⟨rfl, LS.bel HS⟩
     ·
      have d1' := decide_eq_false d1
      have HD := Aside0.mk d1
      clear d1
      go_upto_region 7 with fail
      refine start_ (n := 11) (S := fun w' => w'.cell? ⟨gx, 1, none⟩ = some (.slice (some ad) xM.length xq) ∧ w'.cell? ⟨gy, 1, none⟩ = some (.slice (some bd) yM.length yq) ∧ w'.cell? (ad.add i.toNat) = some (.int .i64 (rd xM i)) ∧ w'.cell? (bd.add i.toNat) = some (.int .i64 (rd yM i))) (ds := []) (mB 11 0) (by kernel_rfl) rfl (by kernel_rfl) ⟨(HS.out.drew.cell m1_).2.1, (HS.out.drew.cell m0_).2.1, hx0, hy0⟩ (fun hHeld => ?_)
      refine with_tabW rleq_tab7 rleq_bits7 (fun HT_ HW_ => ?_)
      have n_ := Aside0.mk HS.out.drew; clear HS; have HS := n_; clear n_
      generalize hWd : World.drew _ = Wd at HS hHeld ⊢; clear hWd
      refine pV_ 0 26 (mB 11 1) HT_ ?_
      refine tV_ 1 27 (mB 11 3) HT_ HW_ hHeld ?_
      refine pV_ 2 28 (mB 11 7) HT_ ?_
      refine pV_ 3 29 (mB 11 15) HT_ ?_
      refine tV_ 4 30 (mB 11 31) HT_ HW_ hHeld ?_
      refine pV_ 5 31 (mB 11 63) HT_ ?_
      refine tV_ 6 32 (mB 11 127) HT_ HW_ hHeld ?_
      refine pV_ 7 33 (mB 11 255) HT_ ?_
      refine pV_ 8 34 (mB 11 511) HT_ ?_
      refine tV_ 9 35 (mB 11 1023) HT_ HW_ hHeld ?_
      refine pV_ 10 36 (mB 11 2047) HT_ ?_
      refine done_ (done_of HT_.out (by kernel_rfl)) ?_
      clear HT_ HW_ hHeld
      try go_wp2
      go_roundg k
      case measure => exact Nat.lt_succ_self k
      case rel =>
       have hw : wrap64 (i + 1) = i + 1 := by have := HI.out; have := HL.out.2.1; unfold wrap64; omega
       exact ⟨wrap64 (i + 1), rfl, ⟨by rw [hw]; have := HI.out; omega⟩, ⟨by
        rw [hw]
        intro j hj
        have h1 := HD.out
        by_cases e : (j : Int) = i
        ·
         rw [e]; omega
        ·
         exact HJ.out j (by omega)⟩, ⟨LS.to HS⟩⟩
    | zero =>
     have q1 : (decide (i < (xM.length : Int))) = false := decide_eq_false (by have := HI.out; omega)
     have hf : ans = true := HL.out.2.2.2 (fun k hk => HJ.out k (by have := HI.out; omega))
     subst hf
     go_wp2
     go_ret
     exact ⟨rfl, LS.bel HS⟩
end Go.Proofs.Ytomgebmimgaojaa.QO
end
end
section
/- The document's Join walked: it answers what the program's does. Printed by gen_rjoin.py. -/
noncomputable section
namespace Go.Proofs.Ytomgebmimgaojaa.QO
open Go.RowKit Go.Shelf Go.Proofs.YtomgebmimgaojaaW.PrintWords Go.Proofs.YtomgebmimgaojaaW.PrintLast Go.Proofs.YtomgebmimgaojaaW.PrintMore
open Go.Proofs.Ytomgebmimgaojaa.Pure Octs Two
attribute [local go_sem] Oper.semAt_some
attribute [local go_sem ↓] Go.wp_at_zero Go.wp_at_succ
set_option linter.unusedVariables false
set_option linter.unusedSimpArgs false
def rjoin_T1 : Bool × List (List Nat × List Nat) := (true, [([], []), ([0], [0]), ([], []), ([2, 1], [2]), ([], []), ([], []), ([4, 1, 3, 0, 1, 4, 5], [1, 4]), ([5, 3, 6, 0, 1, 2, 3, 4, 5, 6], [3, 5])])
def rjoin_B1 : List Nat := [0, 1, 0, 7, 0, 0, 63, 127]
theorem rjoin_tab1 : rtab .any (opsOf Try.f29 1) = rjoin_T1 := by kernel_rfl
theorem rjoin_bits1 : waitsOk rjoin_T1.2 rjoin_B1 = true := by kernel_rfl
def rjoin_T9 : Bool × List (List Nat × List Nat) := (true, [([], []), ([0], [0]), ([], []), ([], []), ([3], [3]), ([], []), ([4, 5], [4, 5]), ([6], [6]), ([], []), ([8], [8]), ([], []), ([9, 10], [9, 10]), ([11], [11]), ([7, 12], [7, 12]), ([1, 2, 0, 1, 2, 3, 4, 5, 6, 7, 8, 9, 10, 11, 12, 13], [1, 2]), ([14, 13, 0, 1, 2, 3, 4, 5, 6, 7, 8, 9, 10, 11, 12, 13], [13, 14])])
def rjoin_B9 : List Nat := [0, 1, 0, 0, 8, 0, 56, 120, 0, 256, 0, 1792, 3840, 8184, 16383, 32767]
theorem rjoin_tab9 : rtab .any (opsOf Try.f29 9) = rjoin_T9 := by kernel_rfl
theorem rjoin_bits9 : waitsOk rjoin_T9.2 rjoin_B9 = true := by kernel_rfl
theorem rclose_own {w W : World} {x : OV} (hx : Oc w W x) (hb : Below w.heap.size w W) (fx : OFit x.v x.m x.e) :
 Calls Try.prog 23 #[x.val] W fun e W' => ∃ z : OV, e = .returned z.val ∧ z.o = closeF x.v x.m x.e ∧ Own W W' z ∧ Below W.heap.size W W' := by
 obtain ⟨K, hK⟩ := close_ev fx
 exact of_calls2 (gimbalref11_Close.calls K x.P x.p x.v x.Q x.q x.m x.e _ _ _ W (hx.r0.reads hb) hx.r0.le (hx.r1.reads hb) hx.r1.le (hK K (Nat.le_refl _)))
theorem lst_at {n k : Nat} {C : Mx} (hk : k < n * n) : rd (lst n C) (k : Int) = C (k / n) (k % n) := by
 have h0 : 0 < n := by
  by_cases e : n = 0
  ·
   rw [e] at hk; omega
  ·
   omega
 refine lst_rd (Nat.div_lt_of_lt_mul hk) (Nat.mod_lt _ h0) ?_
 congr 1
 rw [Nat.mul_comm]; exact (Nat.div_add_mod k _).symm
/-- the greater entries, one by one -/
theorem join_list {vars : List Int} {A B : Mx} (hv : VarsOk vars) (ha : Snd (2 * vars.length) A) (hb : Snd (2 * vars.length) B) {xs : List Int} (hl : xs.length = (lst (2 * vars.length) A).length)
 (h : ∀ k : Nat, k < (lst (2 * vars.length) A).length → rd xs (k : Int) = mx (rd (lst (2 * vars.length) A) (k : Int)) (rd (lst (2 * vars.length) B) (k : Int))) : xs = mixL mx (2 * vars.length) (lst (2 * vars.length) A) (lst (2 * vars.length) B) := by
 have e : mixL mx (2 * vars.length) (lst (2 * vars.length) A) (lst (2 * vars.length) B) = lst (2 * vars.length) (fun i j => mx (A i j) (B i j)) := by
  rw [mixL_lst]
  unfold lst
  refine List.map_congr_left fun k hk => ?_
  have hk' : k < 2 * vars.length * (2 * vars.length) := by simpa using hk
  have h0 : 0 < 2 * vars.length := by
   by_cases e : 2 * vars.length = 0
   ·
    rw [e] at hk'; omega
   ·
    omega
  have h1 := lowM_lst hv ha (k / (2 * vars.length)) (k % (2 * vars.length)) (Nat.div_lt_of_lt_mul hk') (Nat.mod_lt _ h0)
  have h2 := lowM_lst hv hb (k / (2 * vars.length)) (k % (2 * vars.length)) (Nat.div_lt_of_lt_mul hk') (Nat.mod_lt _ h0)
  unfold lst at h1 h2
  dsimp only
  rw [h1, h2]
 rw [e]
 refine List.ext_getElem (by rw [hl, lst_length, lst_length]) fun k h1 h2 => ?_
 have hk : k < 2 * vars.length * (2 * vars.length) := by rw [hl, lst_length] at h1; exact h1
 have g := h k (by rw [lst_length]; exact hk)
 have r1 : rd xs (k : Int) = xs[k] := by unfold rd; simp [List.getD_eq_getElem?_getD, h1]
 have r2 : rd (lst (2 * vars.length) (fun i j => mx (A i j) (B i j))) (k : Int) = (lst (2 * vars.length) (fun i j => mx (A i j) (B i j)))[k] := by unfold rd; simp [List.getD_eq_getElem?_getD, h2]
 rw [← r1, ← r2, g, lst_at hk, lst_at hk, lst_at hk]
set_option maxHeartbeats 16000000 in
set_option maxRecDepth 100000 in
theorem rjoin_o {vars : List Int} {X Y : OV} {w0 w : World} (hX : Oc w0 w X) (hY : Oc w0 w Y) (h0 : Below w0.heap.size w0 w) (fx : OkV vars X) (fy : OkV vars Y) :
 Calls Try.prog 29 #[X.val, Y.val] w fun e W' => ∃ z : OV, e = .returned z.val ∧ z.o = joinF vars X.m X.e Y.m Y.e ∧ Own w W' z ∧ Below w.heap.size w W' := by
 have hu25 := Try.underlying25
 have HX : Aside0 (Oc w w X) := ⟨⟨⟨hX.r0.le, .inl (hX.r0.reads h0)⟩, ⟨hX.r1.le, .inl (hX.r1.reads h0)⟩⟩⟩
 have HY : Aside0 (Oc w w Y) := ⟨⟨⟨hY.r0.le, .inl (hY.r0.reads h0)⟩, ⟨hY.r1.le, .inl (hY.r1.reads h0)⟩⟩⟩
 have GF := Aside0.mk (And.intro fx fy)
 clear hX hY h0 fx fy
 obtain ⟨ans, hans⟩ : ∃ t, joinF vars X.m X.e Y.m Y.e = t := ⟨_, rfl⟩
 rw [hans]
 have HAN := Aside0.mk hans
 clear hans
 go_enter Try.func29, Try.ntmps29
 go_upto_region 1 with fail
 have HS : Aside0 (OS w [] (((w.alloc X.cells).alloc Y.cells).alloc (.cells #[.slice none 0 0, .slice none 0 0, .bool false] 25 (0, 0)))) := ⟨(OS.nil w).next (below_alloc (below_alloc (below_alloc (Below.refl _ _) _) _) _)⟩
 have HF : Aside0 (FX w [(w.heap.size + 1 + 1, .cells #[.slice none 0 0, .slice none 0 0, .bool false] 25 (0, 0)), (w.heap.size, X.cells), (w.heap.size + 1, Y.cells)] (((w.alloc X.cells).alloc Y.cells).alloc (.cells #[.slice none 0 0, .slice none 0 0, .bool false] 25 (0, 0)))) := ⟨by
  refine ⟨fun f hf => ?_, by simp; omega⟩
  cases hf with
  | head => exact ⟨by have h := blk_new ((w.alloc X.cells).alloc Y.cells) (.cells #[.slice none 0 0, .slice none 0 0, .bool false] 25 (0, 0)); simpa using h, by dsimp only; omega⟩
  | tail _ hf =>
   cases hf with
   | head => exact ⟨blk_alloc (blk_alloc (blk_new _ _) _) _, Nat.le_refl _⟩
   | tail _ hf =>
    cases hf with
    | head => exact ⟨blk_alloc (by have h := blk_new (w.alloc X.cells) Y.cells; simpa using h) _, Nat.le_succ _⟩
    | tail _ hf => cases hf⟩
 generalize hW2 : (((w.alloc X.cells).alloc Y.cells).alloc (.cells #[.slice none 0 0, .slice none 0 0, .bool false] 25 (0, 0))) = W2 at HS HF ⊢
 generalize hgr : w.heap.size + 1 + 1 = gr at HF ⊢
 generalize hgb : w.heap.size + 1 = gb at HF ⊢
 generalize hga : w.heap.size = ga at HF ⊢
 clear hW2 hgb hga hgr
 have n_ := Aside0.mk (HS.out.next (below_drew (Below.refl _ _))); have f_ := Aside0.mk (HF.out.next (below_drew (Below.refl _ _))); clear HS HF; have HS := n_; have HF := f_; clear n_ f_
 refine startN_ (n := 8) (S := fun w' => w'.cell? ⟨ga, 0, none⟩ = some (.slice X.P X.v.length X.p) ∧ w'.cell? ⟨ga, 1, none⟩ = some (.slice X.Q X.m.length X.q) ∧ w'.cell? ⟨ga, 2, none⟩ = some (.bool X.e) ∧ w'.cell? ⟨gb, 0, none⟩ = some (.slice Y.P Y.v.length Y.p) ∧ w'.cell? ⟨gb, 1, none⟩ = some (.slice Y.Q Y.m.length Y.q) ∧ w'.cell? ⟨gb, 2, none⟩ = some (.bool Y.e)) (ds := [6, 7]) (mB 8 0) (by kernel_rfl) rfl (by kernel_rfl) ⟨(FX.oct HF m1_).1.1, (FX.oct HF m1_).1.2.1, (FX.oct HF m1_).1.2.2, (FX.oct HF m2_).1⟩ (fun hHeld => ?_)
 refine with_tabW rjoin_tab1 rjoin_bits1 (fun HT_ HW_ => ?_)
 generalize hWd : World.drew _ = Wd at HS HF hHeld ⊢; clear hWd
 refine tV_ 0 8 (mB 8 1) HT_ HW_ hHeld ?_
 refine tV_ 2 10 (mB 8 5) HT_ HW_ hHeld ?_
 refine join_ (σ := OV × OV × Nat × Nat) 2 (mB 8 63) (fun s_ => [(9, .agg #[.slice s_.1.P s_.1.v.length s_.1.p, .slice s_.1.Q s_.1.m.length s_.1.q, .bool s_.1.e]), (11, .agg #[.slice s_.2.1.P s_.2.1.v.length s_.2.1.p, .slice s_.2.1.Q s_.2.1.m.length s_.2.1.q, .bool s_.2.1.e]), (5, .pointer (some ⟨s_.2.2.1, 0, none⟩)), (6, .pointer (some ⟨s_.2.2.2, 0, none⟩))]) (fun s_ w' => (s_.1.o = closeF X.v X.m X.e) ∧ (s_.2.1.o = closeF Y.v Y.m Y.e) ∧ OS w (s_.2.1 :: s_.1 :: []) w' ∧ FX w ((s_.2.2.1, .cells #[.slice none 0 0, .slice none 0 0, .bool false] 25 (0, 0)) :: (s_.2.2.2, .cells #[.slice none 0 0, .slice none 0 0, .bool false] 25 (0, 0)) :: [(gr, .cells #[.slice none 0 0, .slice none 0 0, .bool false] 25 (0, 0)), (ga, X.cells), (gb, Y.cells)]) w') ?_ ?_
 rotate_left
 ·
  intro hJ
  refine three_ (i := 1) (j := 4) (k := 5) (Ni := some 9) (Nj := some 5) (Nk := some 6) (mB 8 7) (mB 8 21) (mB 8 37) rfl rfl rfl rfl rfl rfl (three_of HT_.out (by kernel_rfl)) (by decide) (by decide) (by decide) (fun K hK => ?_) (fun K hK => ?_) (fun K hK => ?_)
  ·
   refine goes_ Try.func23 (by kernel_rfl) rfl #[X.val] (by rfl) rfl rfl vL ?_
   with_reducible refine (rclose_own (HX.out.next HS.out.below) HS.out.below GF.out.1.1).mono ?_
   rintro e wk ⟨xv, rfl, hx, ho, hb⟩; refine ⟨_, rfl, ?_⟩
   have n_ := Aside0.mk (HS.out.call hb ho); have f_ := Aside0.mk (HF.out.next hb); clear HS HF; have HS := n_; have HF := f_; clear n_ f_ ho hb
   refine hK.out _ _ ⟨(FX.oct HF m1_).1.1, (FX.oct HF m1_).1.2.1, (FX.oct HF m1_).1.2.2, (FX.oct HF m2_).1⟩ (fun hHeld => ?_)
   clear hK K
   refine nO_ 9 ?_
   refine three_ (i := 3) (j := 4) (k := 5) (Ni := some 11) (Nj := some 5) (Nk := some 6) (mB 8 15) (mB 8 23) (mB 8 39) rfl rfl rfl rfl rfl rfl (three_of HT_.out (by kernel_rfl)) (by decide) (by decide) (by decide) (fun K hK => ?_) (fun K hK => ?_) (fun K hK => ?_)
   ·
    refine goes_ Try.func23 (by kernel_rfl) rfl #[Y.val] (by rfl) rfl rfl vL ?_
    with_reducible refine (rclose_own (HY.out.next HS.out.below) HS.out.below GF.out.2.1).mono ?_
    rintro e wk ⟨yv, rfl, hy, ho, hb⟩; refine ⟨_, rfl, ?_⟩
    have n_ := Aside0.mk (HS.out.call hb ho); have f_ := Aside0.mk (HF.out.next hb); clear HS HF; have HS := n_; have HF := f_; clear n_ f_ ho hb
    refine hK.out _ _ ⟨(FX.oct HF m1_).1.1, (FX.oct HF m1_).1.2.1, (FX.oct HF m1_).1.2.2, (FX.oct HF m2_).1⟩ (fun hHeld => ?_)
    clear hK K
    refine nO_ 11 ?_
    refine two_ (i := 4) (j := 5) (Ni := some 5) (Nj := some 6) (mB 8 31) (mB 8 47) rfl rfl rfl rfl (two_of HT_.out (by kernel_rfl)) (by decide) (by decide) (fun K hK => ?_) (fun K hK => ?_)
    ·
     refine box_step ?hg (N := 5) ?hd (cs := #[.slice none 0 0, .slice none 0 0, .bool false]) (t := 25) ?hr ?_; (case hd => rfl); (case hg => rfl); (case hr => first | (go_simp; done) | (go_simp; rfl))
     intro gx hg wk hbox hb
     have f_ := Aside0.mk (HF.out.made HS.out.below.size hg hbox hb); have n_ := Aside0.mk (HS.out.next hb); clear HS HF; have HS := n_; have HF := f_; clear n_ f_ hg hbox hb
     refine hK.out _ _ ⟨(FX.oct HF m2_).1.1, (FX.oct HF m2_).1.2.1, (FX.oct HF m2_).1.2.2, (FX.oct HF m3_).1⟩ (fun hHeld => ?_)
     clear hK K
     refine nO_ 5 ?_
     refine one_ (i := 5) (N := some 6) (mB 8 63) rfl rfl (one_of HT_.out (by kernel_rfl)) (by decide) (fun K hK => ?_)
     refine box_step ?hg (N := 6) ?hd (cs := #[.slice none 0 0, .slice none 0 0, .bool false]) (t := 25) ?hr ?_; (case hd => rfl); (case hg => rfl); (case hr => first | (go_simp; done) | (go_simp; rfl))
     intro gy hg wk hbox hb
     have f_ := Aside0.mk (HF.out.made HS.out.below.size hg hbox hb); have n_ := Aside0.mk (HS.out.next hb); clear HS HF; have HS := n_; have HF := f_; clear n_ f_ hg hbox hb
     refine hK.out _ _ ⟨(FX.oct HF m3_).1.1, (FX.oct HF m3_).1.2.1, (FX.oct HF m3_).1.2.2, (FX.oct HF m4_).1⟩ (fun hHeld => ?_)
     clear hK K
     refine nO_ 6 ?_
     exact nP_ (hJ (xv, yv, gx, gy) _ ⟨hx, hy, HS.out, HF.out.swap⟩)
    ·
     refine box_step ?hg (N := 6) ?hd (cs := #[.slice none 0 0, .slice none 0 0, .bool false]) (t := 25) ?hr ?_; (case hd => rfl); (case hg => rfl); (case hr => first | (go_simp; done) | (go_simp; rfl))
     intro gy hg wk hbox hb
     have f_ := Aside0.mk (HF.out.made HS.out.below.size hg hbox hb); have n_ := Aside0.mk (HS.out.next hb); clear HS HF; have HS := n_; have HF := f_; clear n_ f_ hg hbox hb
     refine hK.out _ _ ⟨(FX.oct HF m2_).1.1, (FX.oct HF m2_).1.2.1, (FX.oct HF m2_).1.2.2, (FX.oct HF m3_).1⟩ (fun hHeld => ?_)
     clear hK K
     refine nO_ 6 ?_
     refine one_ (i := 4) (N := some 5) (mB 8 63) rfl rfl (one_of HT_.out (by kernel_rfl)) (by decide) (fun K hK => ?_)
     refine box_step ?hg (N := 5) ?hd (cs := #[.slice none 0 0, .slice none 0 0, .bool false]) (t := 25) ?hr ?_; (case hd => rfl); (case hg => rfl); (case hr => first | (go_simp; done) | (go_simp; rfl))
     intro gx hg wk hbox hb
     have f_ := Aside0.mk (HF.out.made HS.out.below.size hg hbox hb); have n_ := Aside0.mk (HS.out.next hb); clear HS HF; have HS := n_; have HF := f_; clear n_ f_ hg hbox hb
     refine hK.out _ _ ⟨(FX.oct HF m3_).1.1, (FX.oct HF m3_).1.2.1, (FX.oct HF m3_).1.2.2, (FX.oct HF m4_).1⟩ (fun hHeld => ?_)
     clear hK K
     refine nO_ 5 ?_
     exact nP_ (hJ (xv, yv, gx, gy) _ ⟨hx, hy, HS.out, HF.out⟩)
   ·
    refine box_step ?hg (N := 5) ?hd (cs := #[.slice none 0 0, .slice none 0 0, .bool false]) (t := 25) ?hr ?_; (case hd => rfl); (case hg => rfl); (case hr => first | (go_simp; done) | (go_simp; rfl))
    intro gx hg wk hbox hb
    have f_ := Aside0.mk (HF.out.made HS.out.below.size hg hbox hb); have n_ := Aside0.mk (HS.out.next hb); clear HS HF; have HS := n_; have HF := f_; clear n_ f_ hg hbox hb
    refine hK.out _ _ ⟨(FX.oct HF m2_).1.1, (FX.oct HF m2_).1.2.1, (FX.oct HF m2_).1.2.2, (FX.oct HF m3_).1⟩ (fun hHeld => ?_)
    clear hK K
    refine nO_ 5 ?_
    refine two_ (i := 3) (j := 5) (Ni := some 11) (Nj := some 6) (mB 8 31) (mB 8 55) rfl rfl rfl rfl (two_of HT_.out (by kernel_rfl)) (by decide) (by decide) (fun K hK => ?_) (fun K hK => ?_)
    ·
     refine goes_ Try.func23 (by kernel_rfl) rfl #[Y.val] (by rfl) rfl rfl vL ?_
     with_reducible refine (rclose_own (HY.out.next HS.out.below) HS.out.below GF.out.2.1).mono ?_
     rintro e wk ⟨yv, rfl, hy, ho, hb⟩; refine ⟨_, rfl, ?_⟩
     have n_ := Aside0.mk (HS.out.call hb ho); have f_ := Aside0.mk (HF.out.next hb); clear HS HF; have HS := n_; have HF := f_; clear n_ f_ ho hb
     refine hK.out _ _ ⟨(FX.oct HF m2_).1.1, (FX.oct HF m2_).1.2.1, (FX.oct HF m2_).1.2.2, (FX.oct HF m3_).1⟩ (fun hHeld => ?_)
     clear hK K
     refine nO_ 11 ?_
     refine one_ (i := 5) (N := some 6) (mB 8 63) rfl rfl (one_of HT_.out (by kernel_rfl)) (by decide) (fun K hK => ?_)
     refine box_step ?hg (N := 6) ?hd (cs := #[.slice none 0 0, .slice none 0 0, .bool false]) (t := 25) ?hr ?_; (case hd => rfl); (case hg => rfl); (case hr => first | (go_simp; done) | (go_simp; rfl))
     intro gy hg wk hbox hb
     have f_ := Aside0.mk (HF.out.made HS.out.below.size hg hbox hb); have n_ := Aside0.mk (HS.out.next hb); clear HS HF; have HS := n_; have HF := f_; clear n_ f_ hg hbox hb
     refine hK.out _ _ ⟨(FX.oct HF m3_).1.1, (FX.oct HF m3_).1.2.1, (FX.oct HF m3_).1.2.2, (FX.oct HF m4_).1⟩ (fun hHeld => ?_)
     clear hK K
     refine nO_ 6 ?_
     exact nP_ (hJ (xv, yv, gx, gy) _ ⟨hx, hy, HS.out, HF.out.swap⟩)
    ·
     refine box_step ?hg (N := 6) ?hd (cs := #[.slice none 0 0, .slice none 0 0, .bool false]) (t := 25) ?hr ?_; (case hd => rfl); (case hg => rfl); (case hr => first | (go_simp; done) | (go_simp; rfl))
     intro gy hg wk hbox hb
     have f_ := Aside0.mk (HF.out.made HS.out.below.size hg hbox hb); have n_ := Aside0.mk (HS.out.next hb); clear HS HF; have HS := n_; have HF := f_; clear n_ f_ hg hbox hb
     refine hK.out _ _ ⟨(FX.oct HF m3_).1.1, (FX.oct HF m3_).1.2.1, (FX.oct HF m3_).1.2.2, (FX.oct HF m4_).1⟩ (fun hHeld => ?_)
     clear hK K
     refine nO_ 6 ?_
     refine one_ (i := 3) (N := some 11) (mB 8 63) rfl rfl (one_of HT_.out (by kernel_rfl)) (by decide) (fun K hK => ?_)
     refine goes_ Try.func23 (by kernel_rfl) rfl #[Y.val] (by rfl) rfl rfl vL ?_
     with_reducible refine (rclose_own (HY.out.next HS.out.below) HS.out.below GF.out.2.1).mono ?_
     rintro e wk ⟨yv, rfl, hy, ho, hb⟩; refine ⟨_, rfl, ?_⟩
     have n_ := Aside0.mk (HS.out.call hb ho); have f_ := Aside0.mk (HF.out.next hb); clear HS HF; have HS := n_; have HF := f_; clear n_ f_ ho hb
     refine hK.out _ _ ⟨(FX.oct HF m3_).1.1, (FX.oct HF m3_).1.2.1, (FX.oct HF m3_).1.2.2, (FX.oct HF m4_).1⟩ (fun hHeld => ?_)
     clear hK K
     refine nO_ 11 ?_
     exact nP_ (hJ (xv, yv, gx, gy) _ ⟨hx, hy, HS.out, HF.out.swap⟩)
   ·
    refine box_step ?hg (N := 6) ?hd (cs := #[.slice none 0 0, .slice none 0 0, .bool false]) (t := 25) ?hr ?_; (case hd => rfl); (case hg => rfl); (case hr => first | (go_simp; done) | (go_simp; rfl))
    intro gy hg wk hbox hb
    have f_ := Aside0.mk (HF.out.made HS.out.below.size hg hbox hb); have n_ := Aside0.mk (HS.out.next hb); clear HS HF; have HS := n_; have HF := f_; clear n_ f_ hg hbox hb
    refine hK.out _ _ ⟨(FX.oct HF m2_).1.1, (FX.oct HF m2_).1.2.1, (FX.oct HF m2_).1.2.2, (FX.oct HF m3_).1⟩ (fun hHeld => ?_)
    clear hK K
    refine nO_ 6 ?_
    refine two_ (i := 3) (j := 4) (Ni := some 11) (Nj := some 5) (mB 8 47) (mB 8 55) rfl rfl rfl rfl (two_of HT_.out (by kernel_rfl)) (by decide) (by decide) (fun K hK => ?_) (fun K hK => ?_)
    ·
     refine goes_ Try.func23 (by kernel_rfl) rfl #[Y.val] (by rfl) rfl rfl vL ?_
     with_reducible refine (rclose_own (HY.out.next HS.out.below) HS.out.below GF.out.2.1).mono ?_
     rintro e wk ⟨yv, rfl, hy, ho, hb⟩; refine ⟨_, rfl, ?_⟩
     have n_ := Aside0.mk (HS.out.call hb ho); have f_ := Aside0.mk (HF.out.next hb); clear HS HF; have HS := n_; have HF := f_; clear n_ f_ ho hb
     refine hK.out _ _ ⟨(FX.oct HF m2_).1.1, (FX.oct HF m2_).1.2.1, (FX.oct HF m2_).1.2.2, (FX.oct HF m3_).1⟩ (fun hHeld => ?_)
     clear hK K
     refine nO_ 11 ?_
     refine one_ (i := 4) (N := some 5) (mB 8 63) rfl rfl (one_of HT_.out (by kernel_rfl)) (by decide) (fun K hK => ?_)
     refine box_step ?hg (N := 5) ?hd (cs := #[.slice none 0 0, .slice none 0 0, .bool false]) (t := 25) ?hr ?_; (case hd => rfl); (case hg => rfl); (case hr => first | (go_simp; done) | (go_simp; rfl))
     intro gx hg wk hbox hb
     have f_ := Aside0.mk (HF.out.made HS.out.below.size hg hbox hb); have n_ := Aside0.mk (HS.out.next hb); clear HS HF; have HS := n_; have HF := f_; clear n_ f_ hg hbox hb
     refine hK.out _ _ ⟨(FX.oct HF m3_).1.1, (FX.oct HF m3_).1.2.1, (FX.oct HF m3_).1.2.2, (FX.oct HF m4_).1⟩ (fun hHeld => ?_)
     clear hK K
     refine nO_ 5 ?_
     exact nP_ (hJ (xv, yv, gx, gy) _ ⟨hx, hy, HS.out, HF.out⟩)
    ·
     refine box_step ?hg (N := 5) ?hd (cs := #[.slice none 0 0, .slice none 0 0, .bool false]) (t := 25) ?hr ?_; (case hd => rfl); (case hg => rfl); (case hr => first | (go_simp; done) | (go_simp; rfl))
     intro gx hg wk hbox hb
     have f_ := Aside0.mk (HF.out.made HS.out.below.size hg hbox hb); have n_ := Aside0.mk (HS.out.next hb); clear HS HF; have HS := n_; have HF := f_; clear n_ f_ hg hbox hb
     refine hK.out _ _ ⟨(FX.oct HF m3_).1.1, (FX.oct HF m3_).1.2.1, (FX.oct HF m3_).1.2.2, (FX.oct HF m4_).1⟩ (fun hHeld => ?_)
     clear hK K
     refine nO_ 5 ?_
     refine one_ (i := 3) (N := some 11) (mB 8 63) rfl rfl (one_of HT_.out (by kernel_rfl)) (by decide) (fun K hK => ?_)
     refine goes_ Try.func23 (by kernel_rfl) rfl #[Y.val] (by rfl) rfl rfl vL ?_
     with_reducible refine (rclose_own (HY.out.next HS.out.below) HS.out.below GF.out.2.1).mono ?_
     rintro e wk ⟨yv, rfl, hy, ho, hb⟩; refine ⟨_, rfl, ?_⟩
     have n_ := Aside0.mk (HS.out.call hb ho); have f_ := Aside0.mk (HF.out.next hb); clear HS HF; have HS := n_; have HF := f_; clear n_ f_ ho hb
     refine hK.out _ _ ⟨(FX.oct HF m3_).1.1, (FX.oct HF m3_).1.2.1, (FX.oct HF m3_).1.2.2, (FX.oct HF m4_).1⟩ (fun hHeld => ?_)
     clear hK K
     refine nO_ 11 ?_
     exact nP_ (hJ (xv, yv, gx, gy) _ ⟨hx, hy, HS.out, HF.out⟩)
  ·
   refine box_step ?hg (N := 5) ?hd (cs := #[.slice none 0 0, .slice none 0 0, .bool false]) (t := 25) ?hr ?_; (case hd => rfl); (case hg => rfl); (case hr => first | (go_simp; done) | (go_simp; rfl))
   intro gx hg wk hbox hb
   have f_ := Aside0.mk (HF.out.made HS.out.below.size hg hbox hb); have n_ := Aside0.mk (HS.out.next hb); clear HS HF; have HS := n_; have HF := f_; clear n_ f_ hg hbox hb
   refine hK.out _ _ ⟨(FX.oct HF m2_).1.1, (FX.oct HF m2_).1.2.1, (FX.oct HF m2_).1.2.2, (FX.oct HF m3_).1⟩ (fun hHeld => ?_)
   clear hK K
   refine nO_ 5 ?_
   refine two_ (i := 1) (j := 5) (Ni := some 9) (Nj := some 6) (mB 8 23) (mB 8 53) rfl rfl rfl rfl (two_of HT_.out (by kernel_rfl)) (by decide) (by decide) (fun K hK => ?_) (fun K hK => ?_)
   ·
    refine goes_ Try.func23 (by kernel_rfl) rfl #[X.val] (by rfl) rfl rfl vL ?_
    with_reducible refine (rclose_own (HX.out.next HS.out.below) HS.out.below GF.out.1.1).mono ?_
    rintro e wk ⟨xv, rfl, hx, ho, hb⟩; refine ⟨_, rfl, ?_⟩
    have n_ := Aside0.mk (HS.out.call hb ho); have f_ := Aside0.mk (HF.out.next hb); clear HS HF; have HS := n_; have HF := f_; clear n_ f_ ho hb
    refine hK.out _ _ ⟨(FX.oct HF m2_).1.1, (FX.oct HF m2_).1.2.1, (FX.oct HF m2_).1.2.2, (FX.oct HF m3_).1⟩ (fun hHeld => ?_)
    clear hK K
    refine nO_ 9 ?_
    refine two_ (i := 3) (j := 5) (Ni := some 11) (Nj := some 6) (mB 8 31) (mB 8 55) rfl rfl rfl rfl (two_of HT_.out (by kernel_rfl)) (by decide) (by decide) (fun K hK => ?_) (fun K hK => ?_)
    ·
     refine goes_ Try.func23 (by kernel_rfl) rfl #[Y.val] (by rfl) rfl rfl vL ?_
     with_reducible refine (rclose_own (HY.out.next HS.out.below) HS.out.below GF.out.2.1).mono ?_
     rintro e wk ⟨yv, rfl, hy, ho, hb⟩; refine ⟨_, rfl, ?_⟩
     have n_ := Aside0.mk (HS.out.call hb ho); have f_ := Aside0.mk (HF.out.next hb); clear HS HF; have HS := n_; have HF := f_; clear n_ f_ ho hb
     refine hK.out _ _ ⟨(FX.oct HF m2_).1.1, (FX.oct HF m2_).1.2.1, (FX.oct HF m2_).1.2.2, (FX.oct HF m3_).1⟩ (fun hHeld => ?_)
     clear hK K
     refine nO_ 11 ?_
     refine one_ (i := 5) (N := some 6) (mB 8 63) rfl rfl (one_of HT_.out (by kernel_rfl)) (by decide) (fun K hK => ?_)
     refine box_step ?hg (N := 6) ?hd (cs := #[.slice none 0 0, .slice none 0 0, .bool false]) (t := 25) ?hr ?_; (case hd => rfl); (case hg => rfl); (case hr => first | (go_simp; done) | (go_simp; rfl))
     intro gy hg wk hbox hb
     have f_ := Aside0.mk (HF.out.made HS.out.below.size hg hbox hb); have n_ := Aside0.mk (HS.out.next hb); clear HS HF; have HS := n_; have HF := f_; clear n_ f_ hg hbox hb
     refine hK.out _ _ ⟨(FX.oct HF m3_).1.1, (FX.oct HF m3_).1.2.1, (FX.oct HF m3_).1.2.2, (FX.oct HF m4_).1⟩ (fun hHeld => ?_)
     clear hK K
     refine nO_ 6 ?_
     exact nP_ (hJ (xv, yv, gx, gy) _ ⟨hx, hy, HS.out, HF.out.swap⟩)
    ·
     refine box_step ?hg (N := 6) ?hd (cs := #[.slice none 0 0, .slice none 0 0, .bool false]) (t := 25) ?hr ?_; (case hd => rfl); (case hg => rfl); (case hr => first | (go_simp; done) | (go_simp; rfl))
     intro gy hg wk hbox hb
     have f_ := Aside0.mk (HF.out.made HS.out.below.size hg hbox hb); have n_ := Aside0.mk (HS.out.next hb); clear HS HF; have HS := n_; have HF := f_; clear n_ f_ hg hbox hb
     refine hK.out _ _ ⟨(FX.oct HF m3_).1.1, (FX.oct HF m3_).1.2.1, (FX.oct HF m3_).1.2.2, (FX.oct HF m4_).1⟩ (fun hHeld => ?_)
     clear hK K
     refine nO_ 6 ?_
     refine one_ (i := 3) (N := some 11) (mB 8 63) rfl rfl (one_of HT_.out (by kernel_rfl)) (by decide) (fun K hK => ?_)
     refine goes_ Try.func23 (by kernel_rfl) rfl #[Y.val] (by rfl) rfl rfl vL ?_
     with_reducible refine (rclose_own (HY.out.next HS.out.below) HS.out.below GF.out.2.1).mono ?_
     rintro e wk ⟨yv, rfl, hy, ho, hb⟩; refine ⟨_, rfl, ?_⟩
     have n_ := Aside0.mk (HS.out.call hb ho); have f_ := Aside0.mk (HF.out.next hb); clear HS HF; have HS := n_; have HF := f_; clear n_ f_ ho hb
     refine hK.out _ _ ⟨(FX.oct HF m3_).1.1, (FX.oct HF m3_).1.2.1, (FX.oct HF m3_).1.2.2, (FX.oct HF m4_).1⟩ (fun hHeld => ?_)
     clear hK K
     refine nO_ 11 ?_
     exact nP_ (hJ (xv, yv, gx, gy) _ ⟨hx, hy, HS.out, HF.out.swap⟩)
   ·
    refine box_step ?hg (N := 6) ?hd (cs := #[.slice none 0 0, .slice none 0 0, .bool false]) (t := 25) ?hr ?_; (case hd => rfl); (case hg => rfl); (case hr => first | (go_simp; done) | (go_simp; rfl))
    intro gy hg wk hbox hb
    have f_ := Aside0.mk (HF.out.made HS.out.below.size hg hbox hb); have n_ := Aside0.mk (HS.out.next hb); clear HS HF; have HS := n_; have HF := f_; clear n_ f_ hg hbox hb
    refine hK.out _ _ ⟨(FX.oct HF m3_).1.1, (FX.oct HF m3_).1.2.1, (FX.oct HF m3_).1.2.2, (FX.oct HF m4_).1⟩ (fun hHeld => ?_)
    clear hK K
    refine nO_ 6 ?_
    refine one_ (i := 1) (N := some 9) (mB 8 55) rfl rfl (one_of HT_.out (by kernel_rfl)) (by decide) (fun K hK => ?_)
    refine goes_ Try.func23 (by kernel_rfl) rfl #[X.val] (by rfl) rfl rfl vL ?_
    with_reducible refine (rclose_own (HX.out.next HS.out.below) HS.out.below GF.out.1.1).mono ?_
    rintro e wk ⟨xv, rfl, hx, ho, hb⟩; refine ⟨_, rfl, ?_⟩
    have n_ := Aside0.mk (HS.out.call hb ho); have f_ := Aside0.mk (HF.out.next hb); clear HS HF; have HS := n_; have HF := f_; clear n_ f_ ho hb
    refine hK.out _ _ ⟨(FX.oct HF m3_).1.1, (FX.oct HF m3_).1.2.1, (FX.oct HF m3_).1.2.2, (FX.oct HF m4_).1⟩ (fun hHeld => ?_)
    clear hK K
    refine nO_ 9 ?_
    refine one_ (i := 3) (N := some 11) (mB 8 63) rfl rfl (one_of HT_.out (by kernel_rfl)) (by decide) (fun K hK => ?_)
    refine goes_ Try.func23 (by kernel_rfl) rfl #[Y.val] (by rfl) rfl rfl vL ?_
    with_reducible refine (rclose_own (HY.out.next HS.out.below) HS.out.below GF.out.2.1).mono ?_
    rintro e wk ⟨yv, rfl, hy, ho, hb⟩; refine ⟨_, rfl, ?_⟩
    have n_ := Aside0.mk (HS.out.call hb ho); have f_ := Aside0.mk (HF.out.next hb); clear HS HF; have HS := n_; have HF := f_; clear n_ f_ ho hb
    refine hK.out _ _ ⟨(FX.oct HF m3_).1.1, (FX.oct HF m3_).1.2.1, (FX.oct HF m3_).1.2.2, (FX.oct HF m4_).1⟩ (fun hHeld => ?_)
    clear hK K
    refine nO_ 11 ?_
    exact nP_ (hJ (xv, yv, gx, gy) _ ⟨hx, hy, HS.out, HF.out.swap⟩)
  ·
   refine box_step ?hg (N := 6) ?hd (cs := #[.slice none 0 0, .slice none 0 0, .bool false]) (t := 25) ?hr ?_; (case hd => rfl); (case hg => rfl); (case hr => first | (go_simp; done) | (go_simp; rfl))
   intro gy hg wk hbox hb
   have f_ := Aside0.mk (HF.out.made HS.out.below.size hg hbox hb); have n_ := Aside0.mk (HS.out.next hb); clear HS HF; have HS := n_; have HF := f_; clear n_ f_ hg hbox hb
   refine hK.out _ _ ⟨(FX.oct HF m2_).1.1, (FX.oct HF m2_).1.2.1, (FX.oct HF m2_).1.2.2, (FX.oct HF m3_).1⟩ (fun hHeld => ?_)
   clear hK K
   refine nO_ 6 ?_
   refine two_ (i := 1) (j := 4) (Ni := some 9) (Nj := some 5) (mB 8 39) (mB 8 53) rfl rfl rfl rfl (two_of HT_.out (by kernel_rfl)) (by decide) (by decide) (fun K hK => ?_) (fun K hK => ?_)
   ·
    refine goes_ Try.func23 (by kernel_rfl) rfl #[X.val] (by rfl) rfl rfl vL ?_
    with_reducible refine (rclose_own (HX.out.next HS.out.below) HS.out.below GF.out.1.1).mono ?_
    rintro e wk ⟨xv, rfl, hx, ho, hb⟩; refine ⟨_, rfl, ?_⟩
    have n_ := Aside0.mk (HS.out.call hb ho); have f_ := Aside0.mk (HF.out.next hb); clear HS HF; have HS := n_; have HF := f_; clear n_ f_ ho hb
    refine hK.out _ _ ⟨(FX.oct HF m2_).1.1, (FX.oct HF m2_).1.2.1, (FX.oct HF m2_).1.2.2, (FX.oct HF m3_).1⟩ (fun hHeld => ?_)
    clear hK K
    refine nO_ 9 ?_
    refine two_ (i := 3) (j := 4) (Ni := some 11) (Nj := some 5) (mB 8 47) (mB 8 55) rfl rfl rfl rfl (two_of HT_.out (by kernel_rfl)) (by decide) (by decide) (fun K hK => ?_) (fun K hK => ?_)
    ·
     refine goes_ Try.func23 (by kernel_rfl) rfl #[Y.val] (by rfl) rfl rfl vL ?_
     with_reducible refine (rclose_own (HY.out.next HS.out.below) HS.out.below GF.out.2.1).mono ?_
     rintro e wk ⟨yv, rfl, hy, ho, hb⟩; refine ⟨_, rfl, ?_⟩
     have n_ := Aside0.mk (HS.out.call hb ho); have f_ := Aside0.mk (HF.out.next hb); clear HS HF; have HS := n_; have HF := f_; clear n_ f_ ho hb
     refine hK.out _ _ ⟨(FX.oct HF m2_).1.1, (FX.oct HF m2_).1.2.1, (FX.oct HF m2_).1.2.2, (FX.oct HF m3_).1⟩ (fun hHeld => ?_)
     clear hK K
     refine nO_ 11 ?_
     refine one_ (i := 4) (N := some 5) (mB 8 63) rfl rfl (one_of HT_.out (by kernel_rfl)) (by decide) (fun K hK => ?_)
     refine box_step ?hg (N := 5) ?hd (cs := #[.slice none 0 0, .slice none 0 0, .bool false]) (t := 25) ?hr ?_; (case hd => rfl); (case hg => rfl); (case hr => first | (go_simp; done) | (go_simp; rfl))
     intro gx hg wk hbox hb
     have f_ := Aside0.mk (HF.out.made HS.out.below.size hg hbox hb); have n_ := Aside0.mk (HS.out.next hb); clear HS HF; have HS := n_; have HF := f_; clear n_ f_ hg hbox hb
     refine hK.out _ _ ⟨(FX.oct HF m3_).1.1, (FX.oct HF m3_).1.2.1, (FX.oct HF m3_).1.2.2, (FX.oct HF m4_).1⟩ (fun hHeld => ?_)
     clear hK K
     refine nO_ 5 ?_
     exact nP_ (hJ (xv, yv, gx, gy) _ ⟨hx, hy, HS.out, HF.out⟩)
    ·
     refine box_step ?hg (N := 5) ?hd (cs := #[.slice none 0 0, .slice none 0 0, .bool false]) (t := 25) ?hr ?_; (case hd => rfl); (case hg => rfl); (case hr => first | (go_simp; done) | (go_simp; rfl))
     intro gx hg wk hbox hb
     have f_ := Aside0.mk (HF.out.made HS.out.below.size hg hbox hb); have n_ := Aside0.mk (HS.out.next hb); clear HS HF; have HS := n_; have HF := f_; clear n_ f_ hg hbox hb
     refine hK.out _ _ ⟨(FX.oct HF m3_).1.1, (FX.oct HF m3_).1.2.1, (FX.oct HF m3_).1.2.2, (FX.oct HF m4_).1⟩ (fun hHeld => ?_)
     clear hK K
     refine nO_ 5 ?_
     refine one_ (i := 3) (N := some 11) (mB 8 63) rfl rfl (one_of HT_.out (by kernel_rfl)) (by decide) (fun K hK => ?_)
     refine goes_ Try.func23 (by kernel_rfl) rfl #[Y.val] (by rfl) rfl rfl vL ?_
     with_reducible refine (rclose_own (HY.out.next HS.out.below) HS.out.below GF.out.2.1).mono ?_
     rintro e wk ⟨yv, rfl, hy, ho, hb⟩; refine ⟨_, rfl, ?_⟩
     have n_ := Aside0.mk (HS.out.call hb ho); have f_ := Aside0.mk (HF.out.next hb); clear HS HF; have HS := n_; have HF := f_; clear n_ f_ ho hb
     refine hK.out _ _ ⟨(FX.oct HF m3_).1.1, (FX.oct HF m3_).1.2.1, (FX.oct HF m3_).1.2.2, (FX.oct HF m4_).1⟩ (fun hHeld => ?_)
     clear hK K
     refine nO_ 11 ?_
     exact nP_ (hJ (xv, yv, gx, gy) _ ⟨hx, hy, HS.out, HF.out⟩)
   ·
    refine box_step ?hg (N := 5) ?hd (cs := #[.slice none 0 0, .slice none 0 0, .bool false]) (t := 25) ?hr ?_; (case hd => rfl); (case hg => rfl); (case hr => first | (go_simp; done) | (go_simp; rfl))
    intro gx hg wk hbox hb
    have f_ := Aside0.mk (HF.out.made HS.out.below.size hg hbox hb); have n_ := Aside0.mk (HS.out.next hb); clear HS HF; have HS := n_; have HF := f_; clear n_ f_ hg hbox hb
    refine hK.out _ _ ⟨(FX.oct HF m3_).1.1, (FX.oct HF m3_).1.2.1, (FX.oct HF m3_).1.2.2, (FX.oct HF m4_).1⟩ (fun hHeld => ?_)
    clear hK K
    refine nO_ 5 ?_
    refine one_ (i := 1) (N := some 9) (mB 8 55) rfl rfl (one_of HT_.out (by kernel_rfl)) (by decide) (fun K hK => ?_)
    refine goes_ Try.func23 (by kernel_rfl) rfl #[X.val] (by rfl) rfl rfl vL ?_
    with_reducible refine (rclose_own (HX.out.next HS.out.below) HS.out.below GF.out.1.1).mono ?_
    rintro e wk ⟨xv, rfl, hx, ho, hb⟩; refine ⟨_, rfl, ?_⟩
    have n_ := Aside0.mk (HS.out.call hb ho); have f_ := Aside0.mk (HF.out.next hb); clear HS HF; have HS := n_; have HF := f_; clear n_ f_ ho hb
    refine hK.out _ _ ⟨(FX.oct HF m3_).1.1, (FX.oct HF m3_).1.2.1, (FX.oct HF m3_).1.2.2, (FX.oct HF m4_).1⟩ (fun hHeld => ?_)
    clear hK K
    refine nO_ 9 ?_
    refine one_ (i := 3) (N := some 11) (mB 8 63) rfl rfl (one_of HT_.out (by kernel_rfl)) (by decide) (fun K hK => ?_)
    refine goes_ Try.func23 (by kernel_rfl) rfl #[Y.val] (by rfl) rfl rfl vL ?_
    with_reducible refine (rclose_own (HY.out.next HS.out.below) HS.out.below GF.out.2.1).mono ?_
    rintro e wk ⟨yv, rfl, hy, ho, hb⟩; refine ⟨_, rfl, ?_⟩
    have n_ := Aside0.mk (HS.out.call hb ho); have f_ := Aside0.mk (HF.out.next hb); clear HS HF; have HS := n_; have HF := f_; clear n_ f_ ho hb
    refine hK.out _ _ ⟨(FX.oct HF m3_).1.1, (FX.oct HF m3_).1.2.1, (FX.oct HF m3_).1.2.2, (FX.oct HF m4_).1⟩ (fun hHeld => ?_)
    clear hK K
    refine nO_ 11 ?_
    exact nP_ (hJ (xv, yv, gx, gy) _ ⟨hx, hy, HS.out, HF.out⟩)
 rintro ⟨xv, yv, gx, gy⟩ W4 ⟨hx, hy, HS4, HF4⟩
 clear HS HF hHeld
 have HS := Aside0.mk HS4; have HF := Aside0.mk HF4
 have kne := FX.nes HF4; have kne' := fun e => kne (Eq.symm e)
 clear HS4 HF4
 dsimp only at HS HF hx hy kne kne'
 obtain ⟨⟨p0, p1, p2⟩, p3, p4, p5⟩ := FX.oct HF m0_; obtain ⟨⟨q0, q1, q2⟩, q3, q4, q5⟩ := FX.oct HF m1_
 refine nS_ ?_
 refine last_ (i := 6) (N := none) (mB 8 127) rfl rfl (one_of HT_.out (by kernel_rfl)) (by decide) (fun K hK => ?_)
 refine skip_ (w1 := ?_) (by rfl) rfl ?_ ?_
 rotate_left
 ·
  go_simp
  rfl
 refine hK.out _ _ ?_
 clear hK K
 refine last_ (i := 7) (N := none) (mB 8 255) rfl rfl (one_of HT_.out (by kernel_rfl)) (by decide) (fun K hK => ?_)
 refine skip_ (w1 := ?_) (by rfl) rfl ?_ ?_
 rotate_left
 ·
  go_simp
  rfl
 refine hK.out _ _ ?_
 clear hK K
 refine done_ (done_of HT_.out (by kernel_rfl)) ?_
 clear p0 p1 p2 p3 p4 p5 q0 q1 q2 q3 q4 q5 kne kne' HT_ HW_
 unfold OnlyN
 have f1_ := HF.out.put3 (a' := .slice xv.P xv.v.length xv.p) (b' := .slice xv.Q xv.m.length xv.q) (c' := .bool xv.e); have s1_ := OS.box3 (a' := .slice xv.P xv.v.length xv.p) (b' := .slice xv.Q xv.m.length xv.q) (c' := .bool xv.e) HS.out (HF.out.all _ m0_).1 (HF.out.all _ m0_).2 (by decide) (by decide); have f2_ := f1_.swap; have f3_ := Aside0.mk (f2_.put3 (a' := .slice yv.P yv.v.length yv.p) (b' := .slice yv.Q yv.m.length yv.q) (c' := .bool yv.e)); have s3_ := Aside0.mk (OS.box3 (a' := .slice yv.P yv.v.length yv.p) (b' := .slice yv.Q yv.m.length yv.q) (c' := .bool yv.e) s1_ (f2_.all _ m0_).1 (f2_.all _ m0_).2 (by decide) (by decide)); clear HS HF f1_ f2_ s1_; have HS := s3_; have HF := f3_; clear s3_ f3_
 generalize hW5 : ((((((W4.setCell ⟨gx, 0, none⟩ (.slice xv.P xv.v.length xv.p)).setCell ⟨gx, 1, none⟩ (.slice xv.Q xv.m.length xv.q)).setCell ⟨gx, 2, none⟩ (.bool xv.e)).setCell ⟨gy, 0, none⟩ (.slice yv.P yv.v.length yv.p)).setCell ⟨gy, 1, none⟩ (.slice yv.Q yv.m.length yv.q)).setCell ⟨gy, 2, none⟩ (.bool yv.e)) = W5 at HS HF ⊢; clear hW5
 obtain ⟨xP, xp, xQ, xq, xV, xM, xE⟩ := xv
 obtain ⟨yP, yp, yQ, yq, yV, yM, yE⟩ := yv
 have gx1 := hx
 have gy1 := hy
 clear hx hy
 have hans := HAN.out
 have HC : Aside0 ((xE = true → (yV, yM, yE) = ans) ∧ (xE = false → yE = true → (xV, xM, xE) = ans) ∧ (xE = false → yE = false → xM.length = yM.length ∧ xM.length < 4611686018427387904 ∧ ∀ xs : List Int, xs.length = xM.length → (∀ k : Nat, k < xM.length → rd xs (k : Int) = mx (rd xM (k : Int)) (rd yM (k : Int))) → (xV, xs, xE) = ans)) := ⟨by
  obtain ⟨fx, e1⟩ := GF.out.1
  obtain ⟨fy, e2⟩ := GF.out.2
  rw [e1] at fx gx1
  rw [e2] at fy gy1
  rw [← hans]
  unfold joinF
  obtain ⟨A, a⟩ := mean_ex fx
  obtain ⟨B, b⟩ := mean_ex fy
  cases a with
  | none q _ =>
   rw [q] at gx1
   rw [q]
   obtain ⟨_, rfl, rfl⟩ := Prod.mk.inj gx1 |>.imp id Prod.mk.inj
   exact ⟨fun _ => by rw [if_pos rfl]; exact gy1, fun h => (by cases h), fun h => (by cases h)⟩
  | some q _ _ s1 =>
   rw [q] at gx1
   obtain ⟨hv1, rfl, rfl⟩ := Prod.mk.inj gx1 |>.imp id Prod.mk.inj
   have hv2 : xV = vars := hv1
   clear hv1
   subst hv2
   cases b with
   | none q' _ =>
    rw [q'] at gy1
    obtain ⟨_, rfl, rfl⟩ := Prod.mk.inj gy1 |>.imp id Prod.mk.inj
    rw [q, q', if_neg (by simp), if_pos rfl]
    exact ⟨fun h => (by cases h), fun _ _ => rfl, fun _ h => (by cases h)⟩
   | some q' _ _ s2 =>
    rw [q'] at gy1
    obtain ⟨_, rfl, rfl⟩ := Prod.mk.inj gy1 |>.imp id Prod.mk.inj
    rw [q, q', if_neg (by simp), if_neg (by simp)]
    refine ⟨fun h => (by cases h), fun _ h => (by cases h), fun _ _ => ⟨by rw [lst_length, lst_length], by rw [lst_length]; have := fx.1.1; exact Nat.lt_of_le_of_lt (Nat.mul_le_mul (show 2 * xV.length ≤ 16 by omega) (show 2 * xV.length ≤ 16 by omega)) (by decide), fun xs hl h => ?_⟩⟩
    rw [join_list fx.1 s1 s2 hl h]⟩
 clear gx1 gy1 hans HAN GF HX HY
 obtain ⟨⟨ky0, ky1, ky2⟩, fy0, fy1, fy2⟩ := FX.oct HF m0_; obtain ⟨⟨kx0, kx1, kx2⟩, fx0, fx1, fx2⟩ := FX.oct HF m1_; obtain ⟨⟨kr0, kr1, kr2⟩, fr0, fr1, fr2⟩ := FX.oct HF m2_; obtain ⟨⟨ka0, ka1, ka2⟩, fa0, fa1, fa2⟩ := FX.oct HF m3_; obtain ⟨⟨kb0, kb1, kb2⟩, fb0, fb1, fb2⟩ := FX.oct HF m4_
 dsimp only at kx0 kx1 kx2 ky0 ky1 ky2 kr0 kr1 kr2 ⊢
 cases xE with
 | true =>
  have ha := HC.out.1 rfl
  subst ha
  go_wp2
  refine bodyPost_ret (results_cell_row rfl _ _ gr 25 #[.slice yP yV.length yp, .slice yQ yM.length yq, .bool yE] (0, 0) _ rfl (store3 (HF.out.all _ m2_).1 _ _ _).1 Try.underlying25 rfl (by kernel_rfl)) rfl ?_
  exact ⟨⟨yP, yp, yQ, yq, yV, yM, yE⟩, rfl, ⟨rfl, rfl, rfl⟩, (OS.box3 HS.out (HF.out.all _ m2_).1 (HF.out.all _ m2_).2 (by decide) (by decide)).own _ m0_, (OS.box3 HS.out (HF.out.all _ m2_).1 (HF.out.all _ m2_).2 (by decide) (by decide)).below⟩
 | false =>
  cases yE with
  | true =>
   have ha := HC.out.2.1 rfl rfl
   subst ha
   go_wp2
   refine bodyPost_ret (results_cell_row rfl _ _ gr 25 #[.slice xP xV.length xp, .slice xQ xM.length xq, .bool false] (0, 0) _ rfl (store3 (HF.out.all _ m2_).1 _ _ _).1 Try.underlying25 rfl (by kernel_rfl)) rfl ?_
   exact ⟨⟨xP, xp, xQ, xq, xV, xM, false⟩, rfl, ⟨rfl, rfl, rfl⟩, (OS.box3 HS.out (HF.out.all _ m2_).1 (HF.out.all _ m2_).2 (by decide) (by decide)).own _ m1_, (OS.box3 HS.out (HF.out.all _ m2_).1 (HF.out.all _ m2_).2 (by decide) (by decide)).below⟩
  | false =>
   have HL := Aside0.mk (HC.out.2.2 rfl rfl)
   clear HC
   go_wp2
   have s_ := Aside0.mk (OS.swap (OS.to HS)); have f_ := Aside0.mk (FX.to HF); clear HS HF; have HS := s_; have HF := f_; clear s_ f_
   go_loopg [21] xM.length (fun kq v21 w' => ∃ (i : Int) (xs : List Int), v21 = .int .i64 i ∧ Aside0 (0 ≤ i ∧ i + (kq : Int) = (xM.length : Int)) ∧ Aside0 (xs.length = xM.length) ∧ Aside0 (∀ k : Nat, k < xM.length → rd xs (k : Int) = if (k : Int) < i then mx (rd xM (k : Int)) (rd yM (k : Int)) else rd xM (k : Int)) ∧ Aside0 (OS w [⟨xP, xp, xQ, xq, xV, xs, false⟩, ⟨yP, yp, yQ, yq, yV, yM, false⟩] w') ∧ Aside0 (FX w [(gy, OV.cells ⟨yP, yp, yQ, yq, yV, yM, false⟩), (gx, OV.cells ⟨xP, xp, xQ, xq, xV, xM, false⟩), (gr, .cells #[.slice none 0 0, .slice none 0 0, .bool false] 25 (0, 0))] w'))
   case atStart => exact ⟨0, xM, by rfl, ⟨by omega⟩, ⟨rfl⟩, ⟨fun k h => by rw [if_neg (by omega)]⟩, ⟨OS.to HS⟩, ⟨FX.sub (FX.to HF) (List.Sublist.cons_cons _ (List.Sublist.cons_cons _ (List.Sublist.cons_cons _ (List.nil_sublist _))))⟩⟩
   case round =>
    clear HS HF kx0 kx1 kx2 fx0 fx1 fx2 ky0 ky1 ky2 fy0 fy1 fy2 ka0 ka1 ka2 fa0 fa1 fa2 kb0 kb1 kb2 fb0 fb1 fb2 kr0 kr1 kr2 fr0 fr1 fr2
    obtain ⟨i, xs, rfl, HI, HN, HJ, HS, HF⟩ := hrel
    obtain ⟨⟨ky0, ky1, ky2⟩, fy0, fy1, fy2⟩ := FX.oct HF m0_; obtain ⟨⟨kx0, kx1, kx2⟩, fx0, fx1, fx2⟩ := FX.oct HF m1_; obtain ⟨⟨kr0, kr1, kr2⟩, fr0, fr1, fr2⟩ := FX.oct HF m2_
    dsimp only at kx0 kx1 kx2 ky0 ky1 ky2 kr0 kr1 kr2
    cases gk with
    | succ k =>
     have q1 : (decide (i < (xM.length : Int))) = true := decide_eq_true (by have := HI.out; omega)
     have p2 : 0 ≤ i := HI.out.1
     have q2 : i < (xM.length : Int) := by have := HI.out; omega
     have q3 : i < (yM.length : Int) := by have := HI.out; have := HL.out.1; omega
     have q4 : i < (xs.length : Int) := by rw [HN.out]; exact q2
     obtain ⟨xb, xc, ex, _, _, _, _⟩ := HS.out.place (show 0 < xs.length by omega)
     cases ex
     obtain ⟨hx0, hfx⟩ := Kd.R_cell 0 (HS.out.own _ m0_).r1 i p2 q4
     obtain ⟨bd, eb, hy0⟩ := Kd.at_int (HS.out.own _ m1_).now i p2 q3
     cases eb
     replace p2 := eq_true p2
     replace q2 := eq_true q2
     replace q3 := eq_true q3
     obtain ⟨ji, hji⟩ : ∃ j : Int, (if rd xs i < rd yM i then rd yM i else rd xs i) = j := ⟨_, rfl⟩
     go_upto_region 9 with fail
     have n_ := Aside0.mk (HS.out.next (below_drew (Below.refl _ _))); have f_ := Aside0.mk (HF.out.next (below_drew (Below.refl _ _))); clear HS HF; have HS := n_; have HF := f_; clear n_ f_
     refine start_ (n := 16) (S := fun w' => w'.cell? ⟨gx, 1, none⟩ = some (.slice (some ⟨xb, 0, none⟩) xM.length xq) ∧ w'.cell? ⟨gy, 1, none⟩ = some (.slice (some bd) yM.length yq) ∧ w'.cell? ⟨xb, i.toNat, none⟩ = some (.int .i64 (rd xs i)) ∧ w'.cell? (bd.add i.toNat) = some (.int .i64 (rd yM i))) (ds := [15]) (mB 16 0) (by kernel_rfl) rfl (by kernel_rfl) ⟨kx1, ky1, hx0, hy0⟩ (fun hHeld => ?_)
     refine with_tabW rjoin_tab9 rjoin_bits9 (fun HT_ HW_ => ?_)
     generalize hWd : World.drew _ = Wd at HS HF hHeld ⊢; clear hWd; clear hx0 hfx hy0; obtain ⟨hx0, hfx⟩ := Kd.R_cell 0 (HS.out.own _ m0_).r1 i HI.out.1 q4
     refine pV_ 0 24 (mB 16 1) HT_ ?_
     refine tV_ 1 25 (mB 16 3) HT_ HW_ hHeld ?_
     refine pV_ 2 26 (mB 16 7) HT_ ?_
     refine pV_ 3 27 (mB 16 15) HT_ ?_
     refine tV_ 4 28 (mB 16 31) HT_ HW_ hHeld ?_
     refine pV_ 5 29 (mB 16 63) HT_ ?_
     refine pV_ 6 30 (mB 16 127) HT_ ?_
     refine tV_ 7 31 (mB 16 255) HT_ HW_ hHeld ?_
     refine pV_ 8 32 (mB 16 511) HT_ ?_
     refine tV_ 9 33 (mB 16 1023) HT_ HW_ hHeld ?_
     refine pV_ 10 34 (mB 16 2047) HT_ ?_
     refine pV_ 11 35 (mB 16 4095) HT_ ?_
     refine tV_ 12 36 (mB 16 8191) HT_ HW_ hHeld ?_
     refine pV_ 13 37 (mB 16 16383) HT_ ?_
     refine pV_ 14 38 (mB 16 32767) HT_ ?_
     refine last_ (i := 15) (N := none) (mB 16 65535) rfl rfl (one_of HT_.out (by kernel_rfl)) (by decide) (fun K hK => ?_)
     refine skip_ (w1 := ?_) (by rfl) rfl ?_ ?_
     rotate_left
     ·
      go_simp
      rfl
     refine hK.out _ _ ?_
     clear hK K
     refine done_ (done_of HT_.out (by kernel_rfl)) ?_
     clear HT_ HW_ hHeld
     try go_wp2
     have hji' : mx (rd xs i) (rd yM i) = ji := hji
     go_roundg k
     case measure => exact Nat.lt_succ_self k
     case rel =>
      have hw : wrap64 (i + 1) = i + 1 := by have := HI.out; have := HL.out.2.1; unfold wrap64; omega
      refine ⟨wrap64 (i + 1), xs.set i.toNat ji, rfl, ⟨by rw [hw]; have := HI.out; omega⟩, ⟨by rw [List.length_set]; exact HN.out⟩, ⟨?_⟩, ⟨?_⟩, ⟨?_⟩⟩
      ·
       rw [hw]
       intro j hj
       have h1 := HJ.out j hj
       by_cases e : (j : Int) = i
       ·
        subst e
        rw [if_pos (by omega)]
        rw [if_neg (by omega)] at h1
        rw [← h1, hji']
        unfold rd
        simp [List.getD_eq_getElem?_getD, HN.out, hj]
       ·
        have : rd (xs.set i.toNat ji) (j : Int) = rd xs (j : Int) := by
         unfold rd
         have : i.toNat ≠ j := by have := HI.out; omega
         simp [List.getD_eq_getElem?_getD, List.getElem?_set, this]
        rw [this, h1]
        by_cases c : (j : Int) < i
        ·
         rw [if_pos c, if_pos (by omega)]
        ·
         rw [if_neg c, if_neg (by omega)]
      ·
       exact HS.out.poke rfl (by have := HI.out; have := HN.out; dsimp only; omega) i ji
      ·
       exact FX.poke HF.out (HS.out.own _ m0_) rfl (fun f hf => by
        simp only [List.mem_cons, List.not_mem_nil, or_false] at hf
        rcases hf with rfl | rfl | rfl <;> exact ⟨_, _, rfl, by decide, by decide⟩) _ _
    | zero =>
     have q1 : (decide (i < (xM.length : Int))) = false := decide_eq_false (by have := HI.out; omega)
     have ha := HL.out.2.2 xs HN.out (fun k hk => by rw [HJ.out k hk, if_pos (by have := HI.out; omega)])
     subst ha
     go_wp2
     refine bodyPost_ret (results_cell_row rfl _ _ gr 25 #[.slice xP xV.length xp, .slice xQ xM.length xq, .bool false] (0, 0) _ rfl (store3 (HF.out.all _ m2_).1 _ _ _).1 Try.underlying25 rfl (by kernel_rfl)) rfl ?_
     exact ⟨⟨xP, xp, xQ, xq, xV, xs, false⟩, by rw [← HN.out], rfl, (OS.box3 HS.out (HF.out.all _ m2_).1 (HF.out.all _ m2_).2 (by decide) (by decide)).own _ m0_, (OS.box3 HS.out (HF.out.all _ m2_).1 (HF.out.all _ m2_).2 (by decide) (by decide)).below⟩
end Go.Proofs.Ytomgebmimgaojaa.QO
end
end
section
/- The document's Same walked. Printed by gen_rsame.py. -/
noncomputable section
namespace Go.Proofs.Ytomgebmimgaojaa.QO
open Go.RowKit Go.Shelf Go.Proofs.YtomgebmimgaojaaW.PrintWords Go.Proofs.YtomgebmimgaojaaW.PrintLast Go.Proofs.YtomgebmimgaojaaW.PrintMore
open Go.Proofs.Ytomgebmimgaojaa.Pure Octs Two
attribute [local go_sem] Oper.semAt_some
attribute [local go_sem ↓] Go.wp_at_zero Go.wp_at_succ
set_option linter.unusedVariables false
set_option linter.unusedSimpArgs false
set_option maxHeartbeats 16000000 in
set_option maxRecDepth 100000 in
theorem rsame_o {vars : List Int} {X Y : OV} {w0 w : World} {t t' : Bool} (hX : Oc w0 w X) (hY : Oc w0 w Y) (h0 : Below w0.heap.size w0 w) (fx : OkV vars X) (fy : OkV vars Y) (h1 : leqF vars X.m X.e Y.m Y.e = t) (h2 : leqF vars Y.m Y.e X.m X.e = t') : Says 40 #[X.val, Y.val] w (.bool (t && t')) := by
  have hu25 := Try.underlying25
  have hX' : Oc w w X := ⟨⟨hX.r0.le, .inl (hX.r0.reads h0)⟩, ⟨hX.r1.le, .inl (hX.r1.reads h0)⟩⟩
  have hY' : Oc w w Y := ⟨⟨hY.r0.le, .inl (hY.r0.reads h0)⟩, ⟨hY.r1.le, .inl (hY.r1.reads h0)⟩⟩
  have HS := Aside0.mk (LS.two X Y hX' hY')
  have leq1 : Aside0 (∀ {w W : World}, Oc w W X → Oc w W Y → Below w.heap.size w W → Says 30 #[X.val, Y.val] W (.bool t)) := ⟨fun {w W} a b c => by rw [← h1]; exact rleq_o a b c fx fy⟩
  have leq2 : Aside0 (∀ {w W : World}, Oc w W Y → Oc w W X → Below w.heap.size w W → Says 30 #[Y.val, X.val] W (.bool t')) := ⟨fun {w W} a b c => by rw [← h2]; exact rleq_o a b c fy fx⟩
  clear hX hY h0 hX' hY' fx fy h1 h2
  cases t with
  | false =>
    go_enter Try.func40, Try.ntmps40
    go_upto_region 1 with fail
    generalize hW2 : ((w.alloc X.cells).alloc Y.cells) = W2 at HS ⊢
    generalize hgb : w.heap.size + 1 = gb at HS ⊢
    generalize hga : w.heap.size = ga at HS ⊢
    clear hW2 hgb hga
    obtain ⟨⟨ka0, ka1, ka2⟩, fa0, fa1, fa2⟩ := LS.cells HS m0_; obtain ⟨⟨kb0, kb1, kb2⟩, fb0, fb1, fb2⟩ := LS.cells HS m1_
    go_wp2_with (first | (go_at_call 30; (with_reducible refine (leq1.out (LS.oc HS m0_) (LS.oc HS m1_) (LS.bel HS)).mono ?_); rintro e wk ⟨rfl, hb⟩; have n_ := Aside0.mk ((LS.to HS).next hb); clear HS; have HS := n_; clear n_ hb; clear ka0 ka1 ka2 fa0 fa1 fa2; obtain ⟨⟨ka0, ka1, ka2⟩, fa0, fa1, fa2⟩ := LS.cells HS m0_; clear kb0 kb1 kb2 fb0 fb1 fb2; obtain ⟨⟨kb0, kb1, kb2⟩, fb0, fb1, fb2⟩ := LS.cells HS m1_) | (go_at_call 30; (with_reducible refine (leq2.out (LS.oc HS m1_) (LS.oc HS m0_) (LS.bel HS)).mono ?_); rintro e wk ⟨rfl, hb⟩; have n_ := Aside0.mk ((LS.to HS).next hb); clear HS; have HS := n_; clear n_ hb; clear ka0 ka1 ka2 fa0 fa1 fa2; obtain ⟨⟨ka0, ka1, ka2⟩, fa0, fa1, fa2⟩ := LS.cells HS m0_; clear kb0 kb1 kb2 fb0 fb1 fb2; obtain ⟨⟨kb0, kb1, kb2⟩, fb0, fb1, fb2⟩ := LS.cells HS m1_))
    go_ret
    exact ⟨rfl, LS.bel HS⟩
  | true =>
    go_enter Try.func40, Try.ntmps40
    go_upto_region 1 with fail
    generalize hW2 : ((w.alloc X.cells).alloc Y.cells) = W2 at HS ⊢
    generalize hgb : w.heap.size + 1 = gb at HS ⊢
    generalize hga : w.heap.size = ga at HS ⊢
    clear hW2 hgb hga
    obtain ⟨⟨ka0, ka1, ka2⟩, fa0, fa1, fa2⟩ := LS.cells HS m0_; obtain ⟨⟨kb0, kb1, kb2⟩, fb0, fb1, fb2⟩ := LS.cells HS m1_
    go_wp2_with (first | (go_at_call 30; (with_reducible refine (leq1.out (LS.oc HS m0_) (LS.oc HS m1_) (LS.bel HS)).mono ?_); rintro e wk ⟨rfl, hb⟩; have n_ := Aside0.mk ((LS.to HS).next hb); clear HS; have HS := n_; clear n_ hb; clear ka0 ka1 ka2 fa0 fa1 fa2; obtain ⟨⟨ka0, ka1, ka2⟩, fa0, fa1, fa2⟩ := LS.cells HS m0_; clear kb0 kb1 kb2 fb0 fb1 fb2; obtain ⟨⟨kb0, kb1, kb2⟩, fb0, fb1, fb2⟩ := LS.cells HS m1_) | (go_at_call 30; (with_reducible refine (leq2.out (LS.oc HS m1_) (LS.oc HS m0_) (LS.bel HS)).mono ?_); rintro e wk ⟨rfl, hb⟩; have n_ := Aside0.mk ((LS.to HS).next hb); clear HS; have HS := n_; clear n_ hb; clear ka0 ka1 ka2 fa0 fa1 fa2; obtain ⟨⟨ka0, ka1, ka2⟩, fa0, fa1, fa2⟩ := LS.cells HS m0_; clear kb0 kb1 kb2 fb0 fb1 fb2; obtain ⟨⟨kb0, kb1, kb2⟩, fb0, fb1, fb2⟩ := LS.cells HS m1_))
    go_ret
    exact ⟨by simp, LS.bel HS⟩
end Go.Proofs.Ytomgebmimgaojaa.QO
end
end
section
/- What functions answer to octagons of one's own, and what they make. -/
noncomputable section
namespace Go.Proofs.Ytomgebmimgaojaa.QO
open Go.RowKit Go.Shelf Go.Proofs.YtomgebmimgaojaaW.PrintWords Go.Proofs.YtomgebmimgaojaaW.PrintLast Go.Proofs.YtomgebmimgaojaaW.PrintMore
open Go.Proofs.Ytomgebmimgaojaa.Pure Octs Holds Two
set_option linter.unusedVariables false
theorem m5_ {α : Type} {a b c d e f : α} {l : List α} : a ∈ b :: c :: d :: e :: f :: a :: l := List.mem_cons_of_mem _ m4_
theorem m6_ {α : Type} {a b c d e f g : α} {l : List α} : a ∈ b :: c :: d :: e :: f :: g :: a :: l := List.mem_cons_of_mem _ m5_
section
variable {w W W' W0 : World} {x y z : OV} {vars : List Int} {os : List OV} {fs : List (Nat × Obj)}
theorem OkV.same (h : OkV vars x) (e : z.o = x.o) : OkV vars z := by
  obtain ⟨P, p, Q, q, v, m, b⟩ := x
  obtain ⟨P', p', Q', q', v', m', b'⟩ := z
  cases e; exact h
theorem copied_own (hx : Oc w W x) (hb : Below w.heap.size w W) (l : x.v.length < 17592186044416) (l' : x.m.length < 17592186044416) :
    Calls Try.prog 21 #[x.val] W fun e W' => ∃ z : OV, e = .returned z.val ∧ z.o = x.o ∧ Own W W' z ∧ Below W.heap.size W W' :=
  of_calls2 (a := x.o) (gimballaw11_copied.calls x.P x.p x.v x.Q x.q x.m x.e _ _ _ W (hx.r0.reads hb) hx.r0.le (hx.r1.reads hb) hx.r1.le (copied_f l l'))
theorem close_own (hx : Oc w W x) (hb : Below w.heap.size w W) (fx : OFit x.v x.m x.e) :
    Calls Try.prog 22 #[x.val] W fun e W' => ∃ z : OV, e = .returned z.val ∧ z.o = closeF x.v x.m x.e ∧ Own W W' z ∧ Below W.heap.size W W' :=
  of_calls2 (oct_Close_any x.P x.p x.v x.Q x.q x.m x.e W (hx.r0.reads hb) hx.r0.le (hx.r1.reads hb) hx.r1.le fx)
theorem join_own (hx : Oc w W x) (hy : Oc w W y) (hb : Below w.heap.size w W) (fx : OkV vars x) (fy : OkV vars y) :
    Calls Try.prog 36 #[x.val, y.val] W fun e W' => ∃ z : OV, e = .returned z.val ∧ z.o = joinF vars x.m x.e y.m y.e ∧ Own W W' z ∧ Below W.heap.size W W' := by
  obtain ⟨f, rfl⟩ := fx
  exact of_calls2 (oct_Join_any x.P x.p x.v x.Q x.q x.m x.e y.P y.p y.v y.Q y.q y.m y.e W (hx.r0.reads hb) hx.r0.le (hx.r1.reads hb) hx.r1.le (hy.r0.reads hb) hy.r0.le (hy.r1.reads hb) hy.r1.le f fy.1 fy.2)
theorem meet_own (hx : Oc w W x) (hy : Oc w W y) (hb : Below w.heap.size w W) (fx : OkV vars x) (fy : OkV vars y) :
    Calls Try.prog 37 #[x.val, y.val] W fun e W' => ∃ z : OV, e = .returned z.val ∧ z.o = meetF vars x.m x.e y.m y.e ∧ Own W W' z ∧ Below W.heap.size W W' := by
  obtain ⟨f, rfl⟩ := fx
  exact of_calls2 (oct_Meet_any x.P x.p x.v x.Q x.q x.m x.e y.P y.p y.v y.Q y.q y.m y.e W (hx.r0.reads hb) hx.r0.le (hx.r1.reads hb) hx.r1.le (hy.r0.reads hb) hy.r0.le (hy.r1.reads hb) hy.r1.le f fy.1 fy.2)
theorem rmeet_own (hx : Oc w W x) (hy : Oc w W y) (hb : Below w.heap.size w W) (fx : OkV vars x) (fy : OkV vars y) :
    Calls Try.prog 41 #[x.val, y.val] W fun e W' => ∃ z : OV, e = .returned z.val ∧ z.o = meetF vars x.m x.e y.m y.e ∧ Own W W' z ∧ Below W.heap.size W W' := by
  obtain ⟨f, rfl⟩ := fx
  have fy' := fy.1
  rw [fy.2] at fy'
  obtain ⟨K, hK⟩ := rmeet_ev f fy'
  have h := hK K (Nat.le_refl _)
  rw [← fy.2] at h
  have h2 := gimbalref11_Meet.calls K x.P x.p x.v x.Q x.q x.m x.e y.P y.p y.v y.Q y.q y.m y.e _ _ _ W (hx.r0.reads hb) hx.r0.le (hx.r1.reads hb) hx.r1.le (hy.r0.reads hb) hy.r0.le (hy.r1.reads hb) hy.r1.le (by rw [fy.2]; exact hK K (Nat.le_refl _))
  exact of_calls2 h2
theorem rleq_at {t : Bool} (hx : Oc w W x) (hy : Oc w W y) (hb : Below w.heap.size w W) (fx : OkV vars x) (fy : OkV vars y) (ht : leqF vars x.m x.e y.m y.e = t) : Says 30 #[x.val, y.val] W (.bool t) := by
  rw [← ht]; exact rleq_o hx hy hb fx fy
theorem same_as {t t' s : Bool} (hx : Oc w W x) (hy : Oc w W y) (hb : Below w.heap.size w W) (fx : OkV vars x) (fy : OkV vars y) (ht : leqF vars x.m x.e y.m y.e = t) (ht' : leqF vars y.m y.e x.m x.e = t') (hs : (t && t') = s) : Says 39 #[x.val, y.val] W (.bool s) := by
  rw [← hs]; exact same_at hx hy hb fx fy ht ht'
theorem rsame_as {t t' s : Bool} (hx : Oc w W x) (hy : Oc w W y) (hb : Below w.heap.size w W) (fx : OkV vars x) (fy : OkV vars y) (ht : leqF vars x.m x.e y.m y.e = t) (ht' : leqF vars y.m y.e x.m x.e = t') (hs : (t && t') = s) : Says 40 #[x.val, y.val] W (.bool s) := by
  rw [← hs]; exact rsame_o hx hy hb fx fy ht ht'
/-- an octagon is written over: the others stay -/
theorem OS.spoiled (h : OS w (x :: os) W) (hk : Kept W W' x.has) (hb : Below w.heap.size w W') : OS w os W' :=
  ⟨hb, fun z hz => (h.own z (.tail _ hz)).kept hk (fun k h1 h2 => (List.pairwise_cons.1 h.apart).1 z hz k h2 h1), (List.pairwise_cons.1 h.apart).2⟩
theorem spoil_o (h : OS w (x :: os) W) (l1 : x.v.length < 4611686018427387904) (l2 : x.m.length < 4611686018427387904) : Calls Try.prog 24 #[x.val] W fun e W' => e = .returned (.tuple #[]) ∧ OS w os W' ∧ Kept W W' x.has := by
  obtain ⟨r, K, hK⟩ := spoil_ev x.v x.m x.e l1 l2
  have o := h.own x m0_
  refine (gimballaw11_spoil.calls K x.has _ x.v x.has _ x.m x.e r.1 r.2 w W h.below o.r0 o.r1 (hK K (Nat.le_refl _))).mono ?_
  rintro e W' ⟨rfl, _, _, hb, hk⟩
  have hk' : Kept W W' x.has := hk.mono (fun k hk => hk.elim id id)
  exact ⟨rfl, h.spoiled hk' hb, hk'⟩
end
end Go.Proofs.Ytomgebmimgaojaa.QO
end
end
section
/- The law OctOrders walked: it answers true. Printed by gen_oo.py. -/
noncomputable section
namespace Go.Proofs.Ytomgebmimgaojaa.QO
open Go.RowKit Go.Shelf Go.Proofs.YtomgebmimgaojaaW.PrintWords Go.Proofs.YtomgebmimgaojaaW.PrintLast Go.Proofs.YtomgebmimgaojaaW.PrintMore
open Go.Proofs.Ytomgebmimgaojaa.Pure Octs Two
attribute [local go_sem] Oper.semAt_some
attribute [local go_sem ↓] Go.wp_at_zero Go.wp_at_succ
set_option linter.unusedVariables false
set_option linter.unusedSimpArgs false
def octOrders_T3 : Bool × List (List Nat × List Nat) := (true, [([], []), ([0], [0]), ([], []), ([2, 1], [2]), ([], []), ([], []), ([4, 1, 3, 0, 1, 4, 5], [1, 4]), ([5, 3, 6, 0, 1, 2, 3, 4, 5, 6], [3, 5])])
def octOrders_B3 : List Nat := [0, 1, 0, 7, 0, 0, 63, 127]
theorem octOrders_tab3 : rtab .any (opsOf Try.f9 3) = octOrders_T3 := by kernel_rfl
theorem octOrders_bits3 : waitsOk octOrders_T3.2 octOrders_B3 = true := by kernel_rfl
def octOrders_T4 : Bool × List (List Nat × List Nat) := (true, [([], []), ([], []), ([0, 1], [0, 1]), ([], []), ([], []), ([3, 4, 2], [3, 4]), ([], []), ([], []), ([6, 2, 5, 0, 1, 2, 6, 7], [2, 6]), ([7, 5, 8, 0, 1, 2, 3, 4, 5, 6, 7, 8], [5, 7])])
def octOrders_B4 : List Nat := [0, 0, 3, 0, 0, 31, 0, 0, 255, 511]
theorem octOrders_tab4 : rtab .any (opsOf Try.f9 4) = octOrders_T4 := by kernel_rfl
theorem octOrders_bits4 : waitsOk octOrders_T4.2 octOrders_B4 = true := by kernel_rfl
def octOrders_T5 : Bool × List (List Nat × List Nat) := (true, [([], []), ([], []), ([0, 1], [0, 1]), ([], []), ([], []), ([3, 4, 2], [3, 4]), ([2, 5], [2, 5]), ([6, 5], [6]), ([7], [7]), ([7], [7]), ([8, 9, 7, 7], [7, 8, 9]), ([7], [7]), ([7], [7]), ([11, 12, 10, 7], [7, 11, 12]), ([10, 13, 7], [7, 10, 13]), ([7, 14], [7, 14]), ([15, 13], [15]), ([16], [16]), ([16], [16]), ([16], [16]), ([18, 19, 16, 16], [16, 18, 19]), ([17, 20, 20, 16], [16, 17, 20]), ([21, 16], [16, 21]), ([16, 22], [16, 22]), ([23, 21], [23]), ([24], [24]), ([24], [24]), ([24], [24]), ([26, 27, 24, 24], [24, 26, 27]), ([25, 28, 28, 24], [24, 25, 28]), ([29, 24], [24, 29]), ([24, 30], [24, 30]), ([31, 29], [31]), ([32], [32]), ([32], [32]), ([33, 34, 32, 32], [32, 33, 34]), ([35, 32], [32, 35]), ([32, 36], [32, 36])])
def octOrders_B5 : List Nat := [0, 0, 3, 0, 0, 31, 63, 127, 255, 255, 1023, 255, 255, 8191, 16383, 32767, 65535, 131071, 131071, 131071, 917503, 2097151, 4194303, 8388607, 16777215, 33554431, 33554431, 33554431, 234881023, 536870911, 1073741823, 2147483647, 4294967295, 8589934591, 8589934591, 34359738367, 68719476735, 137438953471]
theorem octOrders_tab5 : rtab .any (opsOf Try.f9 5) = octOrders_T5 := by kernel_rfl
theorem octOrders_bits5 : waitsOk octOrders_T5.2 octOrders_B5 = true := by kernel_rfl
theorem leq_refl {vars m : List Int} {e : Bool} (h : OFit vars m e) : leqF vars m e m e = true := by
 obtain ⟨A, a⟩ := mean_ex h
 exact (leq_mean h a a).2 ole_refl
set_option maxHeartbeats 16000000 in
set_option maxRecDepth 100000 in
theorem octOrders_walk (X Y : OV) (w : World) (hX : Oc w w X) (hY : Oc w w Y) (lx : X.v.length ≤ 17592186044416) (ly : Y.v.length ≤ 17592186044416) : Says 9 #[X.val, Y.val] w (.bool true) := by
 have hu25 := Try.underlying25
 obtain ⟨b, b1, b2⟩ := two_o hX hY (Below.refl _ _) lx ly
 have B1 := Aside0.mk b1
 have B2 := Aside0.mk @b2
 have HX := Aside0.mk hX
 have HY := Aside0.mk hY
 clear hX hY b1 b2 lx ly
 go_enter Try.func9, Try.ntmps9
 go_upto_region 1 with fail
 have HS : Aside0 (OS w [] ((w.alloc X.cells).alloc Y.cells)) := ⟨(OS.nil w).next (below_alloc (below_alloc (Below.refl _ _) _) _)⟩
 have HF : Aside0 (FX w [(w.heap.size, X.cells), (w.heap.size + 1, Y.cells)] ((w.alloc X.cells).alloc Y.cells)) := ⟨by
  refine ⟨fun f hf => ?_, by simp⟩
  cases hf with
  | head => exact ⟨blk_alloc (blk_new _ _) _, Nat.le_refl _⟩
  | tail _ hf =>
   cases hf with
   | head => exact ⟨by have h := blk_new (w.alloc X.cells) Y.cells; simpa using h, Nat.le_succ _⟩
   | tail _ hf => cases hf⟩
 generalize hW2 : ((w.alloc X.cells).alloc Y.cells) = W2 at HS HF ⊢
 generalize hgb : w.heap.size + 1 = gb at HF ⊢
 generalize hga : w.heap.size = ga at HF ⊢
 clear hW2 hgb hga
 obtain ⟨⟨ka0, ka1, ka2⟩, fa0, fa1, fa2⟩ := FX.oct HF m0_; obtain ⟨⟨kb0, kb1, kb2⟩, fb0, fb1, fb2⟩ := FX.oct HF m1_
 cases b with
 | false =>
  go_wp2_with (first | (go_at_call 32; (with_reducible refine (B2.out (Oc.at_ HX (OS.bel HS)) (Oc.at_ HY (OS.bel HS)) (OS.bel HS)).mono ?_); rintro e wk ⟨rfl, hb⟩; have n_ := Aside0.mk ((OS.to HS).next hb); have f_ := Aside0.mk ((FX.to HF).next hb); clear HS HF; have HS := n_; have HF := f_; clear n_ f_ hb; clear ka0 ka1 ka2 fa0 fa1 fa2; obtain ⟨⟨ka0, ka1, ka2⟩, fa0, fa1, fa2⟩ := FX.oct HF m0_; clear kb0 kb1 kb2 fb0 fb1 fb2; obtain ⟨⟨kb0, kb1, kb2⟩, fb0, fb1, fb2⟩ := FX.oct HF m1_) | (go_at_call 20; (with_reducible refine (awake_o).mono ?_); rintro e wk ⟨rfl, hb⟩; have n_ := Aside0.mk ((OS.to HS).next hb); have f_ := Aside0.mk ((FX.to HF).next hb); clear HS HF; have HS := n_; have HF := f_; clear n_ f_ hb; clear ka0 ka1 ka2 fa0 fa1 fa2; obtain ⟨⟨ka0, ka1, ka2⟩, fa0, fa1, fa2⟩ := FX.oct HF m0_; clear kb0 kb1 kb2 fb0 fb1 fb2; obtain ⟨⟨kb0, kb1, kb2⟩, fb0, fb1, fb2⟩ := FX.oct HF m1_))
  go_ret
  exact ⟨rfl, OS.bel HS⟩
 | true =>
  obtain ⟨gx_, gy_⟩ := B1.out rfl
  have LX : Aside0 (X.v.length < 17592186044416 ∧ X.m.length < 17592186044416) := ⟨by have := fit_lens gx_.1; omega⟩
  have LY : Aside0 (Y.v.length < 17592186044416 ∧ Y.m.length < 17592186044416) := ⟨by have := fit_lens gy_.1; omega⟩
  have GX := Aside0.mk gx_
  have GY := Aside0.mk gy_
  clear gx_ gy_
  go_upto_region 3 with (first | (go_at_call 32; (with_reducible refine (B2.out (Oc.at_ HX (OS.bel HS)) (Oc.at_ HY (OS.bel HS)) (OS.bel HS)).mono ?_); rintro e wk ⟨rfl, hb⟩; have n_ := Aside0.mk ((OS.to HS).next hb); have f_ := Aside0.mk ((FX.to HF).next hb); clear HS HF; have HS := n_; have HF := f_; clear n_ f_ hb; clear ka0 ka1 ka2 fa0 fa1 fa2; obtain ⟨⟨ka0, ka1, ka2⟩, fa0, fa1, fa2⟩ := FX.oct HF m0_; clear kb0 kb1 kb2 fb0 fb1 fb2; obtain ⟨⟨kb0, kb1, kb2⟩, fb0, fb1, fb2⟩ := FX.oct HF m1_))
  clear ka0 ka1 ka2 fa0 fa1 fa2 kb0 kb1 kb2 fb0 fb1 fb2
  have n_ := Aside0.mk (HS.out.next (below_drew (Below.refl _ _))); have f_ := Aside0.mk (HF.out.next (below_drew (Below.refl _ _))); clear HS HF; have HS := n_; have HF := f_; clear n_ f_
  refine startN_ (n := 8) (S := fun w' => w'.cell? ⟨ga, 0, none⟩ = some (.slice X.P X.v.length X.p) ∧ w'.cell? ⟨ga, 1, none⟩ = some (.slice X.Q X.m.length X.q) ∧ w'.cell? ⟨ga, 2, none⟩ = some (.bool X.e) ∧ w'.cell? ⟨gb, 0, none⟩ = some (.slice Y.P Y.v.length Y.p) ∧ w'.cell? ⟨gb, 1, none⟩ = some (.slice Y.Q Y.m.length Y.q) ∧ w'.cell? ⟨gb, 2, none⟩ = some (.bool Y.e)) (ds := [6, 7]) (mB 8 0) (by kernel_rfl) rfl (by kernel_rfl) ⟨(FX.oct HF m0_).1.1, (FX.oct HF m0_).1.2.1, (FX.oct HF m0_).1.2.2, (FX.oct HF m1_).1.1, (FX.oct HF m1_).1.2.1, (FX.oct HF m1_).1.2.2⟩ (fun hHeld => ?_)
  refine with_tabW octOrders_tab3 octOrders_bits3 (fun HT_ HW_ => ?_)
  generalize hWd : World.drew _ = Wd at HS HF hHeld ⊢; clear hWd
  refine tV_ 0 14 (mB 8 1) HT_ HW_ hHeld ?_
  refine tV_ 2 16 (mB 8 5) HT_ HW_ hHeld ?_
  refine join_ (σ := OV × OV × Nat × Nat) 2 (mB 8 63) (fun s_ => [(15, .agg #[.slice s_.1.P s_.1.v.length s_.1.p, .slice s_.1.Q s_.1.m.length s_.1.q, .bool s_.1.e]), (17, .agg #[.slice s_.2.1.P s_.2.1.v.length s_.2.1.p, .slice s_.2.1.Q s_.2.1.m.length s_.2.1.q, .bool s_.2.1.e]), (5, .pointer (some ⟨s_.2.2.1, 0, none⟩)), (6, .pointer (some ⟨s_.2.2.2, 0, none⟩))]) (fun s_ w' => (s_.1.o = X.o) ∧ (s_.2.1.o = Y.o) ∧ OS w (s_.2.1 :: s_.1 :: []) w' ∧ FX w ((s_.2.2.1, .cells #[.slice none 0 0, .slice none 0 0, .bool false] 25 (0, 0)) :: (s_.2.2.2, .cells #[.slice none 0 0, .slice none 0 0, .bool false] 25 (0, 0)) :: [(ga, X.cells), (gb, Y.cells)]) w') ?_ ?_
  rotate_left
  ·
   intro hJ
   refine three_ (i := 1) (j := 4) (k := 5) (Ni := some 15) (Nj := some 5) (Nk := some 6) (mB 8 7) (mB 8 21) (mB 8 37) rfl rfl rfl rfl rfl rfl (three_of HT_.out (by kernel_rfl)) (by decide) (by decide) (by decide) (fun K hK => ?_) (fun K hK => ?_) (fun K hK => ?_)
   ·
    refine goes_ Try.func21 (by kernel_rfl) rfl #[X.val] (by rfl) rfl rfl vL ?_
    with_reducible refine (copied_own (HX.out.next HS.out.below) HS.out.below LX.out.1 LX.out.2).mono ?_
    rintro e wk ⟨xv, rfl, hx, ho, hb⟩; refine ⟨_, rfl, ?_⟩
    have n_ := Aside0.mk (HS.out.call hb ho); have f_ := Aside0.mk (HF.out.next hb); clear HS HF; have HS := n_; have HF := f_; clear n_ f_ ho hb
    refine hK.out _ _ ⟨(FX.oct HF m0_).1.1, (FX.oct HF m0_).1.2.1, (FX.oct HF m0_).1.2.2, (FX.oct HF m1_).1.1, (FX.oct HF m1_).1.2.1, (FX.oct HF m1_).1.2.2⟩ (fun hHeld => ?_)
    clear hK K
    refine nO_ 15 ?_
    refine three_ (i := 3) (j := 4) (k := 5) (Ni := some 17) (Nj := some 5) (Nk := some 6) (mB 8 15) (mB 8 23) (mB 8 39) rfl rfl rfl rfl rfl rfl (three_of HT_.out (by kernel_rfl)) (by decide) (by decide) (by decide) (fun K hK => ?_) (fun K hK => ?_) (fun K hK => ?_)
    ·
     refine goes_ Try.func21 (by kernel_rfl) rfl #[Y.val] (by rfl) rfl rfl vL ?_
     with_reducible refine (copied_own (HY.out.next HS.out.below) HS.out.below LY.out.1 LY.out.2).mono ?_
     rintro e wk ⟨yv, rfl, hy, ho, hb⟩; refine ⟨_, rfl, ?_⟩
     have n_ := Aside0.mk (HS.out.call hb ho); have f_ := Aside0.mk (HF.out.next hb); clear HS HF; have HS := n_; have HF := f_; clear n_ f_ ho hb
     refine hK.out _ _ ⟨(FX.oct HF m0_).1.1, (FX.oct HF m0_).1.2.1, (FX.oct HF m0_).1.2.2, (FX.oct HF m1_).1.1, (FX.oct HF m1_).1.2.1, (FX.oct HF m1_).1.2.2⟩ (fun hHeld => ?_)
     clear hK K
     refine nO_ 17 ?_
     refine two_ (i := 4) (j := 5) (Ni := some 5) (Nj := some 6) (mB 8 31) (mB 8 47) rfl rfl rfl rfl (two_of HT_.out (by kernel_rfl)) (by decide) (by decide) (fun K hK => ?_) (fun K hK => ?_)
     ·
      refine box_step ?hg (N := 5) ?hd (cs := #[.slice none 0 0, .slice none 0 0, .bool false]) (t := 25) ?hr ?_; (case hd => rfl); (case hg => rfl); (case hr => first | (go_simp; done) | (go_simp; rfl))
      intro gx hg wk hbox hb
      have f_ := Aside0.mk (HF.out.made HS.out.below.size hg hbox hb); have n_ := Aside0.mk (HS.out.next hb); clear HS HF; have HS := n_; have HF := f_; clear n_ f_ hg hbox hb
      refine hK.out _ _ ⟨(FX.oct HF m1_).1.1, (FX.oct HF m1_).1.2.1, (FX.oct HF m1_).1.2.2, (FX.oct HF m2_).1.1, (FX.oct HF m2_).1.2.1, (FX.oct HF m2_).1.2.2⟩ (fun hHeld => ?_)
      clear hK K
      refine nO_ 5 ?_
      refine one_ (i := 5) (N := some 6) (mB 8 63) rfl rfl (one_of HT_.out (by kernel_rfl)) (by decide) (fun K hK => ?_)
      refine box_step ?hg (N := 6) ?hd (cs := #[.slice none 0 0, .slice none 0 0, .bool false]) (t := 25) ?hr ?_; (case hd => rfl); (case hg => rfl); (case hr => first | (go_simp; done) | (go_simp; rfl))
      intro gy hg wk hbox hb
      have f_ := Aside0.mk (HF.out.made HS.out.below.size hg hbox hb); have n_ := Aside0.mk (HS.out.next hb); clear HS HF; have HS := n_; have HF := f_; clear n_ f_ hg hbox hb
      refine hK.out _ _ ⟨(FX.oct HF m2_).1.1, (FX.oct HF m2_).1.2.1, (FX.oct HF m2_).1.2.2, (FX.oct HF m3_).1.1, (FX.oct HF m3_).1.2.1, (FX.oct HF m3_).1.2.2⟩ (fun hHeld => ?_)
      clear hK K
      refine nO_ 6 ?_
      exact nP_ (hJ (xv, yv, gx, gy) _ ⟨hx, hy, HS.out, HF.out.swap⟩)
     ·
      refine box_step ?hg (N := 6) ?hd (cs := #[.slice none 0 0, .slice none 0 0, .bool false]) (t := 25) ?hr ?_; (case hd => rfl); (case hg => rfl); (case hr => first | (go_simp; done) | (go_simp; rfl))
      intro gy hg wk hbox hb
      have f_ := Aside0.mk (HF.out.made HS.out.below.size hg hbox hb); have n_ := Aside0.mk (HS.out.next hb); clear HS HF; have HS := n_; have HF := f_; clear n_ f_ hg hbox hb
      refine hK.out _ _ ⟨(FX.oct HF m1_).1.1, (FX.oct HF m1_).1.2.1, (FX.oct HF m1_).1.2.2, (FX.oct HF m2_).1.1, (FX.oct HF m2_).1.2.1, (FX.oct HF m2_).1.2.2⟩ (fun hHeld => ?_)
      clear hK K
      refine nO_ 6 ?_
      refine one_ (i := 4) (N := some 5) (mB 8 63) rfl rfl (one_of HT_.out (by kernel_rfl)) (by decide) (fun K hK => ?_)
      refine box_step ?hg (N := 5) ?hd (cs := #[.slice none 0 0, .slice none 0 0, .bool false]) (t := 25) ?hr ?_; (case hd => rfl); (case hg => rfl); (case hr => first | (go_simp; done) | (go_simp; rfl))
      intro gx hg wk hbox hb
      have f_ := Aside0.mk (HF.out.made HS.out.below.size hg hbox hb); have n_ := Aside0.mk (HS.out.next hb); clear HS HF; have HS := n_; have HF := f_; clear n_ f_ hg hbox hb
      refine hK.out _ _ ⟨(FX.oct HF m2_).1.1, (FX.oct HF m2_).1.2.1, (FX.oct HF m2_).1.2.2, (FX.oct HF m3_).1.1, (FX.oct HF m3_).1.2.1, (FX.oct HF m3_).1.2.2⟩ (fun hHeld => ?_)
      clear hK K
      refine nO_ 5 ?_
      exact nP_ (hJ (xv, yv, gx, gy) _ ⟨hx, hy, HS.out, HF.out⟩)
    ·
     refine box_step ?hg (N := 5) ?hd (cs := #[.slice none 0 0, .slice none 0 0, .bool false]) (t := 25) ?hr ?_; (case hd => rfl); (case hg => rfl); (case hr => first | (go_simp; done) | (go_simp; rfl))
     intro gx hg wk hbox hb
     have f_ := Aside0.mk (HF.out.made HS.out.below.size hg hbox hb); have n_ := Aside0.mk (HS.out.next hb); clear HS HF; have HS := n_; have HF := f_; clear n_ f_ hg hbox hb
     refine hK.out _ _ ⟨(FX.oct HF m1_).1.1, (FX.oct HF m1_).1.2.1, (FX.oct HF m1_).1.2.2, (FX.oct HF m2_).1.1, (FX.oct HF m2_).1.2.1, (FX.oct HF m2_).1.2.2⟩ (fun hHeld => ?_)
     clear hK K
     refine nO_ 5 ?_
     refine two_ (i := 3) (j := 5) (Ni := some 17) (Nj := some 6) (mB 8 31) (mB 8 55) rfl rfl rfl rfl (two_of HT_.out (by kernel_rfl)) (by decide) (by decide) (fun K hK => ?_) (fun K hK => ?_)
     ·
      refine goes_ Try.func21 (by kernel_rfl) rfl #[Y.val] (by rfl) rfl rfl vL ?_
      with_reducible refine (copied_own (HY.out.next HS.out.below) HS.out.below LY.out.1 LY.out.2).mono ?_
      rintro e wk ⟨yv, rfl, hy, ho, hb⟩; refine ⟨_, rfl, ?_⟩
      have n_ := Aside0.mk (HS.out.call hb ho); have f_ := Aside0.mk (HF.out.next hb); clear HS HF; have HS := n_; have HF := f_; clear n_ f_ ho hb
      refine hK.out _ _ ⟨(FX.oct HF m1_).1.1, (FX.oct HF m1_).1.2.1, (FX.oct HF m1_).1.2.2, (FX.oct HF m2_).1.1, (FX.oct HF m2_).1.2.1, (FX.oct HF m2_).1.2.2⟩ (fun hHeld => ?_)
      clear hK K
      refine nO_ 17 ?_
      refine one_ (i := 5) (N := some 6) (mB 8 63) rfl rfl (one_of HT_.out (by kernel_rfl)) (by decide) (fun K hK => ?_)
      refine box_step ?hg (N := 6) ?hd (cs := #[.slice none 0 0, .slice none 0 0, .bool false]) (t := 25) ?hr ?_; (case hd => rfl); (case hg => rfl); (case hr => first | (go_simp; done) | (go_simp; rfl))
      intro gy hg wk hbox hb
      have f_ := Aside0.mk (HF.out.made HS.out.below.size hg hbox hb); have n_ := Aside0.mk (HS.out.next hb); clear HS HF; have HS := n_; have HF := f_; clear n_ f_ hg hbox hb
      refine hK.out _ _ ⟨(FX.oct HF m2_).1.1, (FX.oct HF m2_).1.2.1, (FX.oct HF m2_).1.2.2, (FX.oct HF m3_).1.1, (FX.oct HF m3_).1.2.1, (FX.oct HF m3_).1.2.2⟩ (fun hHeld => ?_)
      clear hK K
      refine nO_ 6 ?_
      exact nP_ (hJ (xv, yv, gx, gy) _ ⟨hx, hy, HS.out, HF.out.swap⟩)
     ·
      refine box_step ?hg (N := 6) ?hd (cs := #[.slice none 0 0, .slice none 0 0, .bool false]) (t := 25) ?hr ?_; (case hd => rfl); (case hg => rfl); (case hr => first | (go_simp; done) | (go_simp; rfl))
      intro gy hg wk hbox hb
      have f_ := Aside0.mk (HF.out.made HS.out.below.size hg hbox hb); have n_ := Aside0.mk (HS.out.next hb); clear HS HF; have HS := n_; have HF := f_; clear n_ f_ hg hbox hb
      refine hK.out _ _ ⟨(FX.oct HF m2_).1.1, (FX.oct HF m2_).1.2.1, (FX.oct HF m2_).1.2.2, (FX.oct HF m3_).1.1, (FX.oct HF m3_).1.2.1, (FX.oct HF m3_).1.2.2⟩ (fun hHeld => ?_)
      clear hK K
      refine nO_ 6 ?_
      refine one_ (i := 3) (N := some 17) (mB 8 63) rfl rfl (one_of HT_.out (by kernel_rfl)) (by decide) (fun K hK => ?_)
      refine goes_ Try.func21 (by kernel_rfl) rfl #[Y.val] (by rfl) rfl rfl vL ?_
      with_reducible refine (copied_own (HY.out.next HS.out.below) HS.out.below LY.out.1 LY.out.2).mono ?_
      rintro e wk ⟨yv, rfl, hy, ho, hb⟩; refine ⟨_, rfl, ?_⟩
      have n_ := Aside0.mk (HS.out.call hb ho); have f_ := Aside0.mk (HF.out.next hb); clear HS HF; have HS := n_; have HF := f_; clear n_ f_ ho hb
      refine hK.out _ _ ⟨(FX.oct HF m2_).1.1, (FX.oct HF m2_).1.2.1, (FX.oct HF m2_).1.2.2, (FX.oct HF m3_).1.1, (FX.oct HF m3_).1.2.1, (FX.oct HF m3_).1.2.2⟩ (fun hHeld => ?_)
      clear hK K
      refine nO_ 17 ?_
      exact nP_ (hJ (xv, yv, gx, gy) _ ⟨hx, hy, HS.out, HF.out.swap⟩)
    ·
     refine box_step ?hg (N := 6) ?hd (cs := #[.slice none 0 0, .slice none 0 0, .bool false]) (t := 25) ?hr ?_; (case hd => rfl); (case hg => rfl); (case hr => first | (go_simp; done) | (go_simp; rfl))
     intro gy hg wk hbox hb
     have f_ := Aside0.mk (HF.out.made HS.out.below.size hg hbox hb); have n_ := Aside0.mk (HS.out.next hb); clear HS HF; have HS := n_; have HF := f_; clear n_ f_ hg hbox hb
     refine hK.out _ _ ⟨(FX.oct HF m1_).1.1, (FX.oct HF m1_).1.2.1, (FX.oct HF m1_).1.2.2, (FX.oct HF m2_).1.1, (FX.oct HF m2_).1.2.1, (FX.oct HF m2_).1.2.2⟩ (fun hHeld => ?_)
     clear hK K
     refine nO_ 6 ?_
     refine two_ (i := 3) (j := 4) (Ni := some 17) (Nj := some 5) (mB 8 47) (mB 8 55) rfl rfl rfl rfl (two_of HT_.out (by kernel_rfl)) (by decide) (by decide) (fun K hK => ?_) (fun K hK => ?_)
     ·
      refine goes_ Try.func21 (by kernel_rfl) rfl #[Y.val] (by rfl) rfl rfl vL ?_
      with_reducible refine (copied_own (HY.out.next HS.out.below) HS.out.below LY.out.1 LY.out.2).mono ?_
      rintro e wk ⟨yv, rfl, hy, ho, hb⟩; refine ⟨_, rfl, ?_⟩
      have n_ := Aside0.mk (HS.out.call hb ho); have f_ := Aside0.mk (HF.out.next hb); clear HS HF; have HS := n_; have HF := f_; clear n_ f_ ho hb
      refine hK.out _ _ ⟨(FX.oct HF m1_).1.1, (FX.oct HF m1_).1.2.1, (FX.oct HF m1_).1.2.2, (FX.oct HF m2_).1.1, (FX.oct HF m2_).1.2.1, (FX.oct HF m2_).1.2.2⟩ (fun hHeld => ?_)
      clear hK K
      refine nO_ 17 ?_
      refine one_ (i := 4) (N := some 5) (mB 8 63) rfl rfl (one_of HT_.out (by kernel_rfl)) (by decide) (fun K hK => ?_)
      refine box_step ?hg (N := 5) ?hd (cs := #[.slice none 0 0, .slice none 0 0, .bool false]) (t := 25) ?hr ?_; (case hd => rfl); (case hg => rfl); (case hr => first | (go_simp; done) | (go_simp; rfl))
      intro gx hg wk hbox hb
      have f_ := Aside0.mk (HF.out.made HS.out.below.size hg hbox hb); have n_ := Aside0.mk (HS.out.next hb); clear HS HF; have HS := n_; have HF := f_; clear n_ f_ hg hbox hb
      refine hK.out _ _ ⟨(FX.oct HF m2_).1.1, (FX.oct HF m2_).1.2.1, (FX.oct HF m2_).1.2.2, (FX.oct HF m3_).1.1, (FX.oct HF m3_).1.2.1, (FX.oct HF m3_).1.2.2⟩ (fun hHeld => ?_)
      clear hK K
      refine nO_ 5 ?_
      exact nP_ (hJ (xv, yv, gx, gy) _ ⟨hx, hy, HS.out, HF.out⟩)
     ·
      refine box_step ?hg (N := 5) ?hd (cs := #[.slice none 0 0, .slice none 0 0, .bool false]) (t := 25) ?hr ?_; (case hd => rfl); (case hg => rfl); (case hr => first | (go_simp; done) | (go_simp; rfl))
      intro gx hg wk hbox hb
      have f_ := Aside0.mk (HF.out.made HS.out.below.size hg hbox hb); have n_ := Aside0.mk (HS.out.next hb); clear HS HF; have HS := n_; have HF := f_; clear n_ f_ hg hbox hb
      refine hK.out _ _ ⟨(FX.oct HF m2_).1.1, (FX.oct HF m2_).1.2.1, (FX.oct HF m2_).1.2.2, (FX.oct HF m3_).1.1, (FX.oct HF m3_).1.2.1, (FX.oct HF m3_).1.2.2⟩ (fun hHeld => ?_)
      clear hK K
      refine nO_ 5 ?_
      refine one_ (i := 3) (N := some 17) (mB 8 63) rfl rfl (one_of HT_.out (by kernel_rfl)) (by decide) (fun K hK => ?_)
      refine goes_ Try.func21 (by kernel_rfl) rfl #[Y.val] (by rfl) rfl rfl vL ?_
      with_reducible refine (copied_own (HY.out.next HS.out.below) HS.out.below LY.out.1 LY.out.2).mono ?_
      rintro e wk ⟨yv, rfl, hy, ho, hb⟩; refine ⟨_, rfl, ?_⟩
      have n_ := Aside0.mk (HS.out.call hb ho); have f_ := Aside0.mk (HF.out.next hb); clear HS HF; have HS := n_; have HF := f_; clear n_ f_ ho hb
      refine hK.out _ _ ⟨(FX.oct HF m2_).1.1, (FX.oct HF m2_).1.2.1, (FX.oct HF m2_).1.2.2, (FX.oct HF m3_).1.1, (FX.oct HF m3_).1.2.1, (FX.oct HF m3_).1.2.2⟩ (fun hHeld => ?_)
      clear hK K
      refine nO_ 17 ?_
      exact nP_ (hJ (xv, yv, gx, gy) _ ⟨hx, hy, HS.out, HF.out⟩)
   ·
    refine box_step ?hg (N := 5) ?hd (cs := #[.slice none 0 0, .slice none 0 0, .bool false]) (t := 25) ?hr ?_; (case hd => rfl); (case hg => rfl); (case hr => first | (go_simp; done) | (go_simp; rfl))
    intro gx hg wk hbox hb
    have f_ := Aside0.mk (HF.out.made HS.out.below.size hg hbox hb); have n_ := Aside0.mk (HS.out.next hb); clear HS HF; have HS := n_; have HF := f_; clear n_ f_ hg hbox hb
    refine hK.out _ _ ⟨(FX.oct HF m1_).1.1, (FX.oct HF m1_).1.2.1, (FX.oct HF m1_).1.2.2, (FX.oct HF m2_).1.1, (FX.oct HF m2_).1.2.1, (FX.oct HF m2_).1.2.2⟩ (fun hHeld => ?_)
    clear hK K
    refine nO_ 5 ?_
    refine two_ (i := 1) (j := 5) (Ni := some 15) (Nj := some 6) (mB 8 23) (mB 8 53) rfl rfl rfl rfl (two_of HT_.out (by kernel_rfl)) (by decide) (by decide) (fun K hK => ?_) (fun K hK => ?_)
    ·
     refine goes_ Try.func21 (by kernel_rfl) rfl #[X.val] (by rfl) rfl rfl vL ?_
     with_reducible refine (copied_own (HX.out.next HS.out.below) HS.out.below LX.out.1 LX.out.2).mono ?_
     rintro e wk ⟨xv, rfl, hx, ho, hb⟩; refine ⟨_, rfl, ?_⟩
     have n_ := Aside0.mk (HS.out.call hb ho); have f_ := Aside0.mk (HF.out.next hb); clear HS HF; have HS := n_; have HF := f_; clear n_ f_ ho hb
     refine hK.out _ _ ⟨(FX.oct HF m1_).1.1, (FX.oct HF m1_).1.2.1, (FX.oct HF m1_).1.2.2, (FX.oct HF m2_).1.1, (FX.oct HF m2_).1.2.1, (FX.oct HF m2_).1.2.2⟩ (fun hHeld => ?_)
     clear hK K
     refine nO_ 15 ?_
     refine two_ (i := 3) (j := 5) (Ni := some 17) (Nj := some 6) (mB 8 31) (mB 8 55) rfl rfl rfl rfl (two_of HT_.out (by kernel_rfl)) (by decide) (by decide) (fun K hK => ?_) (fun K hK => ?_)
     ·
      refine goes_ Try.func21 (by kernel_rfl) rfl #[Y.val] (by rfl) rfl rfl vL ?_
      with_reducible refine (copied_own (HY.out.next HS.out.below) HS.out.below LY.out.1 LY.out.2).mono ?_
      rintro e wk ⟨yv, rfl, hy, ho, hb⟩; refine ⟨_, rfl, ?_⟩
      have n_ := Aside0.mk (HS.out.call hb ho); have f_ := Aside0.mk (HF.out.next hb); clear HS HF; have HS := n_; have HF := f_; clear n_ f_ ho hb
      refine hK.out _ _ ⟨(FX.oct HF m1_).1.1, (FX.oct HF m1_).1.2.1, (FX.oct HF m1_).1.2.2, (FX.oct HF m2_).1.1, (FX.oct HF m2_).1.2.1, (FX.oct HF m2_).1.2.2⟩ (fun hHeld => ?_)
      clear hK K
      refine nO_ 17 ?_
      refine one_ (i := 5) (N := some 6) (mB 8 63) rfl rfl (one_of HT_.out (by kernel_rfl)) (by decide) (fun K hK => ?_)
      refine box_step ?hg (N := 6) ?hd (cs := #[.slice none 0 0, .slice none 0 0, .bool false]) (t := 25) ?hr ?_; (case hd => rfl); (case hg => rfl); (case hr => first | (go_simp; done) | (go_simp; rfl))
      intro gy hg wk hbox hb
      have f_ := Aside0.mk (HF.out.made HS.out.below.size hg hbox hb); have n_ := Aside0.mk (HS.out.next hb); clear HS HF; have HS := n_; have HF := f_; clear n_ f_ hg hbox hb
      refine hK.out _ _ ⟨(FX.oct HF m2_).1.1, (FX.oct HF m2_).1.2.1, (FX.oct HF m2_).1.2.2, (FX.oct HF m3_).1.1, (FX.oct HF m3_).1.2.1, (FX.oct HF m3_).1.2.2⟩ (fun hHeld => ?_)
      clear hK K
      refine nO_ 6 ?_
      exact nP_ (hJ (xv, yv, gx, gy) _ ⟨hx, hy, HS.out, HF.out.swap⟩)
     ·
      refine box_step ?hg (N := 6) ?hd (cs := #[.slice none 0 0, .slice none 0 0, .bool false]) (t := 25) ?hr ?_; (case hd => rfl); (case hg => rfl); (case hr => first | (go_simp; done) | (go_simp; rfl))
      intro gy hg wk hbox hb
      have f_ := Aside0.mk (HF.out.made HS.out.below.size hg hbox hb); have n_ := Aside0.mk (HS.out.next hb); clear HS HF; have HS := n_; have HF := f_; clear n_ f_ hg hbox hb
      refine hK.out _ _ ⟨(FX.oct HF m2_).1.1, (FX.oct HF m2_).1.2.1, (FX.oct HF m2_).1.2.2, (FX.oct HF m3_).1.1, (FX.oct HF m3_).1.2.1, (FX.oct HF m3_).1.2.2⟩ (fun hHeld => ?_)
      clear hK K
      refine nO_ 6 ?_
      refine one_ (i := 3) (N := some 17) (mB 8 63) rfl rfl (one_of HT_.out (by kernel_rfl)) (by decide) (fun K hK => ?_)
      refine goes_ Try.func21 (by kernel_rfl) rfl #[Y.val] (by rfl) rfl rfl vL ?_
      with_reducible refine (copied_own (HY.out.next HS.out.below) HS.out.below LY.out.1 LY.out.2).mono ?_
      rintro e wk ⟨yv, rfl, hy, ho, hb⟩; refine ⟨_, rfl, ?_⟩
      have n_ := Aside0.mk (HS.out.call hb ho); have f_ := Aside0.mk (HF.out.next hb); clear HS HF; have HS := n_; have HF := f_; clear n_ f_ ho hb
      refine hK.out _ _ ⟨(FX.oct HF m2_).1.1, (FX.oct HF m2_).1.2.1, (FX.oct HF m2_).1.2.2, (FX.oct HF m3_).1.1, (FX.oct HF m3_).1.2.1, (FX.oct HF m3_).1.2.2⟩ (fun hHeld => ?_)
      clear hK K
      refine nO_ 17 ?_
      exact nP_ (hJ (xv, yv, gx, gy) _ ⟨hx, hy, HS.out, HF.out.swap⟩)
    ·
     refine box_step ?hg (N := 6) ?hd (cs := #[.slice none 0 0, .slice none 0 0, .bool false]) (t := 25) ?hr ?_; (case hd => rfl); (case hg => rfl); (case hr => first | (go_simp; done) | (go_simp; rfl))
     intro gy hg wk hbox hb
     have f_ := Aside0.mk (HF.out.made HS.out.below.size hg hbox hb); have n_ := Aside0.mk (HS.out.next hb); clear HS HF; have HS := n_; have HF := f_; clear n_ f_ hg hbox hb
     refine hK.out _ _ ⟨(FX.oct HF m2_).1.1, (FX.oct HF m2_).1.2.1, (FX.oct HF m2_).1.2.2, (FX.oct HF m3_).1.1, (FX.oct HF m3_).1.2.1, (FX.oct HF m3_).1.2.2⟩ (fun hHeld => ?_)
     clear hK K
     refine nO_ 6 ?_
     refine one_ (i := 1) (N := some 15) (mB 8 55) rfl rfl (one_of HT_.out (by kernel_rfl)) (by decide) (fun K hK => ?_)
     refine goes_ Try.func21 (by kernel_rfl) rfl #[X.val] (by rfl) rfl rfl vL ?_
     with_reducible refine (copied_own (HX.out.next HS.out.below) HS.out.below LX.out.1 LX.out.2).mono ?_
     rintro e wk ⟨xv, rfl, hx, ho, hb⟩; refine ⟨_, rfl, ?_⟩
     have n_ := Aside0.mk (HS.out.call hb ho); have f_ := Aside0.mk (HF.out.next hb); clear HS HF; have HS := n_; have HF := f_; clear n_ f_ ho hb
     refine hK.out _ _ ⟨(FX.oct HF m2_).1.1, (FX.oct HF m2_).1.2.1, (FX.oct HF m2_).1.2.2, (FX.oct HF m3_).1.1, (FX.oct HF m3_).1.2.1, (FX.oct HF m3_).1.2.2⟩ (fun hHeld => ?_)
     clear hK K
     refine nO_ 15 ?_
     refine one_ (i := 3) (N := some 17) (mB 8 63) rfl rfl (one_of HT_.out (by kernel_rfl)) (by decide) (fun K hK => ?_)
     refine goes_ Try.func21 (by kernel_rfl) rfl #[Y.val] (by rfl) rfl rfl vL ?_
     with_reducible refine (copied_own (HY.out.next HS.out.below) HS.out.below LY.out.1 LY.out.2).mono ?_
     rintro e wk ⟨yv, rfl, hy, ho, hb⟩; refine ⟨_, rfl, ?_⟩
     have n_ := Aside0.mk (HS.out.call hb ho); have f_ := Aside0.mk (HF.out.next hb); clear HS HF; have HS := n_; have HF := f_; clear n_ f_ ho hb
     refine hK.out _ _ ⟨(FX.oct HF m2_).1.1, (FX.oct HF m2_).1.2.1, (FX.oct HF m2_).1.2.2, (FX.oct HF m3_).1.1, (FX.oct HF m3_).1.2.1, (FX.oct HF m3_).1.2.2⟩ (fun hHeld => ?_)
     clear hK K
     refine nO_ 17 ?_
     exact nP_ (hJ (xv, yv, gx, gy) _ ⟨hx, hy, HS.out, HF.out.swap⟩)
   ·
    refine box_step ?hg (N := 6) ?hd (cs := #[.slice none 0 0, .slice none 0 0, .bool false]) (t := 25) ?hr ?_; (case hd => rfl); (case hg => rfl); (case hr => first | (go_simp; done) | (go_simp; rfl))
    intro gy hg wk hbox hb
    have f_ := Aside0.mk (HF.out.made HS.out.below.size hg hbox hb); have n_ := Aside0.mk (HS.out.next hb); clear HS HF; have HS := n_; have HF := f_; clear n_ f_ hg hbox hb
    refine hK.out _ _ ⟨(FX.oct HF m1_).1.1, (FX.oct HF m1_).1.2.1, (FX.oct HF m1_).1.2.2, (FX.oct HF m2_).1.1, (FX.oct HF m2_).1.2.1, (FX.oct HF m2_).1.2.2⟩ (fun hHeld => ?_)
    clear hK K
    refine nO_ 6 ?_
    refine two_ (i := 1) (j := 4) (Ni := some 15) (Nj := some 5) (mB 8 39) (mB 8 53) rfl rfl rfl rfl (two_of HT_.out (by kernel_rfl)) (by decide) (by decide) (fun K hK => ?_) (fun K hK => ?_)
    ·
     refine goes_ Try.func21 (by kernel_rfl) rfl #[X.val] (by rfl) rfl rfl vL ?_
     with_reducible refine (copied_own (HX.out.next HS.out.below) HS.out.below LX.out.1 LX.out.2).mono ?_
     rintro e wk ⟨xv, rfl, hx, ho, hb⟩; refine ⟨_, rfl, ?_⟩
     have n_ := Aside0.mk (HS.out.call hb ho); have f_ := Aside0.mk (HF.out.next hb); clear HS HF; have HS := n_; have HF := f_; clear n_ f_ ho hb
     refine hK.out _ _ ⟨(FX.oct HF m1_).1.1, (FX.oct HF m1_).1.2.1, (FX.oct HF m1_).1.2.2, (FX.oct HF m2_).1.1, (FX.oct HF m2_).1.2.1, (FX.oct HF m2_).1.2.2⟩ (fun hHeld => ?_)
     clear hK K
     refine nO_ 15 ?_
     refine two_ (i := 3) (j := 4) (Ni := some 17) (Nj := some 5) (mB 8 47) (mB 8 55) rfl rfl rfl rfl (two_of HT_.out (by kernel_rfl)) (by decide) (by decide) (fun K hK => ?_) (fun K hK => ?_)
     ·
      refine goes_ Try.func21 (by kernel_rfl) rfl #[Y.val] (by rfl) rfl rfl vL ?_
      with_reducible refine (copied_own (HY.out.next HS.out.below) HS.out.below LY.out.1 LY.out.2).mono ?_
      rintro e wk ⟨yv, rfl, hy, ho, hb⟩; refine ⟨_, rfl, ?_⟩
      have n_ := Aside0.mk (HS.out.call hb ho); have f_ := Aside0.mk (HF.out.next hb); clear HS HF; have HS := n_; have HF := f_; clear n_ f_ ho hb
      refine hK.out _ _ ⟨(FX.oct HF m1_).1.1, (FX.oct HF m1_).1.2.1, (FX.oct HF m1_).1.2.2, (FX.oct HF m2_).1.1, (FX.oct HF m2_).1.2.1, (FX.oct HF m2_).1.2.2⟩ (fun hHeld => ?_)
      clear hK K
      refine nO_ 17 ?_
      refine one_ (i := 4) (N := some 5) (mB 8 63) rfl rfl (one_of HT_.out (by kernel_rfl)) (by decide) (fun K hK => ?_)
      refine box_step ?hg (N := 5) ?hd (cs := #[.slice none 0 0, .slice none 0 0, .bool false]) (t := 25) ?hr ?_; (case hd => rfl); (case hg => rfl); (case hr => first | (go_simp; done) | (go_simp; rfl))
      intro gx hg wk hbox hb
      have f_ := Aside0.mk (HF.out.made HS.out.below.size hg hbox hb); have n_ := Aside0.mk (HS.out.next hb); clear HS HF; have HS := n_; have HF := f_; clear n_ f_ hg hbox hb
      refine hK.out _ _ ⟨(FX.oct HF m2_).1.1, (FX.oct HF m2_).1.2.1, (FX.oct HF m2_).1.2.2, (FX.oct HF m3_).1.1, (FX.oct HF m3_).1.2.1, (FX.oct HF m3_).1.2.2⟩ (fun hHeld => ?_)
      clear hK K
      refine nO_ 5 ?_
      exact nP_ (hJ (xv, yv, gx, gy) _ ⟨hx, hy, HS.out, HF.out⟩)
     ·
      refine box_step ?hg (N := 5) ?hd (cs := #[.slice none 0 0, .slice none 0 0, .bool false]) (t := 25) ?hr ?_; (case hd => rfl); (case hg => rfl); (case hr => first | (go_simp; done) | (go_simp; rfl))
      intro gx hg wk hbox hb
      have f_ := Aside0.mk (HF.out.made HS.out.below.size hg hbox hb); have n_ := Aside0.mk (HS.out.next hb); clear HS HF; have HS := n_; have HF := f_; clear n_ f_ hg hbox hb
      refine hK.out _ _ ⟨(FX.oct HF m2_).1.1, (FX.oct HF m2_).1.2.1, (FX.oct HF m2_).1.2.2, (FX.oct HF m3_).1.1, (FX.oct HF m3_).1.2.1, (FX.oct HF m3_).1.2.2⟩ (fun hHeld => ?_)
      clear hK K
      refine nO_ 5 ?_
      refine one_ (i := 3) (N := some 17) (mB 8 63) rfl rfl (one_of HT_.out (by kernel_rfl)) (by decide) (fun K hK => ?_)
      refine goes_ Try.func21 (by kernel_rfl) rfl #[Y.val] (by rfl) rfl rfl vL ?_
      with_reducible refine (copied_own (HY.out.next HS.out.below) HS.out.below LY.out.1 LY.out.2).mono ?_
      rintro e wk ⟨yv, rfl, hy, ho, hb⟩; refine ⟨_, rfl, ?_⟩
      have n_ := Aside0.mk (HS.out.call hb ho); have f_ := Aside0.mk (HF.out.next hb); clear HS HF; have HS := n_; have HF := f_; clear n_ f_ ho hb
      refine hK.out _ _ ⟨(FX.oct HF m2_).1.1, (FX.oct HF m2_).1.2.1, (FX.oct HF m2_).1.2.2, (FX.oct HF m3_).1.1, (FX.oct HF m3_).1.2.1, (FX.oct HF m3_).1.2.2⟩ (fun hHeld => ?_)
      clear hK K
      refine nO_ 17 ?_
      exact nP_ (hJ (xv, yv, gx, gy) _ ⟨hx, hy, HS.out, HF.out⟩)
    ·
     refine box_step ?hg (N := 5) ?hd (cs := #[.slice none 0 0, .slice none 0 0, .bool false]) (t := 25) ?hr ?_; (case hd => rfl); (case hg => rfl); (case hr => first | (go_simp; done) | (go_simp; rfl))
     intro gx hg wk hbox hb
     have f_ := Aside0.mk (HF.out.made HS.out.below.size hg hbox hb); have n_ := Aside0.mk (HS.out.next hb); clear HS HF; have HS := n_; have HF := f_; clear n_ f_ hg hbox hb
     refine hK.out _ _ ⟨(FX.oct HF m2_).1.1, (FX.oct HF m2_).1.2.1, (FX.oct HF m2_).1.2.2, (FX.oct HF m3_).1.1, (FX.oct HF m3_).1.2.1, (FX.oct HF m3_).1.2.2⟩ (fun hHeld => ?_)
     clear hK K
     refine nO_ 5 ?_
     refine one_ (i := 1) (N := some 15) (mB 8 55) rfl rfl (one_of HT_.out (by kernel_rfl)) (by decide) (fun K hK => ?_)
     refine goes_ Try.func21 (by kernel_rfl) rfl #[X.val] (by rfl) rfl rfl vL ?_
     with_reducible refine (copied_own (HX.out.next HS.out.below) HS.out.below LX.out.1 LX.out.2).mono ?_
     rintro e wk ⟨xv, rfl, hx, ho, hb⟩; refine ⟨_, rfl, ?_⟩
     have n_ := Aside0.mk (HS.out.call hb ho); have f_ := Aside0.mk (HF.out.next hb); clear HS HF; have HS := n_; have HF := f_; clear n_ f_ ho hb
     refine hK.out _ _ ⟨(FX.oct HF m2_).1.1, (FX.oct HF m2_).1.2.1, (FX.oct HF m2_).1.2.2, (FX.oct HF m3_).1.1, (FX.oct HF m3_).1.2.1, (FX.oct HF m3_).1.2.2⟩ (fun hHeld => ?_)
     clear hK K
     refine nO_ 15 ?_
     refine one_ (i := 3) (N := some 17) (mB 8 63) rfl rfl (one_of HT_.out (by kernel_rfl)) (by decide) (fun K hK => ?_)
     refine goes_ Try.func21 (by kernel_rfl) rfl #[Y.val] (by rfl) rfl rfl vL ?_
     with_reducible refine (copied_own (HY.out.next HS.out.below) HS.out.below LY.out.1 LY.out.2).mono ?_
     rintro e wk ⟨yv, rfl, hy, ho, hb⟩; refine ⟨_, rfl, ?_⟩
     have n_ := Aside0.mk (HS.out.call hb ho); have f_ := Aside0.mk (HF.out.next hb); clear HS HF; have HS := n_; have HF := f_; clear n_ f_ ho hb
     refine hK.out _ _ ⟨(FX.oct HF m2_).1.1, (FX.oct HF m2_).1.2.1, (FX.oct HF m2_).1.2.2, (FX.oct HF m3_).1.1, (FX.oct HF m3_).1.2.1, (FX.oct HF m3_).1.2.2⟩ (fun hHeld => ?_)
     clear hK K
     refine nO_ 17 ?_
     exact nP_ (hJ (xv, yv, gx, gy) _ ⟨hx, hy, HS.out, HF.out⟩)
  rintro ⟨xv, yv, gx, gy⟩ W4 ⟨hx, hy, HS4, HF4⟩
  clear HS HF hHeld
  have HS := Aside0.mk HS4; have HF := Aside0.mk HF4
  have kne := FX.nes HF4; have kne' := fun e => kne (Eq.symm e)
  clear HS4 HF4
  dsimp only at HS HF hx hy kne kne'
  obtain ⟨⟨p0, p1, p2⟩, p3, p4, p5⟩ := FX.oct HF m0_; obtain ⟨⟨q0, q1, q2⟩, q3, q4, q5⟩ := FX.oct HF m1_
  refine nS_ ?_
  refine last_ (i := 6) (N := none) (mB 8 127) rfl rfl (one_of HT_.out (by kernel_rfl)) (by decide) (fun K hK => ?_)
  refine skip_ (w1 := ?_) (by rfl) rfl ?_ ?_
  rotate_left
  ·
   go_simp
   rfl
  refine hK.out _ _ ?_
  clear hK K
  refine last_ (i := 7) (N := none) (mB 8 255) rfl rfl (one_of HT_.out (by kernel_rfl)) (by decide) (fun K hK => ?_)
  refine skip_ (w1 := ?_) (by rfl) rfl ?_ ?_
  rotate_left
  ·
   go_simp
   rfl
  refine hK.out _ _ ?_
  clear hK K
  refine done_ (done_of HT_.out (by kernel_rfl)) ?_
  clear p0 p1 p2 p3 p4 p5 q0 q1 q2 q3 q4 q5 kne kne' HT_ HW_
  unfold OnlyN
  have f1_ := HF.out.put3 (a' := .slice xv.P xv.v.length xv.p) (b' := .slice xv.Q xv.m.length xv.q) (c' := .bool xv.e); have s1_ := OS.box3 (a' := .slice xv.P xv.v.length xv.p) (b' := .slice xv.Q xv.m.length xv.q) (c' := .bool xv.e) HS.out (HF.out.all _ m0_).1 (HF.out.all _ m0_).2 (by decide) (by decide); have f2_ := f1_.swap; have f3_ := Aside0.mk (f2_.put3 (a' := .slice yv.P yv.v.length yv.p) (b' := .slice yv.Q yv.m.length yv.q) (c' := .bool yv.e)); have s3_ := Aside0.mk (OS.box3 (a' := .slice yv.P yv.v.length yv.p) (b' := .slice yv.Q yv.m.length yv.q) (c' := .bool yv.e) s1_ (f2_.all _ m0_).1 (f2_.all _ m0_).2 (by decide) (by decide)); clear HS HF f1_ f2_ s1_; have HS := s3_; have HF := f3_; clear s3_ f3_
  generalize hW5 : ((((((W4.setCell ⟨gx, 0, none⟩ (.slice xv.P xv.v.length xv.p)).setCell ⟨gx, 1, none⟩ (.slice xv.Q xv.m.length xv.q)).setCell ⟨gx, 2, none⟩ (.bool xv.e)).setCell ⟨gy, 0, none⟩ (.slice yv.P yv.v.length yv.p)).setCell ⟨gy, 1, none⟩ (.slice yv.Q yv.m.length yv.q)).setCell ⟨gy, 2, none⟩ (.bool yv.e)) = W5 at HS HF ⊢; clear hW5
  have OXV := Aside0.mk (GX.out.same hx)
  have OYV := Aside0.mk (GY.out.same hy)
  have EX : Aside0 (xv.o = X.o ∧ xv.v.length < 4611686018427387904 ∧ xv.m.length < 4611686018427387904) := ⟨⟨hx, by have := fit_lens OXV.out.1; omega, by have := fit_lens OXV.out.1; omega⟩⟩
  have EY : Aside0 (yv.o = Y.o ∧ yv.v.length < 4611686018427387904 ∧ yv.m.length < 4611686018427387904) := ⟨⟨hy, by have := fit_lens OYV.out.1; omega, by have := fit_lens OYV.out.1; omega⟩⟩
  clear hx hy LX LY
  go_upto_region 4 with fail
  have n_ := Aside0.mk (HS.out.next (below_drew (Below.refl _ _))); have f_ := Aside0.mk (HF.out.next (below_drew (Below.refl _ _))); clear HS HF; have HS := n_; have HF := f_; clear n_ f_
  refine startN_ (n := 10) (S := fun w' => w'.cell? ⟨gx, 0, none⟩ = some (.slice xv.P xv.v.length xv.p) ∧ w'.cell? ⟨gx, 1, none⟩ = some (.slice xv.Q xv.m.length xv.q) ∧ w'.cell? ⟨gx, 2, none⟩ = some (.bool xv.e) ∧ w'.cell? ⟨gy, 0, none⟩ = some (.slice yv.P yv.v.length yv.p) ∧ w'.cell? ⟨gy, 1, none⟩ = some (.slice yv.Q yv.m.length yv.q) ∧ w'.cell? ⟨gy, 2, none⟩ = some (.bool yv.e)) (ds := [8, 9]) (mB 10 0) (by kernel_rfl) rfl (by kernel_rfl) ⟨(FX.oct HF m1_).1.1, (FX.oct HF m1_).1.2.1, (FX.oct HF m1_).1.2.2, (FX.oct HF m0_).1.1, (FX.oct HF m0_).1.2.1, (FX.oct HF m0_).1.2.2⟩ (fun hHeld => ?_)
  refine with_tabW octOrders_tab4 octOrders_bits4 (fun HT_ HW_ => ?_)
  generalize hWd : World.drew _ = Wd at HS HF hHeld ⊢; clear hWd
  refine tV_ 0 18 (mB 10 1) HT_ HW_ hHeld ?_
  refine tV_ 1 19 (mB 10 3) HT_ HW_ hHeld ?_
  refine tV_ 3 21 (mB 10 11) HT_ HW_ hHeld ?_
  refine tV_ 4 22 (mB 10 27) HT_ HW_ hHeld ?_
  refine join_ (σ := OV × OV × Nat × Nat) 2 (mB 10 255) (fun s_ => [(20, .agg #[.slice s_.1.P s_.1.v.length s_.1.p, .slice s_.1.Q s_.1.m.length s_.1.q, .bool s_.1.e]), (23, .agg #[.slice s_.2.1.P s_.2.1.v.length s_.2.1.p, .slice s_.2.1.Q s_.2.1.m.length s_.2.1.q, .bool s_.2.1.e]), (7, .pointer (some ⟨s_.2.2.1, 0, none⟩)), (8, .pointer (some ⟨s_.2.2.2, 0, none⟩))]) (fun s_ w' => (s_.1.o = joinF X.v xv.m xv.e yv.m yv.e) ∧ (s_.2.1.o = meetF X.v xv.m xv.e yv.m yv.e) ∧ OS w (s_.2.1 :: s_.1 :: [yv, xv]) w' ∧ FX w ((s_.2.2.1, .cells #[.slice none 0 0, .slice none 0 0, .bool false] 25 (0, 0)) :: (s_.2.2.2, .cells #[.slice none 0 0, .slice none 0 0, .bool false] 25 (0, 0)) :: [(gy, yv.cells), (gx, xv.cells), (ga, X.cells), (gb, Y.cells)]) w') ?_ ?_
  rotate_left
  ·
   intro hJ
   refine three_ (i := 2) (j := 6) (k := 7) (Ni := some 20) (Nj := some 7) (Nk := some 8) (mB 10 31) (mB 10 91) (mB 10 155) rfl rfl rfl rfl rfl rfl (three_of HT_.out (by kernel_rfl)) (by decide) (by decide) (by decide) (fun K hK => ?_) (fun K hK => ?_) (fun K hK => ?_)
   ·
    refine goes_ Try.func36 (by kernel_rfl) rfl #[xv.val, yv.val] (by rfl) rfl rfl vL ?_
    with_reducible refine (join_own (HS.out.own _ m1_).oc (HS.out.own _ m0_).oc (Below.refl _ _) OXV.out OYV.out).mono ?_
    rintro e wk ⟨jv, rfl, hj, ho, hb⟩; refine ⟨_, rfl, ?_⟩
    have n_ := Aside0.mk (HS.out.call hb ho); have f_ := Aside0.mk (HF.out.next hb); clear HS HF; have HS := n_; have HF := f_; clear n_ f_ ho hb
    refine hK.out _ _ ⟨(FX.oct HF m1_).1.1, (FX.oct HF m1_).1.2.1, (FX.oct HF m1_).1.2.2, (FX.oct HF m0_).1.1, (FX.oct HF m0_).1.2.1, (FX.oct HF m0_).1.2.2⟩ (fun hHeld => ?_)
    clear hK K
    refine nO_ 20 ?_
    refine three_ (i := 5) (j := 6) (k := 7) (Ni := some 23) (Nj := some 7) (Nk := some 8) (mB 10 63) (mB 10 95) (mB 10 159) rfl rfl rfl rfl rfl rfl (three_of HT_.out (by kernel_rfl)) (by decide) (by decide) (by decide) (fun K hK => ?_) (fun K hK => ?_) (fun K hK => ?_)
    ·
     refine goes_ Try.func37 (by kernel_rfl) rfl #[xv.val, yv.val] (by rfl) rfl rfl vL ?_
     with_reducible refine (meet_own (HS.out.own _ m2_).oc (HS.out.own _ m1_).oc (Below.refl _ _) OXV.out OYV.out).mono ?_
     rintro e wk ⟨mv, rfl, hm, ho, hb⟩; refine ⟨_, rfl, ?_⟩
     have n_ := Aside0.mk (HS.out.call hb ho); have f_ := Aside0.mk (HF.out.next hb); clear HS HF; have HS := n_; have HF := f_; clear n_ f_ ho hb
     refine hK.out _ _ ⟨(FX.oct HF m1_).1.1, (FX.oct HF m1_).1.2.1, (FX.oct HF m1_).1.2.2, (FX.oct HF m0_).1.1, (FX.oct HF m0_).1.2.1, (FX.oct HF m0_).1.2.2⟩ (fun hHeld => ?_)
     clear hK K
     refine nO_ 23 ?_
     refine two_ (i := 6) (j := 7) (Ni := some 7) (Nj := some 8) (mB 10 127) (mB 10 191) rfl rfl rfl rfl (two_of HT_.out (by kernel_rfl)) (by decide) (by decide) (fun K hK => ?_) (fun K hK => ?_)
     ·
      refine box_step ?hg (N := 7) ?hd (cs := #[.slice none 0 0, .slice none 0 0, .bool false]) (t := 25) ?hr ?_; (case hd => rfl); (case hg => rfl); (case hr => first | (go_simp; done) | (go_simp; rfl))
      intro gj hg wk hbox hb
      have f_ := Aside0.mk (HF.out.made HS.out.below.size hg hbox hb); have n_ := Aside0.mk (HS.out.next hb); clear HS HF; have HS := n_; have HF := f_; clear n_ f_ hg hbox hb
      refine hK.out _ _ ⟨(FX.oct HF m2_).1.1, (FX.oct HF m2_).1.2.1, (FX.oct HF m2_).1.2.2, (FX.oct HF m1_).1.1, (FX.oct HF m1_).1.2.1, (FX.oct HF m1_).1.2.2⟩ (fun hHeld => ?_)
      clear hK K
      refine nO_ 7 ?_
      refine one_ (i := 7) (N := some 8) (mB 10 255) rfl rfl (one_of HT_.out (by kernel_rfl)) (by decide) (fun K hK => ?_)
      refine box_step ?hg (N := 8) ?hd (cs := #[.slice none 0 0, .slice none 0 0, .bool false]) (t := 25) ?hr ?_; (case hd => rfl); (case hg => rfl); (case hr => first | (go_simp; done) | (go_simp; rfl))
      intro gm hg wk hbox hb
      have f_ := Aside0.mk (HF.out.made HS.out.below.size hg hbox hb); have n_ := Aside0.mk (HS.out.next hb); clear HS HF; have HS := n_; have HF := f_; clear n_ f_ hg hbox hb
      refine hK.out _ _ ⟨(FX.oct HF m3_).1.1, (FX.oct HF m3_).1.2.1, (FX.oct HF m3_).1.2.2, (FX.oct HF m2_).1.1, (FX.oct HF m2_).1.2.1, (FX.oct HF m2_).1.2.2⟩ (fun hHeld => ?_)
      clear hK K
      refine nO_ 8 ?_
      exact nP_ (hJ (jv, mv, gj, gm) _ ⟨hj, hm, HS.out, HF.out.swap⟩)
     ·
      refine box_step ?hg (N := 8) ?hd (cs := #[.slice none 0 0, .slice none 0 0, .bool false]) (t := 25) ?hr ?_; (case hd => rfl); (case hg => rfl); (case hr => first | (go_simp; done) | (go_simp; rfl))
      intro gm hg wk hbox hb
      have f_ := Aside0.mk (HF.out.made HS.out.below.size hg hbox hb); have n_ := Aside0.mk (HS.out.next hb); clear HS HF; have HS := n_; have HF := f_; clear n_ f_ hg hbox hb
      refine hK.out _ _ ⟨(FX.oct HF m2_).1.1, (FX.oct HF m2_).1.2.1, (FX.oct HF m2_).1.2.2, (FX.oct HF m1_).1.1, (FX.oct HF m1_).1.2.1, (FX.oct HF m1_).1.2.2⟩ (fun hHeld => ?_)
      clear hK K
      refine nO_ 8 ?_
      refine one_ (i := 6) (N := some 7) (mB 10 255) rfl rfl (one_of HT_.out (by kernel_rfl)) (by decide) (fun K hK => ?_)
      refine box_step ?hg (N := 7) ?hd (cs := #[.slice none 0 0, .slice none 0 0, .bool false]) (t := 25) ?hr ?_; (case hd => rfl); (case hg => rfl); (case hr => first | (go_simp; done) | (go_simp; rfl))
      intro gj hg wk hbox hb
      have f_ := Aside0.mk (HF.out.made HS.out.below.size hg hbox hb); have n_ := Aside0.mk (HS.out.next hb); clear HS HF; have HS := n_; have HF := f_; clear n_ f_ hg hbox hb
      refine hK.out _ _ ⟨(FX.oct HF m3_).1.1, (FX.oct HF m3_).1.2.1, (FX.oct HF m3_).1.2.2, (FX.oct HF m2_).1.1, (FX.oct HF m2_).1.2.1, (FX.oct HF m2_).1.2.2⟩ (fun hHeld => ?_)
      clear hK K
      refine nO_ 7 ?_
      exact nP_ (hJ (jv, mv, gj, gm) _ ⟨hj, hm, HS.out, HF.out⟩)
    ·
     refine box_step ?hg (N := 7) ?hd (cs := #[.slice none 0 0, .slice none 0 0, .bool false]) (t := 25) ?hr ?_; (case hd => rfl); (case hg => rfl); (case hr => first | (go_simp; done) | (go_simp; rfl))
     intro gj hg wk hbox hb
     have f_ := Aside0.mk (HF.out.made HS.out.below.size hg hbox hb); have n_ := Aside0.mk (HS.out.next hb); clear HS HF; have HS := n_; have HF := f_; clear n_ f_ hg hbox hb
     refine hK.out _ _ ⟨(FX.oct HF m2_).1.1, (FX.oct HF m2_).1.2.1, (FX.oct HF m2_).1.2.2, (FX.oct HF m1_).1.1, (FX.oct HF m1_).1.2.1, (FX.oct HF m1_).1.2.2⟩ (fun hHeld => ?_)
     clear hK K
     refine nO_ 7 ?_
     refine two_ (i := 5) (j := 7) (Ni := some 23) (Nj := some 8) (mB 10 127) (mB 10 223) rfl rfl rfl rfl (two_of HT_.out (by kernel_rfl)) (by decide) (by decide) (fun K hK => ?_) (fun K hK => ?_)
     ·
      refine goes_ Try.func37 (by kernel_rfl) rfl #[xv.val, yv.val] (by rfl) rfl rfl vL ?_
      with_reducible refine (meet_own (HS.out.own _ m2_).oc (HS.out.own _ m1_).oc (Below.refl _ _) OXV.out OYV.out).mono ?_
      rintro e wk ⟨mv, rfl, hm, ho, hb⟩; refine ⟨_, rfl, ?_⟩
      have n_ := Aside0.mk (HS.out.call hb ho); have f_ := Aside0.mk (HF.out.next hb); clear HS HF; have HS := n_; have HF := f_; clear n_ f_ ho hb
      refine hK.out _ _ ⟨(FX.oct HF m2_).1.1, (FX.oct HF m2_).1.2.1, (FX.oct HF m2_).1.2.2, (FX.oct HF m1_).1.1, (FX.oct HF m1_).1.2.1, (FX.oct HF m1_).1.2.2⟩ (fun hHeld => ?_)
      clear hK K
      refine nO_ 23 ?_
      refine one_ (i := 7) (N := some 8) (mB 10 255) rfl rfl (one_of HT_.out (by kernel_rfl)) (by decide) (fun K hK => ?_)
      refine box_step ?hg (N := 8) ?hd (cs := #[.slice none 0 0, .slice none 0 0, .bool false]) (t := 25) ?hr ?_; (case hd => rfl); (case hg => rfl); (case hr => first | (go_simp; done) | (go_simp; rfl))
      intro gm hg wk hbox hb
      have f_ := Aside0.mk (HF.out.made HS.out.below.size hg hbox hb); have n_ := Aside0.mk (HS.out.next hb); clear HS HF; have HS := n_; have HF := f_; clear n_ f_ hg hbox hb
      refine hK.out _ _ ⟨(FX.oct HF m3_).1.1, (FX.oct HF m3_).1.2.1, (FX.oct HF m3_).1.2.2, (FX.oct HF m2_).1.1, (FX.oct HF m2_).1.2.1, (FX.oct HF m2_).1.2.2⟩ (fun hHeld => ?_)
      clear hK K
      refine nO_ 8 ?_
      exact nP_ (hJ (jv, mv, gj, gm) _ ⟨hj, hm, HS.out, HF.out.swap⟩)
     ·
      refine box_step ?hg (N := 8) ?hd (cs := #[.slice none 0 0, .slice none 0 0, .bool false]) (t := 25) ?hr ?_; (case hd => rfl); (case hg => rfl); (case hr => first | (go_simp; done) | (go_simp; rfl))
      intro gm hg wk hbox hb
      have f_ := Aside0.mk (HF.out.made HS.out.below.size hg hbox hb); have n_ := Aside0.mk (HS.out.next hb); clear HS HF; have HS := n_; have HF := f_; clear n_ f_ hg hbox hb
      refine hK.out _ _ ⟨(FX.oct HF m3_).1.1, (FX.oct HF m3_).1.2.1, (FX.oct HF m3_).1.2.2, (FX.oct HF m2_).1.1, (FX.oct HF m2_).1.2.1, (FX.oct HF m2_).1.2.2⟩ (fun hHeld => ?_)
      clear hK K
      refine nO_ 8 ?_
      refine one_ (i := 5) (N := some 23) (mB 10 255) rfl rfl (one_of HT_.out (by kernel_rfl)) (by decide) (fun K hK => ?_)
      refine goes_ Try.func37 (by kernel_rfl) rfl #[xv.val, yv.val] (by rfl) rfl rfl vL ?_
      with_reducible refine (meet_own (HS.out.own _ m2_).oc (HS.out.own _ m1_).oc (Below.refl _ _) OXV.out OYV.out).mono ?_
      rintro e wk ⟨mv, rfl, hm, ho, hb⟩; refine ⟨_, rfl, ?_⟩
      have n_ := Aside0.mk (HS.out.call hb ho); have f_ := Aside0.mk (HF.out.next hb); clear HS HF; have HS := n_; have HF := f_; clear n_ f_ ho hb
      refine hK.out _ _ ⟨(FX.oct HF m3_).1.1, (FX.oct HF m3_).1.2.1, (FX.oct HF m3_).1.2.2, (FX.oct HF m2_).1.1, (FX.oct HF m2_).1.2.1, (FX.oct HF m2_).1.2.2⟩ (fun hHeld => ?_)
      clear hK K
      refine nO_ 23 ?_
      exact nP_ (hJ (jv, mv, gj, gm) _ ⟨hj, hm, HS.out, HF.out.swap⟩)
    ·
     refine box_step ?hg (N := 8) ?hd (cs := #[.slice none 0 0, .slice none 0 0, .bool false]) (t := 25) ?hr ?_; (case hd => rfl); (case hg => rfl); (case hr => first | (go_simp; done) | (go_simp; rfl))
     intro gm hg wk hbox hb
     have f_ := Aside0.mk (HF.out.made HS.out.below.size hg hbox hb); have n_ := Aside0.mk (HS.out.next hb); clear HS HF; have HS := n_; have HF := f_; clear n_ f_ hg hbox hb
     refine hK.out _ _ ⟨(FX.oct HF m2_).1.1, (FX.oct HF m2_).1.2.1, (FX.oct HF m2_).1.2.2, (FX.oct HF m1_).1.1, (FX.oct HF m1_).1.2.1, (FX.oct HF m1_).1.2.2⟩ (fun hHeld => ?_)
     clear hK K
     refine nO_ 8 ?_
     refine two_ (i := 5) (j := 6) (Ni := some 23) (Nj := some 7) (mB 10 191) (mB 10 223) rfl rfl rfl rfl (two_of HT_.out (by kernel_rfl)) (by decide) (by decide) (fun K hK => ?_) (fun K hK => ?_)
     ·
      refine goes_ Try.func37 (by kernel_rfl) rfl #[xv.val, yv.val] (by rfl) rfl rfl vL ?_
      with_reducible refine (meet_own (HS.out.own _ m2_).oc (HS.out.own _ m1_).oc (Below.refl _ _) OXV.out OYV.out).mono ?_
      rintro e wk ⟨mv, rfl, hm, ho, hb⟩; refine ⟨_, rfl, ?_⟩
      have n_ := Aside0.mk (HS.out.call hb ho); have f_ := Aside0.mk (HF.out.next hb); clear HS HF; have HS := n_; have HF := f_; clear n_ f_ ho hb
      refine hK.out _ _ ⟨(FX.oct HF m2_).1.1, (FX.oct HF m2_).1.2.1, (FX.oct HF m2_).1.2.2, (FX.oct HF m1_).1.1, (FX.oct HF m1_).1.2.1, (FX.oct HF m1_).1.2.2⟩ (fun hHeld => ?_)
      clear hK K
      refine nO_ 23 ?_
      refine one_ (i := 6) (N := some 7) (mB 10 255) rfl rfl (one_of HT_.out (by kernel_rfl)) (by decide) (fun K hK => ?_)
      refine box_step ?hg (N := 7) ?hd (cs := #[.slice none 0 0, .slice none 0 0, .bool false]) (t := 25) ?hr ?_; (case hd => rfl); (case hg => rfl); (case hr => first | (go_simp; done) | (go_simp; rfl))
      intro gj hg wk hbox hb
      have f_ := Aside0.mk (HF.out.made HS.out.below.size hg hbox hb); have n_ := Aside0.mk (HS.out.next hb); clear HS HF; have HS := n_; have HF := f_; clear n_ f_ hg hbox hb
      refine hK.out _ _ ⟨(FX.oct HF m3_).1.1, (FX.oct HF m3_).1.2.1, (FX.oct HF m3_).1.2.2, (FX.oct HF m2_).1.1, (FX.oct HF m2_).1.2.1, (FX.oct HF m2_).1.2.2⟩ (fun hHeld => ?_)
      clear hK K
      refine nO_ 7 ?_
      exact nP_ (hJ (jv, mv, gj, gm) _ ⟨hj, hm, HS.out, HF.out⟩)
     ·
      refine box_step ?hg (N := 7) ?hd (cs := #[.slice none 0 0, .slice none 0 0, .bool false]) (t := 25) ?hr ?_; (case hd => rfl); (case hg => rfl); (case hr => first | (go_simp; done) | (go_simp; rfl))
      intro gj hg wk hbox hb
      have f_ := Aside0.mk (HF.out.made HS.out.below.size hg hbox hb); have n_ := Aside0.mk (HS.out.next hb); clear HS HF; have HS := n_; have HF := f_; clear n_ f_ hg hbox hb
      refine hK.out _ _ ⟨(FX.oct HF m3_).1.1, (FX.oct HF m3_).1.2.1, (FX.oct HF m3_).1.2.2, (FX.oct HF m2_).1.1, (FX.oct HF m2_).1.2.1, (FX.oct HF m2_).1.2.2⟩ (fun hHeld => ?_)
      clear hK K
      refine nO_ 7 ?_
      refine one_ (i := 5) (N := some 23) (mB 10 255) rfl rfl (one_of HT_.out (by kernel_rfl)) (by decide) (fun K hK => ?_)
      refine goes_ Try.func37 (by kernel_rfl) rfl #[xv.val, yv.val] (by rfl) rfl rfl vL ?_
      with_reducible refine (meet_own (HS.out.own _ m2_).oc (HS.out.own _ m1_).oc (Below.refl _ _) OXV.out OYV.out).mono ?_
      rintro e wk ⟨mv, rfl, hm, ho, hb⟩; refine ⟨_, rfl, ?_⟩
      have n_ := Aside0.mk (HS.out.call hb ho); have f_ := Aside0.mk (HF.out.next hb); clear HS HF; have HS := n_; have HF := f_; clear n_ f_ ho hb
      refine hK.out _ _ ⟨(FX.oct HF m3_).1.1, (FX.oct HF m3_).1.2.1, (FX.oct HF m3_).1.2.2, (FX.oct HF m2_).1.1, (FX.oct HF m2_).1.2.1, (FX.oct HF m2_).1.2.2⟩ (fun hHeld => ?_)
      clear hK K
      refine nO_ 23 ?_
      exact nP_ (hJ (jv, mv, gj, gm) _ ⟨hj, hm, HS.out, HF.out⟩)
   ·
    refine box_step ?hg (N := 7) ?hd (cs := #[.slice none 0 0, .slice none 0 0, .bool false]) (t := 25) ?hr ?_; (case hd => rfl); (case hg => rfl); (case hr => first | (go_simp; done) | (go_simp; rfl))
    intro gj hg wk hbox hb
    have f_ := Aside0.mk (HF.out.made HS.out.below.size hg hbox hb); have n_ := Aside0.mk (HS.out.next hb); clear HS HF; have HS := n_; have HF := f_; clear n_ f_ hg hbox hb
    refine hK.out _ _ ⟨(FX.oct HF m2_).1.1, (FX.oct HF m2_).1.2.1, (FX.oct HF m2_).1.2.2, (FX.oct HF m1_).1.1, (FX.oct HF m1_).1.2.1, (FX.oct HF m1_).1.2.2⟩ (fun hHeld => ?_)
    clear hK K
    refine nO_ 7 ?_
    refine two_ (i := 2) (j := 7) (Ni := some 20) (Nj := some 8) (mB 10 95) (mB 10 219) rfl rfl rfl rfl (two_of HT_.out (by kernel_rfl)) (by decide) (by decide) (fun K hK => ?_) (fun K hK => ?_)
    ·
     refine goes_ Try.func36 (by kernel_rfl) rfl #[xv.val, yv.val] (by rfl) rfl rfl vL ?_
     with_reducible refine (join_own (HS.out.own _ m1_).oc (HS.out.own _ m0_).oc (Below.refl _ _) OXV.out OYV.out).mono ?_
     rintro e wk ⟨jv, rfl, hj, ho, hb⟩; refine ⟨_, rfl, ?_⟩
     have n_ := Aside0.mk (HS.out.call hb ho); have f_ := Aside0.mk (HF.out.next hb); clear HS HF; have HS := n_; have HF := f_; clear n_ f_ ho hb
     refine hK.out _ _ ⟨(FX.oct HF m2_).1.1, (FX.oct HF m2_).1.2.1, (FX.oct HF m2_).1.2.2, (FX.oct HF m1_).1.1, (FX.oct HF m1_).1.2.1, (FX.oct HF m1_).1.2.2⟩ (fun hHeld => ?_)
     clear hK K
     refine nO_ 20 ?_
     refine two_ (i := 5) (j := 7) (Ni := some 23) (Nj := some 8) (mB 10 127) (mB 10 223) rfl rfl rfl rfl (two_of HT_.out (by kernel_rfl)) (by decide) (by decide) (fun K hK => ?_) (fun K hK => ?_)
     ·
      refine goes_ Try.func37 (by kernel_rfl) rfl #[xv.val, yv.val] (by rfl) rfl rfl vL ?_
      with_reducible refine (meet_own (HS.out.own _ m2_).oc (HS.out.own _ m1_).oc (Below.refl _ _) OXV.out OYV.out).mono ?_
      rintro e wk ⟨mv, rfl, hm, ho, hb⟩; refine ⟨_, rfl, ?_⟩
      have n_ := Aside0.mk (HS.out.call hb ho); have f_ := Aside0.mk (HF.out.next hb); clear HS HF; have HS := n_; have HF := f_; clear n_ f_ ho hb
      refine hK.out _ _ ⟨(FX.oct HF m2_).1.1, (FX.oct HF m2_).1.2.1, (FX.oct HF m2_).1.2.2, (FX.oct HF m1_).1.1, (FX.oct HF m1_).1.2.1, (FX.oct HF m1_).1.2.2⟩ (fun hHeld => ?_)
      clear hK K
      refine nO_ 23 ?_
      refine one_ (i := 7) (N := some 8) (mB 10 255) rfl rfl (one_of HT_.out (by kernel_rfl)) (by decide) (fun K hK => ?_)
      refine box_step ?hg (N := 8) ?hd (cs := #[.slice none 0 0, .slice none 0 0, .bool false]) (t := 25) ?hr ?_; (case hd => rfl); (case hg => rfl); (case hr => first | (go_simp; done) | (go_simp; rfl))
      intro gm hg wk hbox hb
      have f_ := Aside0.mk (HF.out.made HS.out.below.size hg hbox hb); have n_ := Aside0.mk (HS.out.next hb); clear HS HF; have HS := n_; have HF := f_; clear n_ f_ hg hbox hb
      refine hK.out _ _ ⟨(FX.oct HF m3_).1.1, (FX.oct HF m3_).1.2.1, (FX.oct HF m3_).1.2.2, (FX.oct HF m2_).1.1, (FX.oct HF m2_).1.2.1, (FX.oct HF m2_).1.2.2⟩ (fun hHeld => ?_)
      clear hK K
      refine nO_ 8 ?_
      exact nP_ (hJ (jv, mv, gj, gm) _ ⟨hj, hm, HS.out, HF.out.swap⟩)
     ·
      refine box_step ?hg (N := 8) ?hd (cs := #[.slice none 0 0, .slice none 0 0, .bool false]) (t := 25) ?hr ?_; (case hd => rfl); (case hg => rfl); (case hr => first | (go_simp; done) | (go_simp; rfl))
      intro gm hg wk hbox hb
      have f_ := Aside0.mk (HF.out.made HS.out.below.size hg hbox hb); have n_ := Aside0.mk (HS.out.next hb); clear HS HF; have HS := n_; have HF := f_; clear n_ f_ hg hbox hb
      refine hK.out _ _ ⟨(FX.oct HF m3_).1.1, (FX.oct HF m3_).1.2.1, (FX.oct HF m3_).1.2.2, (FX.oct HF m2_).1.1, (FX.oct HF m2_).1.2.1, (FX.oct HF m2_).1.2.2⟩ (fun hHeld => ?_)
      clear hK K
      refine nO_ 8 ?_
      refine one_ (i := 5) (N := some 23) (mB 10 255) rfl rfl (one_of HT_.out (by kernel_rfl)) (by decide) (fun K hK => ?_)
      refine goes_ Try.func37 (by kernel_rfl) rfl #[xv.val, yv.val] (by rfl) rfl rfl vL ?_
      with_reducible refine (meet_own (HS.out.own _ m2_).oc (HS.out.own _ m1_).oc (Below.refl _ _) OXV.out OYV.out).mono ?_
      rintro e wk ⟨mv, rfl, hm, ho, hb⟩; refine ⟨_, rfl, ?_⟩
      have n_ := Aside0.mk (HS.out.call hb ho); have f_ := Aside0.mk (HF.out.next hb); clear HS HF; have HS := n_; have HF := f_; clear n_ f_ ho hb
      refine hK.out _ _ ⟨(FX.oct HF m3_).1.1, (FX.oct HF m3_).1.2.1, (FX.oct HF m3_).1.2.2, (FX.oct HF m2_).1.1, (FX.oct HF m2_).1.2.1, (FX.oct HF m2_).1.2.2⟩ (fun hHeld => ?_)
      clear hK K
      refine nO_ 23 ?_
      exact nP_ (hJ (jv, mv, gj, gm) _ ⟨hj, hm, HS.out, HF.out.swap⟩)
    ·
     refine box_step ?hg (N := 8) ?hd (cs := #[.slice none 0 0, .slice none 0 0, .bool false]) (t := 25) ?hr ?_; (case hd => rfl); (case hg => rfl); (case hr => first | (go_simp; done) | (go_simp; rfl))
     intro gm hg wk hbox hb
     have f_ := Aside0.mk (HF.out.made HS.out.below.size hg hbox hb); have n_ := Aside0.mk (HS.out.next hb); clear HS HF; have HS := n_; have HF := f_; clear n_ f_ hg hbox hb
     refine hK.out _ _ ⟨(FX.oct HF m3_).1.1, (FX.oct HF m3_).1.2.1, (FX.oct HF m3_).1.2.2, (FX.oct HF m2_).1.1, (FX.oct HF m2_).1.2.1, (FX.oct HF m2_).1.2.2⟩ (fun hHeld => ?_)
     clear hK K
     refine nO_ 8 ?_
     refine one_ (i := 2) (N := some 20) (mB 10 223) rfl rfl (one_of HT_.out (by kernel_rfl)) (by decide) (fun K hK => ?_)
     refine goes_ Try.func36 (by kernel_rfl) rfl #[xv.val, yv.val] (by rfl) rfl rfl vL ?_
     with_reducible refine (join_own (HS.out.own _ m1_).oc (HS.out.own _ m0_).oc (Below.refl _ _) OXV.out OYV.out).mono ?_
     rintro e wk ⟨jv, rfl, hj, ho, hb⟩; refine ⟨_, rfl, ?_⟩
     have n_ := Aside0.mk (HS.out.call hb ho); have f_ := Aside0.mk (HF.out.next hb); clear HS HF; have HS := n_; have HF := f_; clear n_ f_ ho hb
     refine hK.out _ _ ⟨(FX.oct HF m3_).1.1, (FX.oct HF m3_).1.2.1, (FX.oct HF m3_).1.2.2, (FX.oct HF m2_).1.1, (FX.oct HF m2_).1.2.1, (FX.oct HF m2_).1.2.2⟩ (fun hHeld => ?_)
     clear hK K
     refine nO_ 20 ?_
     refine one_ (i := 5) (N := some 23) (mB 10 255) rfl rfl (one_of HT_.out (by kernel_rfl)) (by decide) (fun K hK => ?_)
     refine goes_ Try.func37 (by kernel_rfl) rfl #[xv.val, yv.val] (by rfl) rfl rfl vL ?_
     with_reducible refine (meet_own (HS.out.own _ m2_).oc (HS.out.own _ m1_).oc (Below.refl _ _) OXV.out OYV.out).mono ?_
     rintro e wk ⟨mv, rfl, hm, ho, hb⟩; refine ⟨_, rfl, ?_⟩
     have n_ := Aside0.mk (HS.out.call hb ho); have f_ := Aside0.mk (HF.out.next hb); clear HS HF; have HS := n_; have HF := f_; clear n_ f_ ho hb
     refine hK.out _ _ ⟨(FX.oct HF m3_).1.1, (FX.oct HF m3_).1.2.1, (FX.oct HF m3_).1.2.2, (FX.oct HF m2_).1.1, (FX.oct HF m2_).1.2.1, (FX.oct HF m2_).1.2.2⟩ (fun hHeld => ?_)
     clear hK K
     refine nO_ 23 ?_
     exact nP_ (hJ (jv, mv, gj, gm) _ ⟨hj, hm, HS.out, HF.out.swap⟩)
   ·
    refine box_step ?hg (N := 8) ?hd (cs := #[.slice none 0 0, .slice none 0 0, .bool false]) (t := 25) ?hr ?_; (case hd => rfl); (case hg => rfl); (case hr => first | (go_simp; done) | (go_simp; rfl))
    intro gm hg wk hbox hb
    have f_ := Aside0.mk (HF.out.made HS.out.below.size hg hbox hb); have n_ := Aside0.mk (HS.out.next hb); clear HS HF; have HS := n_; have HF := f_; clear n_ f_ hg hbox hb
    refine hK.out _ _ ⟨(FX.oct HF m2_).1.1, (FX.oct HF m2_).1.2.1, (FX.oct HF m2_).1.2.2, (FX.oct HF m1_).1.1, (FX.oct HF m1_).1.2.1, (FX.oct HF m1_).1.2.2⟩ (fun hHeld => ?_)
    clear hK K
    refine nO_ 8 ?_
    refine two_ (i := 2) (j := 6) (Ni := some 20) (Nj := some 7) (mB 10 159) (mB 10 219) rfl rfl rfl rfl (two_of HT_.out (by kernel_rfl)) (by decide) (by decide) (fun K hK => ?_) (fun K hK => ?_)
    ·
     refine goes_ Try.func36 (by kernel_rfl) rfl #[xv.val, yv.val] (by rfl) rfl rfl vL ?_
     with_reducible refine (join_own (HS.out.own _ m1_).oc (HS.out.own _ m0_).oc (Below.refl _ _) OXV.out OYV.out).mono ?_
     rintro e wk ⟨jv, rfl, hj, ho, hb⟩; refine ⟨_, rfl, ?_⟩
     have n_ := Aside0.mk (HS.out.call hb ho); have f_ := Aside0.mk (HF.out.next hb); clear HS HF; have HS := n_; have HF := f_; clear n_ f_ ho hb
     refine hK.out _ _ ⟨(FX.oct HF m2_).1.1, (FX.oct HF m2_).1.2.1, (FX.oct HF m2_).1.2.2, (FX.oct HF m1_).1.1, (FX.oct HF m1_).1.2.1, (FX.oct HF m1_).1.2.2⟩ (fun hHeld => ?_)
     clear hK K
     refine nO_ 20 ?_
     refine two_ (i := 5) (j := 6) (Ni := some 23) (Nj := some 7) (mB 10 191) (mB 10 223) rfl rfl rfl rfl (two_of HT_.out (by kernel_rfl)) (by decide) (by decide) (fun K hK => ?_) (fun K hK => ?_)
     ·
      refine goes_ Try.func37 (by kernel_rfl) rfl #[xv.val, yv.val] (by rfl) rfl rfl vL ?_
      with_reducible refine (meet_own (HS.out.own _ m2_).oc (HS.out.own _ m1_).oc (Below.refl _ _) OXV.out OYV.out).mono ?_
      rintro e wk ⟨mv, rfl, hm, ho, hb⟩; refine ⟨_, rfl, ?_⟩
      have n_ := Aside0.mk (HS.out.call hb ho); have f_ := Aside0.mk (HF.out.next hb); clear HS HF; have HS := n_; have HF := f_; clear n_ f_ ho hb
      refine hK.out _ _ ⟨(FX.oct HF m2_).1.1, (FX.oct HF m2_).1.2.1, (FX.oct HF m2_).1.2.2, (FX.oct HF m1_).1.1, (FX.oct HF m1_).1.2.1, (FX.oct HF m1_).1.2.2⟩ (fun hHeld => ?_)
      clear hK K
      refine nO_ 23 ?_
      refine one_ (i := 6) (N := some 7) (mB 10 255) rfl rfl (one_of HT_.out (by kernel_rfl)) (by decide) (fun K hK => ?_)
      refine box_step ?hg (N := 7) ?hd (cs := #[.slice none 0 0, .slice none 0 0, .bool false]) (t := 25) ?hr ?_; (case hd => rfl); (case hg => rfl); (case hr => first | (go_simp; done) | (go_simp; rfl))
      intro gj hg wk hbox hb
      have f_ := Aside0.mk (HF.out.made HS.out.below.size hg hbox hb); have n_ := Aside0.mk (HS.out.next hb); clear HS HF; have HS := n_; have HF := f_; clear n_ f_ hg hbox hb
      refine hK.out _ _ ⟨(FX.oct HF m3_).1.1, (FX.oct HF m3_).1.2.1, (FX.oct HF m3_).1.2.2, (FX.oct HF m2_).1.1, (FX.oct HF m2_).1.2.1, (FX.oct HF m2_).1.2.2⟩ (fun hHeld => ?_)
      clear hK K
      refine nO_ 7 ?_
      exact nP_ (hJ (jv, mv, gj, gm) _ ⟨hj, hm, HS.out, HF.out⟩)
     ·
      refine box_step ?hg (N := 7) ?hd (cs := #[.slice none 0 0, .slice none 0 0, .bool false]) (t := 25) ?hr ?_; (case hd => rfl); (case hg => rfl); (case hr => first | (go_simp; done) | (go_simp; rfl))
      intro gj hg wk hbox hb
      have f_ := Aside0.mk (HF.out.made HS.out.below.size hg hbox hb); have n_ := Aside0.mk (HS.out.next hb); clear HS HF; have HS := n_; have HF := f_; clear n_ f_ hg hbox hb
      refine hK.out _ _ ⟨(FX.oct HF m3_).1.1, (FX.oct HF m3_).1.2.1, (FX.oct HF m3_).1.2.2, (FX.oct HF m2_).1.1, (FX.oct HF m2_).1.2.1, (FX.oct HF m2_).1.2.2⟩ (fun hHeld => ?_)
      clear hK K
      refine nO_ 7 ?_
      refine one_ (i := 5) (N := some 23) (mB 10 255) rfl rfl (one_of HT_.out (by kernel_rfl)) (by decide) (fun K hK => ?_)
      refine goes_ Try.func37 (by kernel_rfl) rfl #[xv.val, yv.val] (by rfl) rfl rfl vL ?_
      with_reducible refine (meet_own (HS.out.own _ m2_).oc (HS.out.own _ m1_).oc (Below.refl _ _) OXV.out OYV.out).mono ?_
      rintro e wk ⟨mv, rfl, hm, ho, hb⟩; refine ⟨_, rfl, ?_⟩
      have n_ := Aside0.mk (HS.out.call hb ho); have f_ := Aside0.mk (HF.out.next hb); clear HS HF; have HS := n_; have HF := f_; clear n_ f_ ho hb
      refine hK.out _ _ ⟨(FX.oct HF m3_).1.1, (FX.oct HF m3_).1.2.1, (FX.oct HF m3_).1.2.2, (FX.oct HF m2_).1.1, (FX.oct HF m2_).1.2.1, (FX.oct HF m2_).1.2.2⟩ (fun hHeld => ?_)
      clear hK K
      refine nO_ 23 ?_
      exact nP_ (hJ (jv, mv, gj, gm) _ ⟨hj, hm, HS.out, HF.out⟩)
    ·
     refine box_step ?hg (N := 7) ?hd (cs := #[.slice none 0 0, .slice none 0 0, .bool false]) (t := 25) ?hr ?_; (case hd => rfl); (case hg => rfl); (case hr => first | (go_simp; done) | (go_simp; rfl))
     intro gj hg wk hbox hb
     have f_ := Aside0.mk (HF.out.made HS.out.below.size hg hbox hb); have n_ := Aside0.mk (HS.out.next hb); clear HS HF; have HS := n_; have HF := f_; clear n_ f_ hg hbox hb
     refine hK.out _ _ ⟨(FX.oct HF m3_).1.1, (FX.oct HF m3_).1.2.1, (FX.oct HF m3_).1.2.2, (FX.oct HF m2_).1.1, (FX.oct HF m2_).1.2.1, (FX.oct HF m2_).1.2.2⟩ (fun hHeld => ?_)
     clear hK K
     refine nO_ 7 ?_
     refine one_ (i := 2) (N := some 20) (mB 10 223) rfl rfl (one_of HT_.out (by kernel_rfl)) (by decide) (fun K hK => ?_)
     refine goes_ Try.func36 (by kernel_rfl) rfl #[xv.val, yv.val] (by rfl) rfl rfl vL ?_
     with_reducible refine (join_own (HS.out.own _ m1_).oc (HS.out.own _ m0_).oc (Below.refl _ _) OXV.out OYV.out).mono ?_
     rintro e wk ⟨jv, rfl, hj, ho, hb⟩; refine ⟨_, rfl, ?_⟩
     have n_ := Aside0.mk (HS.out.call hb ho); have f_ := Aside0.mk (HF.out.next hb); clear HS HF; have HS := n_; have HF := f_; clear n_ f_ ho hb
     refine hK.out _ _ ⟨(FX.oct HF m3_).1.1, (FX.oct HF m3_).1.2.1, (FX.oct HF m3_).1.2.2, (FX.oct HF m2_).1.1, (FX.oct HF m2_).1.2.1, (FX.oct HF m2_).1.2.2⟩ (fun hHeld => ?_)
     clear hK K
     refine nO_ 20 ?_
     refine one_ (i := 5) (N := some 23) (mB 10 255) rfl rfl (one_of HT_.out (by kernel_rfl)) (by decide) (fun K hK => ?_)
     refine goes_ Try.func37 (by kernel_rfl) rfl #[xv.val, yv.val] (by rfl) rfl rfl vL ?_
     with_reducible refine (meet_own (HS.out.own _ m2_).oc (HS.out.own _ m1_).oc (Below.refl _ _) OXV.out OYV.out).mono ?_
     rintro e wk ⟨mv, rfl, hm, ho, hb⟩; refine ⟨_, rfl, ?_⟩
     have n_ := Aside0.mk (HS.out.call hb ho); have f_ := Aside0.mk (HF.out.next hb); clear HS HF; have HS := n_; have HF := f_; clear n_ f_ ho hb
     refine hK.out _ _ ⟨(FX.oct HF m3_).1.1, (FX.oct HF m3_).1.2.1, (FX.oct HF m3_).1.2.2, (FX.oct HF m2_).1.1, (FX.oct HF m2_).1.2.1, (FX.oct HF m2_).1.2.2⟩ (fun hHeld => ?_)
     clear hK K
     refine nO_ 23 ?_
     exact nP_ (hJ (jv, mv, gj, gm) _ ⟨hj, hm, HS.out, HF.out⟩)
  rintro ⟨jv, mv, gj, gm⟩ W4 ⟨hj, hm, HS4, HF4⟩
  clear HS HF hHeld
  have HS := Aside0.mk HS4; have HF := Aside0.mk HF4
  have kne := FX.nes HF4; have kne' := fun e => kne (Eq.symm e)
  clear HS4 HF4
  dsimp only at HS HF hj hm kne kne'
  obtain ⟨⟨p0, p1, p2⟩, p3, p4, p5⟩ := FX.oct HF m0_; obtain ⟨⟨q0, q1, q2⟩, q3, q4, q5⟩ := FX.oct HF m1_
  refine nS_ ?_
  refine last_ (i := 8) (N := none) (mB 10 511) rfl rfl (one_of HT_.out (by kernel_rfl)) (by decide) (fun K hK => ?_)
  refine skip_ (w1 := ?_) (by rfl) rfl ?_ ?_
  rotate_left
  ·
   go_simp
   rfl
  refine hK.out _ _ ?_
  clear hK K
  refine last_ (i := 9) (N := none) (mB 10 1023) rfl rfl (one_of HT_.out (by kernel_rfl)) (by decide) (fun K hK => ?_)
  refine skip_ (w1 := ?_) (by rfl) rfl ?_ ?_
  rotate_left
  ·
   go_simp
   rfl
  refine hK.out _ _ ?_
  clear hK K
  refine done_ (done_of HT_.out (by kernel_rfl)) ?_
  clear p0 p1 p2 p3 p4 p5 q0 q1 q2 q3 q4 q5 kne kne' HT_ HW_
  unfold OnlyN
  have f1_ := HF.out.put3 (a' := .slice jv.P jv.v.length jv.p) (b' := .slice jv.Q jv.m.length jv.q) (c' := .bool jv.e); have s1_ := OS.box3 (a' := .slice jv.P jv.v.length jv.p) (b' := .slice jv.Q jv.m.length jv.q) (c' := .bool jv.e) HS.out (HF.out.all _ m0_).1 (HF.out.all _ m0_).2 (by decide) (by decide); have f2_ := f1_.swap; have f3_ := Aside0.mk (f2_.put3 (a' := .slice mv.P mv.v.length mv.p) (b' := .slice mv.Q mv.m.length mv.q) (c' := .bool mv.e)); have s3_ := Aside0.mk (OS.box3 (a' := .slice mv.P mv.v.length mv.p) (b' := .slice mv.Q mv.m.length mv.q) (c' := .bool mv.e) s1_ (f2_.all _ m0_).1 (f2_.all _ m0_).2 (by decide) (by decide)); clear HS HF f1_ f2_ s1_; have HS := s3_; have HF := f3_; clear s3_ f3_
  generalize hW5 : ((((((W4.setCell ⟨gj, 0, none⟩ (.slice jv.P jv.v.length jv.p)).setCell ⟨gj, 1, none⟩ (.slice jv.Q jv.m.length jv.q)).setCell ⟨gj, 2, none⟩ (.bool jv.e)).setCell ⟨gm, 0, none⟩ (.slice mv.P mv.v.length mv.p)).setCell ⟨gm, 1, none⟩ (.slice mv.Q mv.m.length mv.q)).setCell ⟨gm, 2, none⟩ (.bool mv.e)) = W5 at HS HF ⊢; clear hW5
  have ex1 : xv.m = X.m := congrArg (·.2.1) EX.out.1
  have ex2 : xv.e = X.e := congrArg (·.2.2) EX.out.1
  have ey1 : yv.m = Y.m := congrArg (·.2.1) EY.out.1
  have ey2 : yv.e = Y.e := congrArg (·.2.2) EY.out.1
  rw [ex1, ex2, ey1, ey2] at hj hm
  have LL := lattice_law GX.out.fit GY.out.fit GY.out.fit
  have HJ : Aside0 (jv.o = joinF X.v X.m X.e Y.m Y.e ∧ jv.v.length < 4611686018427387904 ∧ jv.m.length < 4611686018427387904) := ⟨by
   have o := OkV.of hj LL.1.1 LL.1.2
   have := fit_lens o.1
   exact ⟨hj, by omega, by omega⟩⟩
  have HM : Aside0 (mv.o = meetF X.v X.m X.e Y.m Y.e ∧ mv.v.length < 4611686018427387904 ∧ mv.m.length < 4611686018427387904) := ⟨by
   have o := OkV.of hm LL.2.1.1 LL.2.1.2
   have := fit_lens o.1
   exact ⟨hm, by omega, by omega⟩⟩
  obtain ⟨t, ht⟩ : ∃ t, leqF X.v X.m X.e Y.m Y.e = t := ⟨_, rfl⟩
  obtain ⟨t', ht'⟩ : ∃ t, leqF X.v Y.m Y.e X.m X.e = t := ⟨_, rfl⟩
  obtain ⟨s, hs⟩ : ∃ s, (t && t') = s := ⟨_, rfl⟩
  have T2 := Aside0.mk ht
  have T2' := Aside0.mk ht'
  have T1 : Aside0 (leqF X.v xv.m xv.e yv.m yv.e = t) := ⟨by rw [ex1, ex2, ey1, ey2]; exact ht⟩
  have T1' : Aside0 (leqF X.v yv.m yv.e xv.m xv.e = t') := ⟨by rw [ex1, ex2, ey1, ey2]; exact ht'⟩
  have TR : Aside0 (leqF X.v xv.m xv.e xv.m xv.e = true) := ⟨by rw [ex1, ex2]; exact leq_refl GX.out.fit⟩
  have TS := Aside0.mk hs
  have HT : Aside0 (∀ f, f ∈ [(gm, mv.cells), (gj, jv.cells), (gy, yv.cells), (gx, xv.cells), (ga, X.cells), (gb, Y.cells)] → ∃ cs t, f.2 = .cells cs t (0, 0) ∧ t ≠ 2 ∧ t ≠ 3) := ⟨fun f hf => by
   simp only [List.mem_cons, List.not_mem_nil, or_false] at hf
   rcases hf with rfl | rfl | rfl | rfl | rfl | rfl <;> exact ⟨_, _, rfl, by decide, by decide⟩⟩
  clear hj hm LL ht ht' hs ex1 ex2 ey1 ey2
  go_upto_region 5 with fail
  cases t with
  | true =>
   cases s with
   | true =>
    have n_ := Aside0.mk (HS.out.next (below_drew (Below.refl _ _))); have f_ := Aside0.mk (HF.out.next (below_drew (Below.refl _ _))); clear HS HF; have HS := n_; have HF := f_; clear n_ f_
    refine start_ (n := 38) (S := fun w' => w'.cell? ⟨gm, 0, none⟩ = some (.slice mv.P mv.v.length mv.p) ∧ w'.cell? ⟨gm, 1, none⟩ = some (.slice mv.Q mv.m.length mv.q) ∧ w'.cell? ⟨gm, 2, none⟩ = some (.bool mv.e) ∧ w'.cell? ⟨gj, 0, none⟩ = some (.slice jv.P jv.v.length jv.p) ∧ w'.cell? ⟨gj, 1, none⟩ = some (.slice jv.Q jv.m.length jv.q) ∧ w'.cell? ⟨gj, 2, none⟩ = some (.bool jv.e) ∧ w'.cell? ⟨gy, 0, none⟩ = some (.slice yv.P yv.v.length yv.p) ∧ w'.cell? ⟨gy, 1, none⟩ = some (.slice yv.Q yv.m.length yv.q) ∧ w'.cell? ⟨gy, 2, none⟩ = some (.bool yv.e) ∧ w'.cell? ⟨gx, 0, none⟩ = some (.slice xv.P xv.v.length xv.p) ∧ w'.cell? ⟨gx, 1, none⟩ = some (.slice xv.Q xv.m.length xv.q) ∧ w'.cell? ⟨gx, 2, none⟩ = some (.bool xv.e) ∧ w'.cell? ⟨ga, 0, none⟩ = some (.slice X.P X.v.length X.p) ∧ w'.cell? ⟨ga, 1, none⟩ = some (.slice X.Q X.m.length X.q) ∧ w'.cell? ⟨ga, 2, none⟩ = some (.bool X.e) ∧ w'.cell? ⟨gb, 0, none⟩ = some (.slice Y.P Y.v.length Y.p) ∧ w'.cell? ⟨gb, 1, none⟩ = some (.slice Y.Q Y.m.length Y.q) ∧ w'.cell? ⟨gb, 2, none⟩ = some (.bool Y.e)) (ds := []) (mB 38 0) (by kernel_rfl) rfl (by kernel_rfl) ⟨(FX.oct HF m0_).1.1, (FX.oct HF m0_).1.2.1, (FX.oct HF m0_).1.2.2, (FX.oct HF m1_).1.1, (FX.oct HF m1_).1.2.1, (FX.oct HF m1_).1.2.2, (FX.oct HF m2_).1.1, (FX.oct HF m2_).1.2.1, (FX.oct HF m2_).1.2.2, (FX.oct HF m3_).1.1, (FX.oct HF m3_).1.2.1, (FX.oct HF m3_).1.2.2, (FX.oct HF m4_).1.1, (FX.oct HF m4_).1.2.1, (FX.oct HF m4_).1.2.2, (FX.oct HF m5_).1.1, (FX.oct HF m5_).1.2.1, (FX.oct HF m5_).1.2.2⟩ (fun hHeld => ?_)
    refine with_tabW octOrders_tab5 octOrders_bits5 (fun HT_ HW_ => ?_)
    generalize hWd : World.drew _ = Wd at HS HF hHeld ⊢; clear hWd
    refine tV_ 0 24 (mB 38 1) HT_ HW_ hHeld ?_
    refine tV_ 1 25 (mB 38 3) HT_ HW_ hHeld ?_
    refine tV_ 3 27 (mB 38 11) HT_ HW_ hHeld ?_
    refine tV_ 4 28 (mB 38 27) HT_ HW_ hHeld ?_
    refine one_ (i := 2) (N := some 26) (mB 38 31) rfl rfl (one_of HT_.out (by kernel_rfl)) (by decide) (fun K hK => ?_)
    refine goes_ Try.func38 (by kernel_rfl) rfl #[xv.val, yv.val] (by rfl) rfl rfl vL ?_
    with_reducible refine (leq_at (HS.out.own _ m3_).oc (HS.out.own _ m2_).oc (Below.refl _ _) OXV.out OYV.out T1.out).mono ?_
    rintro e wk ⟨rfl, hb⟩; refine ⟨_, rfl, ?_⟩
    have n_ := Aside0.mk (HS.out.next hb); have f_ := Aside0.mk (HF.out.next hb); clear HS HF; have HS := n_; have HF := f_; clear n_ f_ hb
    refine hK.out _ _ ⟨(FX.oct HF m0_).1.1, (FX.oct HF m0_).1.2.1, (FX.oct HF m0_).1.2.2, (FX.oct HF m1_).1.1, (FX.oct HF m1_).1.2.1, (FX.oct HF m1_).1.2.2, (FX.oct HF m2_).1.1, (FX.oct HF m2_).1.2.1, (FX.oct HF m2_).1.2.2, (FX.oct HF m3_).1.1, (FX.oct HF m3_).1.2.1, (FX.oct HF m3_).1.2.2, (FX.oct HF m4_).1.1, (FX.oct HF m4_).1.2.1, (FX.oct HF m4_).1.2.2, (FX.oct HF m5_).1.1, (FX.oct HF m5_).1.2.1, (FX.oct HF m5_).1.2.2⟩ (fun hHeld => ?_)
    clear hK K
    refine nO_ 26 ?_
    refine one_ (i := 5) (N := some 29) (mB 38 63) rfl rfl (one_of HT_.out (by kernel_rfl)) (by decide) (fun K hK => ?_)
    refine goes_ Try.func30 (by kernel_rfl) rfl #[X.val, Y.val] (by rfl) rfl rfl vL ?_
    with_reducible refine (rleq_at (HX.out.next HS.out.below) (HY.out.next HS.out.below) HS.out.below GX.out GY.out T2.out).mono ?_
    rintro e wk ⟨rfl, hb⟩; refine ⟨_, rfl, ?_⟩
    have n_ := Aside0.mk (HS.out.next hb); have f_ := Aside0.mk (HF.out.next hb); clear HS HF; have HS := n_; have HF := f_; clear n_ f_ hb
    refine hK.out _ _ ⟨(FX.oct HF m0_).1.1, (FX.oct HF m0_).1.2.1, (FX.oct HF m0_).1.2.2, (FX.oct HF m1_).1.1, (FX.oct HF m1_).1.2.1, (FX.oct HF m1_).1.2.2, (FX.oct HF m2_).1.1, (FX.oct HF m2_).1.2.1, (FX.oct HF m2_).1.2.2, (FX.oct HF m3_).1.1, (FX.oct HF m3_).1.2.1, (FX.oct HF m3_).1.2.2, (FX.oct HF m4_).1.1, (FX.oct HF m4_).1.2.1, (FX.oct HF m4_).1.2.2, (FX.oct HF m5_).1.1, (FX.oct HF m5_).1.2.1, (FX.oct HF m5_).1.2.2⟩ (fun hHeld => ?_)
    clear hK K
    refine nO_ 29 ?_
    refine pV_ 6 30 (mB 38 127) HT_ ?_
    refine pV_ 7 31 (mB 38 255) HT_ ?_
    refine tV_ 8 32 (mB 38 511) HT_ HW_ hHeld ?_
    refine tV_ 9 33 (mB 38 1023) HT_ HW_ hHeld ?_
    refine tV_ 11 35 (mB 38 3071) HT_ HW_ hHeld ?_
    refine tV_ 12 36 (mB 38 7167) HT_ HW_ hHeld ?_
    refine one_ (i := 10) (N := some 34) (mB 38 8191) rfl rfl (one_of HT_.out (by kernel_rfl)) (by decide) (fun K hK => ?_)
    refine goes_ Try.func39 (by kernel_rfl) rfl #[xv.val, yv.val] (by rfl) rfl rfl vL ?_
    with_reducible refine (same_as (HS.out.own _ m3_).oc (HS.out.own _ m2_).oc (Below.refl _ _) OXV.out OYV.out T1.out T1'.out TS.out).mono ?_
    rintro e wk ⟨rfl, hb⟩; refine ⟨_, rfl, ?_⟩
    have n_ := Aside0.mk (HS.out.next hb); have f_ := Aside0.mk (HF.out.next hb); clear HS HF; have HS := n_; have HF := f_; clear n_ f_ hb
    refine hK.out _ _ ⟨(FX.oct HF m0_).1.1, (FX.oct HF m0_).1.2.1, (FX.oct HF m0_).1.2.2, (FX.oct HF m1_).1.1, (FX.oct HF m1_).1.2.1, (FX.oct HF m1_).1.2.2, (FX.oct HF m2_).1.1, (FX.oct HF m2_).1.2.1, (FX.oct HF m2_).1.2.2, (FX.oct HF m3_).1.1, (FX.oct HF m3_).1.2.1, (FX.oct HF m3_).1.2.2, (FX.oct HF m4_).1.1, (FX.oct HF m4_).1.2.1, (FX.oct HF m4_).1.2.2, (FX.oct HF m5_).1.1, (FX.oct HF m5_).1.2.1, (FX.oct HF m5_).1.2.2⟩ (fun hHeld => ?_)
    clear hK K
    refine nO_ 34 ?_
    refine one_ (i := 13) (N := some 37) (mB 38 16383) rfl rfl (one_of HT_.out (by kernel_rfl)) (by decide) (fun K hK => ?_)
    refine goes_ Try.func40 (by kernel_rfl) rfl #[X.val, Y.val] (by rfl) rfl rfl vL ?_
    with_reducible refine (rsame_as (HX.out.next HS.out.below) (HY.out.next HS.out.below) HS.out.below GX.out GY.out T2.out T2'.out TS.out).mono ?_
    rintro e wk ⟨rfl, hb⟩; refine ⟨_, rfl, ?_⟩
    have n_ := Aside0.mk (HS.out.next hb); have f_ := Aside0.mk (HF.out.next hb); clear HS HF; have HS := n_; have HF := f_; clear n_ f_ hb
    refine hK.out _ _ ⟨(FX.oct HF m0_).1.1, (FX.oct HF m0_).1.2.1, (FX.oct HF m0_).1.2.2, (FX.oct HF m1_).1.1, (FX.oct HF m1_).1.2.1, (FX.oct HF m1_).1.2.2, (FX.oct HF m2_).1.1, (FX.oct HF m2_).1.2.1, (FX.oct HF m2_).1.2.2, (FX.oct HF m3_).1.1, (FX.oct HF m3_).1.2.1, (FX.oct HF m3_).1.2.2, (FX.oct HF m4_).1.1, (FX.oct HF m4_).1.2.1, (FX.oct HF m4_).1.2.2, (FX.oct HF m5_).1.1, (FX.oct HF m5_).1.2.1, (FX.oct HF m5_).1.2.2⟩ (fun hHeld => ?_)
    clear hK K
    refine nO_ 37 ?_
    refine pV_ 14 38 (mB 38 32767) HT_ ?_
    refine pV_ 15 39 (mB 38 65535) HT_ ?_
    refine pV_ 16 40 (mB 38 131071) HT_ ?_
    refine tV_ 17 41 (mB 38 262143) HT_ HW_ hHeld ?_
    refine tV_ 18 42 (mB 38 524287) HT_ HW_ hHeld ?_
    refine tV_ 19 43 (mB 38 1048575) HT_ HW_ hHeld ?_
    refine one_ (i := 20) (N := some 44) (mB 38 2097151) rfl rfl (one_of HT_.out (by kernel_rfl)) (by decide) (fun K hK => ?_)
    refine goes_ Try.func29 (by kernel_rfl) rfl #[X.val, Y.val] (by rfl) rfl rfl vL ?_
    with_reducible refine (rjoin_o (HX.out.next HS.out.below) (HY.out.next HS.out.below) HS.out.below GX.out GY.out).mono ?_
    rintro e wk ⟨z1, rfl, hz1, ho, hb⟩; refine ⟨_, rfl, ?_⟩
    have n_ := Aside0.mk (HS.out.call hb ho); have f_ := Aside0.mk (HF.out.next hb); clear HS HF; have HS := n_; have HF := f_; clear n_ f_ ho hb
    refine hK.out _ _ ⟨(FX.oct HF m0_).1.1, (FX.oct HF m0_).1.2.1, (FX.oct HF m0_).1.2.2, (FX.oct HF m1_).1.1, (FX.oct HF m1_).1.2.1, (FX.oct HF m1_).1.2.2, (FX.oct HF m2_).1.1, (FX.oct HF m2_).1.2.1, (FX.oct HF m2_).1.2.2, (FX.oct HF m3_).1.1, (FX.oct HF m3_).1.2.1, (FX.oct HF m3_).1.2.2, (FX.oct HF m4_).1.1, (FX.oct HF m4_).1.2.1, (FX.oct HF m4_).1.2.2, (FX.oct HF m5_).1.1, (FX.oct HF m5_).1.2.1, (FX.oct HF m5_).1.2.2⟩ (fun hHeld => ?_)
    clear hK K
    refine nO_ 44 ?_
    refine one_ (i := 21) (N := some 45) (mB 38 4194303) rfl rfl (one_of HT_.out (by kernel_rfl)) (by decide) (fun K hK => ?_)
    refine goes_ Try.func15 (by kernel_rfl) rfl #[jv.val, z1.val] (by rfl) rfl rfl vL ?_
    with_reducible refine (equal_o (HS.out.own _ m2_).oc (HS.out.own _ m0_).oc (Below.refl _ _) (HJ.out.1.trans hz1.symm) HJ.out.2.1 HJ.out.2.2).mono ?_
    rintro e wk ⟨rfl, hb⟩; refine ⟨_, rfl, ?_⟩
    have n_ := Aside0.mk (HS.out.next hb); have f_ := Aside0.mk (HF.out.next hb); clear HS HF; have HS := n_; have HF := f_; clear n_ f_ hb
    refine hK.out _ _ ⟨(FX.oct HF m0_).1.1, (FX.oct HF m0_).1.2.1, (FX.oct HF m0_).1.2.2, (FX.oct HF m1_).1.1, (FX.oct HF m1_).1.2.1, (FX.oct HF m1_).1.2.2, (FX.oct HF m2_).1.1, (FX.oct HF m2_).1.2.1, (FX.oct HF m2_).1.2.2, (FX.oct HF m3_).1.1, (FX.oct HF m3_).1.2.1, (FX.oct HF m3_).1.2.2, (FX.oct HF m4_).1.1, (FX.oct HF m4_).1.2.1, (FX.oct HF m4_).1.2.2, (FX.oct HF m5_).1.1, (FX.oct HF m5_).1.2.1, (FX.oct HF m5_).1.2.2⟩ (fun hHeld => ?_)
    clear hK K
    refine nO_ 45 ?_
    refine pV_ 22 46 (mB 38 8388607) HT_ ?_
    refine pV_ 23 47 (mB 38 16777215) HT_ ?_
    refine pV_ 24 48 (mB 38 33554431) HT_ ?_
    refine tV_ 25 49 (mB 38 67108863) HT_ HW_ hHeld ?_
    refine tV_ 26 50 (mB 38 134217727) HT_ HW_ hHeld ?_
    refine tV_ 27 51 (mB 38 268435455) HT_ HW_ hHeld ?_
    refine one_ (i := 28) (N := some 52) (mB 38 536870911) rfl rfl (one_of HT_.out (by kernel_rfl)) (by decide) (fun K hK => ?_)
    refine goes_ Try.func41 (by kernel_rfl) rfl #[X.val, Y.val] (by rfl) rfl rfl vL ?_
    with_reducible refine (rmeet_own (HX.out.next HS.out.below) (HY.out.next HS.out.below) HS.out.below GX.out GY.out).mono ?_
    rintro e wk ⟨z2, rfl, hz2, ho, hb⟩; refine ⟨_, rfl, ?_⟩
    have n_ := Aside0.mk (HS.out.call hb ho); have f_ := Aside0.mk (HF.out.next hb); clear HS HF; have HS := n_; have HF := f_; clear n_ f_ ho hb
    refine hK.out _ _ ⟨(FX.oct HF m0_).1.1, (FX.oct HF m0_).1.2.1, (FX.oct HF m0_).1.2.2, (FX.oct HF m1_).1.1, (FX.oct HF m1_).1.2.1, (FX.oct HF m1_).1.2.2, (FX.oct HF m2_).1.1, (FX.oct HF m2_).1.2.1, (FX.oct HF m2_).1.2.2, (FX.oct HF m3_).1.1, (FX.oct HF m3_).1.2.1, (FX.oct HF m3_).1.2.2, (FX.oct HF m4_).1.1, (FX.oct HF m4_).1.2.1, (FX.oct HF m4_).1.2.2, (FX.oct HF m5_).1.1, (FX.oct HF m5_).1.2.1, (FX.oct HF m5_).1.2.2⟩ (fun hHeld => ?_)
    clear hK K
    refine nO_ 52 ?_
    refine one_ (i := 29) (N := some 53) (mB 38 1073741823) rfl rfl (one_of HT_.out (by kernel_rfl)) (by decide) (fun K hK => ?_)
    refine goes_ Try.func15 (by kernel_rfl) rfl #[mv.val, z2.val] (by rfl) rfl rfl vL ?_
    with_reducible refine (equal_o (HS.out.own _ m2_).oc (HS.out.own _ m0_).oc (Below.refl _ _) (HM.out.1.trans hz2.symm) HM.out.2.1 HM.out.2.2).mono ?_
    rintro e wk ⟨rfl, hb⟩; refine ⟨_, rfl, ?_⟩
    have n_ := Aside0.mk (HS.out.next hb); have f_ := Aside0.mk (HF.out.next hb); clear HS HF; have HS := n_; have HF := f_; clear n_ f_ hb
    refine hK.out _ _ ⟨(FX.oct HF m0_).1.1, (FX.oct HF m0_).1.2.1, (FX.oct HF m0_).1.2.2, (FX.oct HF m1_).1.1, (FX.oct HF m1_).1.2.1, (FX.oct HF m1_).1.2.2, (FX.oct HF m2_).1.1, (FX.oct HF m2_).1.2.1, (FX.oct HF m2_).1.2.2, (FX.oct HF m3_).1.1, (FX.oct HF m3_).1.2.1, (FX.oct HF m3_).1.2.2, (FX.oct HF m4_).1.1, (FX.oct HF m4_).1.2.1, (FX.oct HF m4_).1.2.2, (FX.oct HF m5_).1.1, (FX.oct HF m5_).1.2.1, (FX.oct HF m5_).1.2.2⟩ (fun hHeld => ?_)
    clear hK K
    refine nO_ 53 ?_
    refine pV_ 30 54 (mB 38 2147483647) HT_ ?_
    refine pV_ 31 55 (mB 38 4294967295) HT_ ?_
    refine pV_ 32 56 (mB 38 8589934591) HT_ ?_
    refine tV_ 33 57 (mB 38 17179869183) HT_ HW_ hHeld ?_
    refine tV_ 34 58 (mB 38 34359738367) HT_ HW_ hHeld ?_
    refine one_ (i := 35) (N := some 59) (mB 38 68719476735) rfl rfl (one_of HT_.out (by kernel_rfl)) (by decide) (fun K hK => ?_)
    refine goes_ Try.func38 (by kernel_rfl) rfl #[xv.val, xv.val] (by rfl) rfl rfl vL ?_
    with_reducible refine (leq_at (HS.out.own _ m5_).oc (HS.out.own _ m5_).oc (Below.refl _ _) OXV.out OXV.out TR.out).mono ?_
    rintro e wk ⟨rfl, hb⟩; refine ⟨_, rfl, ?_⟩
    have n_ := Aside0.mk (HS.out.next hb); have f_ := Aside0.mk (HF.out.next hb); clear HS HF; have HS := n_; have HF := f_; clear n_ f_ hb
    refine hK.out _ _ ⟨(FX.oct HF m0_).1.1, (FX.oct HF m0_).1.2.1, (FX.oct HF m0_).1.2.2, (FX.oct HF m1_).1.1, (FX.oct HF m1_).1.2.1, (FX.oct HF m1_).1.2.2, (FX.oct HF m2_).1.1, (FX.oct HF m2_).1.2.1, (FX.oct HF m2_).1.2.2, (FX.oct HF m3_).1.1, (FX.oct HF m3_).1.2.1, (FX.oct HF m3_).1.2.2, (FX.oct HF m4_).1.1, (FX.oct HF m4_).1.2.1, (FX.oct HF m4_).1.2.2, (FX.oct HF m5_).1.1, (FX.oct HF m5_).1.2.1, (FX.oct HF m5_).1.2.2⟩ (fun hHeld => ?_)
    clear hK K
    refine nO_ 59 ?_
    refine pV_ 36 60 (mB 38 137438953471) HT_ ?_
    refine pV_ 37 61 (mB 38 274877906943) HT_ ?_
    refine done_ (done_of HT_.out (by kernel_rfl)) ?_
    clear HT_ HW_ hHeld
    have n_ := Aside0.mk HS.out.tail.tail.swap; clear HS; have HS := n_; clear n_
    go_upto_region 7 with fail
    obtain ⟨⟨km0, km1, km2⟩, fm0, fm1, fm2⟩ := FX.oct HF m0_; obtain ⟨⟨kj0, kj1, kj2⟩, fj0, fj1, fj2⟩ := FX.oct HF m1_; obtain ⟨⟨ky0, ky1, ky2⟩, fy0, fy1, fy2⟩ := FX.oct HF m2_; obtain ⟨⟨kx0, kx1, kx2⟩, fx0, fx1, fx2⟩ := FX.oct HF m3_; obtain ⟨⟨ka0, ka1, ka2⟩, fa0, fa1, fa2⟩ := FX.oct HF m4_; obtain ⟨⟨kb0, kb1, kb2⟩, fb0, fb1, fb2⟩ := FX.oct HF m5_
    go_wp2_with (first | (go_at_call 24; (with_reducible refine (spoil_o (OS.to HS) HJ.out.2.1 HJ.out.2.2).mono ?_); rintro e wk ⟨rfl, ho, hk⟩; have f_ := Aside0.mk ((FX.to HF).kept hk ((FX.to HF).not_own ((OS.to HS).own _ m0_) HT.out)); clear HS HF; have HS := Aside0.mk ho; have HF := f_; clear f_ ho hk; clear km0 km1 km2 fm0 fm1 fm2; obtain ⟨⟨km0, km1, km2⟩, fm0, fm1, fm2⟩ := FX.oct HF m0_; clear kj0 kj1 kj2 fj0 fj1 fj2; obtain ⟨⟨kj0, kj1, kj2⟩, fj0, fj1, fj2⟩ := FX.oct HF m1_; clear ky0 ky1 ky2 fy0 fy1 fy2; obtain ⟨⟨ky0, ky1, ky2⟩, fy0, fy1, fy2⟩ := FX.oct HF m2_; clear kx0 kx1 kx2 fx0 fx1 fx2; obtain ⟨⟨kx0, kx1, kx2⟩, fx0, fx1, fx2⟩ := FX.oct HF m3_; clear ka0 ka1 ka2 fa0 fa1 fa2; obtain ⟨⟨ka0, ka1, ka2⟩, fa0, fa1, fa2⟩ := FX.oct HF m4_; clear kb0 kb1 kb2 fb0 fb1 fb2; obtain ⟨⟨kb0, kb1, kb2⟩, fb0, fb1, fb2⟩ := FX.oct HF m5_) | (go_at_call 24; (with_reducible refine (spoil_o (OS.to HS) HM.out.2.1 HM.out.2.2).mono ?_); rintro e wk ⟨rfl, ho, hk⟩; have f_ := Aside0.mk ((FX.to HF).kept hk ((FX.to HF).not_own ((OS.to HS).own _ m0_) HT.out)); clear HS HF; have HS := Aside0.mk ho; have HF := f_; clear f_ ho hk; clear km0 km1 km2 fm0 fm1 fm2; obtain ⟨⟨km0, km1, km2⟩, fm0, fm1, fm2⟩ := FX.oct HF m0_; clear kj0 kj1 kj2 fj0 fj1 fj2; obtain ⟨⟨kj0, kj1, kj2⟩, fj0, fj1, fj2⟩ := FX.oct HF m1_; clear ky0 ky1 ky2 fy0 fy1 fy2; obtain ⟨⟨ky0, ky1, ky2⟩, fy0, fy1, fy2⟩ := FX.oct HF m2_; clear kx0 kx1 kx2 fx0 fx1 fx2; obtain ⟨⟨kx0, kx1, kx2⟩, fx0, fx1, fx2⟩ := FX.oct HF m3_; clear ka0 ka1 ka2 fa0 fa1 fa2; obtain ⟨⟨ka0, ka1, ka2⟩, fa0, fa1, fa2⟩ := FX.oct HF m4_; clear kb0 kb1 kb2 fb0 fb1 fb2; obtain ⟨⟨kb0, kb1, kb2⟩, fb0, fb1, fb2⟩ := FX.oct HF m5_) | (go_at_call 15; (with_reducible refine (equal_o (OS.oc HS m1_) (Oc.at_ HX (OS.bel HS)) (OS.bel HS) EX.out.1 EX.out.2.1 EX.out.2.2).mono ?_); rintro e wk ⟨rfl, hb⟩; have n_ := Aside0.mk ((OS.to HS).next hb); have f_ := Aside0.mk ((FX.to HF).next hb); clear HS HF; have HS := n_; have HF := f_; clear n_ f_ hb; clear km0 km1 km2 fm0 fm1 fm2; obtain ⟨⟨km0, km1, km2⟩, fm0, fm1, fm2⟩ := FX.oct HF m0_; clear kj0 kj1 kj2 fj0 fj1 fj2; obtain ⟨⟨kj0, kj1, kj2⟩, fj0, fj1, fj2⟩ := FX.oct HF m1_; clear ky0 ky1 ky2 fy0 fy1 fy2; obtain ⟨⟨ky0, ky1, ky2⟩, fy0, fy1, fy2⟩ := FX.oct HF m2_; clear kx0 kx1 kx2 fx0 fx1 fx2; obtain ⟨⟨kx0, kx1, kx2⟩, fx0, fx1, fx2⟩ := FX.oct HF m3_; clear ka0 ka1 ka2 fa0 fa1 fa2; obtain ⟨⟨ka0, ka1, ka2⟩, fa0, fa1, fa2⟩ := FX.oct HF m4_; clear kb0 kb1 kb2 fb0 fb1 fb2; obtain ⟨⟨kb0, kb1, kb2⟩, fb0, fb1, fb2⟩ := FX.oct HF m5_) | (go_at_call 15; (with_reducible refine (equal_o (OS.oc HS m0_) (Oc.at_ HY (OS.bel HS)) (OS.bel HS) EY.out.1 EY.out.2.1 EY.out.2.2).mono ?_); rintro e wk ⟨rfl, hb⟩; have n_ := Aside0.mk ((OS.to HS).next hb); have f_ := Aside0.mk ((FX.to HF).next hb); clear HS HF; have HS := n_; have HF := f_; clear n_ f_ hb; clear km0 km1 km2 fm0 fm1 fm2; obtain ⟨⟨km0, km1, km2⟩, fm0, fm1, fm2⟩ := FX.oct HF m0_; clear kj0 kj1 kj2 fj0 fj1 fj2; obtain ⟨⟨kj0, kj1, kj2⟩, fj0, fj1, fj2⟩ := FX.oct HF m1_; clear ky0 ky1 ky2 fy0 fy1 fy2; obtain ⟨⟨ky0, ky1, ky2⟩, fy0, fy1, fy2⟩ := FX.oct HF m2_; clear kx0 kx1 kx2 fx0 fx1 fx2; obtain ⟨⟨kx0, kx1, kx2⟩, fx0, fx1, fx2⟩ := FX.oct HF m3_; clear ka0 ka1 ka2 fa0 fa1 fa2; obtain ⟨⟨ka0, ka1, ka2⟩, fa0, fa1, fa2⟩ := FX.oct HF m4_; clear kb0 kb1 kb2 fb0 fb1 fb2; obtain ⟨⟨kb0, kb1, kb2⟩, fb0, fb1, fb2⟩ := FX.oct HF m5_) | (go_at_call 20; (with_reducible refine (awake_o).mono ?_); rintro e wk ⟨rfl, hb⟩; have n_ := Aside0.mk ((OS.to HS).next hb); have f_ := Aside0.mk ((FX.to HF).next hb); clear HS HF; have HS := n_; have HF := f_; clear n_ f_ hb; clear km0 km1 km2 fm0 fm1 fm2; obtain ⟨⟨km0, km1, km2⟩, fm0, fm1, fm2⟩ := FX.oct HF m0_; clear kj0 kj1 kj2 fj0 fj1 fj2; obtain ⟨⟨kj0, kj1, kj2⟩, fj0, fj1, fj2⟩ := FX.oct HF m1_; clear ky0 ky1 ky2 fy0 fy1 fy2; obtain ⟨⟨ky0, ky1, ky2⟩, fy0, fy1, fy2⟩ := FX.oct HF m2_; clear kx0 kx1 kx2 fx0 fx1 fx2; obtain ⟨⟨kx0, kx1, kx2⟩, fx0, fx1, fx2⟩ := FX.oct HF m3_; clear ka0 ka1 ka2 fa0 fa1 fa2; obtain ⟨⟨ka0, ka1, ka2⟩, fa0, fa1, fa2⟩ := FX.oct HF m4_; clear kb0 kb1 kb2 fb0 fb1 fb2; obtain ⟨⟨kb0, kb1, kb2⟩, fb0, fb1, fb2⟩ := FX.oct HF m5_))
    go_ret
    exact ⟨rfl, OS.bel HS⟩
   | false =>
    have n_ := Aside0.mk (HS.out.next (below_drew (Below.refl _ _))); have f_ := Aside0.mk (HF.out.next (below_drew (Below.refl _ _))); clear HS HF; have HS := n_; have HF := f_; clear n_ f_
    refine start_ (n := 38) (S := fun w' => w'.cell? ⟨gm, 0, none⟩ = some (.slice mv.P mv.v.length mv.p) ∧ w'.cell? ⟨gm, 1, none⟩ = some (.slice mv.Q mv.m.length mv.q) ∧ w'.cell? ⟨gm, 2, none⟩ = some (.bool mv.e) ∧ w'.cell? ⟨gj, 0, none⟩ = some (.slice jv.P jv.v.length jv.p) ∧ w'.cell? ⟨gj, 1, none⟩ = some (.slice jv.Q jv.m.length jv.q) ∧ w'.cell? ⟨gj, 2, none⟩ = some (.bool jv.e) ∧ w'.cell? ⟨gy, 0, none⟩ = some (.slice yv.P yv.v.length yv.p) ∧ w'.cell? ⟨gy, 1, none⟩ = some (.slice yv.Q yv.m.length yv.q) ∧ w'.cell? ⟨gy, 2, none⟩ = some (.bool yv.e) ∧ w'.cell? ⟨gx, 0, none⟩ = some (.slice xv.P xv.v.length xv.p) ∧ w'.cell? ⟨gx, 1, none⟩ = some (.slice xv.Q xv.m.length xv.q) ∧ w'.cell? ⟨gx, 2, none⟩ = some (.bool xv.e) ∧ w'.cell? ⟨ga, 0, none⟩ = some (.slice X.P X.v.length X.p) ∧ w'.cell? ⟨ga, 1, none⟩ = some (.slice X.Q X.m.length X.q) ∧ w'.cell? ⟨ga, 2, none⟩ = some (.bool X.e) ∧ w'.cell? ⟨gb, 0, none⟩ = some (.slice Y.P Y.v.length Y.p) ∧ w'.cell? ⟨gb, 1, none⟩ = some (.slice Y.Q Y.m.length Y.q) ∧ w'.cell? ⟨gb, 2, none⟩ = some (.bool Y.e)) (ds := []) (mB 38 0) (by kernel_rfl) rfl (by kernel_rfl) ⟨(FX.oct HF m0_).1.1, (FX.oct HF m0_).1.2.1, (FX.oct HF m0_).1.2.2, (FX.oct HF m1_).1.1, (FX.oct HF m1_).1.2.1, (FX.oct HF m1_).1.2.2, (FX.oct HF m2_).1.1, (FX.oct HF m2_).1.2.1, (FX.oct HF m2_).1.2.2, (FX.oct HF m3_).1.1, (FX.oct HF m3_).1.2.1, (FX.oct HF m3_).1.2.2, (FX.oct HF m4_).1.1, (FX.oct HF m4_).1.2.1, (FX.oct HF m4_).1.2.2, (FX.oct HF m5_).1.1, (FX.oct HF m5_).1.2.1, (FX.oct HF m5_).1.2.2⟩ (fun hHeld => ?_)
    refine with_tabW octOrders_tab5 octOrders_bits5 (fun HT_ HW_ => ?_)
    generalize hWd : World.drew _ = Wd at HS HF hHeld ⊢; clear hWd
    refine tV_ 0 24 (mB 38 1) HT_ HW_ hHeld ?_
    refine tV_ 1 25 (mB 38 3) HT_ HW_ hHeld ?_
    refine tV_ 3 27 (mB 38 11) HT_ HW_ hHeld ?_
    refine tV_ 4 28 (mB 38 27) HT_ HW_ hHeld ?_
    refine one_ (i := 2) (N := some 26) (mB 38 31) rfl rfl (one_of HT_.out (by kernel_rfl)) (by decide) (fun K hK => ?_)
    refine goes_ Try.func38 (by kernel_rfl) rfl #[xv.val, yv.val] (by rfl) rfl rfl vL ?_
    with_reducible refine (leq_at (HS.out.own _ m3_).oc (HS.out.own _ m2_).oc (Below.refl _ _) OXV.out OYV.out T1.out).mono ?_
    rintro e wk ⟨rfl, hb⟩; refine ⟨_, rfl, ?_⟩
    have n_ := Aside0.mk (HS.out.next hb); have f_ := Aside0.mk (HF.out.next hb); clear HS HF; have HS := n_; have HF := f_; clear n_ f_ hb
    refine hK.out _ _ ⟨(FX.oct HF m0_).1.1, (FX.oct HF m0_).1.2.1, (FX.oct HF m0_).1.2.2, (FX.oct HF m1_).1.1, (FX.oct HF m1_).1.2.1, (FX.oct HF m1_).1.2.2, (FX.oct HF m2_).1.1, (FX.oct HF m2_).1.2.1, (FX.oct HF m2_).1.2.2, (FX.oct HF m3_).1.1, (FX.oct HF m3_).1.2.1, (FX.oct HF m3_).1.2.2, (FX.oct HF m4_).1.1, (FX.oct HF m4_).1.2.1, (FX.oct HF m4_).1.2.2, (FX.oct HF m5_).1.1, (FX.oct HF m5_).1.2.1, (FX.oct HF m5_).1.2.2⟩ (fun hHeld => ?_)
    clear hK K
    refine nO_ 26 ?_
    refine one_ (i := 5) (N := some 29) (mB 38 63) rfl rfl (one_of HT_.out (by kernel_rfl)) (by decide) (fun K hK => ?_)
    refine goes_ Try.func30 (by kernel_rfl) rfl #[X.val, Y.val] (by rfl) rfl rfl vL ?_
    with_reducible refine (rleq_at (HX.out.next HS.out.below) (HY.out.next HS.out.below) HS.out.below GX.out GY.out T2.out).mono ?_
    rintro e wk ⟨rfl, hb⟩; refine ⟨_, rfl, ?_⟩
    have n_ := Aside0.mk (HS.out.next hb); have f_ := Aside0.mk (HF.out.next hb); clear HS HF; have HS := n_; have HF := f_; clear n_ f_ hb
    refine hK.out _ _ ⟨(FX.oct HF m0_).1.1, (FX.oct HF m0_).1.2.1, (FX.oct HF m0_).1.2.2, (FX.oct HF m1_).1.1, (FX.oct HF m1_).1.2.1, (FX.oct HF m1_).1.2.2, (FX.oct HF m2_).1.1, (FX.oct HF m2_).1.2.1, (FX.oct HF m2_).1.2.2, (FX.oct HF m3_).1.1, (FX.oct HF m3_).1.2.1, (FX.oct HF m3_).1.2.2, (FX.oct HF m4_).1.1, (FX.oct HF m4_).1.2.1, (FX.oct HF m4_).1.2.2, (FX.oct HF m5_).1.1, (FX.oct HF m5_).1.2.1, (FX.oct HF m5_).1.2.2⟩ (fun hHeld => ?_)
    clear hK K
    refine nO_ 29 ?_
    refine pV_ 6 30 (mB 38 127) HT_ ?_
    refine pV_ 7 31 (mB 38 255) HT_ ?_
    refine tV_ 8 32 (mB 38 511) HT_ HW_ hHeld ?_
    refine tV_ 9 33 (mB 38 1023) HT_ HW_ hHeld ?_
    refine tV_ 11 35 (mB 38 3071) HT_ HW_ hHeld ?_
    refine tV_ 12 36 (mB 38 7167) HT_ HW_ hHeld ?_
    refine one_ (i := 10) (N := some 34) (mB 38 8191) rfl rfl (one_of HT_.out (by kernel_rfl)) (by decide) (fun K hK => ?_)
    refine goes_ Try.func39 (by kernel_rfl) rfl #[xv.val, yv.val] (by rfl) rfl rfl vL ?_
    with_reducible refine (same_as (HS.out.own _ m3_).oc (HS.out.own _ m2_).oc (Below.refl _ _) OXV.out OYV.out T1.out T1'.out TS.out).mono ?_
    rintro e wk ⟨rfl, hb⟩; refine ⟨_, rfl, ?_⟩
    have n_ := Aside0.mk (HS.out.next hb); have f_ := Aside0.mk (HF.out.next hb); clear HS HF; have HS := n_; have HF := f_; clear n_ f_ hb
    refine hK.out _ _ ⟨(FX.oct HF m0_).1.1, (FX.oct HF m0_).1.2.1, (FX.oct HF m0_).1.2.2, (FX.oct HF m1_).1.1, (FX.oct HF m1_).1.2.1, (FX.oct HF m1_).1.2.2, (FX.oct HF m2_).1.1, (FX.oct HF m2_).1.2.1, (FX.oct HF m2_).1.2.2, (FX.oct HF m3_).1.1, (FX.oct HF m3_).1.2.1, (FX.oct HF m3_).1.2.2, (FX.oct HF m4_).1.1, (FX.oct HF m4_).1.2.1, (FX.oct HF m4_).1.2.2, (FX.oct HF m5_).1.1, (FX.oct HF m5_).1.2.1, (FX.oct HF m5_).1.2.2⟩ (fun hHeld => ?_)
    clear hK K
    refine nO_ 34 ?_
    refine one_ (i := 13) (N := some 37) (mB 38 16383) rfl rfl (one_of HT_.out (by kernel_rfl)) (by decide) (fun K hK => ?_)
    refine goes_ Try.func40 (by kernel_rfl) rfl #[X.val, Y.val] (by rfl) rfl rfl vL ?_
    with_reducible refine (rsame_as (HX.out.next HS.out.below) (HY.out.next HS.out.below) HS.out.below GX.out GY.out T2.out T2'.out TS.out).mono ?_
    rintro e wk ⟨rfl, hb⟩; refine ⟨_, rfl, ?_⟩
    have n_ := Aside0.mk (HS.out.next hb); have f_ := Aside0.mk (HF.out.next hb); clear HS HF; have HS := n_; have HF := f_; clear n_ f_ hb
    refine hK.out _ _ ⟨(FX.oct HF m0_).1.1, (FX.oct HF m0_).1.2.1, (FX.oct HF m0_).1.2.2, (FX.oct HF m1_).1.1, (FX.oct HF m1_).1.2.1, (FX.oct HF m1_).1.2.2, (FX.oct HF m2_).1.1, (FX.oct HF m2_).1.2.1, (FX.oct HF m2_).1.2.2, (FX.oct HF m3_).1.1, (FX.oct HF m3_).1.2.1, (FX.oct HF m3_).1.2.2, (FX.oct HF m4_).1.1, (FX.oct HF m4_).1.2.1, (FX.oct HF m4_).1.2.2, (FX.oct HF m5_).1.1, (FX.oct HF m5_).1.2.1, (FX.oct HF m5_).1.2.2⟩ (fun hHeld => ?_)
    clear hK K
    refine nO_ 37 ?_
    refine pV_ 14 38 (mB 38 32767) HT_ ?_
    refine pV_ 15 39 (mB 38 65535) HT_ ?_
    refine pV_ 16 40 (mB 38 131071) HT_ ?_
    refine tV_ 17 41 (mB 38 262143) HT_ HW_ hHeld ?_
    refine tV_ 18 42 (mB 38 524287) HT_ HW_ hHeld ?_
    refine tV_ 19 43 (mB 38 1048575) HT_ HW_ hHeld ?_
    refine one_ (i := 20) (N := some 44) (mB 38 2097151) rfl rfl (one_of HT_.out (by kernel_rfl)) (by decide) (fun K hK => ?_)
    refine goes_ Try.func29 (by kernel_rfl) rfl #[X.val, Y.val] (by rfl) rfl rfl vL ?_
    with_reducible refine (rjoin_o (HX.out.next HS.out.below) (HY.out.next HS.out.below) HS.out.below GX.out GY.out).mono ?_
    rintro e wk ⟨z1, rfl, hz1, ho, hb⟩; refine ⟨_, rfl, ?_⟩
    have n_ := Aside0.mk (HS.out.call hb ho); have f_ := Aside0.mk (HF.out.next hb); clear HS HF; have HS := n_; have HF := f_; clear n_ f_ ho hb
    refine hK.out _ _ ⟨(FX.oct HF m0_).1.1, (FX.oct HF m0_).1.2.1, (FX.oct HF m0_).1.2.2, (FX.oct HF m1_).1.1, (FX.oct HF m1_).1.2.1, (FX.oct HF m1_).1.2.2, (FX.oct HF m2_).1.1, (FX.oct HF m2_).1.2.1, (FX.oct HF m2_).1.2.2, (FX.oct HF m3_).1.1, (FX.oct HF m3_).1.2.1, (FX.oct HF m3_).1.2.2, (FX.oct HF m4_).1.1, (FX.oct HF m4_).1.2.1, (FX.oct HF m4_).1.2.2, (FX.oct HF m5_).1.1, (FX.oct HF m5_).1.2.1, (FX.oct HF m5_).1.2.2⟩ (fun hHeld => ?_)
    clear hK K
    refine nO_ 44 ?_
    refine one_ (i := 21) (N := some 45) (mB 38 4194303) rfl rfl (one_of HT_.out (by kernel_rfl)) (by decide) (fun K hK => ?_)
    refine goes_ Try.func15 (by kernel_rfl) rfl #[jv.val, z1.val] (by rfl) rfl rfl vL ?_
    with_reducible refine (equal_o (HS.out.own _ m2_).oc (HS.out.own _ m0_).oc (Below.refl _ _) (HJ.out.1.trans hz1.symm) HJ.out.2.1 HJ.out.2.2).mono ?_
    rintro e wk ⟨rfl, hb⟩; refine ⟨_, rfl, ?_⟩
    have n_ := Aside0.mk (HS.out.next hb); have f_ := Aside0.mk (HF.out.next hb); clear HS HF; have HS := n_; have HF := f_; clear n_ f_ hb
    refine hK.out _ _ ⟨(FX.oct HF m0_).1.1, (FX.oct HF m0_).1.2.1, (FX.oct HF m0_).1.2.2, (FX.oct HF m1_).1.1, (FX.oct HF m1_).1.2.1, (FX.oct HF m1_).1.2.2, (FX.oct HF m2_).1.1, (FX.oct HF m2_).1.2.1, (FX.oct HF m2_).1.2.2, (FX.oct HF m3_).1.1, (FX.oct HF m3_).1.2.1, (FX.oct HF m3_).1.2.2, (FX.oct HF m4_).1.1, (FX.oct HF m4_).1.2.1, (FX.oct HF m4_).1.2.2, (FX.oct HF m5_).1.1, (FX.oct HF m5_).1.2.1, (FX.oct HF m5_).1.2.2⟩ (fun hHeld => ?_)
    clear hK K
    refine nO_ 45 ?_
    refine pV_ 22 46 (mB 38 8388607) HT_ ?_
    refine pV_ 23 47 (mB 38 16777215) HT_ ?_
    refine pV_ 24 48 (mB 38 33554431) HT_ ?_
    refine tV_ 25 49 (mB 38 67108863) HT_ HW_ hHeld ?_
    refine tV_ 26 50 (mB 38 134217727) HT_ HW_ hHeld ?_
    refine tV_ 27 51 (mB 38 268435455) HT_ HW_ hHeld ?_
    refine one_ (i := 28) (N := some 52) (mB 38 536870911) rfl rfl (one_of HT_.out (by kernel_rfl)) (by decide) (fun K hK => ?_)
    refine goes_ Try.func41 (by kernel_rfl) rfl #[X.val, Y.val] (by rfl) rfl rfl vL ?_
    with_reducible refine (rmeet_own (HX.out.next HS.out.below) (HY.out.next HS.out.below) HS.out.below GX.out GY.out).mono ?_
    rintro e wk ⟨z2, rfl, hz2, ho, hb⟩; refine ⟨_, rfl, ?_⟩
    have n_ := Aside0.mk (HS.out.call hb ho); have f_ := Aside0.mk (HF.out.next hb); clear HS HF; have HS := n_; have HF := f_; clear n_ f_ ho hb
    refine hK.out _ _ ⟨(FX.oct HF m0_).1.1, (FX.oct HF m0_).1.2.1, (FX.oct HF m0_).1.2.2, (FX.oct HF m1_).1.1, (FX.oct HF m1_).1.2.1, (FX.oct HF m1_).1.2.2, (FX.oct HF m2_).1.1, (FX.oct HF m2_).1.2.1, (FX.oct HF m2_).1.2.2, (FX.oct HF m3_).1.1, (FX.oct HF m3_).1.2.1, (FX.oct HF m3_).1.2.2, (FX.oct HF m4_).1.1, (FX.oct HF m4_).1.2.1, (FX.oct HF m4_).1.2.2, (FX.oct HF m5_).1.1, (FX.oct HF m5_).1.2.1, (FX.oct HF m5_).1.2.2⟩ (fun hHeld => ?_)
    clear hK K
    refine nO_ 52 ?_
    refine one_ (i := 29) (N := some 53) (mB 38 1073741823) rfl rfl (one_of HT_.out (by kernel_rfl)) (by decide) (fun K hK => ?_)
    refine goes_ Try.func15 (by kernel_rfl) rfl #[mv.val, z2.val] (by rfl) rfl rfl vL ?_
    with_reducible refine (equal_o (HS.out.own _ m2_).oc (HS.out.own _ m0_).oc (Below.refl _ _) (HM.out.1.trans hz2.symm) HM.out.2.1 HM.out.2.2).mono ?_
    rintro e wk ⟨rfl, hb⟩; refine ⟨_, rfl, ?_⟩
    have n_ := Aside0.mk (HS.out.next hb); have f_ := Aside0.mk (HF.out.next hb); clear HS HF; have HS := n_; have HF := f_; clear n_ f_ hb
    refine hK.out _ _ ⟨(FX.oct HF m0_).1.1, (FX.oct HF m0_).1.2.1, (FX.oct HF m0_).1.2.2, (FX.oct HF m1_).1.1, (FX.oct HF m1_).1.2.1, (FX.oct HF m1_).1.2.2, (FX.oct HF m2_).1.1, (FX.oct HF m2_).1.2.1, (FX.oct HF m2_).1.2.2, (FX.oct HF m3_).1.1, (FX.oct HF m3_).1.2.1, (FX.oct HF m3_).1.2.2, (FX.oct HF m4_).1.1, (FX.oct HF m4_).1.2.1, (FX.oct HF m4_).1.2.2, (FX.oct HF m5_).1.1, (FX.oct HF m5_).1.2.1, (FX.oct HF m5_).1.2.2⟩ (fun hHeld => ?_)
    clear hK K
    refine nO_ 53 ?_
    refine pV_ 30 54 (mB 38 2147483647) HT_ ?_
    refine pV_ 31 55 (mB 38 4294967295) HT_ ?_
    refine pV_ 32 56 (mB 38 8589934591) HT_ ?_
    refine tV_ 33 57 (mB 38 17179869183) HT_ HW_ hHeld ?_
    refine tV_ 34 58 (mB 38 34359738367) HT_ HW_ hHeld ?_
    refine one_ (i := 35) (N := some 59) (mB 38 68719476735) rfl rfl (one_of HT_.out (by kernel_rfl)) (by decide) (fun K hK => ?_)
    refine goes_ Try.func38 (by kernel_rfl) rfl #[xv.val, xv.val] (by rfl) rfl rfl vL ?_
    with_reducible refine (leq_at (HS.out.own _ m5_).oc (HS.out.own _ m5_).oc (Below.refl _ _) OXV.out OXV.out TR.out).mono ?_
    rintro e wk ⟨rfl, hb⟩; refine ⟨_, rfl, ?_⟩
    have n_ := Aside0.mk (HS.out.next hb); have f_ := Aside0.mk (HF.out.next hb); clear HS HF; have HS := n_; have HF := f_; clear n_ f_ hb
    refine hK.out _ _ ⟨(FX.oct HF m0_).1.1, (FX.oct HF m0_).1.2.1, (FX.oct HF m0_).1.2.2, (FX.oct HF m1_).1.1, (FX.oct HF m1_).1.2.1, (FX.oct HF m1_).1.2.2, (FX.oct HF m2_).1.1, (FX.oct HF m2_).1.2.1, (FX.oct HF m2_).1.2.2, (FX.oct HF m3_).1.1, (FX.oct HF m3_).1.2.1, (FX.oct HF m3_).1.2.2, (FX.oct HF m4_).1.1, (FX.oct HF m4_).1.2.1, (FX.oct HF m4_).1.2.2, (FX.oct HF m5_).1.1, (FX.oct HF m5_).1.2.1, (FX.oct HF m5_).1.2.2⟩ (fun hHeld => ?_)
    clear hK K
    refine nO_ 59 ?_
    refine pV_ 36 60 (mB 38 137438953471) HT_ ?_
    refine pV_ 37 61 (mB 38 274877906943) HT_ ?_
    refine done_ (done_of HT_.out (by kernel_rfl)) ?_
    clear HT_ HW_ hHeld
    have n_ := Aside0.mk HS.out.tail.tail.swap; clear HS; have HS := n_; clear n_
    go_upto_region 7 with fail
    obtain ⟨⟨km0, km1, km2⟩, fm0, fm1, fm2⟩ := FX.oct HF m0_; obtain ⟨⟨kj0, kj1, kj2⟩, fj0, fj1, fj2⟩ := FX.oct HF m1_; obtain ⟨⟨ky0, ky1, ky2⟩, fy0, fy1, fy2⟩ := FX.oct HF m2_; obtain ⟨⟨kx0, kx1, kx2⟩, fx0, fx1, fx2⟩ := FX.oct HF m3_; obtain ⟨⟨ka0, ka1, ka2⟩, fa0, fa1, fa2⟩ := FX.oct HF m4_; obtain ⟨⟨kb0, kb1, kb2⟩, fb0, fb1, fb2⟩ := FX.oct HF m5_
    go_wp2_with (first | (go_at_call 24; (with_reducible refine (spoil_o (OS.to HS) HJ.out.2.1 HJ.out.2.2).mono ?_); rintro e wk ⟨rfl, ho, hk⟩; have f_ := Aside0.mk ((FX.to HF).kept hk ((FX.to HF).not_own ((OS.to HS).own _ m0_) HT.out)); clear HS HF; have HS := Aside0.mk ho; have HF := f_; clear f_ ho hk; clear km0 km1 km2 fm0 fm1 fm2; obtain ⟨⟨km0, km1, km2⟩, fm0, fm1, fm2⟩ := FX.oct HF m0_; clear kj0 kj1 kj2 fj0 fj1 fj2; obtain ⟨⟨kj0, kj1, kj2⟩, fj0, fj1, fj2⟩ := FX.oct HF m1_; clear ky0 ky1 ky2 fy0 fy1 fy2; obtain ⟨⟨ky0, ky1, ky2⟩, fy0, fy1, fy2⟩ := FX.oct HF m2_; clear kx0 kx1 kx2 fx0 fx1 fx2; obtain ⟨⟨kx0, kx1, kx2⟩, fx0, fx1, fx2⟩ := FX.oct HF m3_; clear ka0 ka1 ka2 fa0 fa1 fa2; obtain ⟨⟨ka0, ka1, ka2⟩, fa0, fa1, fa2⟩ := FX.oct HF m4_; clear kb0 kb1 kb2 fb0 fb1 fb2; obtain ⟨⟨kb0, kb1, kb2⟩, fb0, fb1, fb2⟩ := FX.oct HF m5_) | (go_at_call 24; (with_reducible refine (spoil_o (OS.to HS) HM.out.2.1 HM.out.2.2).mono ?_); rintro e wk ⟨rfl, ho, hk⟩; have f_ := Aside0.mk ((FX.to HF).kept hk ((FX.to HF).not_own ((OS.to HS).own _ m0_) HT.out)); clear HS HF; have HS := Aside0.mk ho; have HF := f_; clear f_ ho hk; clear km0 km1 km2 fm0 fm1 fm2; obtain ⟨⟨km0, km1, km2⟩, fm0, fm1, fm2⟩ := FX.oct HF m0_; clear kj0 kj1 kj2 fj0 fj1 fj2; obtain ⟨⟨kj0, kj1, kj2⟩, fj0, fj1, fj2⟩ := FX.oct HF m1_; clear ky0 ky1 ky2 fy0 fy1 fy2; obtain ⟨⟨ky0, ky1, ky2⟩, fy0, fy1, fy2⟩ := FX.oct HF m2_; clear kx0 kx1 kx2 fx0 fx1 fx2; obtain ⟨⟨kx0, kx1, kx2⟩, fx0, fx1, fx2⟩ := FX.oct HF m3_; clear ka0 ka1 ka2 fa0 fa1 fa2; obtain ⟨⟨ka0, ka1, ka2⟩, fa0, fa1, fa2⟩ := FX.oct HF m4_; clear kb0 kb1 kb2 fb0 fb1 fb2; obtain ⟨⟨kb0, kb1, kb2⟩, fb0, fb1, fb2⟩ := FX.oct HF m5_) | (go_at_call 15; (with_reducible refine (equal_o (OS.oc HS m1_) (Oc.at_ HX (OS.bel HS)) (OS.bel HS) EX.out.1 EX.out.2.1 EX.out.2.2).mono ?_); rintro e wk ⟨rfl, hb⟩; have n_ := Aside0.mk ((OS.to HS).next hb); have f_ := Aside0.mk ((FX.to HF).next hb); clear HS HF; have HS := n_; have HF := f_; clear n_ f_ hb; clear km0 km1 km2 fm0 fm1 fm2; obtain ⟨⟨km0, km1, km2⟩, fm0, fm1, fm2⟩ := FX.oct HF m0_; clear kj0 kj1 kj2 fj0 fj1 fj2; obtain ⟨⟨kj0, kj1, kj2⟩, fj0, fj1, fj2⟩ := FX.oct HF m1_; clear ky0 ky1 ky2 fy0 fy1 fy2; obtain ⟨⟨ky0, ky1, ky2⟩, fy0, fy1, fy2⟩ := FX.oct HF m2_; clear kx0 kx1 kx2 fx0 fx1 fx2; obtain ⟨⟨kx0, kx1, kx2⟩, fx0, fx1, fx2⟩ := FX.oct HF m3_; clear ka0 ka1 ka2 fa0 fa1 fa2; obtain ⟨⟨ka0, ka1, ka2⟩, fa0, fa1, fa2⟩ := FX.oct HF m4_; clear kb0 kb1 kb2 fb0 fb1 fb2; obtain ⟨⟨kb0, kb1, kb2⟩, fb0, fb1, fb2⟩ := FX.oct HF m5_) | (go_at_call 15; (with_reducible refine (equal_o (OS.oc HS m0_) (Oc.at_ HY (OS.bel HS)) (OS.bel HS) EY.out.1 EY.out.2.1 EY.out.2.2).mono ?_); rintro e wk ⟨rfl, hb⟩; have n_ := Aside0.mk ((OS.to HS).next hb); have f_ := Aside0.mk ((FX.to HF).next hb); clear HS HF; have HS := n_; have HF := f_; clear n_ f_ hb; clear km0 km1 km2 fm0 fm1 fm2; obtain ⟨⟨km0, km1, km2⟩, fm0, fm1, fm2⟩ := FX.oct HF m0_; clear kj0 kj1 kj2 fj0 fj1 fj2; obtain ⟨⟨kj0, kj1, kj2⟩, fj0, fj1, fj2⟩ := FX.oct HF m1_; clear ky0 ky1 ky2 fy0 fy1 fy2; obtain ⟨⟨ky0, ky1, ky2⟩, fy0, fy1, fy2⟩ := FX.oct HF m2_; clear kx0 kx1 kx2 fx0 fx1 fx2; obtain ⟨⟨kx0, kx1, kx2⟩, fx0, fx1, fx2⟩ := FX.oct HF m3_; clear ka0 ka1 ka2 fa0 fa1 fa2; obtain ⟨⟨ka0, ka1, ka2⟩, fa0, fa1, fa2⟩ := FX.oct HF m4_; clear kb0 kb1 kb2 fb0 fb1 fb2; obtain ⟨⟨kb0, kb1, kb2⟩, fb0, fb1, fb2⟩ := FX.oct HF m5_) | (go_at_call 20; (with_reducible refine (awake_o).mono ?_); rintro e wk ⟨rfl, hb⟩; have n_ := Aside0.mk ((OS.to HS).next hb); have f_ := Aside0.mk ((FX.to HF).next hb); clear HS HF; have HS := n_; have HF := f_; clear n_ f_ hb; clear km0 km1 km2 fm0 fm1 fm2; obtain ⟨⟨km0, km1, km2⟩, fm0, fm1, fm2⟩ := FX.oct HF m0_; clear kj0 kj1 kj2 fj0 fj1 fj2; obtain ⟨⟨kj0, kj1, kj2⟩, fj0, fj1, fj2⟩ := FX.oct HF m1_; clear ky0 ky1 ky2 fy0 fy1 fy2; obtain ⟨⟨ky0, ky1, ky2⟩, fy0, fy1, fy2⟩ := FX.oct HF m2_; clear kx0 kx1 kx2 fx0 fx1 fx2; obtain ⟨⟨kx0, kx1, kx2⟩, fx0, fx1, fx2⟩ := FX.oct HF m3_; clear ka0 ka1 ka2 fa0 fa1 fa2; obtain ⟨⟨ka0, ka1, ka2⟩, fa0, fa1, fa2⟩ := FX.oct HF m4_; clear kb0 kb1 kb2 fb0 fb1 fb2; obtain ⟨⟨kb0, kb1, kb2⟩, fb0, fb1, fb2⟩ := FX.oct HF m5_))
    go_ret
    exact ⟨rfl, OS.bel HS⟩
  | false =>
   cases s with
   | true =>
    have n_ := Aside0.mk (HS.out.next (below_drew (Below.refl _ _))); have f_ := Aside0.mk (HF.out.next (below_drew (Below.refl _ _))); clear HS HF; have HS := n_; have HF := f_; clear n_ f_
    refine start_ (n := 38) (S := fun w' => w'.cell? ⟨gm, 0, none⟩ = some (.slice mv.P mv.v.length mv.p) ∧ w'.cell? ⟨gm, 1, none⟩ = some (.slice mv.Q mv.m.length mv.q) ∧ w'.cell? ⟨gm, 2, none⟩ = some (.bool mv.e) ∧ w'.cell? ⟨gj, 0, none⟩ = some (.slice jv.P jv.v.length jv.p) ∧ w'.cell? ⟨gj, 1, none⟩ = some (.slice jv.Q jv.m.length jv.q) ∧ w'.cell? ⟨gj, 2, none⟩ = some (.bool jv.e) ∧ w'.cell? ⟨gy, 0, none⟩ = some (.slice yv.P yv.v.length yv.p) ∧ w'.cell? ⟨gy, 1, none⟩ = some (.slice yv.Q yv.m.length yv.q) ∧ w'.cell? ⟨gy, 2, none⟩ = some (.bool yv.e) ∧ w'.cell? ⟨gx, 0, none⟩ = some (.slice xv.P xv.v.length xv.p) ∧ w'.cell? ⟨gx, 1, none⟩ = some (.slice xv.Q xv.m.length xv.q) ∧ w'.cell? ⟨gx, 2, none⟩ = some (.bool xv.e) ∧ w'.cell? ⟨ga, 0, none⟩ = some (.slice X.P X.v.length X.p) ∧ w'.cell? ⟨ga, 1, none⟩ = some (.slice X.Q X.m.length X.q) ∧ w'.cell? ⟨ga, 2, none⟩ = some (.bool X.e) ∧ w'.cell? ⟨gb, 0, none⟩ = some (.slice Y.P Y.v.length Y.p) ∧ w'.cell? ⟨gb, 1, none⟩ = some (.slice Y.Q Y.m.length Y.q) ∧ w'.cell? ⟨gb, 2, none⟩ = some (.bool Y.e)) (ds := []) (mB 38 0) (by kernel_rfl) rfl (by kernel_rfl) ⟨(FX.oct HF m0_).1.1, (FX.oct HF m0_).1.2.1, (FX.oct HF m0_).1.2.2, (FX.oct HF m1_).1.1, (FX.oct HF m1_).1.2.1, (FX.oct HF m1_).1.2.2, (FX.oct HF m2_).1.1, (FX.oct HF m2_).1.2.1, (FX.oct HF m2_).1.2.2, (FX.oct HF m3_).1.1, (FX.oct HF m3_).1.2.1, (FX.oct HF m3_).1.2.2, (FX.oct HF m4_).1.1, (FX.oct HF m4_).1.2.1, (FX.oct HF m4_).1.2.2, (FX.oct HF m5_).1.1, (FX.oct HF m5_).1.2.1, (FX.oct HF m5_).1.2.2⟩ (fun hHeld => ?_)
    refine with_tabW octOrders_tab5 octOrders_bits5 (fun HT_ HW_ => ?_)
    generalize hWd : World.drew _ = Wd at HS HF hHeld ⊢; clear hWd
    refine tV_ 0 24 (mB 38 1) HT_ HW_ hHeld ?_
    refine tV_ 1 25 (mB 38 3) HT_ HW_ hHeld ?_
    refine tV_ 3 27 (mB 38 11) HT_ HW_ hHeld ?_
    refine tV_ 4 28 (mB 38 27) HT_ HW_ hHeld ?_
    refine one_ (i := 2) (N := some 26) (mB 38 31) rfl rfl (one_of HT_.out (by kernel_rfl)) (by decide) (fun K hK => ?_)
    refine goes_ Try.func38 (by kernel_rfl) rfl #[xv.val, yv.val] (by rfl) rfl rfl vL ?_
    with_reducible refine (leq_at (HS.out.own _ m3_).oc (HS.out.own _ m2_).oc (Below.refl _ _) OXV.out OYV.out T1.out).mono ?_
    rintro e wk ⟨rfl, hb⟩; refine ⟨_, rfl, ?_⟩
    have n_ := Aside0.mk (HS.out.next hb); have f_ := Aside0.mk (HF.out.next hb); clear HS HF; have HS := n_; have HF := f_; clear n_ f_ hb
    refine hK.out _ _ ⟨(FX.oct HF m0_).1.1, (FX.oct HF m0_).1.2.1, (FX.oct HF m0_).1.2.2, (FX.oct HF m1_).1.1, (FX.oct HF m1_).1.2.1, (FX.oct HF m1_).1.2.2, (FX.oct HF m2_).1.1, (FX.oct HF m2_).1.2.1, (FX.oct HF m2_).1.2.2, (FX.oct HF m3_).1.1, (FX.oct HF m3_).1.2.1, (FX.oct HF m3_).1.2.2, (FX.oct HF m4_).1.1, (FX.oct HF m4_).1.2.1, (FX.oct HF m4_).1.2.2, (FX.oct HF m5_).1.1, (FX.oct HF m5_).1.2.1, (FX.oct HF m5_).1.2.2⟩ (fun hHeld => ?_)
    clear hK K
    refine nO_ 26 ?_
    refine one_ (i := 5) (N := some 29) (mB 38 63) rfl rfl (one_of HT_.out (by kernel_rfl)) (by decide) (fun K hK => ?_)
    refine goes_ Try.func30 (by kernel_rfl) rfl #[X.val, Y.val] (by rfl) rfl rfl vL ?_
    with_reducible refine (rleq_at (HX.out.next HS.out.below) (HY.out.next HS.out.below) HS.out.below GX.out GY.out T2.out).mono ?_
    rintro e wk ⟨rfl, hb⟩; refine ⟨_, rfl, ?_⟩
    have n_ := Aside0.mk (HS.out.next hb); have f_ := Aside0.mk (HF.out.next hb); clear HS HF; have HS := n_; have HF := f_; clear n_ f_ hb
    refine hK.out _ _ ⟨(FX.oct HF m0_).1.1, (FX.oct HF m0_).1.2.1, (FX.oct HF m0_).1.2.2, (FX.oct HF m1_).1.1, (FX.oct HF m1_).1.2.1, (FX.oct HF m1_).1.2.2, (FX.oct HF m2_).1.1, (FX.oct HF m2_).1.2.1, (FX.oct HF m2_).1.2.2, (FX.oct HF m3_).1.1, (FX.oct HF m3_).1.2.1, (FX.oct HF m3_).1.2.2, (FX.oct HF m4_).1.1, (FX.oct HF m4_).1.2.1, (FX.oct HF m4_).1.2.2, (FX.oct HF m5_).1.1, (FX.oct HF m5_).1.2.1, (FX.oct HF m5_).1.2.2⟩ (fun hHeld => ?_)
    clear hK K
    refine nO_ 29 ?_
    refine pV_ 6 30 (mB 38 127) HT_ ?_
    refine pV_ 7 31 (mB 38 255) HT_ ?_
    refine tV_ 8 32 (mB 38 511) HT_ HW_ hHeld ?_
    refine tV_ 9 33 (mB 38 1023) HT_ HW_ hHeld ?_
    refine tV_ 11 35 (mB 38 3071) HT_ HW_ hHeld ?_
    refine tV_ 12 36 (mB 38 7167) HT_ HW_ hHeld ?_
    refine one_ (i := 10) (N := some 34) (mB 38 8191) rfl rfl (one_of HT_.out (by kernel_rfl)) (by decide) (fun K hK => ?_)
    refine goes_ Try.func39 (by kernel_rfl) rfl #[xv.val, yv.val] (by rfl) rfl rfl vL ?_
    with_reducible refine (same_as (HS.out.own _ m3_).oc (HS.out.own _ m2_).oc (Below.refl _ _) OXV.out OYV.out T1.out T1'.out TS.out).mono ?_
    rintro e wk ⟨rfl, hb⟩; refine ⟨_, rfl, ?_⟩
    have n_ := Aside0.mk (HS.out.next hb); have f_ := Aside0.mk (HF.out.next hb); clear HS HF; have HS := n_; have HF := f_; clear n_ f_ hb
    refine hK.out _ _ ⟨(FX.oct HF m0_).1.1, (FX.oct HF m0_).1.2.1, (FX.oct HF m0_).1.2.2, (FX.oct HF m1_).1.1, (FX.oct HF m1_).1.2.1, (FX.oct HF m1_).1.2.2, (FX.oct HF m2_).1.1, (FX.oct HF m2_).1.2.1, (FX.oct HF m2_).1.2.2, (FX.oct HF m3_).1.1, (FX.oct HF m3_).1.2.1, (FX.oct HF m3_).1.2.2, (FX.oct HF m4_).1.1, (FX.oct HF m4_).1.2.1, (FX.oct HF m4_).1.2.2, (FX.oct HF m5_).1.1, (FX.oct HF m5_).1.2.1, (FX.oct HF m5_).1.2.2⟩ (fun hHeld => ?_)
    clear hK K
    refine nO_ 34 ?_
    refine one_ (i := 13) (N := some 37) (mB 38 16383) rfl rfl (one_of HT_.out (by kernel_rfl)) (by decide) (fun K hK => ?_)
    refine goes_ Try.func40 (by kernel_rfl) rfl #[X.val, Y.val] (by rfl) rfl rfl vL ?_
    with_reducible refine (rsame_as (HX.out.next HS.out.below) (HY.out.next HS.out.below) HS.out.below GX.out GY.out T2.out T2'.out TS.out).mono ?_
    rintro e wk ⟨rfl, hb⟩; refine ⟨_, rfl, ?_⟩
    have n_ := Aside0.mk (HS.out.next hb); have f_ := Aside0.mk (HF.out.next hb); clear HS HF; have HS := n_; have HF := f_; clear n_ f_ hb
    refine hK.out _ _ ⟨(FX.oct HF m0_).1.1, (FX.oct HF m0_).1.2.1, (FX.oct HF m0_).1.2.2, (FX.oct HF m1_).1.1, (FX.oct HF m1_).1.2.1, (FX.oct HF m1_).1.2.2, (FX.oct HF m2_).1.1, (FX.oct HF m2_).1.2.1, (FX.oct HF m2_).1.2.2, (FX.oct HF m3_).1.1, (FX.oct HF m3_).1.2.1, (FX.oct HF m3_).1.2.2, (FX.oct HF m4_).1.1, (FX.oct HF m4_).1.2.1, (FX.oct HF m4_).1.2.2, (FX.oct HF m5_).1.1, (FX.oct HF m5_).1.2.1, (FX.oct HF m5_).1.2.2⟩ (fun hHeld => ?_)
    clear hK K
    refine nO_ 37 ?_
    refine pV_ 14 38 (mB 38 32767) HT_ ?_
    refine pV_ 15 39 (mB 38 65535) HT_ ?_
    refine pV_ 16 40 (mB 38 131071) HT_ ?_
    refine tV_ 17 41 (mB 38 262143) HT_ HW_ hHeld ?_
    refine tV_ 18 42 (mB 38 524287) HT_ HW_ hHeld ?_
    refine tV_ 19 43 (mB 38 1048575) HT_ HW_ hHeld ?_
    refine one_ (i := 20) (N := some 44) (mB 38 2097151) rfl rfl (one_of HT_.out (by kernel_rfl)) (by decide) (fun K hK => ?_)
    refine goes_ Try.func29 (by kernel_rfl) rfl #[X.val, Y.val] (by rfl) rfl rfl vL ?_
    with_reducible refine (rjoin_o (HX.out.next HS.out.below) (HY.out.next HS.out.below) HS.out.below GX.out GY.out).mono ?_
    rintro e wk ⟨z1, rfl, hz1, ho, hb⟩; refine ⟨_, rfl, ?_⟩
    have n_ := Aside0.mk (HS.out.call hb ho); have f_ := Aside0.mk (HF.out.next hb); clear HS HF; have HS := n_; have HF := f_; clear n_ f_ ho hb
    refine hK.out _ _ ⟨(FX.oct HF m0_).1.1, (FX.oct HF m0_).1.2.1, (FX.oct HF m0_).1.2.2, (FX.oct HF m1_).1.1, (FX.oct HF m1_).1.2.1, (FX.oct HF m1_).1.2.2, (FX.oct HF m2_).1.1, (FX.oct HF m2_).1.2.1, (FX.oct HF m2_).1.2.2, (FX.oct HF m3_).1.1, (FX.oct HF m3_).1.2.1, (FX.oct HF m3_).1.2.2, (FX.oct HF m4_).1.1, (FX.oct HF m4_).1.2.1, (FX.oct HF m4_).1.2.2, (FX.oct HF m5_).1.1, (FX.oct HF m5_).1.2.1, (FX.oct HF m5_).1.2.2⟩ (fun hHeld => ?_)
    clear hK K
    refine nO_ 44 ?_
    refine one_ (i := 21) (N := some 45) (mB 38 4194303) rfl rfl (one_of HT_.out (by kernel_rfl)) (by decide) (fun K hK => ?_)
    refine goes_ Try.func15 (by kernel_rfl) rfl #[jv.val, z1.val] (by rfl) rfl rfl vL ?_
    with_reducible refine (equal_o (HS.out.own _ m2_).oc (HS.out.own _ m0_).oc (Below.refl _ _) (HJ.out.1.trans hz1.symm) HJ.out.2.1 HJ.out.2.2).mono ?_
    rintro e wk ⟨rfl, hb⟩; refine ⟨_, rfl, ?_⟩
    have n_ := Aside0.mk (HS.out.next hb); have f_ := Aside0.mk (HF.out.next hb); clear HS HF; have HS := n_; have HF := f_; clear n_ f_ hb
    refine hK.out _ _ ⟨(FX.oct HF m0_).1.1, (FX.oct HF m0_).1.2.1, (FX.oct HF m0_).1.2.2, (FX.oct HF m1_).1.1, (FX.oct HF m1_).1.2.1, (FX.oct HF m1_).1.2.2, (FX.oct HF m2_).1.1, (FX.oct HF m2_).1.2.1, (FX.oct HF m2_).1.2.2, (FX.oct HF m3_).1.1, (FX.oct HF m3_).1.2.1, (FX.oct HF m3_).1.2.2, (FX.oct HF m4_).1.1, (FX.oct HF m4_).1.2.1, (FX.oct HF m4_).1.2.2, (FX.oct HF m5_).1.1, (FX.oct HF m5_).1.2.1, (FX.oct HF m5_).1.2.2⟩ (fun hHeld => ?_)
    clear hK K
    refine nO_ 45 ?_
    refine pV_ 22 46 (mB 38 8388607) HT_ ?_
    refine pV_ 23 47 (mB 38 16777215) HT_ ?_
    refine pV_ 24 48 (mB 38 33554431) HT_ ?_
    refine tV_ 25 49 (mB 38 67108863) HT_ HW_ hHeld ?_
    refine tV_ 26 50 (mB 38 134217727) HT_ HW_ hHeld ?_
    refine tV_ 27 51 (mB 38 268435455) HT_ HW_ hHeld ?_
    refine one_ (i := 28) (N := some 52) (mB 38 536870911) rfl rfl (one_of HT_.out (by kernel_rfl)) (by decide) (fun K hK => ?_)
    refine goes_ Try.func41 (by kernel_rfl) rfl #[X.val, Y.val] (by rfl) rfl rfl vL ?_
    with_reducible refine (rmeet_own (HX.out.next HS.out.below) (HY.out.next HS.out.below) HS.out.below GX.out GY.out).mono ?_
    rintro e wk ⟨z2, rfl, hz2, ho, hb⟩; refine ⟨_, rfl, ?_⟩
    have n_ := Aside0.mk (HS.out.call hb ho); have f_ := Aside0.mk (HF.out.next hb); clear HS HF; have HS := n_; have HF := f_; clear n_ f_ ho hb
    refine hK.out _ _ ⟨(FX.oct HF m0_).1.1, (FX.oct HF m0_).1.2.1, (FX.oct HF m0_).1.2.2, (FX.oct HF m1_).1.1, (FX.oct HF m1_).1.2.1, (FX.oct HF m1_).1.2.2, (FX.oct HF m2_).1.1, (FX.oct HF m2_).1.2.1, (FX.oct HF m2_).1.2.2, (FX.oct HF m3_).1.1, (FX.oct HF m3_).1.2.1, (FX.oct HF m3_).1.2.2, (FX.oct HF m4_).1.1, (FX.oct HF m4_).1.2.1, (FX.oct HF m4_).1.2.2, (FX.oct HF m5_).1.1, (FX.oct HF m5_).1.2.1, (FX.oct HF m5_).1.2.2⟩ (fun hHeld => ?_)
    clear hK K
    refine nO_ 52 ?_
    refine one_ (i := 29) (N := some 53) (mB 38 1073741823) rfl rfl (one_of HT_.out (by kernel_rfl)) (by decide) (fun K hK => ?_)
    refine goes_ Try.func15 (by kernel_rfl) rfl #[mv.val, z2.val] (by rfl) rfl rfl vL ?_
    with_reducible refine (equal_o (HS.out.own _ m2_).oc (HS.out.own _ m0_).oc (Below.refl _ _) (HM.out.1.trans hz2.symm) HM.out.2.1 HM.out.2.2).mono ?_
    rintro e wk ⟨rfl, hb⟩; refine ⟨_, rfl, ?_⟩
    have n_ := Aside0.mk (HS.out.next hb); have f_ := Aside0.mk (HF.out.next hb); clear HS HF; have HS := n_; have HF := f_; clear n_ f_ hb
    refine hK.out _ _ ⟨(FX.oct HF m0_).1.1, (FX.oct HF m0_).1.2.1, (FX.oct HF m0_).1.2.2, (FX.oct HF m1_).1.1, (FX.oct HF m1_).1.2.1, (FX.oct HF m1_).1.2.2, (FX.oct HF m2_).1.1, (FX.oct HF m2_).1.2.1, (FX.oct HF m2_).1.2.2, (FX.oct HF m3_).1.1, (FX.oct HF m3_).1.2.1, (FX.oct HF m3_).1.2.2, (FX.oct HF m4_).1.1, (FX.oct HF m4_).1.2.1, (FX.oct HF m4_).1.2.2, (FX.oct HF m5_).1.1, (FX.oct HF m5_).1.2.1, (FX.oct HF m5_).1.2.2⟩ (fun hHeld => ?_)
    clear hK K
    refine nO_ 53 ?_
    refine pV_ 30 54 (mB 38 2147483647) HT_ ?_
    refine pV_ 31 55 (mB 38 4294967295) HT_ ?_
    refine pV_ 32 56 (mB 38 8589934591) HT_ ?_
    refine tV_ 33 57 (mB 38 17179869183) HT_ HW_ hHeld ?_
    refine tV_ 34 58 (mB 38 34359738367) HT_ HW_ hHeld ?_
    refine one_ (i := 35) (N := some 59) (mB 38 68719476735) rfl rfl (one_of HT_.out (by kernel_rfl)) (by decide) (fun K hK => ?_)
    refine goes_ Try.func38 (by kernel_rfl) rfl #[xv.val, xv.val] (by rfl) rfl rfl vL ?_
    with_reducible refine (leq_at (HS.out.own _ m5_).oc (HS.out.own _ m5_).oc (Below.refl _ _) OXV.out OXV.out TR.out).mono ?_
    rintro e wk ⟨rfl, hb⟩; refine ⟨_, rfl, ?_⟩
    have n_ := Aside0.mk (HS.out.next hb); have f_ := Aside0.mk (HF.out.next hb); clear HS HF; have HS := n_; have HF := f_; clear n_ f_ hb
    refine hK.out _ _ ⟨(FX.oct HF m0_).1.1, (FX.oct HF m0_).1.2.1, (FX.oct HF m0_).1.2.2, (FX.oct HF m1_).1.1, (FX.oct HF m1_).1.2.1, (FX.oct HF m1_).1.2.2, (FX.oct HF m2_).1.1, (FX.oct HF m2_).1.2.1, (FX.oct HF m2_).1.2.2, (FX.oct HF m3_).1.1, (FX.oct HF m3_).1.2.1, (FX.oct HF m3_).1.2.2, (FX.oct HF m4_).1.1, (FX.oct HF m4_).1.2.1, (FX.oct HF m4_).1.2.2, (FX.oct HF m5_).1.1, (FX.oct HF m5_).1.2.1, (FX.oct HF m5_).1.2.2⟩ (fun hHeld => ?_)
    clear hK K
    refine nO_ 59 ?_
    refine pV_ 36 60 (mB 38 137438953471) HT_ ?_
    refine pV_ 37 61 (mB 38 274877906943) HT_ ?_
    refine done_ (done_of HT_.out (by kernel_rfl)) ?_
    clear HT_ HW_ hHeld
    have n_ := Aside0.mk HS.out.tail.tail.swap; clear HS; have HS := n_; clear n_
    go_upto_region 7 with fail
    obtain ⟨⟨km0, km1, km2⟩, fm0, fm1, fm2⟩ := FX.oct HF m0_; obtain ⟨⟨kj0, kj1, kj2⟩, fj0, fj1, fj2⟩ := FX.oct HF m1_; obtain ⟨⟨ky0, ky1, ky2⟩, fy0, fy1, fy2⟩ := FX.oct HF m2_; obtain ⟨⟨kx0, kx1, kx2⟩, fx0, fx1, fx2⟩ := FX.oct HF m3_; obtain ⟨⟨ka0, ka1, ka2⟩, fa0, fa1, fa2⟩ := FX.oct HF m4_; obtain ⟨⟨kb0, kb1, kb2⟩, fb0, fb1, fb2⟩ := FX.oct HF m5_
    go_wp2_with (first | (go_at_call 24; (with_reducible refine (spoil_o (OS.to HS) HJ.out.2.1 HJ.out.2.2).mono ?_); rintro e wk ⟨rfl, ho, hk⟩; have f_ := Aside0.mk ((FX.to HF).kept hk ((FX.to HF).not_own ((OS.to HS).own _ m0_) HT.out)); clear HS HF; have HS := Aside0.mk ho; have HF := f_; clear f_ ho hk; clear km0 km1 km2 fm0 fm1 fm2; obtain ⟨⟨km0, km1, km2⟩, fm0, fm1, fm2⟩ := FX.oct HF m0_; clear kj0 kj1 kj2 fj0 fj1 fj2; obtain ⟨⟨kj0, kj1, kj2⟩, fj0, fj1, fj2⟩ := FX.oct HF m1_; clear ky0 ky1 ky2 fy0 fy1 fy2; obtain ⟨⟨ky0, ky1, ky2⟩, fy0, fy1, fy2⟩ := FX.oct HF m2_; clear kx0 kx1 kx2 fx0 fx1 fx2; obtain ⟨⟨kx0, kx1, kx2⟩, fx0, fx1, fx2⟩ := FX.oct HF m3_; clear ka0 ka1 ka2 fa0 fa1 fa2; obtain ⟨⟨ka0, ka1, ka2⟩, fa0, fa1, fa2⟩ := FX.oct HF m4_; clear kb0 kb1 kb2 fb0 fb1 fb2; obtain ⟨⟨kb0, kb1, kb2⟩, fb0, fb1, fb2⟩ := FX.oct HF m5_) | (go_at_call 24; (with_reducible refine (spoil_o (OS.to HS) HM.out.2.1 HM.out.2.2).mono ?_); rintro e wk ⟨rfl, ho, hk⟩; have f_ := Aside0.mk ((FX.to HF).kept hk ((FX.to HF).not_own ((OS.to HS).own _ m0_) HT.out)); clear HS HF; have HS := Aside0.mk ho; have HF := f_; clear f_ ho hk; clear km0 km1 km2 fm0 fm1 fm2; obtain ⟨⟨km0, km1, km2⟩, fm0, fm1, fm2⟩ := FX.oct HF m0_; clear kj0 kj1 kj2 fj0 fj1 fj2; obtain ⟨⟨kj0, kj1, kj2⟩, fj0, fj1, fj2⟩ := FX.oct HF m1_; clear ky0 ky1 ky2 fy0 fy1 fy2; obtain ⟨⟨ky0, ky1, ky2⟩, fy0, fy1, fy2⟩ := FX.oct HF m2_; clear kx0 kx1 kx2 fx0 fx1 fx2; obtain ⟨⟨kx0, kx1, kx2⟩, fx0, fx1, fx2⟩ := FX.oct HF m3_; clear ka0 ka1 ka2 fa0 fa1 fa2; obtain ⟨⟨ka0, ka1, ka2⟩, fa0, fa1, fa2⟩ := FX.oct HF m4_; clear kb0 kb1 kb2 fb0 fb1 fb2; obtain ⟨⟨kb0, kb1, kb2⟩, fb0, fb1, fb2⟩ := FX.oct HF m5_) | (go_at_call 15; (with_reducible refine (equal_o (OS.oc HS m1_) (Oc.at_ HX (OS.bel HS)) (OS.bel HS) EX.out.1 EX.out.2.1 EX.out.2.2).mono ?_); rintro e wk ⟨rfl, hb⟩; have n_ := Aside0.mk ((OS.to HS).next hb); have f_ := Aside0.mk ((FX.to HF).next hb); clear HS HF; have HS := n_; have HF := f_; clear n_ f_ hb; clear km0 km1 km2 fm0 fm1 fm2; obtain ⟨⟨km0, km1, km2⟩, fm0, fm1, fm2⟩ := FX.oct HF m0_; clear kj0 kj1 kj2 fj0 fj1 fj2; obtain ⟨⟨kj0, kj1, kj2⟩, fj0, fj1, fj2⟩ := FX.oct HF m1_; clear ky0 ky1 ky2 fy0 fy1 fy2; obtain ⟨⟨ky0, ky1, ky2⟩, fy0, fy1, fy2⟩ := FX.oct HF m2_; clear kx0 kx1 kx2 fx0 fx1 fx2; obtain ⟨⟨kx0, kx1, kx2⟩, fx0, fx1, fx2⟩ := FX.oct HF m3_; clear ka0 ka1 ka2 fa0 fa1 fa2; obtain ⟨⟨ka0, ka1, ka2⟩, fa0, fa1, fa2⟩ := FX.oct HF m4_; clear kb0 kb1 kb2 fb0 fb1 fb2; obtain ⟨⟨kb0, kb1, kb2⟩, fb0, fb1, fb2⟩ := FX.oct HF m5_) | (go_at_call 15; (with_reducible refine (equal_o (OS.oc HS m0_) (Oc.at_ HY (OS.bel HS)) (OS.bel HS) EY.out.1 EY.out.2.1 EY.out.2.2).mono ?_); rintro e wk ⟨rfl, hb⟩; have n_ := Aside0.mk ((OS.to HS).next hb); have f_ := Aside0.mk ((FX.to HF).next hb); clear HS HF; have HS := n_; have HF := f_; clear n_ f_ hb; clear km0 km1 km2 fm0 fm1 fm2; obtain ⟨⟨km0, km1, km2⟩, fm0, fm1, fm2⟩ := FX.oct HF m0_; clear kj0 kj1 kj2 fj0 fj1 fj2; obtain ⟨⟨kj0, kj1, kj2⟩, fj0, fj1, fj2⟩ := FX.oct HF m1_; clear ky0 ky1 ky2 fy0 fy1 fy2; obtain ⟨⟨ky0, ky1, ky2⟩, fy0, fy1, fy2⟩ := FX.oct HF m2_; clear kx0 kx1 kx2 fx0 fx1 fx2; obtain ⟨⟨kx0, kx1, kx2⟩, fx0, fx1, fx2⟩ := FX.oct HF m3_; clear ka0 ka1 ka2 fa0 fa1 fa2; obtain ⟨⟨ka0, ka1, ka2⟩, fa0, fa1, fa2⟩ := FX.oct HF m4_; clear kb0 kb1 kb2 fb0 fb1 fb2; obtain ⟨⟨kb0, kb1, kb2⟩, fb0, fb1, fb2⟩ := FX.oct HF m5_) | (go_at_call 20; (with_reducible refine (awake_o).mono ?_); rintro e wk ⟨rfl, hb⟩; have n_ := Aside0.mk ((OS.to HS).next hb); have f_ := Aside0.mk ((FX.to HF).next hb); clear HS HF; have HS := n_; have HF := f_; clear n_ f_ hb; clear km0 km1 km2 fm0 fm1 fm2; obtain ⟨⟨km0, km1, km2⟩, fm0, fm1, fm2⟩ := FX.oct HF m0_; clear kj0 kj1 kj2 fj0 fj1 fj2; obtain ⟨⟨kj0, kj1, kj2⟩, fj0, fj1, fj2⟩ := FX.oct HF m1_; clear ky0 ky1 ky2 fy0 fy1 fy2; obtain ⟨⟨ky0, ky1, ky2⟩, fy0, fy1, fy2⟩ := FX.oct HF m2_; clear kx0 kx1 kx2 fx0 fx1 fx2; obtain ⟨⟨kx0, kx1, kx2⟩, fx0, fx1, fx2⟩ := FX.oct HF m3_; clear ka0 ka1 ka2 fa0 fa1 fa2; obtain ⟨⟨ka0, ka1, ka2⟩, fa0, fa1, fa2⟩ := FX.oct HF m4_; clear kb0 kb1 kb2 fb0 fb1 fb2; obtain ⟨⟨kb0, kb1, kb2⟩, fb0, fb1, fb2⟩ := FX.oct HF m5_))
    go_ret
    exact ⟨rfl, OS.bel HS⟩
   | false =>
    have n_ := Aside0.mk (HS.out.next (below_drew (Below.refl _ _))); have f_ := Aside0.mk (HF.out.next (below_drew (Below.refl _ _))); clear HS HF; have HS := n_; have HF := f_; clear n_ f_
    refine start_ (n := 38) (S := fun w' => w'.cell? ⟨gm, 0, none⟩ = some (.slice mv.P mv.v.length mv.p) ∧ w'.cell? ⟨gm, 1, none⟩ = some (.slice mv.Q mv.m.length mv.q) ∧ w'.cell? ⟨gm, 2, none⟩ = some (.bool mv.e) ∧ w'.cell? ⟨gj, 0, none⟩ = some (.slice jv.P jv.v.length jv.p) ∧ w'.cell? ⟨gj, 1, none⟩ = some (.slice jv.Q jv.m.length jv.q) ∧ w'.cell? ⟨gj, 2, none⟩ = some (.bool jv.e) ∧ w'.cell? ⟨gy, 0, none⟩ = some (.slice yv.P yv.v.length yv.p) ∧ w'.cell? ⟨gy, 1, none⟩ = some (.slice yv.Q yv.m.length yv.q) ∧ w'.cell? ⟨gy, 2, none⟩ = some (.bool yv.e) ∧ w'.cell? ⟨gx, 0, none⟩ = some (.slice xv.P xv.v.length xv.p) ∧ w'.cell? ⟨gx, 1, none⟩ = some (.slice xv.Q xv.m.length xv.q) ∧ w'.cell? ⟨gx, 2, none⟩ = some (.bool xv.e) ∧ w'.cell? ⟨ga, 0, none⟩ = some (.slice X.P X.v.length X.p) ∧ w'.cell? ⟨ga, 1, none⟩ = some (.slice X.Q X.m.length X.q) ∧ w'.cell? ⟨ga, 2, none⟩ = some (.bool X.e) ∧ w'.cell? ⟨gb, 0, none⟩ = some (.slice Y.P Y.v.length Y.p) ∧ w'.cell? ⟨gb, 1, none⟩ = some (.slice Y.Q Y.m.length Y.q) ∧ w'.cell? ⟨gb, 2, none⟩ = some (.bool Y.e)) (ds := []) (mB 38 0) (by kernel_rfl) rfl (by kernel_rfl) ⟨(FX.oct HF m0_).1.1, (FX.oct HF m0_).1.2.1, (FX.oct HF m0_).1.2.2, (FX.oct HF m1_).1.1, (FX.oct HF m1_).1.2.1, (FX.oct HF m1_).1.2.2, (FX.oct HF m2_).1.1, (FX.oct HF m2_).1.2.1, (FX.oct HF m2_).1.2.2, (FX.oct HF m3_).1.1, (FX.oct HF m3_).1.2.1, (FX.oct HF m3_).1.2.2, (FX.oct HF m4_).1.1, (FX.oct HF m4_).1.2.1, (FX.oct HF m4_).1.2.2, (FX.oct HF m5_).1.1, (FX.oct HF m5_).1.2.1, (FX.oct HF m5_).1.2.2⟩ (fun hHeld => ?_)
    refine with_tabW octOrders_tab5 octOrders_bits5 (fun HT_ HW_ => ?_)
    generalize hWd : World.drew _ = Wd at HS HF hHeld ⊢; clear hWd
    refine tV_ 0 24 (mB 38 1) HT_ HW_ hHeld ?_
    refine tV_ 1 25 (mB 38 3) HT_ HW_ hHeld ?_
    refine tV_ 3 27 (mB 38 11) HT_ HW_ hHeld ?_
    refine tV_ 4 28 (mB 38 27) HT_ HW_ hHeld ?_
    refine one_ (i := 2) (N := some 26) (mB 38 31) rfl rfl (one_of HT_.out (by kernel_rfl)) (by decide) (fun K hK => ?_)
    refine goes_ Try.func38 (by kernel_rfl) rfl #[xv.val, yv.val] (by rfl) rfl rfl vL ?_
    with_reducible refine (leq_at (HS.out.own _ m3_).oc (HS.out.own _ m2_).oc (Below.refl _ _) OXV.out OYV.out T1.out).mono ?_
    rintro e wk ⟨rfl, hb⟩; refine ⟨_, rfl, ?_⟩
    have n_ := Aside0.mk (HS.out.next hb); have f_ := Aside0.mk (HF.out.next hb); clear HS HF; have HS := n_; have HF := f_; clear n_ f_ hb
    refine hK.out _ _ ⟨(FX.oct HF m0_).1.1, (FX.oct HF m0_).1.2.1, (FX.oct HF m0_).1.2.2, (FX.oct HF m1_).1.1, (FX.oct HF m1_).1.2.1, (FX.oct HF m1_).1.2.2, (FX.oct HF m2_).1.1, (FX.oct HF m2_).1.2.1, (FX.oct HF m2_).1.2.2, (FX.oct HF m3_).1.1, (FX.oct HF m3_).1.2.1, (FX.oct HF m3_).1.2.2, (FX.oct HF m4_).1.1, (FX.oct HF m4_).1.2.1, (FX.oct HF m4_).1.2.2, (FX.oct HF m5_).1.1, (FX.oct HF m5_).1.2.1, (FX.oct HF m5_).1.2.2⟩ (fun hHeld => ?_)
    clear hK K
    refine nO_ 26 ?_
    refine one_ (i := 5) (N := some 29) (mB 38 63) rfl rfl (one_of HT_.out (by kernel_rfl)) (by decide) (fun K hK => ?_)
    refine goes_ Try.func30 (by kernel_rfl) rfl #[X.val, Y.val] (by rfl) rfl rfl vL ?_
    with_reducible refine (rleq_at (HX.out.next HS.out.below) (HY.out.next HS.out.below) HS.out.below GX.out GY.out T2.out).mono ?_
    rintro e wk ⟨rfl, hb⟩; refine ⟨_, rfl, ?_⟩
    have n_ := Aside0.mk (HS.out.next hb); have f_ := Aside0.mk (HF.out.next hb); clear HS HF; have HS := n_; have HF := f_; clear n_ f_ hb
    refine hK.out _ _ ⟨(FX.oct HF m0_).1.1, (FX.oct HF m0_).1.2.1, (FX.oct HF m0_).1.2.2, (FX.oct HF m1_).1.1, (FX.oct HF m1_).1.2.1, (FX.oct HF m1_).1.2.2, (FX.oct HF m2_).1.1, (FX.oct HF m2_).1.2.1, (FX.oct HF m2_).1.2.2, (FX.oct HF m3_).1.1, (FX.oct HF m3_).1.2.1, (FX.oct HF m3_).1.2.2, (FX.oct HF m4_).1.1, (FX.oct HF m4_).1.2.1, (FX.oct HF m4_).1.2.2, (FX.oct HF m5_).1.1, (FX.oct HF m5_).1.2.1, (FX.oct HF m5_).1.2.2⟩ (fun hHeld => ?_)
    clear hK K
    refine nO_ 29 ?_
    refine pV_ 6 30 (mB 38 127) HT_ ?_
    refine pV_ 7 31 (mB 38 255) HT_ ?_
    refine tV_ 8 32 (mB 38 511) HT_ HW_ hHeld ?_
    refine tV_ 9 33 (mB 38 1023) HT_ HW_ hHeld ?_
    refine tV_ 11 35 (mB 38 3071) HT_ HW_ hHeld ?_
    refine tV_ 12 36 (mB 38 7167) HT_ HW_ hHeld ?_
    refine one_ (i := 10) (N := some 34) (mB 38 8191) rfl rfl (one_of HT_.out (by kernel_rfl)) (by decide) (fun K hK => ?_)
    refine goes_ Try.func39 (by kernel_rfl) rfl #[xv.val, yv.val] (by rfl) rfl rfl vL ?_
    with_reducible refine (same_as (HS.out.own _ m3_).oc (HS.out.own _ m2_).oc (Below.refl _ _) OXV.out OYV.out T1.out T1'.out TS.out).mono ?_
    rintro e wk ⟨rfl, hb⟩; refine ⟨_, rfl, ?_⟩
    have n_ := Aside0.mk (HS.out.next hb); have f_ := Aside0.mk (HF.out.next hb); clear HS HF; have HS := n_; have HF := f_; clear n_ f_ hb
    refine hK.out _ _ ⟨(FX.oct HF m0_).1.1, (FX.oct HF m0_).1.2.1, (FX.oct HF m0_).1.2.2, (FX.oct HF m1_).1.1, (FX.oct HF m1_).1.2.1, (FX.oct HF m1_).1.2.2, (FX.oct HF m2_).1.1, (FX.oct HF m2_).1.2.1, (FX.oct HF m2_).1.2.2, (FX.oct HF m3_).1.1, (FX.oct HF m3_).1.2.1, (FX.oct HF m3_).1.2.2, (FX.oct HF m4_).1.1, (FX.oct HF m4_).1.2.1, (FX.oct HF m4_).1.2.2, (FX.oct HF m5_).1.1, (FX.oct HF m5_).1.2.1, (FX.oct HF m5_).1.2.2⟩ (fun hHeld => ?_)
    clear hK K
    refine nO_ 34 ?_
    refine one_ (i := 13) (N := some 37) (mB 38 16383) rfl rfl (one_of HT_.out (by kernel_rfl)) (by decide) (fun K hK => ?_)
    refine goes_ Try.func40 (by kernel_rfl) rfl #[X.val, Y.val] (by rfl) rfl rfl vL ?_
    with_reducible refine (rsame_as (HX.out.next HS.out.below) (HY.out.next HS.out.below) HS.out.below GX.out GY.out T2.out T2'.out TS.out).mono ?_
    rintro e wk ⟨rfl, hb⟩; refine ⟨_, rfl, ?_⟩
    have n_ := Aside0.mk (HS.out.next hb); have f_ := Aside0.mk (HF.out.next hb); clear HS HF; have HS := n_; have HF := f_; clear n_ f_ hb
    refine hK.out _ _ ⟨(FX.oct HF m0_).1.1, (FX.oct HF m0_).1.2.1, (FX.oct HF m0_).1.2.2, (FX.oct HF m1_).1.1, (FX.oct HF m1_).1.2.1, (FX.oct HF m1_).1.2.2, (FX.oct HF m2_).1.1, (FX.oct HF m2_).1.2.1, (FX.oct HF m2_).1.2.2, (FX.oct HF m3_).1.1, (FX.oct HF m3_).1.2.1, (FX.oct HF m3_).1.2.2, (FX.oct HF m4_).1.1, (FX.oct HF m4_).1.2.1, (FX.oct HF m4_).1.2.2, (FX.oct HF m5_).1.1, (FX.oct HF m5_).1.2.1, (FX.oct HF m5_).1.2.2⟩ (fun hHeld => ?_)
    clear hK K
    refine nO_ 37 ?_
    refine pV_ 14 38 (mB 38 32767) HT_ ?_
    refine pV_ 15 39 (mB 38 65535) HT_ ?_
    refine pV_ 16 40 (mB 38 131071) HT_ ?_
    refine tV_ 17 41 (mB 38 262143) HT_ HW_ hHeld ?_
    refine tV_ 18 42 (mB 38 524287) HT_ HW_ hHeld ?_
    refine tV_ 19 43 (mB 38 1048575) HT_ HW_ hHeld ?_
    refine one_ (i := 20) (N := some 44) (mB 38 2097151) rfl rfl (one_of HT_.out (by kernel_rfl)) (by decide) (fun K hK => ?_)
    refine goes_ Try.func29 (by kernel_rfl) rfl #[X.val, Y.val] (by rfl) rfl rfl vL ?_
    with_reducible refine (rjoin_o (HX.out.next HS.out.below) (HY.out.next HS.out.below) HS.out.below GX.out GY.out).mono ?_
    rintro e wk ⟨z1, rfl, hz1, ho, hb⟩; refine ⟨_, rfl, ?_⟩
    have n_ := Aside0.mk (HS.out.call hb ho); have f_ := Aside0.mk (HF.out.next hb); clear HS HF; have HS := n_; have HF := f_; clear n_ f_ ho hb
    refine hK.out _ _ ⟨(FX.oct HF m0_).1.1, (FX.oct HF m0_).1.2.1, (FX.oct HF m0_).1.2.2, (FX.oct HF m1_).1.1, (FX.oct HF m1_).1.2.1, (FX.oct HF m1_).1.2.2, (FX.oct HF m2_).1.1, (FX.oct HF m2_).1.2.1, (FX.oct HF m2_).1.2.2, (FX.oct HF m3_).1.1, (FX.oct HF m3_).1.2.1, (FX.oct HF m3_).1.2.2, (FX.oct HF m4_).1.1, (FX.oct HF m4_).1.2.1, (FX.oct HF m4_).1.2.2, (FX.oct HF m5_).1.1, (FX.oct HF m5_).1.2.1, (FX.oct HF m5_).1.2.2⟩ (fun hHeld => ?_)
    clear hK K
    refine nO_ 44 ?_
    refine one_ (i := 21) (N := some 45) (mB 38 4194303) rfl rfl (one_of HT_.out (by kernel_rfl)) (by decide) (fun K hK => ?_)
    refine goes_ Try.func15 (by kernel_rfl) rfl #[jv.val, z1.val] (by rfl) rfl rfl vL ?_
    with_reducible refine (equal_o (HS.out.own _ m2_).oc (HS.out.own _ m0_).oc (Below.refl _ _) (HJ.out.1.trans hz1.symm) HJ.out.2.1 HJ.out.2.2).mono ?_
    rintro e wk ⟨rfl, hb⟩; refine ⟨_, rfl, ?_⟩
    have n_ := Aside0.mk (HS.out.next hb); have f_ := Aside0.mk (HF.out.next hb); clear HS HF; have HS := n_; have HF := f_; clear n_ f_ hb
    refine hK.out _ _ ⟨(FX.oct HF m0_).1.1, (FX.oct HF m0_).1.2.1, (FX.oct HF m0_).1.2.2, (FX.oct HF m1_).1.1, (FX.oct HF m1_).1.2.1, (FX.oct HF m1_).1.2.2, (FX.oct HF m2_).1.1, (FX.oct HF m2_).1.2.1, (FX.oct HF m2_).1.2.2, (FX.oct HF m3_).1.1, (FX.oct HF m3_).1.2.1, (FX.oct HF m3_).1.2.2, (FX.oct HF m4_).1.1, (FX.oct HF m4_).1.2.1, (FX.oct HF m4_).1.2.2, (FX.oct HF m5_).1.1, (FX.oct HF m5_).1.2.1, (FX.oct HF m5_).1.2.2⟩ (fun hHeld => ?_)
    clear hK K
    refine nO_ 45 ?_
    refine pV_ 22 46 (mB 38 8388607) HT_ ?_
    refine pV_ 23 47 (mB 38 16777215) HT_ ?_
    refine pV_ 24 48 (mB 38 33554431) HT_ ?_
    refine tV_ 25 49 (mB 38 67108863) HT_ HW_ hHeld ?_
    refine tV_ 26 50 (mB 38 134217727) HT_ HW_ hHeld ?_
    refine tV_ 27 51 (mB 38 268435455) HT_ HW_ hHeld ?_
    refine one_ (i := 28) (N := some 52) (mB 38 536870911) rfl rfl (one_of HT_.out (by kernel_rfl)) (by decide) (fun K hK => ?_)
    refine goes_ Try.func41 (by kernel_rfl) rfl #[X.val, Y.val] (by rfl) rfl rfl vL ?_
    with_reducible refine (rmeet_own (HX.out.next HS.out.below) (HY.out.next HS.out.below) HS.out.below GX.out GY.out).mono ?_
    rintro e wk ⟨z2, rfl, hz2, ho, hb⟩; refine ⟨_, rfl, ?_⟩
    have n_ := Aside0.mk (HS.out.call hb ho); have f_ := Aside0.mk (HF.out.next hb); clear HS HF; have HS := n_; have HF := f_; clear n_ f_ ho hb
    refine hK.out _ _ ⟨(FX.oct HF m0_).1.1, (FX.oct HF m0_).1.2.1, (FX.oct HF m0_).1.2.2, (FX.oct HF m1_).1.1, (FX.oct HF m1_).1.2.1, (FX.oct HF m1_).1.2.2, (FX.oct HF m2_).1.1, (FX.oct HF m2_).1.2.1, (FX.oct HF m2_).1.2.2, (FX.oct HF m3_).1.1, (FX.oct HF m3_).1.2.1, (FX.oct HF m3_).1.2.2, (FX.oct HF m4_).1.1, (FX.oct HF m4_).1.2.1, (FX.oct HF m4_).1.2.2, (FX.oct HF m5_).1.1, (FX.oct HF m5_).1.2.1, (FX.oct HF m5_).1.2.2⟩ (fun hHeld => ?_)
    clear hK K
    refine nO_ 52 ?_
    refine one_ (i := 29) (N := some 53) (mB 38 1073741823) rfl rfl (one_of HT_.out (by kernel_rfl)) (by decide) (fun K hK => ?_)
    refine goes_ Try.func15 (by kernel_rfl) rfl #[mv.val, z2.val] (by rfl) rfl rfl vL ?_
    with_reducible refine (equal_o (HS.out.own _ m2_).oc (HS.out.own _ m0_).oc (Below.refl _ _) (HM.out.1.trans hz2.symm) HM.out.2.1 HM.out.2.2).mono ?_
    rintro e wk ⟨rfl, hb⟩; refine ⟨_, rfl, ?_⟩
    have n_ := Aside0.mk (HS.out.next hb); have f_ := Aside0.mk (HF.out.next hb); clear HS HF; have HS := n_; have HF := f_; clear n_ f_ hb
    refine hK.out _ _ ⟨(FX.oct HF m0_).1.1, (FX.oct HF m0_).1.2.1, (FX.oct HF m0_).1.2.2, (FX.oct HF m1_).1.1, (FX.oct HF m1_).1.2.1, (FX.oct HF m1_).1.2.2, (FX.oct HF m2_).1.1, (FX.oct HF m2_).1.2.1, (FX.oct HF m2_).1.2.2, (FX.oct HF m3_).1.1, (FX.oct HF m3_).1.2.1, (FX.oct HF m3_).1.2.2, (FX.oct HF m4_).1.1, (FX.oct HF m4_).1.2.1, (FX.oct HF m4_).1.2.2, (FX.oct HF m5_).1.1, (FX.oct HF m5_).1.2.1, (FX.oct HF m5_).1.2.2⟩ (fun hHeld => ?_)
    clear hK K
    refine nO_ 53 ?_
    refine pV_ 30 54 (mB 38 2147483647) HT_ ?_
    refine pV_ 31 55 (mB 38 4294967295) HT_ ?_
    refine pV_ 32 56 (mB 38 8589934591) HT_ ?_
    refine tV_ 33 57 (mB 38 17179869183) HT_ HW_ hHeld ?_
    refine tV_ 34 58 (mB 38 34359738367) HT_ HW_ hHeld ?_
    refine one_ (i := 35) (N := some 59) (mB 38 68719476735) rfl rfl (one_of HT_.out (by kernel_rfl)) (by decide) (fun K hK => ?_)
    refine goes_ Try.func38 (by kernel_rfl) rfl #[xv.val, xv.val] (by rfl) rfl rfl vL ?_
    with_reducible refine (leq_at (HS.out.own _ m5_).oc (HS.out.own _ m5_).oc (Below.refl _ _) OXV.out OXV.out TR.out).mono ?_
    rintro e wk ⟨rfl, hb⟩; refine ⟨_, rfl, ?_⟩
    have n_ := Aside0.mk (HS.out.next hb); have f_ := Aside0.mk (HF.out.next hb); clear HS HF; have HS := n_; have HF := f_; clear n_ f_ hb
    refine hK.out _ _ ⟨(FX.oct HF m0_).1.1, (FX.oct HF m0_).1.2.1, (FX.oct HF m0_).1.2.2, (FX.oct HF m1_).1.1, (FX.oct HF m1_).1.2.1, (FX.oct HF m1_).1.2.2, (FX.oct HF m2_).1.1, (FX.oct HF m2_).1.2.1, (FX.oct HF m2_).1.2.2, (FX.oct HF m3_).1.1, (FX.oct HF m3_).1.2.1, (FX.oct HF m3_).1.2.2, (FX.oct HF m4_).1.1, (FX.oct HF m4_).1.2.1, (FX.oct HF m4_).1.2.2, (FX.oct HF m5_).1.1, (FX.oct HF m5_).1.2.1, (FX.oct HF m5_).1.2.2⟩ (fun hHeld => ?_)
    clear hK K
    refine nO_ 59 ?_
    refine pV_ 36 60 (mB 38 137438953471) HT_ ?_
    refine pV_ 37 61 (mB 38 274877906943) HT_ ?_
    refine done_ (done_of HT_.out (by kernel_rfl)) ?_
    clear HT_ HW_ hHeld
    have n_ := Aside0.mk HS.out.tail.tail.swap; clear HS; have HS := n_; clear n_
    go_upto_region 7 with fail
    obtain ⟨⟨km0, km1, km2⟩, fm0, fm1, fm2⟩ := FX.oct HF m0_; obtain ⟨⟨kj0, kj1, kj2⟩, fj0, fj1, fj2⟩ := FX.oct HF m1_; obtain ⟨⟨ky0, ky1, ky2⟩, fy0, fy1, fy2⟩ := FX.oct HF m2_; obtain ⟨⟨kx0, kx1, kx2⟩, fx0, fx1, fx2⟩ := FX.oct HF m3_; obtain ⟨⟨ka0, ka1, ka2⟩, fa0, fa1, fa2⟩ := FX.oct HF m4_; obtain ⟨⟨kb0, kb1, kb2⟩, fb0, fb1, fb2⟩ := FX.oct HF m5_
    go_wp2_with (first | (go_at_call 24; (with_reducible refine (spoil_o (OS.to HS) HJ.out.2.1 HJ.out.2.2).mono ?_); rintro e wk ⟨rfl, ho, hk⟩; have f_ := Aside0.mk ((FX.to HF).kept hk ((FX.to HF).not_own ((OS.to HS).own _ m0_) HT.out)); clear HS HF; have HS := Aside0.mk ho; have HF := f_; clear f_ ho hk; clear km0 km1 km2 fm0 fm1 fm2; obtain ⟨⟨km0, km1, km2⟩, fm0, fm1, fm2⟩ := FX.oct HF m0_; clear kj0 kj1 kj2 fj0 fj1 fj2; obtain ⟨⟨kj0, kj1, kj2⟩, fj0, fj1, fj2⟩ := FX.oct HF m1_; clear ky0 ky1 ky2 fy0 fy1 fy2; obtain ⟨⟨ky0, ky1, ky2⟩, fy0, fy1, fy2⟩ := FX.oct HF m2_; clear kx0 kx1 kx2 fx0 fx1 fx2; obtain ⟨⟨kx0, kx1, kx2⟩, fx0, fx1, fx2⟩ := FX.oct HF m3_; clear ka0 ka1 ka2 fa0 fa1 fa2; obtain ⟨⟨ka0, ka1, ka2⟩, fa0, fa1, fa2⟩ := FX.oct HF m4_; clear kb0 kb1 kb2 fb0 fb1 fb2; obtain ⟨⟨kb0, kb1, kb2⟩, fb0, fb1, fb2⟩ := FX.oct HF m5_) | (go_at_call 24; (with_reducible refine (spoil_o (OS.to HS) HM.out.2.1 HM.out.2.2).mono ?_); rintro e wk ⟨rfl, ho, hk⟩; have f_ := Aside0.mk ((FX.to HF).kept hk ((FX.to HF).not_own ((OS.to HS).own _ m0_) HT.out)); clear HS HF; have HS := Aside0.mk ho; have HF := f_; clear f_ ho hk; clear km0 km1 km2 fm0 fm1 fm2; obtain ⟨⟨km0, km1, km2⟩, fm0, fm1, fm2⟩ := FX.oct HF m0_; clear kj0 kj1 kj2 fj0 fj1 fj2; obtain ⟨⟨kj0, kj1, kj2⟩, fj0, fj1, fj2⟩ := FX.oct HF m1_; clear ky0 ky1 ky2 fy0 fy1 fy2; obtain ⟨⟨ky0, ky1, ky2⟩, fy0, fy1, fy2⟩ := FX.oct HF m2_; clear kx0 kx1 kx2 fx0 fx1 fx2; obtain ⟨⟨kx0, kx1, kx2⟩, fx0, fx1, fx2⟩ := FX.oct HF m3_; clear ka0 ka1 ka2 fa0 fa1 fa2; obtain ⟨⟨ka0, ka1, ka2⟩, fa0, fa1, fa2⟩ := FX.oct HF m4_; clear kb0 kb1 kb2 fb0 fb1 fb2; obtain ⟨⟨kb0, kb1, kb2⟩, fb0, fb1, fb2⟩ := FX.oct HF m5_) | (go_at_call 15; (with_reducible refine (equal_o (OS.oc HS m1_) (Oc.at_ HX (OS.bel HS)) (OS.bel HS) EX.out.1 EX.out.2.1 EX.out.2.2).mono ?_); rintro e wk ⟨rfl, hb⟩; have n_ := Aside0.mk ((OS.to HS).next hb); have f_ := Aside0.mk ((FX.to HF).next hb); clear HS HF; have HS := n_; have HF := f_; clear n_ f_ hb; clear km0 km1 km2 fm0 fm1 fm2; obtain ⟨⟨km0, km1, km2⟩, fm0, fm1, fm2⟩ := FX.oct HF m0_; clear kj0 kj1 kj2 fj0 fj1 fj2; obtain ⟨⟨kj0, kj1, kj2⟩, fj0, fj1, fj2⟩ := FX.oct HF m1_; clear ky0 ky1 ky2 fy0 fy1 fy2; obtain ⟨⟨ky0, ky1, ky2⟩, fy0, fy1, fy2⟩ := FX.oct HF m2_; clear kx0 kx1 kx2 fx0 fx1 fx2; obtain ⟨⟨kx0, kx1, kx2⟩, fx0, fx1, fx2⟩ := FX.oct HF m3_; clear ka0 ka1 ka2 fa0 fa1 fa2; obtain ⟨⟨ka0, ka1, ka2⟩, fa0, fa1, fa2⟩ := FX.oct HF m4_; clear kb0 kb1 kb2 fb0 fb1 fb2; obtain ⟨⟨kb0, kb1, kb2⟩, fb0, fb1, fb2⟩ := FX.oct HF m5_) | (go_at_call 15; (with_reducible refine (equal_o (OS.oc HS m0_) (Oc.at_ HY (OS.bel HS)) (OS.bel HS) EY.out.1 EY.out.2.1 EY.out.2.2).mono ?_); rintro e wk ⟨rfl, hb⟩; have n_ := Aside0.mk ((OS.to HS).next hb); have f_ := Aside0.mk ((FX.to HF).next hb); clear HS HF; have HS := n_; have HF := f_; clear n_ f_ hb; clear km0 km1 km2 fm0 fm1 fm2; obtain ⟨⟨km0, km1, km2⟩, fm0, fm1, fm2⟩ := FX.oct HF m0_; clear kj0 kj1 kj2 fj0 fj1 fj2; obtain ⟨⟨kj0, kj1, kj2⟩, fj0, fj1, fj2⟩ := FX.oct HF m1_; clear ky0 ky1 ky2 fy0 fy1 fy2; obtain ⟨⟨ky0, ky1, ky2⟩, fy0, fy1, fy2⟩ := FX.oct HF m2_; clear kx0 kx1 kx2 fx0 fx1 fx2; obtain ⟨⟨kx0, kx1, kx2⟩, fx0, fx1, fx2⟩ := FX.oct HF m3_; clear ka0 ka1 ka2 fa0 fa1 fa2; obtain ⟨⟨ka0, ka1, ka2⟩, fa0, fa1, fa2⟩ := FX.oct HF m4_; clear kb0 kb1 kb2 fb0 fb1 fb2; obtain ⟨⟨kb0, kb1, kb2⟩, fb0, fb1, fb2⟩ := FX.oct HF m5_) | (go_at_call 20; (with_reducible refine (awake_o).mono ?_); rintro e wk ⟨rfl, hb⟩; have n_ := Aside0.mk ((OS.to HS).next hb); have f_ := Aside0.mk ((FX.to HF).next hb); clear HS HF; have HS := n_; have HF := f_; clear n_ f_ hb; clear km0 km1 km2 fm0 fm1 fm2; obtain ⟨⟨km0, km1, km2⟩, fm0, fm1, fm2⟩ := FX.oct HF m0_; clear kj0 kj1 kj2 fj0 fj1 fj2; obtain ⟨⟨kj0, kj1, kj2⟩, fj0, fj1, fj2⟩ := FX.oct HF m1_; clear ky0 ky1 ky2 fy0 fy1 fy2; obtain ⟨⟨ky0, ky1, ky2⟩, fy0, fy1, fy2⟩ := FX.oct HF m2_; clear kx0 kx1 kx2 fx0 fx1 fx2; obtain ⟨⟨kx0, kx1, kx2⟩, fx0, fx1, fx2⟩ := FX.oct HF m3_; clear ka0 ka1 ka2 fa0 fa1 fa2; obtain ⟨⟨ka0, ka1, ka2⟩, fa0, fa1, fa2⟩ := FX.oct HF m4_; clear kb0 kb1 kb2 fb0 fb1 fb2; obtain ⟨⟨kb0, kb1, kb2⟩, fb0, fb1, fb2⟩ := FX.oct HF m5_))
    go_ret
    exact ⟨rfl, OS.bel HS⟩
end Go.Proofs.Ytomgebmimgaojaa.QO
end
end
section
/- What a reading of an argument tells of its cells, kind by kind: for the rows of laws over structs and nested slices. -/
namespace Go.Proofs.Ytomgebmimgaojaa.Open
open Go.RowKit Go.ChangeShapes Go.WideShapes Go.Proofs.YtomgebmimgaojaaW.PrintWords Go.Proofs.YtomgebmimgaojaaW.PrintMore
/-- every reading of type t tells of an a of which R and Q hold -/
def Opens {α : Type} (P : Program) (t : TypeId) (R : World → α → List Value → Prop) (Q : α → Prop) : Prop :=
  ∀ (H : Type) (enc : TypeId × Value → H) (w : World) (base : Nat) (spare : Nat → Bool) (held : Bool) (fuel : Nat) (cs : List Value) (x : DataW H × List MemPlace),
    DataW.trod enc P w base spare held fuel t cs = some x → (∀ n ∈ DataW.weights P t x.1, n ≤ 140737488351232) → ∃ a : α, R w a cs ∧ Q a
variable {P : Program} {t e : TypeId}
theorem opens_int {k : IntKind} (ht : P.underlying t = some (.int k)) : Opens P t (Kd.int k).K (fun n => (Lit.int k n).wf = true) := by
  intro H enc w base spare held fuel cs x h _
  obtain ⟨n, rfl, _, hw⟩ := DataW.trod_int ht h
  exact ⟨n, rfl, hw⟩
theorem opens_bool (ht : P.underlying t = some .bool) : Opens P t Kd.bool.K (fun _ => True) := by
  intro H enc w base spare held fuel cs x h _
  obtain ⟨n, rfl, _⟩ := DataW.trod_bool ht h
  exact ⟨n, rfl, trivial⟩
theorem opens_string (ht : P.underlying t = some .string) : Opens P t Kd.string.K (fun s => s.size ≤ 140737488351232) := by
  intro H enc w base spare held fuel cs x h hw
  obtain ⟨s, rfl, rfl, _⟩ := DataW.trod_string ht h
  refine ⟨s, rfl, ?_⟩
  have := hw s.data.toList.length (by simp [DataW.weights])
  simpa using this
theorem weightsAll_mem {H : Type} {l : List (DataW H)} {d : DataW H} (hd : d ∈ l) {n : Nat} (hn : n ∈ DataW.weights P e d) : n ∈ DataW.weightsAll P e l := by
  induction l with
  | nil => cases hd
  | cons y r ih =>
    unfold DataW.weightsAll
    rcases List.mem_cons.1 hd with rfl | h
    · exact List.mem_append_left _ hn
    · exact List.mem_append_right _ (ih h)
theorem weightsEach_mem {H : Type} : ∀ {ts : List TypeId} {l : List (DataW H)} {i : Nat} {t : TypeId} {d : DataW H}, ts[i]? = some t → l[i]? = some d → ∀ {n : Nat}, n ∈ DataW.weights P t d → n ∈ DataW.weightsEach P ts l
  | [], _, i, _, _, h, _, _, _ => by simp at h
  | _ :: _, [], i, _, _, _, h, _, _ => by simp at h
  | t' :: ts, d' :: l, 0, t, d, h1, h2, n, hn => by
    simp at h1 h2; subst h1; subst h2
    unfold DataW.weightsEach; exact List.mem_append_left _ hn
  | t' :: ts, d' :: l, i + 1, t, d, h1, h2, n, hn => by
    simp at h1 h2
    unfold DataW.weightsEach; exact List.mem_append_right _ (weightsEach_mem h1 h2 hn)
theorem all_some {α β : Type} {Q : Nat → α → β → Prop} : ∀ (xs : List β) (_ : ∀ i y, xs[i]? = some y → ∃ a, Q i a y), ∃ l : List α, l.length = xs.length ∧ ∀ i a, l[i]? = some a → ∃ y, xs[i]? = some y ∧ Q i a y
  | [], _ => ⟨[], rfl, fun i a h => by simp at h⟩
  | y :: r, h => by
    obtain ⟨a0, h0⟩ := h 0 y rfl
    obtain ⟨l, hl, hr⟩ := all_some (Q := fun i a y => Q (i + 1) a y) r (fun i y hy => h (i + 1) y (by simpa using hy))
    refine ⟨a0 :: l, by simp [hl], fun i a hi => ?_⟩
    cases i with
    | zero => simp at hi; subst hi; exact ⟨y, rfl, h0⟩
    | succ i => obtain ⟨z, hz, hq⟩ := hr i a (by simpa using hi); exact ⟨z, by simpa using hz, hq⟩
theorem opens_slice {α : Type} {d : Kd α} {Q : α → Prop} {B : Nat} (ht : P.underlying t = some (.slice e)) (hs : P.cellsOf e = d.sz) (hB : P.bytesOf e = B) (ho : Opens P e d.K Q) :
    Opens P t (Kd.slice e d).K (fun l => l.length * B ≤ 140737488351232 ∧ l.length ≤ maxLen ∧ ∀ x ∈ l, Q x) := by
  intro H enc w base spare held fuel cs x h hw
  rcases DataW.trod_slice ht h with ⟨rfl, _⟩ | ⟨a, len, cap, elems, rest, n, _, rfl, rfl, hb, hl, hc, hlen, hel, _, _⟩
  · exact ⟨[], ⟨none, 0, rfl, Nat.le_refl _, ⟨rfl, by simp, fun h => absurd h (by simp)⟩⟩, by simp, by simp, fun x hx => by cases hx⟩
  · have hwt : ∀ m ∈ DataW.weights P t (.slice (elems.map (·.1)) (rest.map (·.1))), m ≤ 140737488351232 := hw
    have each : ∀ i y, elems[i]? = some y → ∃ a' : α, (∃ c : List Value, c.length = d.sz ∧ d.K w a' c ∧ ∀ j u, c[j]? = some u → w.cell? (a.add (i * d.sz + j)) = some u) ∧ Q a' := by
      intro i y hy
      have hi : i < len := by rw [← hlen]; exact (List.getElem?_eq_some_iff.1 hy).1
      have h1 := hel i hi
      rw [hy] at h1
      obtain ⟨c, hc1, hc2⟩ := Option.bind_eq_some_iff.1 h1
      obtain ⟨a', hk, hq⟩ := ho H enc w base spare held n c y hc2 (fun m hm => hwt m (by
        simp only [DataW.weights, ht]
        exact List.mem_cons_of_mem _ (List.mem_append_left _ (weightsAll_mem (List.mem_map_of_mem (List.mem_of_getElem? hy)) hm))))
      refine ⟨a', ⟨c, d.K_len hk, hk, fun j u hj => ?_⟩, hq⟩
      unfold World.cells? at hc1
      split at hc1
      · have hlc := mapM_some_length hc1
        have hj' : j < P.cellsOf e := by have := (List.getElem?_eq_some_iff.1 hj).1; rw [List.length_range] at hlc; omega
        have := mapM_some_get hc1 j j (by simp [hj'])
        rw [hj] at this
        rw [← hs, ← Addr.add_add]
        exact this
      · cases hc1
    obtain ⟨l, hll, hlr⟩ := all_some elems each
    refine ⟨l, ⟨some a, cap, ?_, by omega, ⟨rfl, ?_, fun _ => ⟨a, rfl, fun j p hj => ?_⟩⟩⟩, ?_, by omega, fun x hx => ?_⟩
    · rw [hll, hlen]
    · unfold maxLen at hc; omega
    · obtain ⟨_, _, ⟨c, h1, h2, h3⟩, _⟩ := hlr j p hj
      exact ⟨c, h1, h2, h3⟩
    · have := hwt (((elems.map (·.1)).length + (rest.map (·.1)).length) * P.bytesOf e) (by simp only [DataW.weights, ht]; exact List.mem_cons_self ..)
      rw [hB] at this
      simp only [List.length_map] at this
      rw [hll]
      exact Nat.le_trans (Nat.mul_le_mul_right _ (by omega)) this
    · obtain ⟨i, hi⟩ := List.getElem?_of_mem hx
      obtain ⟨_, _, _, hq⟩ := hlr i x hi
      exact hq
/-- one field of a struct -/
theorem open_field {H : Type} {enc : TypeId × Value → H} {w : World} {base : Nat} {spare : Nat → Bool} {held : Bool} {fs : Array Field} {xs : List (DataW H × List MemPlace)} {n : Nat} {cs : List Value}
    (ht : P.underlying t = some (.struct fs)) (hw : ∀ m ∈ DataW.weights P t (.agg (xs.map (·.1))), m ≤ 140737488351232) (hx : xs.length = fs.size)
    (hf : ∀ (i : Nat) (f : Field), fs[i]? = some f → DataW.trod enc P w base spare held n f.type ((cs.drop f.offset).take (P.cellsOf f.type)) = xs[i]?)
    (i : Nat) (f : Field) (hi : fs[i]? = some f) (o s : Nat) (eo : f.offset = o) (es : P.cellsOf f.type = s) {α : Type} {R : World → α → List Value → Prop} {Q : α → Prop} (ho : Opens P f.type R Q) : ∃ a : α, R w a ((cs.drop o).take s) ∧ Q a := by
  have h1 := hf i f hi
  rw [eo, es] at h1
  have hlt : i < xs.length := by rw [hx]; exact (Array.getElem?_eq_some_iff.1 hi).1
  rw [List.getElem?_eq_getElem hlt] at h1
  refine ho H enc w base spare held n _ _ h1 (fun m hm => hw m ?_)
  simp only [DataW.weights, ht]
  refine weightsEach_mem (i := i) (t := f.type) (d := xs[i].1) ?_ ?_ hm
  · simp only [List.getElem?_map, Array.getElem?_toList, hi, Option.map_some]
  · simp only [List.getElem?_map, List.getElem?_eq_getElem hlt, Option.map_some]
/-- an argument's slice -/
theorem arg_slice {H : Type} {enc : TypeId × Value → H} {w : World} {base : Nat} {spare : Nat → Bool} {held : Bool} {v : Value} {dd : DataW H} {ps : List MemPlace} {α : Type} {d : Kd α} {Q : List α → Prop}
    (ho : Opens P t (Kd.slice e d).K Q) (h : DataW.Trod enc P w base spare held t v dd ps) (hw : ∀ m ∈ DataW.weights P t dd, m ≤ 140737488351232) (hv : ∃ a n c, v = .slice a n c) :
    ∃ A c l, v = .slice A l.length c ∧ l.length ≤ c ∧ Kd.C d w A l.length l ∧ Q l := by
  obtain ⟨fuel, hf⟩ := h
  obtain ⟨l, ⟨A, c, hc, hl, hr⟩, hq⟩ := ho H enc w base spare held fuel _ _ hf hw
  obtain ⟨a, n, c', rfl⟩ := hv
  simp [Value.cells] at hc
  obtain ⟨rfl, rfl, rfl⟩ := hc
  exact ⟨_, _, l, rfl, hl, hr, hq⟩
/-- a row's data bear their weights one by one -/
theorem weights_at {H : Type} {ts : List TypeId} {ds : List (DataW H)} (hsz : (DataW.weightsEach P ts ds).all (· ≤ reachBytes) = true) {j : Nat} {d : DataW H} (h1 : ts[j]? = some t) (h2 : ds[j]? = some d) : ∀ m ∈ DataW.weights P t d, m ≤ 140737488351232 := by
  intro m hm
  exact of_decide_eq_true (List.all_eq_true.1 hsz m (weightsEach_mem h1 h2 hm))
end Go.Proofs.Ytomgebmimgaojaa.Open
end
