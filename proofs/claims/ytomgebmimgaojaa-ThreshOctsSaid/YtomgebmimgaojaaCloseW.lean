/- oct.Close: what it computes, in functions of two numbers, and the walk through it. -/
import Derived.Deep.DrawnRows
import Derived.Deep.RegionHeld3
import Derived.Test.YtomgebmimgaojaaWays
import Derived.Test.YtomgebmimgaojaaQOx1014
import Derived.Test.YtomgebmimgaojaaQOx1018
import Derived.Test.YtomgebmimgaojaaQOx1047
import Derived.Test.YtomgebmimgaojaaQOx1056
import Derived.Test.YtomgebmimgaojaaQOx1058
noncomputable section
namespace Go.Proofs.Ytomgebmimgaojaa.QO
open Go.RowKit Go.Shelf Go.Proofs.YtomgebmimgaojaaW.PrintWords Go.Proofs.YtomgebmimgaojaaW.PrintLast Go.Proofs.YtomgebmimgaojaaW.PrintMore
open OctMath (over overs plus Bd Fin' Top62)
attribute [local go_sem] max2_int min2_int max_two min_two max_three min_three max_four min_four
attribute [local go_sem ↓] Go.wp_at_zero Go.wp_at_succ
set_option linter.unusedVariables false
set_option linter.unusedSimpArgs false

/-- the node with the other sign -/
def nb (i : Nat) : Nat := if i % 2 = 0 then i + 1 else i - 1
theorem nb_lt {i n : Nat} (h : i < 2 * n) : nb i < 2 * n := by unfold nb; split <;> omega
theorem nbar_nb (i : Nat) : nbar (i : Int) = ((nb i : Nat) : Int) := by unfold nbar nb; split <;> split <;> omega
theorem nb_nb (i : Nat) : nb (nb i) = i := by
  unfold nb; by_cases h : i % 2 = 0
  · rw [if_pos h, if_neg (by omega)]; omega
  · rw [if_neg h, if_pos (by omega)]; omega
theorem nb_ne (i : Nat) : nb i ≠ i := by unfold nb; split <;> omega
/-- half of a bound, rounded down -/
def half (a : Int) : Int := if a = 4611686018427387904 then a else a / 2
theorem half_half {a : Int} (h : Fin' 1152921504606846976 a) : bound_Half.f a = some (half a) := by
  unfold bound_Half.f bound_kind.f bound_Fit.f half
  unfold Fin' at h
  by_cases e : a = 4611686018427387904
  · subst e; rfl
  · rw [if_neg (by omega), if_neg (by omega), if_neg e]; rfl
/-- an entry brought into its bounds -/
def clipV (x : Int) : Int := if x > 1099511627776 then 4611686018427387904 else if x < -1099511627776 then -1099511627776 else x
theorem clip_clip (x : Int) : oct_clip.f x = some (clipV x) := by
  unfold oct_clip.f clipV mx
  by_cases e : x > 1099511627776
  · rw [if_pos e, if_pos e]
  · rw [if_neg e, if_neg e]
/-- the bounds of a scalar alone are even -/
def tig (d : Nat → Nat → Int) : Nat → Nat → Int := fun i j => if j = nb i then (if d i j = 4611686018427387904 then 4611686018427387904 else 2 * (d i j / 2)) else d i j
/-- by way of the scalars' own bounds -/
def strg (t : Nat → Nat → Int) : Nat → Nat → Int := fun i j => mn (t i j) (half (plus (t i (nb i)) (t (nb j) j)))
def StrOk (n : Nat) (t : Nat → Nat → Int) : Prop := ∀ i, i < n → 0 ≤ plus (t i (nb i)) (t (nb i) i)
/-- is there a value? -/
def CloseOk (n : Nat) (d : Nat → Nat → Int) : Prop := FloydOk n d ∧ StrOk n (tig (overs d n))
noncomputable def closeB (n : Nat) (d : Nat → Nat → Int) : Bool := @decide (CloseOk n d) (Classical.propDecidable _)
theorem closeB_true {n : Nat} {d : Nat → Nat → Int} : closeB n d = true ↔ CloseOk n d := by unfold closeB; exact @decide_eq_true_iff _ (Classical.propDecidable _)
theorem closeB_false {n : Nat} {d : Nat → Nat → Int} : closeB n d = false ↔ ¬ CloseOk n d := by unfold closeB; exact @decide_eq_false_iff_not _ (Classical.propDecidable _)
/-- the closed entries -/
def closeM (n : Nat) (d : Nat → Nat → Int) : Nat → Nat → Int := fun i j => clipV (strg (tig (overs d n)) i j)
noncomputable def closeL (n : Nat) (d : Nat → Nat → Int) : List Int := if closeB n d = true then lst n (closeM n d) else []

/-- what is put in the first loop: the rows ahead of i are even there -/
def tigTo (d : Nat → Nat → Int) (i : Nat) : Nat → Nat → Int := fun a b => if a < i then tig d a b else d a b
theorem tigTo_zero {d : Nat → Nat → Int} (a b : Nat) : tigTo d 0 a b = d a b := by unfold tigTo; rw [if_neg (by omega)]
theorem tigTo_all {d : Nat → Nat → Int} {n : Nat} (a b : Nat) (h : a < n) : tigTo d n a b = tig d a b := by unfold tigTo; rw [if_pos h]
theorem tigTo_step {d : Nat → Nat → Int} {i : Nat} (a b : Nat) : tigTo d (i + 1) a b = if a = i ∧ b = nb i then tig d i (nb i) else tigTo d i a b := by
  unfold tigTo
  by_cases e : a = i ∧ b = nb i
  · rw [if_pos e, if_pos (by omega), e.1, e.2]
  · rw [if_neg e]
    by_cases h : a < i
    · rw [if_pos h, if_pos (by omega)]
    · rw [if_neg h]
      by_cases h2 : a < i + 1
      · obtain rfl : a = i := by omega
        rw [if_pos h2]; unfold tig; rw [if_neg (fun h3 => e ⟨rfl, h3⟩)]
      · rw [if_neg h2]
/-- entries put one behind the other -/
def upTo (c : Nat → Nat → Int) (i j : Nat) : Nat → Nat → Int := fun a b => if a < i ∨ (a = i ∧ b < j) then c a b else 0
theorem upTo_step {c : Nat → Nat → Int} {i j : Nat} (a b : Nat) : upTo c i (j + 1) a b = if a = i ∧ b = j then c i j else upTo c i j a b := by
  unfold upTo
  by_cases e : a = i ∧ b = j
  · rw [if_pos e, if_pos (by omega), e.1, e.2]
  · rw [if_neg e]
    by_cases h : a < i ∨ (a = i ∧ b < j)
    · rw [if_pos h, if_pos (by omega)]
    · rw [if_neg h, if_neg (by omega)]
theorem upTo_row {c : Nat → Nat → Int} {i n : Nat} (a b : Nat) (hb : b < n) : upTo c i n a b = upTo c (i + 1) 0 a b := by
  unfold upTo
  by_cases h : a < i ∨ (a = i ∧ b < n)
  · rw [if_pos h, if_pos (by omega)]
  · rw [if_neg h, if_neg (by omega)]
theorem upTo_all {c : Nat → Nat → Int} {n : Nat} (a b : Nat) (h : a < n) : upTo c n 0 a b = c a b := by unfold upTo; rw [if_pos (.inl h)]
theorem lst_zero (n : Nat) (c : Nat → Nat → Int) : List.replicate (n * n) (0 : Int) = lst n (upTo c 0 0) := by
  apply List.ext_getElem
  · simp [lst]
  · intro t h1 h2; simp [lst, upTo]

/-- what Close answers to a sound octagon -/
noncomputable def closeF (vars m : List Int) (empty : Bool) : List Int × List Int × Bool := if empty = true then (vars, [], true) else (vars, closeL (2 * vars.length) (lowM vars.length m), !closeB (2 * vars.length) (lowM vars.length m))
theorem bottom_f {vars : List Int} (h : VarsOk vars) : oct_Bottom.f vars = some (vars, [], true) := by
  unfold oct_Bottom.f oct_may.f
  rw [varsB_true.2 h]
  have := h.1
  simp [slices_Clone_int_int.f, show vars.length < 17592186044416 by omega]

/-- three cells of one block are stored: the block, and all others -/
theorem store3 {W : World} {g t : Nat} {x y z : Value} (h : W.heap[g]? = some (.cells #[x, y, z] t (0, 0))) (a b c : Value) :
    (((W.setCell ⟨g, 0, none⟩ a).setCell ⟨g, 1, none⟩ b).setCell ⟨g, 2, none⟩ c).heap[g]? = some (.cells #[a, b, c] t (0, 0)) ∧ ∀ k, k ≠ g → (((W.setCell ⟨g, 0, none⟩ a).setCell ⟨g, 1, none⟩ b).setCell ⟨g, 2, none⟩ c).heap[k]? = W.heap[k]? :=
  ⟨blk_put (blk_put (blk_put h 0 a rfl) 1 b rfl) 2 c rfl, fun k hk => (Below.heap_setCell _ ⟨g, 2, none⟩ c k hk).trans ((Below.heap_setCell _ ⟨g, 1, none⟩ b k hk).trans (Below.heap_setCell W ⟨g, 0, none⟩ a k hk))⟩
theorem row_store3 {W : World} {g e base : Nat} {x y z : Value} {v : Value} {xs : List Int} {ok : Nat → Prop} (h : W.heap[g]? = some (.cells #[x, y, z] 25 (0, 0))) (hr : Kd.R (Kd.int .i64) e W base ok v xs) (he : e ≠ 25) (a b c : Value) :
    Kd.R (Kd.int .i64) e (((W.setCell ⟨g, 0, none⟩ a).setCell ⟨g, 1, none⟩ b).setCell ⟨g, 2, none⟩ c) base ok v xs :=
  Kd.R_mono (Kd.R_step (Kd.R_types hr h (fun q hq => by
    rcases List.mem_cons.1 hq with rfl | hq
    · exact he
    · cases hq)) (fun k hk _ => (store3 h a b c).2 k hk.2)) (fun _ hk => hk.1)
/-- the argument's box and the result's -/
structure OB (w : World) (bo br : Nat) (ov : Array Value) (W : World) : Prop where
  o : W.heap[bo]? = some (.cells ov 25 (0, 0))
  r : W.heap[br]? = some (.cells #[.slice none 0 0, .slice none 0 0, .bool false] 25 (0, 0))
  below : Below w.heap.size w W
  ob : w.heap.size ≤ bo
  rb : w.heap.size ≤ br
  ne : bo ≠ br
theorem OB.next {w : World} {bo br : Nat} {ov : Array Value} {W W' : World} (h : OB w bo br ov W) (hb : Below W.heap.size W W') : OB w bo br ov W' :=
  ⟨blk_below h.o hb, blk_below h.r hb, h.below.trans (hb.mono h.below.size), h.ob, h.rb, h.ne⟩
theorem OB.cells {w : World} {bo br : Nat} {x y z : Value} {W : World} (h : OB w bo br #[x, y, z] W) : (W.cell? ⟨bo, 0, none⟩ = some x ∧ W.cell? ⟨bo, 1, none⟩ = some y ∧ W.cell? ⟨bo, 2, none⟩ = some z) :=
  ⟨blk_cell h.o 0, blk_cell h.o 1, blk_cell h.o 2⟩
theorem OB.res {w : World} {bo br : Nat} {ov : Array Value} {W : World} (h : OB w bo br ov W) : (W.cell? ⟨br, 0, none⟩ = some (.slice none 0 0) ∧ W.cell? ⟨br, 1, none⟩ = some (.slice none 0 0) ∧ W.cell? ⟨br, 2, none⟩ = some (.bool false)) ∧ W.frozen? ⟨br, 0, none⟩ = false ∧ W.frozen? ⟨br, 1, none⟩ = false ∧ W.frozen? ⟨br, 2, none⟩ = false :=
  ⟨⟨blk_cell h.r 0, blk_cell h.r 1, blk_cell h.r 2⟩, blk_frozen h.r 0, blk_frozen h.r 1, blk_frozen h.r 2⟩
/-- what is answered lies in the result's box -/
theorem OB.answer {w : World} {bo br : Nat} {ov : Array Value} {W1 : World} (h : OB w bo br ov W1) {v0 v1 : Value} {r1 r2 : List Int} {base : Nat} (hw : w.heap.size ≤ base) (h0 : Kd.R (Kd.int .i64) 3 W1 base (fun _ => True) v0 r1) (h1 : Kd.R (Kd.int .i64) 2 W1 base (fun _ => True) v1 r2) (b : Value) :
    Kd.R (Kd.int .i64) 3 (((W1.setCell ⟨br, 0, none⟩ v0).setCell ⟨br, 1, none⟩ v1).setCell ⟨br, 2, none⟩ b) w.heap.size (fun _ => True) v0 r1 ∧ Kd.R (Kd.int .i64) 2 (((W1.setCell ⟨br, 0, none⟩ v0).setCell ⟨br, 1, none⟩ v1).setCell ⟨br, 2, none⟩ b) w.heap.size (fun _ => True) v1 r2 ∧
      Below w.heap.size w (((W1.setCell ⟨br, 0, none⟩ v0).setCell ⟨br, 1, none⟩ v1).setCell ⟨br, 2, none⟩ b) :=
  ⟨Kd.R_lower (row_store3 h.r h0 (by decide) _ _ _) hw, Kd.R_lower (row_store3 h.r h1 (by decide) _ _ _) hw, below_set (below_set (below_set h.below h.rb) h.rb) h.rb⟩

/-- .. and the table's box, and the row that it looks at -/
structure TS (w : World) (bo br bt : Nat) (ov tv : Array Value) (vd : Value) (W : World) (row : List Int) : Prop where
  ob : OB w bo br ov W
  t : W.heap[bt]? = some (.cells tv 58 (0, 0))
  tb : w.heap.size ≤ bt
  row : Kd.R (Kd.int .i64) 2 W w.heap.size (fun k => k < bt) vd row
theorem TS.next {w : World} {bo br bt : Nat} {ov tv : Array Value} {vd : Value} {W W' : World} {row : List Int} (h : TS w bo br bt ov tv vd W row) (hb : Below W.heap.size W W') : TS w bo br bt ov tv vd W' row :=
  ⟨h.ob.next hb, blk_below h.t hb, h.tb, Kd.R_below h.row hb⟩
theorem row_block {W : World} {base g len cap : Nat} {row : List Int} {ok : Nat → Prop} (h : Kd.R (Kd.int .i64) 2 W base ok (.slice (some ⟨g, 0, none⟩) len cap) row) (hp : 0 < row.length) : base ≤ g ∧ ∃ cells, W.heap[g]? = some (.cells cells 2 (0, 0)) := by
  obtain ⟨g', cap', e, h1, _, h3⟩ := Kd.R_form h hp
  injection e with e1 e2 e3
  injection e1 with e1
  injection e1 with e1
  subst e1
  exact ⟨h1, h3⟩
theorem typed_ne {W : World} {a b : Nat} {x y : Array Value} {s t : Nat} (h : W.heap[a]? = some (.cells x s (0, 0))) (h' : W.heap[b]? = some (.cells y t (0, 0))) (hst : s ≠ t) : a ≠ b := by
  rintro rfl; rw [h] at h'; injection h' with h'; injection h' with _ h'; exact hst h'
theorem TS.put {w : World} {bo br bt g len cap : Nat} {ov tv : Array Value} {W : World} {row : List Int} (h : TS w bo br bt ov tv (.slice (some ⟨g, 0, none⟩) len cap) W row) (hp : 0 < row.length) (i v : Int) :
    TS w bo br bt ov tv (.slice (some ⟨g, 0, none⟩) len cap) (W.setCell ⟨g, i.toNat, none⟩ (.int .i64 v)) (row.set i.toNat v) := by
  obtain ⟨hg, cells, hc⟩ := row_block h.row hp
  have n1 := typed_ne h.ob.o hc (by decide)
  have n2 := typed_ne h.ob.r hc (by decide)
  have n3 := typed_ne h.t hc (by decide)
  exact ⟨⟨blk_far h.ob.o n1 _, blk_far h.ob.r n2 _, below_set h.ob.below hg, h.ob.ob, h.ob.rb, h.ob.ne⟩, blk_far h.t n3 _, h.tb, (Kd.R_putg h.row i v).1⟩
theorem TS.tcells {w : World} {bo br bt : Nat} {ov : Array Value} {x y vd : Value} {W : World} {row : List Int} (h : TS w bo br bt ov #[x, y] vd W row) : W.cell? ⟨bt, 0, none⟩ = some x ∧ W.cell? ⟨bt, 1, none⟩ = some y :=
  ⟨blk_cell h.t 0, blk_cell h.t 1⟩
/-- .. and the answer under way: its box, its scalars, its entries -/
structure US (w : World) (bo br bt bc : Nat) (ov tv : Array Value) (vd vv vc : Value) (vars : List Int) (W : World) (rowd rowc : List Int) : Prop where
  ts : TS w bo br bt ov tv vd W rowd
  c : W.heap[bc]? = some (.cells #[vv, vc, .bool false] 25 (0, 0))
  rv : Kd.R (Kd.int .i64) 3 W w.heap.size (fun _ => True) vv vars
  rc : Kd.R (Kd.int .i64) 2 W bt (fun _ => True) vc rowc
theorem US.next {w : World} {bo br bt bc : Nat} {ov tv : Array Value} {vd vv vc : Value} {vars : List Int} {W W' : World} {rowd rowc : List Int} (h : US w bo br bt bc ov tv vd vv vc vars W rowd rowc) (hb : Below W.heap.size W W') : US w bo br bt bc ov tv vd vv vc vars W' rowd rowc :=
  ⟨h.ts.next hb, blk_below h.c hb, Kd.R_below h.rv hb, Kd.R_below h.rc hb⟩
theorem US.put {w : World} {bo br bt bc g len cap : Nat} {ov tv : Array Value} {vd vv : Value} {vars : List Int} {W : World} {rowd rowc : List Int} (h : US w bo br bt bc ov tv vd vv (.slice (some ⟨g, 0, none⟩) len cap) vars W rowd rowc) (hp : 0 < rowc.length) (i v : Int) :
    US w bo br bt bc ov tv vd vv (.slice (some ⟨g, 0, none⟩) len cap) vars (W.setCell ⟨g, i.toNat, none⟩ (.int .i64 v)) rowd (rowc.set i.toNat v) := by
  obtain ⟨hg, cells, hc⟩ := row_block h.rc hp
  have n1 := typed_ne h.ts.ob.o hc (by decide)
  have n2 := typed_ne h.ts.ob.r hc (by decide)
  have n3 := typed_ne h.ts.t hc (by decide)
  have n4 := typed_ne h.c hc (by decide)
  have hw : w.heap.size ≤ g := Nat.le_trans h.ts.tb hg
  refine ⟨⟨⟨blk_far h.ts.ob.o n1 _, blk_far h.ts.ob.r n2 _, below_set h.ts.ob.below hw, h.ts.ob.ob, h.ts.ob.rb, h.ts.ob.ne⟩, blk_far h.ts.t n3 _, h.ts.tb, ?_⟩, blk_far h.c n4 _, ?_, (Kd.R_putg h.rc i v).1⟩
  · exact Kd.R_far (p := ⟨g, i.toNat, none⟩) h.ts.row (fun k hk e => by subst e; exact absurd hk (by simp; omega)) _
  · exact Kd.R_set h.rv hc (fun q hq => by
      rcases List.mem_cons.1 hq with rfl | hq
      · decide
      · cases hq) _ _
/-- .. whose box has just been made -/
theorem US.made {w : World} {bo br bt : Nat} {ov tv : Array Value} {vd vv vc : Value} {vars : List Int} {W : World} {rowd rowc : List Int} (ts : TS w bo br bt ov tv vd W rowd) (rv : Kd.R (Kd.int .i64) 3 W w.heap.size (fun _ => True) vv vars) (rc : Kd.R (Kd.int .i64) 2 W bt (fun _ => True) vc rowc) :
    US w bo br bt W.heap.size ov tv vd vv vc vars (W.alloc (.cells #[vv, vc, .bool false] 25)) rowd rowc :=
  ⟨ts.next (below_alloc (Below.refl _ _) _), blk_new _ _, Kd.R_alloc rv _, Kd.R_alloc rc _⟩
/-- .. whose box was made before -/
theorem US.filled {w : World} {bo br bt bc : Nat} {ov tv : Array Value} {vd vv vc : Value} {vars : List Int} {W : World} {rowd rowc : List Int} (ts : TS w bo br bt ov tv vd W rowd) (rv : Kd.R (Kd.int .i64) 3 W w.heap.size (fun _ => True) vv vars) (rc : Kd.R (Kd.int .i64) 2 W bt (fun _ => True) vc rowc)
    (hb : W.heap[bc]? = some (.cells #[.slice none 0 0, .slice none 0 0, .bool false] 25 (0, 0))) (h1 : bo ≠ bc) (h2 : br ≠ bc) (h3 : w.heap.size ≤ bc) :
    US w bo br bt bc ov tv vd vv vc vars (((W.setCell ⟨bc, 0, none⟩ vv).setCell ⟨bc, 1, none⟩ vc).setCell ⟨bc, 2, none⟩ (.bool false)) rowd rowc :=
  ⟨⟨⟨((store3 hb _ _ _).2 _ h1).trans ts.ob.o, ((store3 hb _ _ _).2 _ h2).trans ts.ob.r, below_set (below_set (below_set ts.ob.below h3) h3) h3, ts.ob.ob, ts.ob.rb, ts.ob.ne⟩, ((store3 hb _ _ _).2 _ (typed_ne ts.t hb (by decide))).trans ts.t, ts.tb, row_store3 hb ts.row (by decide) _ _ _⟩,
    (store3 hb _ _ _).1, row_store3 hb rv (by decide) _ _ _, row_store3 hb rc (by decide) _ _ _⟩
/-- a new row of zeros -/
theorem make64 (n : Nat) (hn : n ≤ 256) : ∃ mc : Array Value, (∀ W, (Instr.makeSlice 23 (.int .i64 (n : Int)) (.int .i64 (n : Int))).run Try.prog W = .ok (.slice (some ⟨W.heap.size, 0, none⟩) n n) (W.alloc (.cells mc 2))) ∧
    ∀ (W : World) (base : Nat), base ≤ W.heap.size → Kd.R (Kd.int .i64) 2 (W.alloc (.cells mc 2)) base (fun _ => True) (.slice (some ⟨W.heap.size, 0, none⟩) n n) (List.replicate n 0) := by
  obtain ⟨i0, hi, hzz⟩ := Option.map_eq_some_iff.1 info2
  simp only [Prod.mk.injEq] at hzz
  obtain ⟨hz0, hz1, hz2⟩ := hzz
  refine ⟨madeCells (Value.int .i64 0).cells (n * 1), fun W => ?_, fun W base hb => ?_⟩
  · have hr := run_make (P := Try.prog) W 23 2 i0 (.int .i64 0) Try.underlying23 hi hz0 .i64 .i64 (n : Int) (n : Int) (by omega) (by omega) (by rw [hz2]; omega) (by omega)
    simp only [Int.toNat_natCast] at hr
    rw [hz1] at hr
    exact hr
  · have hrep : Reps ((Kd.int .i64).M W base (fun _ => True)) 1 (List.replicate n (0 : Int)) (madeCells (Value.int .i64 0).cells (n * 1)).toList := Kd.reps_made (R := (Kd.int .i64).M W base (fun _ => True)) (z := .int .i64 0) (size := 1) rfl (by decide) rfl n
    refine ⟨fun _ _ => trivial, (madeCells (Value.int .i64 0).cells (n * 1)).toList, ?_, ?_⟩
    · have h2 := World.ownsRow_lit (base := base) (e := 2) (size := 1) W (madeCells (Value.int .i64 0).cells (n * 1)) n hb (by simp [maxLen]; omega) (by simpa using hrep.1)
      show World.ownsRow _ base 2 1 _ _ _
      simpa using h2
    · refine hrep.imp_ (fun p c hp => (Kd.int .i64).M_mono (fun k hk => ⟨trivial, fun he => ?_⟩) (Kd.M_below ((Kd.int .i64).M_bound hp) (below_alloc (Below.refl _ _) _)))
      have h3 : k = W.heap.size := by simpa [Value.ownBlock] using he
      have := hk.2.2.1
      omega
theorem lowAt_same {vars m : List Int} (h : OFit vars m false) {i j : Int} (h0 : 0 ≤ i) (h1 : i < 2 * (vars.length : Int)) (h2 : 0 ≤ j) (h3 : j < 2 * (vars.length : Int)) : lowAt (2 * (vars.length : Int)) m i j = rd m (i * (2 * (vars.length : Int)) + j) := by
  unfold lowAt; split
  · exact (((h.2.2 rfl).2 i j h0 h1 h2 h3).2.2).symm
  · rfl
theorem lowM_ok {vars m : List Int} (h : OFit vars m false) : Bd (2 * vars.length) 1099511627776 (lowM vars.length m) ∧ ∀ i, i < 2 * vars.length → lowM vars.length m i i = 0 := by
  constructor
  · intro i j hi hj
    have e := (h.2.2 rfl).2 (i : Int) (j : Int) (by omega) (by omega) (by omega) (by omega)
    unfold lowM; rw [lowAt_same h (by omega) (by omega) (by omega) (by omega)]
    exact e.1
  · intro i hi
    have e := (h.2.2 rfl).2 (i : Int) (i : Int) (by omega) (by omega) (by omega) (by omega)
    unfold lowM; rw [lowAt_same h (by omega) (by omega) (by omega) (by omega)]
    exact e.2.1 rfl
theorem overs_bd {n : Nat} {d : Nat → Nat → Int} (h : Bd n 1099511627776 d) (hn : n ≤ 16) : Bd n 72057594037927936 (overs d n) := by
  have hp : (2 : Int) ^ n ≤ 2 ^ 16 := by
    have := Nat.pow_le_pow_right (n := 2) (by decide) (show n ≤ 16 by omega)
    exact_mod_cast this
  have h4 : (1099511627776 : Int) * 2 ^ n ≤ 1099511627776 * 2 ^ 16 := Int.mul_le_mul_of_nonneg_left hp (by decide)
  intro i j hi hj
  exact OctMath.fin_mono (OctMath.bd_overs h (by decide) n (Nat.le_refl _) (by omega) i j hi hj) (by omega)
theorem tig_bd {n : Nat} {d : Nat → Nat → Int} {B : Int} (h : Bd n B d) (hB : 0 ≤ B) : Bd n (B + 2) (tig d) := by
  intro i j hi hj
  have := h i j hi hj
  unfold tig Fin' at *
  split
  · split <;> omega
  · omega

set_option maxHeartbeats 16000000 in
set_option maxRecDepth 100000 in
theorem oct_Close_any (A0 : Option Addr) (c0 : Nat) (vars : List Int) (A1 : Option Addr) (c1 : Nat) (m : List Int) (empty : Bool) (w : World) (hr0 : Kd.C (Kd.int .i64) w A0 vars.length vars) (hc0 : vars.length ≤ c0)
    (hr1 : Kd.C (Kd.int .i64) w A1 m.length m) (hc1 : m.length ≤ c1) (hfit : OFit vars m empty) :
    Calls Try.prog 22 #[.agg #[.slice A0 vars.length c0, .slice A1 m.length c1, .bool empty]] w fun e w' => ∃ v0_ v1_ : Value, e = .returned (.agg #[v0_, v1_, .bool (closeF vars m empty).2.2]) ∧
      Kd.R (Kd.int .i64) 3 w' w.heap.size (fun _ => True) v0_ (closeF vars m empty).1 ∧ Kd.R (Kd.int .i64) 2 w' w.heap.size (fun _ => True) v1_ (closeF vars m empty).2.1 ∧ Below w.heap.size w w' := by
  have hu25 := Try.underlying25
  have hu58 := Try.underlying58
  have HR0 := Aside0.mk hr0
  have HR1 := Aside0.mk hr1
  have HC0 := Aside0.mk hc0
  have HC1 := Aside0.mk hc1
  have HFIT := Aside0.mk hfit
  have BOT := Aside0.mk (fun (W : World) (hW : Below w.heap.size w W) => oct_Bottom.calls A0 c0 vars vars [] true W (Kd.C_below hr0 hW) hc0 (bottom_f hfit.1))
  clear hr0 hr1 hc0 hc1 hfit
  cases empty with
  | true =>
    go_enter Try.func22, Try.ntmps22
    go_wp2_with (first
      | ((with_reducible refine gate_dst (N := 1) rfl ?_); refine box_event ?hg (N := 1) ?hd (cs := #[.slice A0 vars.length c0, .slice A1 m.length c1, .bool true]) (t := 25) ?hr ?_; (case hd => rfl); (case hg => rfl); (case hr => first | (go_simp; done) | (go_simp; rfl)); intro bo hgo wa hbo hba; have HBO := Aside0.mk (And.intro hgo (And.intro hbo hba)); clear hgo hbo hba)
      | ((with_reducible refine gate_dst (N := 2) rfl ?_); refine box_event ?hg (N := 2) ?hd (cs := #[.slice none 0 0, .slice none 0 0, .bool false]) (t := 25) ?hr ?_; (case hd => rfl); (case hg => rfl); (case hr => first | (go_simp; done) | (go_simp; rfl)); intro br hgr wb hbr hbb; have HOB : Aside0 (OB w bo br #[.slice A0 vars.length c0, .slice A1 m.length c1, .bool true] wb) := ⟨⟨blk_below HBO.out.2.1 hbb, hbr, HBO.out.2.2.trans (hbb.mono HBO.out.2.2.size), by rw [HBO.out.1]; exact Nat.le_refl _, by rw [hgr]; exact HBO.out.2.2.size, by rw [hgr]; exact Nat.ne_of_lt (blk_lt HBO.out.2.1)⟩⟩; obtain ⟨ho0, ho1, ho2⟩ := HOB.out.cells; clear hgr hbr hbb HBO)
      | (go_at_call 14; (with_reducible refine (BOT.out _ ?s1).mono ?_); (case s1 => exact HOB.out.below); rintro e w1 ⟨v0, v1, rfl, h0, h1, hb⟩; obtain ⟨Ao, co, eo⟩ := Kd.R_slice h0; subst eo; obtain ⟨Ap, cp, ep⟩ := Kd.R_slice h1; subst ep; have H0 := Aside0.mk h0; have H1 := Aside0.mk h1; have HO1 := Aside0.mk (OB.next HOB.out hb); have HBW := Aside0.mk HOB.out.below.size; obtain ⟨⟨hr0, hr1, hr2⟩, hr3, hr4, hr5⟩ := HO1.out.res; clear h0 h1 hb HOB ho0 ho1 ho2))
    refine bodyPost_ret (results_cell_row rfl _ _ br 25 #[.slice Ao vars.length co, .slice Ap 0 cp, .bool true] (0, 0) _ rfl (store3 HO1.out.r _ _ _).1 Try.underlying25 rfl (by kernel_rfl)) rfl ?_
    exact ⟨_, _, rfl, OB.answer HO1.out HBW.out H0.out H1.out _⟩
  | false =>
    have hfit := HFIT.out
    obtain ⟨n2, hn2⟩ : ∃ n2, n2 = 2 * vars.length := ⟨_, rfl⟩
    obtain ⟨NN, hNN⟩ : ∃ NN, n2 * n2 = NN := ⟨_, rfl⟩
    have h8 := hfit.1.1
    have HM := Aside0.mk ((hfit.2.2 rfl).1)
    have HL := Aside0.mk h8
    have HN2 := Aside0.mk hn2
    have HNN := Aside0.mk hNN
    have LM := lowM_ok hfit
    have WAYS := Aside0.mk (fun (W : World) (hW : Below w.heap.size w W) => oct_ways_any vars.length A1 c1 m W (Kd.C_below HR1.out hW) HC1.out h8 HM.out LM.1 (fun i hi => by rw [LM.2 i hi]; exact Int.le_refl _))
    unfold tableV at WAYS
    rw [← hn2] at WAYS LM
    have HFI := Aside0.mk (fun (W : World) (hW : Below w.heap.size w W) => oct_Fit.calls A0 c0 vars A1 c1 m false true W (Kd.C_below HR0.out hW) HC0.out (Kd.C_below HR1.out hW) HC1.out (by unfold oct_Fit.f; rw [if_pos (show vars.length ≤ 17592186044416 by omega), ofitB_true.2 hfit]))
    obtain ⟨M0, hM0⟩ : ∃ M0, lowM vars.length m = M0 := ⟨_, rfl⟩
    rw [hM0] at WAYS LM
    have HLM := Aside0.mk LM
    have HM0 := Aside0.mk hM0
    clear hfit hn2 hNN h8 LM hM0
    have HANS : Aside0 (closeF vars m false = (vars, closeL n2 M0, !closeB n2 M0)) := ⟨by unfold closeF; rw [if_neg (by decide), ← HN2.out, HM0.out]⟩
    rw [HANS.out]
    cases hfb : floydB n2 M0 with
    | false =>
      have hcb : closeB n2 M0 = false := closeB_false.2 (fun h => floydB_false.1 hfb h.1)
      have hcl : closeL n2 M0 = [] := by unfold closeL; rw [hcb]; rfl
      rw [hcb, hcl]
      rw [hfb] at WAYS
      clear hcb hcl
      go_enter Try.func22, Try.ntmps22
      go_wp2_with (first
      | ((with_reducible refine gate_dst (N := 1) rfl ?_); refine box_event ?hg (N := 1) ?hd (cs := #[.slice A0 vars.length c0, .slice A1 m.length c1, .bool false]) (t := 25) ?hr ?_; (case hd => rfl); (case hg => rfl); (case hr => first | (go_simp; done) | (go_simp; rfl)); intro bo hgo wa hbo hba; have HBO := Aside0.mk (And.intro hgo (And.intro hbo hba)); clear hgo hbo hba)
      | ((with_reducible refine gate_dst (N := 2) rfl ?_); refine box_event ?hg (N := 2) ?hd (cs := #[.slice none 0 0, .slice none 0 0, .bool false]) (t := 25) ?hr ?_; (case hd => rfl); (case hg => rfl); (case hr => first | (go_simp; done) | (go_simp; rfl)); intro br hgr wb hbr hbb; have HOB : Aside0 (OB w bo br #[.slice A0 vars.length c0, .slice A1 m.length c1, .bool false] wb) := ⟨⟨blk_below HBO.out.2.1 hbb, hbr, HBO.out.2.2.trans (hbb.mono HBO.out.2.2.size), by rw [HBO.out.1]; exact Nat.le_refl _, by rw [hgr]; exact HBO.out.2.2.size, by rw [hgr]; exact Nat.ne_of_lt (blk_lt HBO.out.2.1)⟩⟩; obtain ⟨ho0, ho1, ho2⟩ := HOB.out.cells; clear hgr hbr hbb HBO)
      | (go_at_call 18; (with_reducible refine (HFI.out _ ?s1).mono ?_); (case s1 => exact HOB.out.below); rintro e w2 ⟨rfl, hb⟩; have HOB2 := Aside0.mk (HOB.out.next hb); clear HOB ho0 ho1 ho2 hb; obtain ⟨ho0, ho1, ho2⟩ := HOB2.out.cells)
      | (go_at_call 55; (with_reducible refine (oct_of_any _ _ _ _ _ _ _ _ (Nat.le_trans HL.out (by decide))).mono ?_); rintro e w3 ⟨rfl, hb⟩; unfold tableV; have HOB3 := Aside0.mk (HOB2.out.next hb); clear HOB2 ho0 ho1 ho2 hb)
      | (go_at_call 54; (with_reducible refine (WAYS.out _ ?s1).mono ?_); (case s1 => exact HOB3.out.below); rintro e w4 ⟨vd, rfl, hrow, hb⟩; have HOB4 := Aside0.mk (HOB3.out.next hb); clear HOB3 hb hrow; obtain ⟨ho0, ho1, ho2⟩ := HOB4.out.cells)
      | (go_at_call 14; (with_reducible refine (BOT.out _ ?s1).mono ?_); (case s1 => exact HOB4.out.below); rintro e w1 ⟨v0, v1, rfl, h0, h1, hb⟩; obtain ⟨Ao, co, eo⟩ := Kd.R_slice h0; subst eo; obtain ⟨Ap, cp, ep⟩ := Kd.R_slice h1; subst ep; have H0 := Aside0.mk h0; have H1 := Aside0.mk h1; have HO1 := Aside0.mk (OB.next HOB4.out hb); have HBW := Aside0.mk (HOB4.out).below.size; obtain ⟨⟨hr0, hr1, hr2⟩, hr3, hr4, hr5⟩ := HO1.out.res; clear h0 h1 hb HOB4 ho0 ho1 ho2))
      refine bodyPost_ret (results_cell_row rfl _ _ br 25 #[.slice Ao vars.length co, .slice Ap 0 cp, .bool true] (0, 0) _ rfl (store3 HO1.out.r _ _ _).1 Try.underlying25 rfl (by kernel_rfl)) rfl ?_
      exact ⟨_, _, rfl, OB.answer HO1.out HBW.out H0.out H1.out _⟩
    | true =>
      have hfok := Aside0.mk (floydB_true.1 hfb)
      have hdl : floydL n2 M0 = lst n2 (overs M0 n2) := by unfold floydL; rw [if_pos hfb]
      rw [hfb, hdl] at WAYS
      clear hfb hdl
      obtain ⟨D0, hD0⟩ : ∃ D0, overs M0 n2 = D0 := ⟨_, rfl⟩
      rw [hD0] at WAYS
      have HD0 := Aside0.mk hD0
      clear hD0
      go_enter Try.func22, Try.ntmps22
      go_wp2_with (first
      | ((with_reducible refine gate_dst (N := 1) rfl ?_); refine box_event ?hg (N := 1) ?hd (cs := #[.slice A0 vars.length c0, .slice A1 m.length c1, .bool false]) (t := 25) ?hr ?_; (case hd => rfl); (case hg => rfl); (case hr => first | (go_simp; done) | (go_simp; rfl)); intro bo hgo wa hbo hba; have HBO := Aside0.mk (And.intro hgo (And.intro hbo hba)); clear hgo hbo hba)
      | ((with_reducible refine gate_dst (N := 2) rfl ?_); refine box_event ?hg (N := 2) ?hd (cs := #[.slice none 0 0, .slice none 0 0, .bool false]) (t := 25) ?hr ?_; (case hd => rfl); (case hg => rfl); (case hr => first | (go_simp; done) | (go_simp; rfl)); intro br hgr wb hbr hbb; have HOB : Aside0 (OB w bo br #[.slice A0 vars.length c0, .slice A1 m.length c1, .bool false] wb) := ⟨⟨blk_below HBO.out.2.1 hbb, hbr, HBO.out.2.2.trans (hbb.mono HBO.out.2.2.size), by rw [HBO.out.1]; exact Nat.le_refl _, by rw [hgr]; exact HBO.out.2.2.size, by rw [hgr]; exact Nat.ne_of_lt (blk_lt HBO.out.2.1)⟩⟩; obtain ⟨ho0, ho1, ho2⟩ := HOB.out.cells; clear hgr hbr hbb HBO)
      | (go_at_call 18; (with_reducible refine (HFI.out _ ?s1).mono ?_); (case s1 => exact HOB.out.below); rintro e w2 ⟨rfl, hb⟩; have HOB2 := Aside0.mk (HOB.out.next hb); clear HOB ho0 ho1 ho2 hb; obtain ⟨ho0, ho1, ho2⟩ := HOB2.out.cells)
      | (go_at_call 55; (with_reducible refine (oct_of_any _ _ _ _ _ _ _ _ (Nat.le_trans HL.out (by decide))).mono ?_); rintro e w3 ⟨rfl, hb⟩; unfold tableV; have HOB3 := Aside0.mk (HOB2.out.next hb); clear HOB2 ho0 ho1 ho2 hb)
      | (go_at_call 54; (with_reducible refine (WAYS.out _ ?s1).mono ?_); (case s1 => exact HOB3.out.below); rintro e w4 ⟨vd, rfl, hrow, hb⟩; have HOB4 := Aside0.mk (HOB3.out.next hb); have HROW := Aside0.mk (Kd.R_lower hrow HOB3.out.below.size); clear HOB3 hb hrow; obtain ⟨Ad, cd, ed⟩ := Kd.R_slice HROW.out; subst ed; obtain ⟨ho0, ho1, ho2⟩ := HOB4.out.cells))
      have hw : wrap64 (2 * (vars.length : Int)) = 2 * (vars.length : Int) := by have := HL.out; unfold wrap64; omega
      obtain ⟨nn, hnn⟩ : ∃ nn : Int, 2 * (vars.length : Int) = nn := ⟨_, rfl⟩
      have hll : (lst n2 D0).length = NN := by rw [lst_length, HNN.out]
      rw [hw, hnn, hll]
      obtain ⟨bt, hbt⟩ : ∃ bt, w4.heap.size = bt := ⟨_, rfl⟩
      rw [hbt]
      obtain ⟨W5, hW5⟩ : ∃ W5, w4.alloc (.cells #[.int .i64 nn, .slice Ad NN cd] 58) = W5 := ⟨_, rfl⟩
      rw [hW5]
      have HT : Aside0 (TS w bo br bt #[.slice A0 vars.length c0, .slice A1 m.length c1, .bool false] #[.int .i64 nn, .slice Ad NN cd] (.slice Ad NN cd) W5 (lst n2 (tigTo D0 0))) := ⟨by
        have h1 := HROW.out
        rw [hll] at h1
        rw [lst_congr (d := tigTo D0 0) (e := D0) (fun a b _ _ => tigTo_zero a b), ← hW5, ← hbt]
        exact ⟨HOB4.out.next (below_alloc (Below.refl _ _) _), blk_new _ _, HOB4.out.below.size, Kd.R_alloc (Kd.R_mono (Kd.R_bound h1) (fun k hk => hk.2.2.1)) _⟩⟩
      have HNV := Aside0.mk hnn
      clear hW5 hbt hw hnn hll HROW HOB4 ho0 ho1 ho2 WAYS HFI
      have HDB : Aside0 (Bd n2 72057594037927936 D0) := ⟨by rw [← HD0.out]; exact overs_bd HLM.out.1 (by have := HL.out; have := HN2.out; omega)⟩
      go_loopg [41] n2 (fun gg s41 wr => ∃ (i : Nat) (ii : Int), s41 = .int .i64 ii ∧ Aside0 (ii = (i : Int) ∧ i ≤ n2 ∧ n2 - i ≤ gg) ∧ Aside0 (TS w bo br bt #[.slice A0 vars.length c0, .slice A1 m.length c1, .bool false] #[.int .i64 nn, .slice Ad NN cd] (.slice Ad NN cd) wr (lst n2 (tigTo D0 i))))
      case atStart => exact ⟨0, 0, rfl, ⟨rfl, Nat.zero_le _, by omega⟩, HT⟩
      case round =>
        clear HT
        obtain ⟨i, ii, rfl, HII, HT⟩ := hrel
        by_cases hlt : i < n2
        · have f3 : decide (ii < nn) = true := decide_eq_true (by have := HN2.out; have := HII.out; have := HNV.out; omega)
          have HIL := Aside0.mk hlt
          have hN0 : 0 < (lst n2 (tigTo D0 i)).length := by rw [lst_length]; exact Nat.mul_pos (by omega) (by omega)
          obtain ⟨g, cap, eg, hg1, hg2, cells, hg3⟩ := Kd.R_form HT.out.row hN0
          injection eg with e1 e2 e3
          subst e1
          have HP0 := Aside0.mk hN0
          have n3 : bt ≠ g := typed_ne HT.out.t hg3 (by decide)
          have n4 : g ≠ bt := fun e => n3 e.symm
          clear hlt hN0 e2 e3 hg1 hg2 hg3 cells cap
          obtain ⟨bi, hbi⟩ : ∃ b, nbar ii = b := ⟨_, rfl⟩
          have HBI : Aside0 (bi = ((nb i : Nat) : Int) ∧ nb i < n2) := ⟨by have h := HII.out.1; rw [h, nbar_nb] at hbi; have h2 := HIL.out; have h3 := HN2.out; rw [h3] at h2 ⊢; exact ⟨hbi.symm, nb_lt h2⟩⟩
          have BAR : Aside0 (∀ W, Calls Try.prog 52 #[.int .i64 ii] W fun e w' => e = .returned (.int .i64 bi) ∧ w' = W) := ⟨fun W => oct_bar_still ii bi W (by unfold oct_bar.f; rw [if_pos (by have := HII.out; have := HIL.out; have := HN2.out; have := HL.out; omega), hbi])⟩
          obtain ⟨x, hx⟩ : ∃ x, D0 i (nb i) = x := ⟨_, rfl⟩
          have HX := Aside0.mk hx
          have HV : Aside0 (∀ p : Int, p = ((i * n2 + nb i : Nat) : Int) → rd (lst n2 (tigTo D0 i)) p = x) := ⟨fun p hp => by rw [lst_rd HIL.out HBI.out.2 hp, ← hx]; unfold tigTo; rw [if_neg (by omega)]⟩
          have HPI : Aside0 (ii * nn + bi = ((i * n2 + nb i : Nat) : Int) ∧ ii * nn = ((i * n2 : Nat) : Int) ∧ i * n2 ≤ 256) := ⟨by
            have h2 := HII.out.1; have h4 := HNV.out; have h5 := HN2.out; have h6 := HL.out
            have e1 : ii * nn = ((i * n2 : Nat) : Int) := by rw [h2, ← h4, h5]; push_cast; rfl
            have e2 := HBI.out.1
            exact ⟨by rw [e1, e2]; push_cast; rfl, e1, Nat.le_trans (Nat.mul_le_mul (show i ≤ 16 by have := HIL.out; omega) (show n2 ≤ 16 by omega)) (by omega)⟩⟩
          have AT : Aside0 (∀ W, TS w bo br bt #[.slice A0 vars.length c0, .slice A1 m.length c1, .bool false] #[.int .i64 nn, .slice (some ⟨g, 0, none⟩) NN cd] (.slice (some ⟨g, 0, none⟩) NN cd) W (lst n2 (tigTo D0 i)) → Calls Try.prog 51 #[.agg #[.int .i64 nn, .slice (some ⟨g, 0, none⟩) NN cd], .int .i64 ii, .int .i64 bi] W fun e w' => e = .returned (.int .i64 x) ∧ Below W.heap.size W w') := ⟨fun W hW => by
            have hl := HII.out; have hl2 := HIL.out; have hl3 := HBI.out; have hl4 := HN2.out
            have hrr := Kd.R_reads' hW.row
            have h := oct_full_at.calls (2 * (vars.length : Int)) (some ⟨g, 0, none⟩) cd (lst n2 (tigTo D0 i)) ii bi x W hrr.2.2 (by rw [← hrr.1]; exact hrr.2.1) (by
              rw [at_ok HL.out (by rw [lst_length, hl4]; push_cast; rfl) (by omega) (by omega) (by omega) (by omega), HNV.out, HV.out _ HPI.out.1])
            rw [← hrr.1, HNV.out] at h
            exact h⟩
          obtain ⟨ht0, ht1⟩ := HT.out.tcells
          clear hbi hx
          go_wp2
          go_region_held3 (fun w' => w'.cell? ⟨bt, 0, none⟩ = some (.int .i64 nn) ∧ w'.cell? ⟨bt, 1, none⟩ = some (.slice (some ⟨g, 0, none⟩) NN cd)) (first | go_keep | exact KS)
            (first | (go_at_call 52; (with_reducible refine (BAR.out _).mono ?_); rintro e w' ⟨rfl, rfl⟩)
                   | (go_at_call 51; (with_reducible refine (AT.out _ (TS.next HT.out (below_drew (Below.refl _ _)))).mono ?_); rintro e w1 ⟨rfl, hb⟩; have HT1 := Aside0.mk (TS.next (TS.next HT.out (below_drew (Below.refl _ _))) hb); have KS := HT1.out.tcells; clear hb))
          clear KS ht0 ht1 HT AT
          obtain ⟨ht0, ht1⟩ := HT1.out.tcells
          have HW : Aside0 (wrap64 (ii + 1) = ((i + 1 : Nat) : Int)) := ⟨by have := HII.out; have := HN2.out; have := HL.out; have := HIL.out; unfold wrap64; omega⟩
          by_cases he : x = 4611686018427387904
          · have fb : (x != 4611686018427387904) = false := by rw [he]; rfl
            have fc : decide (x = 4611686018427387904) = true := decide_eq_true he
            have HE := Aside0.mk he
            clear he
            go_wp2
            go_roundg (n2 - (i + 1))
            case measure => have := HII.out; have := HIL.out; omega
            case rel =>
              refine ⟨i + 1, wrap64 (ii + 1), rfl, ⟨by have := HW.out; have := HIL.out; omega⟩, ⟨?_⟩⟩
              have h1 := HT1.out
              rw [lst_congr (e := tigTo D0 (i + 1)) (fun a b _ _ => by
                rw [tigTo_step a b]
                by_cases h : a = i ∧ b = nb i
                · rw [if_pos h, h.1, h.2]; unfold tigTo tig; rw [if_neg (by omega), if_pos rfl]; rw [HX.out, HE.out]; rfl
                · rw [if_neg h])] at h1
              exact h1
          · have fb : (x != 4611686018427387904) = true := by simpa using he
            have fc : decide (x = 4611686018427387904) = false := decide_eq_false he
            have HE := Aside0.mk he
            have hxb := HX.out ▸ HDB.out i (nb i) HIL.out HBI.out.2
            have HXB := Aside0.mk hxb
            have HALF : Aside0 (∀ W, Calls Try.prog 56 #[.int .i64 x] W fun e w' => e = .returned (.int .i64 (x / 2)) ∧ Drawn0 W w') := ⟨fun W => by
              have h := bound_Half.calls x (half x) W (half_half (OctMath.fin_mono hxb (by decide)))
              have e : half x = x / 2 := by unfold half; rw [if_neg he]
              rw [e] at h; exact h⟩
            obtain ⟨hx2, hhx⟩ : ∃ h, x / 2 = h := ⟨_, rfl⟩
            rw [hhx] at HALF
            obtain ⟨v, hv⟩ : ∃ v, IntKind.i64.wrap (2 * hx2) = v := ⟨_, rfl⟩
            obtain ⟨q1, hq1⟩ : ∃ q, IntKind.i64.wrap (ii * nn) = q := ⟨_, rfl⟩
            obtain ⟨p, hp⟩ : ∃ q, IntKind.i64.wrap (q1 + bi) = q := ⟨_, rfl⟩
            have HVV : Aside0 (v = 2 * (x / 2)) := ⟨by rw [IntKind.wrap_i64] at hv; unfold Fin' at hxb; rw [hhx]; omega⟩
            have HPP : Aside0 (p = ((i * n2 + nb i : Nat) : Int)) := ⟨by
              have h := HPI.out; have h2 := HBI.out; have h7 := h.2.2
              rw [h.2.1, IntKind.wrap_i64] at hq1
              rw [IntKind.wrap_i64] at hp
              have r1 : q1 = ((i * n2 : Nat) : Int) := by omega
              have h5 := HL.out; have h6 := HN2.out
              clear hq1 hv h
              subst r1
              omega⟩
            have HPB : Aside0 (0 ≤ p ∧ p < (NN : Int)) := ⟨by have := ij_lt HIL.out HBI.out.2; rw [HNN.out] at this; have := HPP.out; omega⟩
            have r10 := eq_true HPB.out.1
            have r11 := eq_true HPB.out.2
            clear he hxb hhx
            go_wp2
            go_region_held3 (fun w' => w'.cell? ⟨bt, 0, none⟩ = some (.int .i64 nn)) (first | go_keep | exact KS)
              (first | (go_at_call 52; (with_reducible refine (BAR.out _).mono ?_); rintro e w' ⟨rfl, rfl⟩)
                     | (go_at_call 56; (with_reducible refine (HALF.out _).mono ?_); rintro e w2 ⟨rfl, hb⟩; have HT2 := Aside0.mk (TS.next (TS.next HT1.out (below_drew (Below.refl _ _))) hb.below); have KS := HT2.out.tcells.1; obtain ⟨hz1, hz2⟩ := Kd.R_celln 0 HT2.out.row p HPB.out.1 HPB.out.2; clear hb))
            go_wp2
            go_roundg (n2 - (i + 1))
            case measure => have := HII.out; have := HIL.out; omega
            case rel =>
              refine ⟨i + 1, wrap64 (ii + 1), rfl, ⟨by have := HW.out; have := HIL.out; omega⟩, ⟨?_⟩⟩
              have h1 := TS.put HT2.out HP0.out p v
              rw [lst_set HIL.out HBI.out.2 HPP.out, lst_congr (e := tigTo D0 (i + 1)) (fun a b _ _ => by
                rw [tigTo_step a b]
                by_cases h : a = i ∧ b = nb i
                · rw [if_pos h, if_pos h]; unfold tig; rw [if_pos rfl, HX.out, if_neg HE.out, HVV.out]
                · rw [if_neg h, if_neg h])] at h1
              exact h1
        · have f3 : decide (ii < nn) = false := decide_eq_false (by have := HN2.out; have := HII.out; have := HNV.out; omega)
          have ei : i = n2 := by have := HII.out; omega
          obtain ⟨T0, hT0⟩ : ∃ T0, tig D0 = T0 := ⟨_, rfl⟩
          have HT1 : Aside0 (TS w bo br bt #[.slice A0 vars.length c0, .slice A1 m.length c1, .bool false] #[.int .i64 nn, .slice Ad NN cd] (.slice Ad NN cd) wr (lst n2 T0)) := ⟨by
            have h := HT.out
            rw [ei, lst_congr (fun a b ha _ => tigTo_all a b ha), hT0] at h; exact h⟩
          have HT0 := Aside0.mk hT0
          have HTD : Aside0 (Bd n2 72057594037927938 T0) := ⟨by rw [← hT0]; exact tig_bd HDB.out (by decide)⟩
          clear hlt ei hT0 HT HII
          obtain ⟨ht0, ht1⟩ := HT1.out.tcells
          go_wp2
          clear ht0 ht1
          go_loopg [66] n2 (fun gg s66 wr => ∃ (i : Nat) (ii : Int), s66 = .int .i64 ii ∧ Aside0 (ii = (i : Int) ∧ i ≤ n2 ∧ n2 - i ≤ gg) ∧ Aside0 (TS w bo br bt #[.slice A0 vars.length c0, .slice A1 m.length c1, .bool false] #[.int .i64 nn, .slice Ad NN cd] (.slice Ad NN cd) wr (lst n2 T0)) ∧ Aside0 (∀ a, a < i → 0 ≤ plus (T0 a (nb a)) (T0 (nb a) a)))
          case atStart => exact ⟨0, 0, rfl, ⟨rfl, Nat.zero_le _, by omega⟩, HT1, ⟨fun a ha => absurd ha (by omega)⟩⟩
          case round =>
            clear HT1
            obtain ⟨i, ii, rfl, HII, HT, HST⟩ := hrel
            by_cases hlt : i < n2
            · have f3 : decide (ii < nn) = true := decide_eq_true (by have := HN2.out; have := HII.out; have := HNV.out; omega)
              have HIL := Aside0.mk hlt
              obtain ⟨bi, hbi⟩ : ∃ b, nbar ii = b := ⟨_, rfl⟩
              have HBI : Aside0 (bi = ((nb i : Nat) : Int) ∧ nb i < n2) := ⟨by have h := HII.out.1; rw [h, nbar_nb] at hbi; have h2 := HIL.out; have h3 := HN2.out; rw [h3] at h2 ⊢; exact ⟨hbi.symm, nb_lt h2⟩⟩
              have BAR : Aside0 (∀ W, Calls Try.prog 52 #[.int .i64 ii] W fun e w' => e = .returned (.int .i64 bi) ∧ w' = W) := ⟨fun W => oct_bar_still ii bi W (by unfold oct_bar.f; rw [if_pos (by have := HII.out; have := HIL.out; have := HN2.out; have := HL.out; omega), hbi])⟩
              obtain ⟨x, hx⟩ : ∃ x, T0 i (nb i) = x := ⟨_, rfl⟩
              obtain ⟨y, hy⟩ : ∃ y, T0 (nb i) i = y := ⟨_, rfl⟩
              obtain ⟨sm, hsm⟩ : ∃ sm, plus x y = sm := ⟨_, rfl⟩
              have ATT : Aside0 (∀ (a b : Nat) (aa bb : Int) (W : World), a < n2 → b < n2 → aa = (a : Int) → bb = (b : Int) → TS w bo br bt #[.slice A0 vars.length c0, .slice A1 m.length c1, .bool false] #[.int .i64 nn, .slice Ad NN cd] (.slice Ad NN cd) W (lst n2 T0) → Calls Try.prog 51 #[.agg #[.int .i64 nn, .slice Ad NN cd], .int .i64 aa, .int .i64 bb] W fun e w' => e = .returned (.int .i64 (T0 a b)) ∧ Below W.heap.size W w') := ⟨fun a b aa bb W ha hb haa hbb hW => by
                have hl4 := HN2.out
                have hrr := Kd.R_reads' hW.row
                have e1 : aa * (2 * (vars.length : Int)) + bb = ((a * n2 + b : Nat) : Int) := by rw [haa, hbb, hl4]; push_cast; rfl
                have h := oct_full_at.calls (2 * (vars.length : Int)) Ad cd (lst n2 T0) aa bb (T0 a b) W hrr.2.2 (by rw [← hrr.1]; exact hrr.2.1) (by
                  rw [at_ok HL.out (by rw [lst_length, hl4]; push_cast; rfl) (by omega) (by omega) (by omega) (by omega), lst_rd ha hb e1])
                rw [← hrr.1, HNV.out] at h
                exact h⟩
              have AT1 : Aside0 (∀ W, TS w bo br bt #[.slice A0 vars.length c0, .slice A1 m.length c1, .bool false] #[.int .i64 nn, .slice Ad NN cd] (.slice Ad NN cd) W (lst n2 T0) → Calls Try.prog 51 #[.agg #[.int .i64 nn, .slice Ad NN cd], .int .i64 ii, .int .i64 bi] W fun e w' => e = .returned (.int .i64 x) ∧ Below W.heap.size W w') := ⟨fun W hW => by rw [← hx]; exact ATT.out i (nb i) ii bi W HIL.out HBI.out.2 HII.out.1 HBI.out.1 hW⟩
              have AT2 : Aside0 (∀ W, TS w bo br bt #[.slice A0 vars.length c0, .slice A1 m.length c1, .bool false] #[.int .i64 nn, .slice Ad NN cd] (.slice Ad NN cd) W (lst n2 T0) → Calls Try.prog 51 #[.agg #[.int .i64 nn, .slice Ad NN cd], .int .i64 bi, .int .i64 ii] W fun e w' => e = .returned (.int .i64 y) ∧ Below W.heap.size W w') := ⟨fun W hW => by rw [← hy]; exact ATT.out (nb i) i bi ii W HBI.out.2 HIL.out HBI.out.1 HII.out.1 hW⟩
              have UP : Aside0 (∀ W, Calls Try.prog 57 #[.int .i64 x, .int .i64 y] W fun e w' => e = .returned (.int .i64 sm) ∧ Below W.heap.size W w') := ⟨fun W => bound_Up.calls x y sm W (by
                  rw [← hsm]; exact up_plus (B := 72057594037927938) (by decide) (by decide) (hx ▸ HTD.out i (nb i) HIL.out HBI.out.2) (hy ▸ HTD.out (nb i) i HBI.out.2 HIL.out))⟩
              have HS : Aside0 (plus (T0 i (nb i)) (T0 (nb i) i) = sm) := ⟨by rw [hx, hy]; exact hsm⟩
              obtain ⟨ht0, ht1⟩ := HT.out.tcells
              clear hlt hbi hx hy hsm ATT
              go_wp2
              go_region_held3 (fun w' => w'.cell? ⟨bt, 0, none⟩ = some (.int .i64 nn) ∧ w'.cell? ⟨bt, 1, none⟩ = some (.slice Ad NN cd)) (first | go_keep | exact KS)
                (first
                   | (go_at_call 52; (with_reducible refine (BAR.out _).mono ?_); rintro e w' ⟨rfl, rfl⟩)
                   | (go_at_call 51; (with_reducible refine (AT1.out _ (TS.next HT.out (below_drew (Below.refl _ _)))).mono ?_); rintro e w1 ⟨rfl, hb⟩; have HT1 := Aside0.mk (TS.next (TS.next HT.out (below_drew (Below.refl _ _))) hb); have KS := HT1.out.tcells; clear hb AT1)
                   | (go_at_call 51; (with_reducible refine (AT2.out _ HT1.out).mono ?_); rintro e w2 ⟨rfl, hb⟩; have HT2 := Aside0.mk (TS.next HT1.out hb); clear KS; have KS := HT2.out.tcells; clear hb AT2)
                   | (go_at_call 57; (with_reducible refine (UP.out _).mono ?_); rintro e w3 ⟨rfl, hb⟩; have HTB := Aside0.mk (TS.next HT2.out hb); clear KS; have KS := HTB.out.tcells; clear hb UP))
              clear KS HT HT1 HT2
              by_cases hs : sm < 0
              · have f4 : decide (sm < 0) = true := decide_eq_true hs
                have HSN := Aside0.mk hs
                obtain ⟨ho0, ho1, ho2⟩ := HTB.out.ob.cells
                clear hs
                rw [f4]
                go_wp2_with (go_at_call 14; (with_reducible refine (BOT.out _ ?s1).mono ?_); (case s1 => exact HTB.out.ob.below); rintro e w1 ⟨v0, v1, rfl, h0, h1, hb⟩; obtain ⟨Ao, co, eo⟩ := Kd.R_slice h0; subst eo; obtain ⟨Ap, cp, ep⟩ := Kd.R_slice h1; subst ep; have H0 := Aside0.mk h0; have H1 := Aside0.mk h1; have HO1 := Aside0.mk (OB.next HTB.out.ob hb); have HBW := Aside0.mk (HTB.out.ob).below.size; obtain ⟨⟨hr0, hr1, hr2⟩, hr3, hr4, hr5⟩ := HO1.out.res; clear h0 h1 hb ho0 ho1 ho2 ht0 ht1)
                refine bodyPost_ret (results_cell_row rfl _ _ br 25 #[.slice Ao vars.length co, .slice Ap 0 cp, .bool true] (0, 0) _ rfl (store3 HO1.out.r _ _ _).1 Try.underlying25 rfl (by kernel_rfl)) rfl ?_
                have hcb : closeB n2 M0 = false := closeB_false.2 (fun h => by
                  have h1 := h.2 i HIL.out
                  rw [HD0.out, HT0.out, HS.out] at h1
                  have := HSN.out; omega)
                have hcl : closeL n2 M0 = [] := by unfold closeL; rw [hcb]; rfl
                rw [hcb, hcl]
                exact ⟨_, _, rfl, OB.answer HO1.out HBW.out H0.out H1.out _⟩
              · have f4 : decide (sm < 0) = false := decide_eq_false hs
                have HSN := Aside0.mk hs
                clear hs
                rw [f4]
                go_wp2
                go_roundg (n2 - (i + 1))
                case measure => have := HII.out; have := HIL.out; omega
                case rel =>
                  have hw : wrap64 (ii + 1) = ii + 1 := by have := HII.out; have := HN2.out; have := HL.out; have := HIL.out; unfold wrap64; omega
                  refine ⟨i + 1, wrap64 (ii + 1), rfl, ⟨by have := HII.out; have := HIL.out; omega⟩, HTB, ⟨fun a ha => ?_⟩⟩
                  by_cases e : a = i
                  · subst e; have := HS.out; have := HSN.out; omega
                  · exact HST.out a (by omega)
            · have f3 : decide (ii < nn) = false := decide_eq_false (by have := HN2.out; have := HII.out; have := HNV.out; omega)
              have HCB : Aside0 (closeB n2 M0 = true) := ⟨closeB_true.2 ⟨hfok.out, fun a ha => by rw [HD0.out, HT0.out]; exact HST.out a (by have := HII.out; omega)⟩⟩
              clear hlt HII HST
              obtain ⟨ho0, ho1, ho2⟩ := HT.out.ob.cells
              obtain ⟨ht0, ht1⟩ := HT.out.tcells
              have CLN : Aside0 (∀ W, Below w.heap.size w W → Calls Try.prog 47 #[.slice A0 vars.length c0] W fun e w' => ∃ v0_ : Value, e = .returned (v0_) ∧ Kd.R (Kd.int .i64) 3 w' W.heap.size (fun _ => True) v0_ vars ∧ Below W.heap.size W w') := ⟨fun W hW => slices_Clone_int_int.calls A0 c0 vars vars W (Kd.C_below HR0.out hW) HC0.out (by have := HL.out; unfold slices_Clone_int_int.f; rw [if_pos (by omega)])⟩
              go_wp2
              obtain ⟨mc, mk1, mk2⟩ := make64 NN (by rw [← HNN.out]; have := HN2.out; have := HL.out; exact Nat.le_trans (Nat.mul_le_mul (show n2 ≤ 16 by omega) (show n2 ≤ 16 by omega)) (by omega))
              have HMK := Aside0.mk mk2
              clear mk2
              go_cut [9] (fun v9 wc => ∃ (bc : Nat) (Av Ac : Option Addr) (cv cc : Nat), v9 = .pointer (some ⟨bc, 0, none⟩) ∧ Aside0 (US w bo br bt bc #[.slice A0 vars.length c0, .slice A1 m.length c1, .bool false] #[.int .i64 nn, .slice Ad NN cd] (.slice Ad NN cd) (.slice Av vars.length cv) (.slice Ac NN cc) vars wc (lst n2 T0) (lst n2 (upTo (closeM n2 M0) 0 0))))
              case first =>
                have BD : Below wr.heap.size wr wr.drew := below_drew (Below.refl _ _)
                have BT : bt ≤ wr.heap.size := Nat.le_of_lt (blk_lt HT.out.t)
                have WS : w.heap.size ≤ wr.heap.size := HT.out.ob.below.size
                have BA : ∀ (W : World) (o : Obj), Below W.heap.size W (W.alloc o) := fun W o => below_alloc (Below.refl _ _) o
                have HZ : Aside0 (List.replicate NN (0 : Int) = lst n2 (upTo (closeM n2 M0) 0 0)) := ⟨by rw [← HNN.out]; exact lst_zero _ _⟩
                have bo1 := blk_lt HT.out.ob.o
                have br1 := blk_lt HT.out.ob.r
                have kb1 : bo ≠ wr.heap.size := Nat.ne_of_lt bo1
                have kb2 : bo ≠ wr.heap.size + 1 := by omega
                have kb3 : wr.heap.size ≠ bo := fun e => kb1 e.symm
                have kb4 : wr.heap.size + 1 ≠ bo := fun e => kb2 e.symm
                have HBB := Aside0.mk (And.intro BD (And.intro BT (And.intro WS (And.intro BA (And.intro bo1 br1)))))
                clear BD BT WS BA bo1 br1
                go_region_held3 (fun w' => w'.cell? ⟨bo, 0, none⟩ = some (.slice A0 vars.length c0)) (first | go_keep | exact KX)
                  (first
                   | (go_at_call 47; (with_reducible refine (CLN.out _ ?s1).mono ?_); (case s1 => first | exact (HT.out.next HBB.out.1).ob.below | exact ((HT.out.next HBB.out.1).next (HBB.out.2.2.2.1 _ _)).ob.below | exact (((HT.out.next HBB.out.1).next (HBB.out.2.2.2.1 _ _)).next (HBB.out.2.2.2.1 _ _)).ob.below); rintro e w1 ⟨v0, rfl, h0, hb⟩; obtain ⟨Av, cv, ev⟩ := Kd.R_slice h0; subst ev; have KX : w1.cell? ⟨bo, 0, none⟩ = some (.slice A0 vars.length c0) := (by first | exact ((HT.out.next HBB.out.1).next hb).ob.cells.1 | exact (((HT.out.next HBB.out.1).next (HBB.out.2.2.2.1 _ _)).next hb).ob.cells.1 | exact ((((HT.out.next HBB.out.1).next (HBB.out.2.2.2.1 _ _)).next (HBB.out.2.2.2.1 _ _)).next hb).ob.cells.1); have KN := World.new_ne _ _ KX; have H0 := Aside0.mk h0; have HB := Aside0.mk hb; clear h0; (first | (have hbx := blk_below (blk_new wr.drew (.cells #[.slice none 0 0, .slice none 0 0, .bool false] 25)) hb) | (have hbx := blk_below (blk_new (wr.drew.alloc (.cells mc 2)) (.cells #[.slice none 0 0, .slice none 0 0, .bool false] 25)) hb) | (have hbx := blk_below (blk_alloc (blk_new wr.drew (.cells #[.slice none 0 0, .slice none 0 0, .bool false] 25)) (.cells mc 2)) hb) | skip); (try (have hcx0 := blk_cell hbx 0; have hcx1 := blk_cell hbx 1; have hcx2 := blk_cell hbx 2; have hfx0 := blk_frozen hbx 0; have hfx1 := blk_frozen hbx 1; have hfx2 := blk_frozen hbx 2; have HBX := Aside0.mk hbx; have hcy0 := fun o => blk_cell (blk_alloc hbx o) 0; have hcy1 := fun o => blk_cell (blk_alloc hbx o) 1; have hcy2 := fun o => blk_cell (blk_alloc hbx o) 2; have hfy0 := fun o => blk_frozen (blk_alloc hbx o) 0; have hfy1 := fun o => blk_frozen (blk_alloc hbx o) 1; have hfy2 := fun o => blk_frozen (blk_alloc hbx o) 2; clear hbx; simp at hcx0 hcx1 hcx2 hfx0 hfx1 hfx2 hcy0 hcy1 hcy2 hfy0 hfy1 hfy2)); clear hb))
                all_goals go_wp2
                all_goals go_meet
                all_goals obtain ⟨BD, BT, WS, BA, bo1, br1⟩ := HBB.out
                all_goals try (case measure => exact 0)
                · have rc := HMK.out w1 bt (Nat.le_trans BT HB.out.size)
                  rw [HZ.out] at rc
                  have h := US.made (((HT.out.next BD).next HB.out).next (BA _ (.cells mc 2))) (Kd.R_alloc (Kd.R_lower H0.out WS) _) rc
                  rw [World.size_alloc] at h
                  exact ⟨_, _, _, _, _, rfl, ⟨h⟩⟩
                · exact ⟨_, _, _, _, _, rfl, ⟨⟨(((HT.out.next BD).next HB.out).next (BA _ _)).next (BA _ _), blk_alloc (blk_new _ _) _, Kd.R_alloc (Kd.R_alloc (Kd.R_lower H0.out WS) _) _, by rw [← HZ.out]; have := HMK.out (w1.alloc (.cells #[.slice Av vars.length cv, .slice (some ⟨w1.heap.size + 1, 0, none⟩) NN NN, .bool false] 25)) bt (by simp; have := Nat.le_trans BT HB.out.size; omega); simpa using this⟩⟩⟩
                · exact ⟨_, _, _, _, _, rfl, ⟨US.made (((HT.out.next BD).next (BA _ _)).next HB.out) (Kd.R_lower H0.out (Nat.le_trans WS (BA _ _).size)) (by rw [← HZ.out]; exact Kd.R_below (Kd.R_drew (HMK.out wr bt BT)) HB.out)⟩⟩
                · exact ⟨_, _, _, _, _, rfl, ⟨US.filled ((((HT.out.next BD).next (BA _ _)).next (BA _ _)).next HB.out) (Kd.R_lower H0.out (Nat.le_trans WS (Nat.le_trans (BA _ _).size (BA _ _).size))) (by rw [← HZ.out]; exact Kd.R_below (Kd.R_drew (Kd.R_alloc (HMK.out wr bt BT) _)) HB.out) (by simpa using HBX.out) (by omega) (by omega) (by omega)⟩⟩
                · exact ⟨_, _, _, _, _, rfl, ⟨US.filled ((((HT.out.next BD).next (BA _ _)).next HB.out).next (BA _ _)) (Kd.R_alloc (Kd.R_lower H0.out (Nat.le_trans WS (BA _ _).size)) _) (by rw [← HZ.out]; exact HMK.out _ _ (Nat.le_trans BT (Nat.le_trans (BA _ _).size HB.out.size))) (blk_alloc (by simpa using HBX.out) _) (by omega) (by omega) (by omega)⟩⟩
                · exact ⟨_, _, _, _, _, rfl, ⟨US.filled ((((HT.out.next BD).next (BA _ _)).next (BA _ _)).next HB.out) (Kd.R_lower H0.out (Nat.le_trans WS (Nat.le_trans (BA _ _).size (BA _ _).size))) (by rw [← HZ.out]; have := HMK.out (wr.alloc (.cells #[.slice none 0 0, .slice none 0 0, .bool false] 25)) bt (by simp; omega); exact Kd.R_below (Kd.R_drew (by simpa using this)) HB.out) (by simpa using HBX.out) (by omega) (by omega) (by omega)⟩⟩
              case rest =>
                clear HT HMK mk1 CLN ho0 ho1 ho2 ht0 ht1 BOT
                obtain ⟨bc, Av, Ac, cv, cc, rfl, HU⟩ := hcut
                obtain ⟨C0, hC0⟩ : ∃ C0, closeM n2 M0 = C0 := ⟨_, rfl⟩
                rw [hC0] at HU
                have HC := Aside0.mk hC0
                clear hC0
                obtain ⟨ht0, ht1⟩ := HU.out.ts.tcells
                go_wp2
                clear ht0 ht1
                go_loopg [94] n2 (fun gg s94 wr => ∃ (i : Nat) (ii : Int), s94 = .int .i64 ii ∧ Aside0 (ii = (i : Int) ∧ i ≤ n2 ∧ n2 - i ≤ gg) ∧ Aside0 (US w bo br bt bc #[.slice A0 vars.length c0, .slice A1 m.length c1, .bool false] #[.int .i64 nn, .slice Ad NN cd] (.slice Ad NN cd) (.slice Av vars.length cv) (.slice Ac NN cc) vars wr (lst n2 T0) (lst n2 (upTo C0 i 0))))
                case atStart => exact ⟨0, 0, rfl, ⟨rfl, Nat.zero_le _, by omega⟩, HU⟩
                case round =>
                  clear HU
                  obtain ⟨i, ii, rfl, HII, HU⟩ := hrel
                  by_cases hlt : i < n2
                  · have f3 : decide (ii < nn) = true := decide_eq_true (by have := HN2.out; have := HII.out; have := HNV.out; omega)
                    have HIL := Aside0.mk hlt
                    have hN0 : 0 < (lst n2 (upTo C0 i 0)).length := by rw [lst_length]; exact Nat.mul_pos (by omega) (by omega)
                    obtain ⟨g, cap, eg, hg1, hg2, cells, hg3⟩ := Kd.R_form HU.out.rc hN0
                    injection eg with e1 e2 e3
                    subst e1
                    have HP0 : Aside0 (∀ d, 0 < (lst n2 d).length) := ⟨fun d => by rw [lst_length]; exact Nat.mul_pos (by have := HIL.out; omega) (by have := HIL.out; omega)⟩
                    have n3 : bt ≠ g := typed_ne HU.out.ts.t hg3 (by decide)
                    have n4 : g ≠ bt := fun e => n3 e.symm
                    have n5 : bc ≠ g := typed_ne HU.out.c hg3 (by decide)
                    have n6 : g ≠ bc := fun e => n5 e.symm
                    clear hlt hN0 e2 e3 hg1 hg2 hg3 cells cap
                    obtain ⟨ht0, ht1⟩ := HU.out.ts.tcells
                    go_wp2
                    clear ht0 ht1
                    go_loopg [99] n2 (fun gg s99 wr => ∃ (j : Nat) (jj : Int), s99 = .int .i64 jj ∧ Aside0 (jj = (j : Int) ∧ j ≤ n2 ∧ n2 - j ≤ gg) ∧ Aside0 (US w bo br bt bc #[.slice A0 vars.length c0, .slice A1 m.length c1, .bool false] #[.int .i64 nn, .slice Ad NN cd] (.slice Ad NN cd) (.slice Av vars.length cv) (.slice (some ⟨g, 0, none⟩) NN cc) vars wr (lst n2 T0) (lst n2 (upTo C0 i j))))
                    case atStart => exact ⟨0, 0, rfl, ⟨rfl, Nat.zero_le _, by omega⟩, HU⟩
                    case round =>
                      clear HU
                      obtain ⟨j, jj, rfl, HJJ, HU⟩ := hrel
                      by_cases hlt : j < n2
                      · have f4 : decide (jj < nn) = true := decide_eq_true (by have := HN2.out; have := HJJ.out; have := HNV.out; omega)
                        have HJL := Aside0.mk hlt
                        obtain ⟨bi, hbi⟩ : ∃ b, nbar ii = b := ⟨_, rfl⟩
                        obtain ⟨bj, hbj⟩ : ∃ b, nbar jj = b := ⟨_, rfl⟩
                        have HBI : Aside0 (bi = ((nb i : Nat) : Int) ∧ nb i < n2) := ⟨by have h := HII.out.1; rw [h, nbar_nb] at hbi; have h2 := HIL.out; have h3 := HN2.out; rw [h3] at h2 ⊢; exact ⟨hbi.symm, nb_lt h2⟩⟩
                        have HBJ : Aside0 (bj = ((nb j : Nat) : Int) ∧ nb j < n2) := ⟨by have h := HJJ.out.1; rw [h, nbar_nb] at hbj; have h2 := HJL.out; have h3 := HN2.out; rw [h3] at h2 ⊢; exact ⟨hbj.symm, nb_lt h2⟩⟩
                        have BAR1 : Aside0 (∀ W, Calls Try.prog 52 #[.int .i64 ii] W fun e w' => e = .returned (.int .i64 bi) ∧ w' = W) := ⟨fun W => oct_bar_still ii bi W (by unfold oct_bar.f; rw [if_pos (by have := HII.out; have := HIL.out; have := HN2.out; have := HL.out; omega), hbi])⟩
                        have BAR2 : Aside0 (∀ W, Calls Try.prog 52 #[.int .i64 jj] W fun e w' => e = .returned (.int .i64 bj) ∧ w' = W) := ⟨fun W => oct_bar_still jj bj W (by unfold oct_bar.f; rw [if_pos (by have := HJJ.out; have := HJL.out; have := HN2.out; have := HL.out; omega), hbj])⟩
                        obtain ⟨x, hx⟩ : ∃ x, T0 i j = x := ⟨_, rfl⟩
                        obtain ⟨y, hy⟩ : ∃ y, T0 i (nb i) = y := ⟨_, rfl⟩
                        obtain ⟨z, hz⟩ : ∃ z, T0 (nb j) j = z := ⟨_, rfl⟩
                        obtain ⟨sm, hsm⟩ : ∃ sm, plus y z = sm := ⟨_, rfl⟩
                        obtain ⟨hf, hhf⟩ : ∃ hf, half sm = hf := ⟨_, rfl⟩
                        obtain ⟨cl, hcl⟩ : ∃ cl, clipV (mn x hf) = cl := ⟨_, rfl⟩
                        have ATT : Aside0 (∀ (a b : Nat) (aa bb : Int) (W : World), a < n2 → b < n2 → aa = (a : Int) → bb = (b : Int) → US w bo br bt bc #[.slice A0 vars.length c0, .slice A1 m.length c1, .bool false] #[.int .i64 nn, .slice Ad NN cd] (.slice Ad NN cd) (.slice Av vars.length cv) (.slice (some ⟨g, 0, none⟩) NN cc) vars W (lst n2 T0) (lst n2 (upTo C0 i j)) → Calls Try.prog 51 #[.agg #[.int .i64 nn, .slice Ad NN cd], .int .i64 aa, .int .i64 bb] W fun e w' => e = .returned (.int .i64 (T0 a b)) ∧ Below W.heap.size W w') := ⟨fun a b aa bb W ha hb haa hbb hW => by
                          have hl4 := HN2.out
                          have hrr := Kd.R_reads' hW.ts.row
                          have e1 : aa * (2 * (vars.length : Int)) + bb = ((a * n2 + b : Nat) : Int) := by rw [haa, hbb, hl4]; push_cast; rfl
                          have h := oct_full_at.calls (2 * (vars.length : Int)) Ad cd (lst n2 T0) aa bb (T0 a b) W hrr.2.2 (by rw [← hrr.1]; exact hrr.2.1) (by
                            rw [at_ok HL.out (by rw [lst_length, hl4]; push_cast; rfl) (by omega) (by omega) (by omega) (by omega), lst_rd ha hb e1])
                          rw [← hrr.1, HNV.out] at h
                          exact h⟩
                        have AT1 : Aside0 (∀ W, US w bo br bt bc #[.slice A0 vars.length c0, .slice A1 m.length c1, .bool false] #[.int .i64 nn, .slice Ad NN cd] (.slice Ad NN cd) (.slice Av vars.length cv) (.slice (some ⟨g, 0, none⟩) NN cc) vars W (lst n2 T0) (lst n2 (upTo C0 i j)) → Calls Try.prog 51 #[.agg #[.int .i64 nn, .slice Ad NN cd], .int .i64 ii, .int .i64 jj] W fun e w' => e = .returned (.int .i64 x) ∧ Below W.heap.size W w') := ⟨fun W hW => by rw [← hx]; exact ATT.out i j ii jj W HIL.out HJL.out HII.out.1 HJJ.out.1 hW⟩
                        have AT2 : Aside0 (∀ W, US w bo br bt bc #[.slice A0 vars.length c0, .slice A1 m.length c1, .bool false] #[.int .i64 nn, .slice Ad NN cd] (.slice Ad NN cd) (.slice Av vars.length cv) (.slice (some ⟨g, 0, none⟩) NN cc) vars W (lst n2 T0) (lst n2 (upTo C0 i j)) → Calls Try.prog 51 #[.agg #[.int .i64 nn, .slice Ad NN cd], .int .i64 ii, .int .i64 bi] W fun e w' => e = .returned (.int .i64 y) ∧ Below W.heap.size W w') := ⟨fun W hW => by rw [← hy]; exact ATT.out i (nb i) ii bi W HIL.out HBI.out.2 HII.out.1 HBI.out.1 hW⟩
                        have AT3 : Aside0 (∀ W, US w bo br bt bc #[.slice A0 vars.length c0, .slice A1 m.length c1, .bool false] #[.int .i64 nn, .slice Ad NN cd] (.slice Ad NN cd) (.slice Av vars.length cv) (.slice (some ⟨g, 0, none⟩) NN cc) vars W (lst n2 T0) (lst n2 (upTo C0 i j)) → Calls Try.prog 51 #[.agg #[.int .i64 nn, .slice Ad NN cd], .int .i64 bj, .int .i64 jj] W fun e w' => e = .returned (.int .i64 z) ∧ Below W.heap.size W w') := ⟨fun W hW => by rw [← hz]; exact ATT.out (nb j) j bj jj W HBJ.out.2 HJL.out HBJ.out.1 HJJ.out.1 hW⟩
                        have UP : Aside0 (∀ W, Calls Try.prog 57 #[.int .i64 y, .int .i64 z] W fun e w' => e = .returned (.int .i64 sm) ∧ Below W.heap.size W w') := ⟨fun W => bound_Up.calls y z sm W (by
                          rw [← hsm]; exact up_plus (B := 72057594037927938) (by decide) (by decide) (hy ▸ HTD.out i (nb i) HIL.out HBI.out.2) (hz ▸ HTD.out (nb j) j HBJ.out.2 HJL.out))⟩
                        have HALF : Aside0 (∀ W, Calls Try.prog 56 #[.int .i64 sm] W fun e w' => e = .returned (.int .i64 hf) ∧ Drawn0 W w') := ⟨fun W => bound_Half.calls sm hf W (by
                          rw [← hhf]; refine half_half ?_
                          have b1 := hy ▸ HTD.out i (nb i) HIL.out HBI.out.2; have b2 := hz ▸ HTD.out (nb j) j HBJ.out.2 HJL.out
                          rw [← hsm]; unfold Fin' plus at *; split <;> omega)⟩
                        obtain ⟨mv, hmv⟩ : ∃ mv, (if hf < x then hf else x) = mv := ⟨_, rfl⟩
                        have CLIP : Aside0 (∀ W, Calls Try.prog 58 #[.int .i64 mv] W fun e w' => e = .returned (.int .i64 cl) ∧ Below W.heap.size W w') := ⟨fun W => oct_clip.calls mv cl W (by rw [← hcl, ← hmv]; exact clip_clip _)⟩
                        have HS : Aside0 (C0 i j = cl) := ⟨by rw [← HC.out]; unfold closeM strg; rw [HD0.out, HT0.out, hx, hy, hz, hsm, hhf]; exact hcl⟩
                        obtain ⟨q1, hq1⟩ : ∃ q, IntKind.i64.wrap (ii * nn) = q := ⟨_, rfl⟩
                        obtain ⟨p, hp⟩ : ∃ q, IntKind.i64.wrap (q1 + jj) = q := ⟨_, rfl⟩
                        have HPP : Aside0 (p = ((i * n2 + j : Nat) : Int)) := ⟨by
                          have h2 := HII.out.1; have h3 := HJJ.out.1; have h4 := HNV.out; have h5 := HN2.out; have h6 := HL.out; have h7 := HIL.out; have h8 := HJL.out
                          have e1 : ii * nn = ((i * n2 : Nat) : Int) := by rw [h2, ← h4, h5]; push_cast; rfl
                          have m1 : i * n2 ≤ 16 * 16 := Nat.mul_le_mul (by omega) (by omega)
                          rw [e1, IntKind.wrap_i64] at hq1
                          rw [IntKind.wrap_i64] at hp
                          have r1 : q1 = ((i * n2 : Nat) : Int) := by omega
                          clear e1 hq1 hx hy hz hsm hhf hcl hbi hbj hmv
                          subst r1
                          omega⟩
                        have HPB : Aside0 (0 ≤ p ∧ p < (NN : Int)) := ⟨by have := ij_lt HIL.out HJL.out; rw [HNN.out] at this; have := HPP.out; omega⟩
                        have r10 := eq_true HPB.out.1
                        have r11 := eq_true HPB.out.2
                        obtain ⟨ht0, ht1⟩ := HU.out.ts.tcells
                        have hc1' := blk_cell HU.out.c 1
                        simp only [List.getElem?_toArray, List.getElem?_cons_succ, List.getElem?_cons_zero] at hc1'
                        clear hlt hbi hbj hx hy hz hsm hhf hcl ATT
                        go_wp2
                        go_region_held3 (fun w' => w'.cell? ⟨bt, 0, none⟩ = some (.int .i64 nn) ∧ w'.cell? ⟨bt, 1, none⟩ = some (.slice Ad NN cd) ∧ w'.cell? ⟨bc, 1, none⟩ = some (.slice (some ⟨g, 0, none⟩) NN cc)) (first | go_keep | exact ⟨KS.1, KS.2, KC⟩)
                          (first
                           | (go_at_call 52; (with_reducible refine (BAR1.out _).mono ?_); rintro e w' ⟨rfl, rfl⟩)
                           | (go_at_call 52; (with_reducible refine (BAR2.out _).mono ?_); rintro e w' ⟨rfl, rfl⟩)
                           | (go_at_call 51; (with_reducible refine (AT1.out _ (US.next HU.out (below_drew (Below.refl _ _)))).mono ?_); rintro e w1 ⟨rfl, hb⟩; have HU1 := Aside0.mk (US.next (US.next HU.out (below_drew (Below.refl _ _))) hb); have KS := HU1.out.ts.tcells; have KC : w1.cell? ⟨bc, 1, none⟩ = some (.slice (some ⟨g, 0, none⟩) NN cc) := (blk_cell HU1.out.c 1).trans rfl; clear hb AT1 HU)
                           | (go_at_call 51; (with_reducible refine (AT2.out _ HU1.out).mono ?_); rintro e w2 ⟨rfl, hb⟩; have HU2 := Aside0.mk (US.next HU1.out hb); clear KS KC; have KS := HU2.out.ts.tcells; have KC : w2.cell? ⟨bc, 1, none⟩ = some (.slice (some ⟨g, 0, none⟩) NN cc) := (blk_cell HU2.out.c 1).trans rfl; clear hb AT2 HU1)
                           | (go_at_call 51; (with_reducible refine (AT3.out _ HU2.out).mono ?_); rintro e w3 ⟨rfl, hb⟩; have HU3 := Aside0.mk (US.next HU2.out hb); clear KS KC; have KS := HU3.out.ts.tcells; have KC : w3.cell? ⟨bc, 1, none⟩ = some (.slice (some ⟨g, 0, none⟩) NN cc) := (blk_cell HU3.out.c 1).trans rfl; clear hb AT3 HU2)
                           | (go_at_call 57; (with_reducible refine (UP.out _).mono ?_); rintro e w4 ⟨rfl, hb⟩; have HU4 := Aside0.mk (US.next HU3.out hb); clear KS KC; have KS := HU4.out.ts.tcells; have KC : w4.cell? ⟨bc, 1, none⟩ = some (.slice (some ⟨g, 0, none⟩) NN cc) := (blk_cell HU4.out.c 1).trans rfl; clear hb UP HU3)
                           | (go_at_call 56; (with_reducible refine (HALF.out _).mono ?_); rintro e w5 ⟨rfl, hb⟩; have HU5 := Aside0.mk (US.next HU4.out hb.below); clear KS KC; have KS := HU5.out.ts.tcells; have KC : w5.cell? ⟨bc, 1, none⟩ = some (.slice (some ⟨g, 0, none⟩) NN cc) := (blk_cell HU5.out.c 1).trans rfl; clear hb HALF HU4)
                           | (go_at_call 58; (with_reducible refine (CLIP.out _).mono ?_); rintro e w6 ⟨rfl, hb⟩; have HU6 := Aside0.mk (US.next HU5.out hb); clear KS KC; have KS := HU6.out.ts.tcells; have KC : w6.cell? ⟨bc, 1, none⟩ = some (.slice (some ⟨g, 0, none⟩) NN cc) := (blk_cell HU6.out.c 1).trans rfl; obtain ⟨hz1, hz2⟩ := Kd.R_celln 0 HU6.out.rc p HPB.out.1 HPB.out.2; clear hb CLIP HU5))
                        go_wp2
                        go_roundg (n2 - (j + 1))
                        case measure => have := HJJ.out; have := HJL.out; omega
                        case rel =>
                          have hw : wrap64 (jj + 1) = jj + 1 := by have := HJJ.out; have := HN2.out; have := HL.out; have := HJL.out; unfold wrap64; omega
                          refine ⟨j + 1, wrap64 (jj + 1), rfl, ⟨by have := HJJ.out; have := HJL.out; omega⟩, ⟨?_⟩⟩
                          have h1 := US.put HU6.out (HP0.out _) p cl
                          rw [lst_set HIL.out HJL.out HPP.out, ← HS.out, lst_congr (fun a b _ _ => (upTo_step a b).symm)] at h1
                          rw [HS.out] at h1
                          exact h1
                      · have f4 : decide (jj < nn) = false := decide_eq_false (by have := HN2.out; have := HJJ.out; have := HNV.out; omega)
                        have ej : j = n2 := by have := HJJ.out; omega
                        have HEJ := Aside0.mk ej
                        clear hlt ej
                        go_wp2
                        go_roundg (n2 - (i + 1))
                        case measure => have := HII.out; have := HIL.out; omega
                        case rel =>
                          have hw : wrap64 (ii + 1) = ii + 1 := by have := HII.out; have := HN2.out; have := HL.out; have := HIL.out; unfold wrap64; omega
                          refine ⟨i + 1, wrap64 (ii + 1), rfl, ⟨by have := HII.out; have := HIL.out; omega⟩, ⟨?_⟩⟩
                          have h1 := HU.out
                          rw [HEJ.out, lst_congr (fun a b _ hb => upTo_row a b hb)] at h1
                          exact h1
                  · have f3 : decide (ii < nn) = false := decide_eq_false (by have := HN2.out; have := HII.out; have := HNV.out; omega)
                    have ei : i = n2 := by have := HII.out; omega
                    have HEI := Aside0.mk ei
                    clear hlt ei
                    have hc0' := blk_cell HU.out.c 0
                    have hc1' := blk_cell HU.out.c 1
                    have hc2' := blk_cell HU.out.c 2
                    simp only [List.getElem?_toArray, List.getElem?_cons_succ, List.getElem?_cons_zero] at hc0' hc1' hc2'
                    obtain ⟨⟨hr0, hr1, hr2⟩, hr3, hr4, hr5⟩ := HU.out.ts.ob.res
                    go_wp2
                    refine bodyPost_ret (results_cell_row rfl _ _ br 25 #[.slice Av vars.length cv, .slice Ac NN cc, .bool false] (0, 0) _ rfl (store3 HU.out.ts.ob.r _ _ _).1 Try.underlying25 rfl (by kernel_rfl)) rfl ?_
                    have hcl : closeL n2 M0 = lst n2 C0 := by unfold closeL; rw [if_pos HCB.out, HC.out]
                    rw [HCB.out, hcl]
                    have h1 := HU.out.rc
                    rw [HEI.out, lst_congr (fun a b ha _ => upTo_all a b ha)] at h1
                    exact ⟨_, _, rfl, OB.answer HU.out.ts.ob (Nat.le_refl _) HU.out.rv (Kd.R_lower h1 HU.out.ts.tb) _⟩
end Go.Proofs.Ytomgebmimgaojaa.QO
