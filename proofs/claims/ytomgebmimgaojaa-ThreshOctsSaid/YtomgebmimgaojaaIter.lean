/- The iterator over two tables, walked once for every loop body. -/
import Derived.RangeFuncNested
import Derived.RangeFuncBound
import Derived.RangeFuncCalls
import Derived.RangeFuncLeaves
import Derived.RangeFuncBox
import Derived.Shelf.Abstract
import Derived.Shelf.RegionOpen
import Derived.WalkKit
import Derived.OwnWalkIn
import Derived.TacticsInMore
import Derived.LoopNIn
import Derived.LoopIn
import Derived.Stop.RegionWithIn
import Derived.Test.YtomgebmimgaojaaQOx1055
import Derived.Test.YtomgebmimgaojaaQOx1057
noncomputable section
namespace Go.Proofs.Ytomgebmimgaojaa.QO
open Go.RowKit Go.Shelf Go.Proofs.YtomgebmimgaojaaW.PrintWords Go.Proofs.YtomgebmimgaojaaW.PrintLast Go.Proofs.YtomgebmimgaojaaW.PrintMore
attribute [local go_sem] Oper.semAt_some
set_option linter.unusedVariables false
set_option linter.unusedSimpArgs false

/-- what an iterator's invariant abides: new blocks -/
theorem abides_below {β : Type} {B : Nat} {J : β → World → Prop} (hJ : AbidesFrom B J) {s : β} {W W' : World} (h : J s W) (hb : Below W.heap.size W W') : J s W' :=
  hJ s W W' none h ⟨hb.os, hb.tape, hb.output, hb.size, fun k hk _ => hb.block k hk⟩ (fun r e => by cases e)

/-- what lay ahead of the caller, and the two boxes, lie as they lay -/
structure KeepBoxes (n₀ B1 B2 : Nat) (W W' : World) : Prop where
  below : Below n₀ W W'
  box1 : W'.heap[B1]? = W.heap[B1]?
  box2 : W'.heap[B2]? = W.heap[B2]?
theorem KeepBoxes.trans {n₀ B1 B2 : Nat} {A B C : World} (h : KeepBoxes n₀ B1 B2 A B) (k : KeepBoxes n₀ B1 B2 B C) : KeepBoxes n₀ B1 B2 A C :=
  ⟨h.below.trans k.below, k.box1.trans h.box1, k.box2.trans h.box2⟩
theorem KeepBoxes.refl (n₀ B1 B2 : Nat) (A : World) : KeepBoxes n₀ B1 B2 A A := ⟨Below.refl _ _, rfl, rfl⟩
theorem keepBoxes_b {n₀ B1 B2 : Nat} {w : World} (hn : n₀ ≤ w.heap.size) (h1 : B1 < w.heap.size) (h2 : B2 < w.heap.size) (W : World) (l : Nat) (o o' : Obj) (hl : w.heap.size ≤ l) (h : W.heap[l]? = some o) (hc : o.isCells = false) (hw : o.isWalk = false) :
    KeepBoxes n₀ B1 B2 W (W.putObj l o') :=
  ⟨belowK_b hn W l o o' hl h hc hw, World.putObj_heap_other (by omega), World.putObj_heap_other (by omega)⟩

/-- one box with a table -/
def TBox (W : World) (B : Nat) (n : Int) (A : Option Addr) (len cap : Nat) : Prop := W.heap[B]? = some (.cells #[tableV n A len cap] 64 (0, 0))
theorem TBox.cell {W : World} {B : Nat} {n : Int} {A : Option Addr} {len cap : Nat} (h : TBox W B n A len cap) : W.cell? ⟨B, 0, none⟩ = some (.iface 85 (.agg #[.int .i64 n, .slice A len cap])) := by
  unfold TBox at h; simp [World.cell?, h, tableV]

set_option maxHeartbeats 8000000 in
set_option maxRecDepth 100000 in
theorem oct_both_in (n1 n2 : Int) (A1 A2 : Option Addr) (l1 c1 l2 c2 : Nat) (w : World) :
    CallsIn Fence.wide 5 Try.prog 73 #[tableV n1 A1 l1 c1, tableV n2 A2 l2 c2] w fun e w' => e = .returned (.func (.func 91) #[] #[.pointer (some ⟨w.heap.size, 0, none⟩), .pointer (some ⟨w.heap.size + 1, 0, none⟩)]) ∧
      w' = (w.alloc (.cells #[tableV n1 A1 l1 c1] 64)).alloc (.cells #[tableV n2 A2 l2 c2] 64) := by
  unfold tableV
  refine callsIn_of_wp Try.func73 rfl trivial ?_ rfl
  simp only [Try.ntmps73, List.size_toArray, List.length_cons, List.length_nil, Nat.reduceAdd, Nat.reduceSub, Array.replicate_succ, Array.replicate_zero, List.push_toArray, List.append_toArray, List.nil_append, List.cons_append]
  gi_wp2
  go_ret
  exact ⟨rfl, rfl⟩

/-- the rounds' pairs -/
def pairAt (n2 : Nat) (m1 m2 : List Int) (k : Nat) : Int × Int × Int := ((k : Int), lowAt (n2 : Int) m1 ((k / n2 : Nat) : Int) ((k % n2 : Nat) : Int), lowAt (n2 : Int) m2 ((k / n2 : Nat) : Int) ((k % n2 : Nat) : Int))
theorem pairAt_ij {n2 i j : Nat} {m1 m2 : List Int} (hj : j < n2) : pairAt n2 m1 m2 (i * n2 + j) = (((i * n2 + j : Nat) : Int), lowAt (n2 : Int) m1 (i : Int) (j : Int), lowAt (n2 : Int) m2 (i : Int) (j : Int)) := by
  have h1 : (i * n2 + j) / n2 = i := by rw [Nat.mul_comm, Nat.mul_add_div (by omega), Nat.div_eq_of_lt hj, Nat.add_zero]
  have h2 : (i * n2 + j) % n2 = j := by rw [Nat.mul_comm, Nat.mul_add_mod, Nat.mod_eq_of_lt hj]
  unfold pairAt; rw [h1, h2]

/-- what the iterator knows of a world -/
structure BP (w0 : World) (n₀ B1 B2 : Nat) (n : Int) (A1 : Option Addr) (l1 c1 : Nat) (A2 : Option Addr) (l2 c2 : Nat) (W : World) : Prop where
  below : Below n₀ w0 W
  box1 : TBox W B1 n A1 l1 c1
  box2 : TBox W B2 n A2 l2 c2
theorem BP.next {w0 : World} {n₀ B1 B2 : Nat} {n : Int} {A1 : Option Addr} {l1 c1 : Nat} {A2 : Option Addr} {l2 c2 : Nat} {W W' : World} (h : BP w0 n₀ B1 B2 n A1 l1 c1 A2 l2 c2 W) (hn : n₀ ≤ W.heap.size) (hb : Below W.heap.size W W') : BP w0 n₀ B1 B2 n A1 l1 c1 A2 l2 c2 W' :=
  ⟨h.below.trans (hb.mono hn), (hb.block _ (Array.getElem?_eq_some_iff.1 h.box1).1).trans h.box1, (hb.block _ (Array.getElem?_eq_some_iff.1 h.box2).1).trans h.box2⟩
theorem BP.keep {w0 : World} {n₀ B1 B2 : Nat} {n : Int} {A1 : Option Addr} {l1 c1 : Nat} {A2 : Option Addr} {l2 c2 : Nat} {W W' : World} (h : BP w0 n₀ B1 B2 n A1 l1 c1 A2 l2 c2 W) (hb : KeepBoxes n₀ B1 B2 W W') : BP w0 n₀ B1 B2 n A1 l1 c1 A2 l2 c2 W' :=
  ⟨h.below.trans hb.below, hb.box1.trans h.box1, hb.box2.trans h.box2⟩

set_option maxHeartbeats 16000000 in
set_option maxRecDepth 100000 in
/-- **the iterator's own function, for every loop body that keeps what lay ahead and the two boxes** -/
theorem oct_both1_in (l B1 B2 : Nat) (A1 A2 : Option Addr) (c1 c2 : Nat) (m1 m2 : List Int) (nv n2 : Nat) (w0 : World) (hn : nv ≤ 8) (hn2 : n2 = 2 * nv) (hm1 : (m1.length : Int) = (2 * (nv : Int)) * (2 * (nv : Int))) (hm2 : (m2.length : Int) = (2 * (nv : Int)) * (2 * (nv : Int)))
    (hc1 : m1.length ≤ c1) (hc2 : m2.length ≤ c2) (hr1 : Kd.C (Kd.int .i64) w0 A1 m1.length m1) (hr2 : Kd.C (Kd.int .i64) w0 A2 m2.length m2)
    (J Jx : Nat → World → Prop) (W : World) (hJ : AbidesFrom W.heap.size J) (hJx : AbidesFrom W.heap.size Jx)
    (hY : ∀ k W1, J k W1 → k < n2 * n2 → YieldAt Fence.wide 4 Try.prog l #[.int .i64 (pairAt n2 m1 m2 k).1, .agg #[.int .i64 (pairAt n2 m1 m2 k).2.1, .int .i64 (pairAt n2 m1 m2 k).2.2]] W1 fun e W' =>
      (e = .returned (.bool true) ∧ J (k + 1) W' ∧ KeepBoxes w0.heap.size B1 B2 W1 W') ∨ (e = .returned (.bool false) ∧ Jx (k + 1) W'))
    (hB : BP w0 w0.heap.size B1 B2 (2 * (nv : Int)) A1 m1.length c1 A2 m2.length c2 W) (h0 : J 0 W) :
    CallsIn Fence.wide 5 Try.prog 91 #[.func (.yield l) #[] #[], .pointer (some ⟨B1, 0, none⟩), .pointer (some ⟨B2, 0, none⟩)] W fun e W' => (∃ v, e = .returned v) ∧
      (J (n2 * n2) W' ∨ (∃ k, k ≤ n2 * n2 ∧ Jx k W')) := by
  have hms := meth_size
  have hma := meth_at
  have AT1 := Aside0.mk (fun (W : World) (i j : Int) (hW : Below w0.heap.size w0 W) (h0 : 0 ≤ i) (h1 : i < 2 * (nv : Int)) (h2 : 0 ≤ j) (h3 : j < 2 * (nv : Int)) => oct_lower_at_any nv A1 c1 m1 i j W (Kd.C_below hr1 hW) hc1 hn hm1 h0 h1 h2 h3)
  have AT2 := Aside0.mk (fun (W : World) (i j : Int) (hW : Below w0.heap.size w0 W) (h0 : 0 ≤ i) (h1 : i < 2 * (nv : Int)) (h2 : 0 ≤ j) (h3 : j < 2 * (nv : Int)) => oct_lower_at_any nv A2 c2 m2 i j W (Kd.C_below hr2 hW) hc2 hn hm2 h0 h1 h2 h3)
  have HJ := Aside0.mk hJ
  have HY := Aside0.mk hY
  have HB := Aside0.mk hB
  have H0 := Aside0.mk h0
  have HN := Aside0.mk (And.intro hn hn2)
  clear hr1 hr2 hJ hJx hY h0 hc1 hc2 hn hn2 hm1 hm2
  have hb1 := HB.out.box1.cell
  clear hB
  refine callsIn_of_wp Try.func91 rfl trivial ?_ rfl
  simp only [Try.ntmps91, List.size_toArray, List.length_cons, List.length_nil, Nat.reduceAdd, Nat.reduceSub, Array.replicate_succ, Array.replicate_zero, List.push_toArray, List.append_toArray, List.nil_append, List.cons_append]
  gi_wp2_with (refine ⟨trivial, ?_⟩; gi_at_call 110; (with_reducible refine (callsIn_wide.2 (oct_size_any _ _ _ _ _)).mono ?_); rintro e w1 ⟨rfl, hb⟩; have HB2 : Aside0 (BP w0 w0.heap.size B1 B2 (2 * (nv : Int)) A1 m1.length c1 A2 m2.length c2 w1) := ⟨BP.next HB.out HB.out.below.size hb⟩; have HJ2 : Aside0 (J 0 w1) := ⟨abides_below HJ.out H0.out hb⟩; clear HB H0 hb hb1)
  gi_loopw [10] (fun i wr => ∃ k : Nat, i = .int .i64 (k : Int) ∧ Aside0 (k ≤ n2) ∧ Aside0 (J ((k * n2)) wr) ∧ Aside0 (BP w0 w0.heap.size B1 B2 (2 * (nv : Int)) A1 m1.length c1 A2 m2.length c2 wr))
    (fun i _ => n2 - (intOf i).toNat)
  case atStart => exact ⟨0, rfl, ⟨Nat.zero_le _⟩, ⟨by rw [Nat.zero_mul]; exact HJ2.out⟩, HB2⟩
  case round =>
    clear HJ2 HB2
    obtain ⟨k, rfl, HK, HJ3, HB3⟩ := hrel
    by_cases hlt : k < n2
    · have f3 : decide ((k : Int) < 2 * (nv : Int)) = true := decide_eq_true (by have := HN.out.2; omega)
      have HKL := Aside0.mk hlt
      clear hlt
      gi_wp2
      gi_loopw [14] (fun i wr => ∃ j : Nat, i = .int .i64 (j : Int) ∧ Aside0 (j ≤ n2) ∧ Aside0 (J ((k * n2 + j)) wr) ∧ Aside0 (BP w0 w0.heap.size B1 B2 (2 * (nv : Int)) A1 m1.length c1 A2 m2.length c2 wr))
        (fun i _ => n2 - (intOf i).toNat)
      case atStart => exact ⟨0, rfl, ⟨Nat.zero_le _⟩, ⟨HJ3.out⟩, HB3⟩
      case round =>
        clear HJ3 HB3
        obtain ⟨j, rfl, HJJ, HJ4, HB4⟩ := hrel
        by_cases hlt : j < n2
        · have f4 : decide ((j : Int) < 2 * (nv : Int)) = true := decide_eq_true (by have := HN.out.2; omega)
          have HJL := Aside0.mk hlt
          clear hlt
          have HX : Aside0 (pairAt n2 m1 m2 (k * n2 + j) = (((k * n2 + j : Nat) : Int), lowAt (2 * (nv : Int)) m1 (k : Int) (j : Int), lowAt (2 * (nv : Int)) m2 (k : Int) (j : Int))) := ⟨by
            have e : ((n2 : Nat) : Int) = 2 * (nv : Int) := by have := HN.out.2; omega
            rw [pairAt_ij HJL.out, e]⟩
          obtain ⟨p, hp⟩ : ∃ p, IntKind.i64.wrap ((k : Int) * (2 * (nv : Int))) = p := ⟨_, rfl⟩
          obtain ⟨q, hq⟩ : ∃ q, IntKind.i64.wrap (p + (j : Int)) = q := ⟨_, rfl⟩
          have HQ : Aside0 (q = ((k * n2 + j : Nat) : Int)) := ⟨by
            have h1 := HN.out.1; have h2 := HN.out.2; have h3 := HKL.out; have h4 := HJL.out
            have h5 : k * n2 ≤ 15 * 16 := Nat.mul_le_mul (by omega) (by omega)
            have h6 : (k : Int) * (2 * (nv : Int)) = ((k * n2 : Nat) : Int) := by rw [h2]; push_cast; rfl
            rw [h6, IntKind.wrap_i64] at hp
            have h7 : p = ((k * n2 : Nat) : Int) := by rw [← hp]; omega
            rw [h7, IntKind.wrap_i64] at hq; rw [← hq]; omega⟩
          have IJ : Aside0 (0 ≤ (k : Int) ∧ (k : Int) < 2 * (nv : Int) ∧ 0 ≤ (j : Int) ∧ (j : Int) < 2 * (nv : Int)) := ⟨by have h2 := HN.out.2; have h3 := HKL.out; have h4 := HJL.out; omega⟩
          have HYX : Aside0 (∀ W1, J ((k * n2 + j)) W1 → YieldAt Fence.wide 4 Try.prog l #[.int .i64 q, .agg #[.int .i64 (lowAt (2 * (nv : Int)) m1 (k : Int) (j : Int)), .int .i64 (lowAt (2 * (nv : Int)) m2 (k : Int) (j : Int))]] W1 fun e W' =>
              ∃ b, e = .returned (.bool b) ∧ ((b = true ∧ J ((k * n2 + (j + 1))) W' ∧ KeepBoxes w0.heap.size B1 B2 W1 W') ∨ (b = false ∧ Jx ((k * n2 + (j + 1))) W'))) := ⟨fun W1 h => by
            have hlen : k * n2 + j < n2 * n2 := by
              have h3 := HKL.out; have h4 := HJL.out
              have : (k + 1) * n2 ≤ n2 * n2 := Nat.mul_le_mul_right _ h3
              rw [Nat.add_mul, Nat.one_mul] at this; omega
            have := HY.out _ W1 h hlen
            rw [HX.out, ← HQ.out] at this
            obtain ⟨fn, tmps, assign, body, hy, hR⟩ := this
            refine ⟨fn, tmps, assign, body, hy, hR.mono ?_⟩
            rintro e W' (⟨rfl, h1, h2⟩ | ⟨rfl, h1⟩)
            · exact ⟨true, rfl, .inl ⟨rfl, h1, h2⟩⟩
            · exact ⟨false, rfl, .inr ⟨rfl, h1⟩⟩⟩
          obtain ⟨y1, hy1⟩ : ∃ y, lowAt (2 * (nv : Int)) m1 (k : Int) (j : Int) = y := ⟨_, rfl⟩
          obtain ⟨y2, hy2⟩ : ∃ y, lowAt (2 * (nv : Int)) m2 (k : Int) (j : Int) = y := ⟨_, rfl⟩
          have C1 : Aside0 (∀ W, Below w0.heap.size w0 W → Calls Try.prog 111 #[.agg #[.int .i64 (2 * (nv : Int)), .slice A1 m1.length c1], .int .i64 (k : Int), .int .i64 (j : Int)] W fun e w' => e = .returned (.int .i64 y1) ∧ Below W.heap.size W w') := ⟨fun W hW => by rw [← hy1]; exact AT1.out W k j hW IJ.out.1 IJ.out.2.1 IJ.out.2.2.1 IJ.out.2.2.2⟩
          have C2 : Aside0 (∀ W, Below w0.heap.size w0 W → Calls Try.prog 111 #[.agg #[.int .i64 (2 * (nv : Int)), .slice A2 m2.length c2], .int .i64 (k : Int), .int .i64 (j : Int)] W fun e w' => e = .returned (.int .i64 y2) ∧ Below W.heap.size W w') := ⟨fun W hW => by rw [← hy2]; exact AT2.out W k j hW IJ.out.1 IJ.out.2.1 IJ.out.2.2.1 IJ.out.2.2.2⟩
          rw [hy1, hy2] at HYX
          have HBd : Aside0 (BP w0 w0.heap.size B1 B2 (2 * (nv : Int)) A1 m1.length c1 A2 m2.length c2 wr.drew) := ⟨BP.next HB4.out HB4.out.below.size (below_drew (Below.refl _ _))⟩
          have HJd : Aside0 (J ((k * n2 + j)) wr.drew) := ⟨abides_below HJ.out HJ4.out (below_drew (Below.refl _ _))⟩
          have hb1 := HB4.out.box1.cell
          have hb2 := HB4.out.box2.cell
          clear AT1 AT2 HX hy1 hy2 HY
          gi_wp2
          gi_region_with (first
            | (refine ⟨trivial, ?_⟩; gi_at_call 111; (with_reducible refine (callsIn_wide.2 (C1.out _ ?s1)).mono ?_); (case s1 => exact HBd.out.below); rintro e w1 ⟨rfl, hb⟩; have HB5 : Aside0 (BP w0 w0.heap.size B1 B2 (2 * (nv : Int)) A1 m1.length c1 A2 m2.length c2 w1) := ⟨BP.next HBd.out HBd.out.below.size hb⟩; have HJ5 : Aside0 (J ((k * n2 + j)) w1) := ⟨abides_below HJ.out HJd.out hb⟩; have hb4 := HB5.out.box2.cell; clear C1 hb HBd HJd)
            | (refine ⟨trivial, ?_⟩; gi_at_call 111; (with_reducible refine (callsIn_wide.2 (C2.out _ ?s1)).mono ?_); (case s1 => exact HB5.out.below); rintro e w2 ⟨rfl, hb⟩; have HB6 : Aside0 (BP w0 w0.heap.size B1 B2 (2 * (nv : Int)) A1 m1.length c1 A2 m2.length c2 w2) := ⟨BP.next HB5.out HB5.out.below.size hb⟩; have HJ6 : Aside0 (J ((k * n2 + j)) w2) := ⟨abides_below HJ.out HJ5.out hb⟩; obtain ⟨fn, tmps, assign, body, hy, hR⟩ := HYX.out w2 HJ6.out; clear C2 hb HB5 HJ5 hb4)
            | (refine hR.mono ?_; rintro e W3 ⟨b, rfl, h3⟩; have H3 := Aside0.mk h3; clear h3 hR hy))
          all_goals (
            obtain ⟨rfl, h1, h2⟩ | ⟨rfl, h1⟩ := H3.out
            · have H1 := Aside0.mk h1
              have HB7 : Aside0 (BP w0 w0.heap.size B1 B2 (2 * (nv : Int)) A1 m1.length c1 A2 m2.length c2 W3) := ⟨BP.keep HB6.out h2⟩
              clear h1 h2 H3 HB6 HJ6 HYX
              gi_wp2
              go_roundw
              case rel =>
                have h3 := HJL.out; have h4 := HN.out
                have hw : wrap64 ((j : Int) + 1) = ((j + 1 : Nat) : Int) := by unfold wrap64; omega
                exact ⟨j + 1, by rw [hw], ⟨h3⟩, H1, HB7⟩
              case measure =>
                have h3 := HJL.out; have h4 := HN.out
                have hw : wrap64 ((j : Int) + 1) = ((j + 1 : Nat) : Int) := by unfold wrap64; omega
                rw [hw]; simp only [intOf]; omega
            · have H1 := Aside0.mk h1
              clear h1 H3 HB6 HJ6 HYX
              gi_wp2
              refine bodyPost_ret (results_none rfl _ _ _) rfl ?_
              refine ⟨⟨_, rfl⟩, .inr ⟨k * n2 + (j + 1), ?_, H1.out⟩⟩
              have h3 := HKL.out; have h4 := HJL.out
              have : (k + 1) * n2 ≤ n2 * n2 := Nat.mul_le_mul_right _ h3
              rw [Nat.add_mul, Nat.one_mul] at this; omega)
        · have f4 : decide ((j : Int) < 2 * (nv : Int)) = false := decide_eq_false (by have := HN.out.2; omega)
          have ej : j = n2 := by have := HJJ.out; omega
          have HEJ := Aside0.mk ej
          clear hlt ej
          gi_wp2
          have h3 := HKL.out; have h4 := HN.out
          have hw : wrap64 ((k : Int) + 1) = ((k + 1 : Nat) : Int) := by unfold wrap64; omega
          have hj := HJ4.out
          rw [HEJ.out] at hj
          have e : (k + 1) * n2 = k * n2 + n2 := by rw [Nat.add_mul, Nat.one_mul]
          refine ⟨⟨k + 1, by rw [hw], ⟨h3⟩, ⟨by rw [e]; exact hj⟩, HB4⟩, ?_⟩
          rw [hw]; simp only [intOf]; omega
    · have f3 : decide ((k : Int) < 2 * (nv : Int)) = false := decide_eq_false (by have := HN.out.2; omega)
      have ej : k = n2 := by have := HK.out; omega
      have HEJ := Aside0.mk ej
      clear hlt ej
      gi_wp2
      go_end0
      exact ⟨⟨_, rfl⟩, .inl (by have := HJ3.out; rw [HEJ.out] at this; exact this)⟩

theorem finRange_take_succ {N k : Nat} (h : k < N) : (List.finRange N).take (k + 1) = (List.finRange N).take k ++ [⟨k, h⟩] := by
  rw [List.take_succ_eq_append_getElem (by simpa using h), List.getElem_finRange]; rfl
/-- **the value that ranges over two tables in step, as a contract of its own** -/
theorem oct_both_stops (B1 B2 : Nat) (A1 A2 : Option Addr) (c1 c2 : Nat) (m1 m2 : List Int) (nv n2 : Nat) (w0 w1 : World) (hn : nv ≤ 8) (hn2 : n2 = 2 * nv) (hm1 : (m1.length : Int) = (2 * (nv : Int)) * (2 * (nv : Int))) (hm2 : (m2.length : Int) = (2 * (nv : Int)) * (2 * (nv : Int)))
    (hc1 : m1.length ≤ c1) (hc2 : m2.length ≤ c2) (hr1 : Kd.C (Kd.int .i64) w0 A1 m1.length m1) (hr2 : Kd.C (Kd.int .i64) w0 A2 m2.length m2)
    (hB : BP w0 w0.heap.size B1 B2 (2 * (nv : Int)) A1 m1.length c1 A2 m2.length c2 w1) :
    SeqStopsK Fence.wide 5 Try.prog 91 #[.pointer (some ⟨B1, 0, none⟩), .pointer (some ⟨B2, 0, none⟩)] (fun x : Fin (n2 * n2) => #[.int .i64 (pairAt n2 m1 m2 x.1).1, .agg #[.int .i64 (pairAt n2 m1 m2 x.1).2.1, .int .i64 (pairAt n2 m1 m2 x.1).2.2]])
      (KeepBoxes w0.heap.size B1 B2) (fun ys => ys = List.finRange (n2 * n2)) (fun pre => ∃ k, k ≤ n2 * n2 ∧ pre = (List.finRange (n2 * n2)).take k) (n2 * n2) w1 := fun l J Jx W hW hJ hJx hY h0 => by
  have hB' := hB.next hB.below.size hW
  refine (oct_both1_in l B1 B2 A1 A2 c1 c2 m1 m2 nv n2 w0 hn hn2 hm1 hm2 hc1 hc2 hr1 hr2 (fun k W => J ((List.finRange (n2 * n2)).take k) W) (fun k W => Jx ((List.finRange (n2 * n2)).take k) W) W (fun s => hJ _) (fun s => hJx _) ?_ hB' (by simpa using h0)).mono ?_
  · intro k W1 hk hlt
    have := hY ((List.finRange (n2 * n2)).take k) ⟨k, hlt⟩ W1 hk (by simp; omega)
    rw [← finRange_take_succ] at this
    exact this
  · rintro e W' ⟨he, h | ⟨k, hk, h⟩⟩
    · exact ⟨he, .inl ⟨_, rfl, by rw [List.take_of_length_le (by simp)] at h; exact h⟩⟩
    · exact ⟨he, .inr ⟨_, ⟨k, hk, rfl⟩, h⟩⟩
end Go.Proofs.Ytomgebmimgaojaa.QO
