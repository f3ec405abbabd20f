/- Written by a program of this session out of the translation. -/
import Derived.Test.YtomgebmimgaojaaQOx0
noncomputable section
namespace Go.Proofs.Ytomgebmimgaojaa.QO
open Go.RowKit Go.Proofs.YtomgebmimgaojaaW.PrintWords Go.Proofs.YtomgebmimgaojaaW.PrintLast
set_option linter.unusedVariables false
set_option linter.unusedSimpArgs false

/-! ### thresh_find_int64: function 86 -/
/-- the place of the first that will do; the length: none -/
def firstAt (p : Int → Bool) : List Int → Nat
  | [] => 0
  | x :: r => if p x then 0 else firstAt p r + 1
theorem firstAt_le (p : Int → Bool) : ∀ l, firstAt p l ≤ l.length
  | [] => Nat.le_refl _
  | x :: r => by have := firstAt_le p r; unfold firstAt; split <;> simp; omega
theorem firstAt_skip (p : Int → Bool) : ∀ (l : List Int) (n : Nat), (∀ j, j < n → p (l.getD j 0) = false) → n ≤ l.length → firstAt p l = n + firstAt p (l.drop n)
  | l, 0, _, _ => by simp
  | [], n + 1, _, h => by simp at h
  | x :: r, n + 1, h, hn => by
    have h0 := h 0 (by omega)
    have ih := firstAt_skip p r n (fun j hj => by have := h (j + 1) (by omega); simpa using this) (by simpa using hn)
    simp only [List.getD_cons_zero] at h0
    simp only [firstAt, h0, List.drop_succ_cons, ih]; simp; omega
theorem firstAt_hit (p : Int → Bool) (l : List Int) (n : Nat) (h : ∀ j, j < n → p (l.getD j 0) = false) (hn : n < l.length) (hp : p (l.getD n 0) = true) : firstAt p l = n := by
  rw [firstAt_skip p l n h (by omega)]
  rw [List.drop_eq_getElem_cons hn]
  have : l.getD n 0 = l[n] := by simp [List.getD, hn]
  rw [this] at hp
  simp [firstAt, hp]
theorem firstAt_miss (p : Int → Bool) (l : List Int) (h : ∀ j, j < l.length → p (l.getD j 0) = false) : firstAt p l = l.length := by
  rw [firstAt_skip p l l.length h (Nat.le_refl _)]; simp [firstAt]
/-- what is asked of the function that is handed over -/
def Will (P : Program) (g : Nat) (lb : Array Value) (p : Int → Bool) (w : World) : Prop :=
  ∀ (W : World) (x : Int), Below w.heap.size w W → Calls P g (#[.int .i64 x] ++ lb) W fun e w' => e = .returned (.bool (p x)) ∧ Below W.heap.size W w'
theorem box_world (w : World) (u v : Value) (t n : Nat) : Below w.heap.size w (((w.alloc (Obj.cells #[u] t)).drewN n).setCell ⟨w.heap.size, 0, none⟩ v) ∧
    w.heap.size < (((w.alloc (Obj.cells #[u] t)).drewN n).setCell ⟨w.heap.size, 0, none⟩ v).heap.size ∧ (((w.alloc (Obj.cells #[u] t)).drewN n).setCell ⟨w.heap.size, 0, none⟩ v).cell? ⟨w.heap.size, 0, none⟩ = some v := by
  refine ⟨(pw_below_drewN (below_alloc (Below.refl _ _) _) _).setCell (Nat.le_refl _) _, ?_, ?_⟩
  · rw [World.size_setCell]; show w.heap.size < (w.alloc _).heap.size; simp
  · refine World.cell?_setCell_same' _ _ _ ?_
    show ((w.alloc (Obj.cells #[u] t)).cell? _).isSome = true
    simp
set_option maxHeartbeats 8000000 in
set_option maxRecDepth 100000 in
theorem thresh_find_any (p : Int → Bool) (g : Nat) (lb : Array Value) (eg : ∀ args w, (callFunc g args).run Try.prog w = .ok (.enter g args) w) (A0 : Option Addr) (c0 : Nat) (l0 : List Int) (w : World)
    (hp : Will Try.prog g lb p w) (hr0 : Kd.C (Kd.int .i64) w A0 l0.length l0) (hc0 : l0.length ≤ c0) (hm : l0.length ≤ 9223372036854775807) :
    Calls Try.prog 86 #[.slice A0 l0.length c0, .func (.func g) #[] lb] w fun e w' => e = .returned (.int .i64 (firstAt p l0)) ∧ Below w.heap.size w w' := by
  have HR0 := Aside0.mk hr0
  have HP := Aside0.mk hp
  have HM := Aside0.mk hm
  clear hr0 hp hm hc0
  go_enter Try.func86, Try.ntmps86
  go_wp2
  go_loopg [5, 6, 9] l0.length (fun gg _ _ s9 wr => ∃ i : Int, s9 = .int .i64 i ∧ Aside0 (0 ≤ i ∧ i ≤ l0.length ∧ l0.length - i.toNat ≤ gg) ∧ Aside0 (Below w.heap.size w wr) ∧ Aside0 (∀ j : Nat, (j : Int) < i → p (l0.getD j 0) = false))
  case atStart => exact ⟨0, rfl, ⟨by omega, by omega, by omega⟩, ⟨Below.refl _ w⟩, ⟨fun j hj => absurd hj (by omega)⟩⟩
  case round =>
    obtain ⟨i, rfl, HI, BW, A⟩ := hrel
    by_cases hlt : i < (l0.length : Int)
    · have p0 : 0 ≤ i := HI.out.1
      obtain ⟨ad, e0, hx⟩ := Kd.at_int (Kd.C_below HR0.out BW.out) i p0 hlt
      cases e0
      have HL := Aside0.mk hlt
      have c6b0 : decide (i < (l0.length : Int)) = true := decide_eq_true hlt
      replace p0 := eq_true p0
      replace hlt := eq_true hlt
      have hcall := HP.out wr (rd l0 i) BW.out
      cases hq : p (rd l0 i) with
      | true =>
        rw [hq] at hcall
        have HQ := Aside0.mk hq
        have HC := Aside0.mk hcall
        clear hq hcall
        go_wp2_with fail
        refine HC.out.mono ?_
        rintro e w' ⟨rfl, hb'⟩
        go_wp2_with fail
        go_ret
        refine ⟨?_, BW.out.trans (hb'.mono BW.out.size)⟩
        have h1 := HI.out; have h2 := HL.out; have h3 := HQ.out
        unfold rd at h3
        rw [firstAt_hit p l0 i.toNat (fun j hj => A.out j (by omega)) (by omega) h3]
        rw [Int.toNat_of_nonneg h1.1]
        rfl
      | false =>
        rw [hq] at hcall
        have HQ := Aside0.mk hq
        have HC := Aside0.mk hcall
        clear hq hcall
        go_wp2_with fail
        refine HC.out.mono ?_
        rintro e w' ⟨rfl, hb'⟩
        go_wp2_with fail
        go_roundg (l0.length - (i.toNat + 1))
        case measure => have h1 := HI.out; have h2 := HL.out; omega
        case rel =>
          have h1 := HI.out; have h2 := HL.out; have h3 := HQ.out; have h4 := HM.out
          have hw : wrap64 (i + 1) = i + 1 := by unfold wrap64; omega
          refine ⟨wrap64 (i + 1), rfl, ⟨by omega, by omega, by omega⟩, ⟨BW.out.trans (hb'.mono BW.out.size)⟩, ⟨fun j hj => ?_⟩⟩
          by_cases e : (j : Int) = i
          · unfold rd at h3
            rw [← e] at h3; simpa using h3
          · exact A.out j (by omega)
    · have c6b0 : decide (i < (l0.length : Int)) = false := decide_eq_false hlt
      have HL := Aside0.mk hlt
      clear hlt
      go_wp2
      go_ret
      have h1 := HI.out; have h2 := HL.out
      refine ⟨?_, BW.out⟩
      rw [firstAt_miss p l0 (fun j hj => A.out j (by omega))]
      rfl

end Go.Proofs.Ytomgebmimgaojaa.QO
