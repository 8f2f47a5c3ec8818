-- Written by wip/tools/print2.py (a program of this session's, over the kit's print) out of the translation. Not trusted: Lean checks it.
import Derived.Test.YtncpknhmoakjmaaDoorPCorePlacesx0
import Derived.Test.YtncpknhmoakjmaaDoorPCorePlacesx8
import Derived.Test.YtncpknhmoakjmaaDoorPCorePlacesx9
namespace Go.Proofs.YtncpknhmoakjmaaDoor.PCorePlaces
open Go.RowKit Go.Proofs.YtncpknhmoakjmaaDoorW.PrintWords Go.Proofs.YtncpknhmoakjmaaDoorW.PrintLast Go.Proofs.YtncpknhmoakjmaaDoorW.PrintMore
attribute [local go_sem] max2_int min2_int max_two min_two max_three min_three max_four min_four   -- for this text's walks alone
set_option linter.unusedVariables false
set_option linter.unusedSimpArgs false

/-! ### stencillaw15_awake: function 5: not printed -/
theorem C_blk {α : Type} {d : Kd α} {w : World} {b e : Nat} {xs : List α} {cs : Array Value} (hb : w.heap[b]? = some (.cells cs e (0, 0))) (hn : xs.length ≤ 9223372036854775807)
    (hx : ∀ j p, xs[j]? = some p → ∃ c, c.length = d.sz ∧ d.K w p c ∧ ∀ i u, c[i]? = some u → cs[j * d.sz + i]? = some u) : Kd.C d w (some ⟨b, 0, none⟩) xs.length xs :=
  ⟨rfl, hn, fun _ => ⟨_, rfl, fun j p hj => by
    obtain ⟨c, h1, h2, h3⟩ := hx j p hj
    refine ⟨c, h1, h2, fun i u hi => ?_⟩
    have ha : (⟨b, 0, none⟩ : Addr).add (j * d.sz + i) = ⟨b, j * d.sz + i, none⟩ := by unfold Addr.add; split <;> simp_all
    rw [ha, blk_cell hb]
    exact h3 i u hi⟩⟩
theorem C_none {α : Type} (d : Kd α) (w : World) : Kd.C d w none 0 [] := ⟨rfl, by omega, fun h => absurd h (by omega)⟩
def partX : S44 := ⟨⟨#[120]⟩, false, ⟨0, 0, ⟨#[]⟩, []⟩⟩
def coreX : S41 := ⟨1, ⟨#[]⟩, [], [partX], [], [], []⟩
def coreP : S41 := ⟨2, ⟨#[112]⟩, [], [], [], [coreX], []⟩
def coreBad : S41 := ⟨2, ⟨#[80]⟩, [], [], [], [], []⟩
def rowP (b : Nat) : List Value := [.int .i64 2, .string ⟨#[112]⟩, .slice none 0 0, .slice none 0 0, .slice none 0 0, .slice (some ⟨b, 0, none⟩) 1 1, .slice none 0 0]
theorem coreP_K {w : World} {n m : Nat} (h1 : w.heap[n]? = some (.cells #[.string ⟨#[120]⟩, .bool false, .int .i64 0, .int .i64 0, .string ⟨#[]⟩, .slice none 0 0] 44 (0, 0)))
    (h2 : w.heap[m]? = some (.cells #[.int .i64 1, .string ⟨#[]⟩, .slice none 0 0, .slice (some ⟨n, 0, none⟩) 1 1, .slice none 0 0, .slice none 0 0, .slice none 0 0] 41 (0, 0))) : k41.K w coreP (rowP m) := by
  have p1 : Kd.C k44 w (some ⟨n, 0, none⟩) 1 [partX] := C_blk h1 (by simp) (fun j p hj => by
    cases j with
    | zero =>
      obtain rfl : partX = p := Option.some.inj hj
      exact ⟨_, rfl, k44_mk w partX (A5 := none) (c5 := 0) (Nat.le_refl _) (C_none _ _), fun i u hi => by rw [Nat.zero_mul, Nat.zero_add, ← Array.getElem?_toList]; exact hi⟩
    | succ j => simp at hj)
  have p2 : Kd.C k41 w (some ⟨m, 0, none⟩) 1 [coreX] := C_blk h2 (by simp) (fun j p hj => by
    cases j with
    | zero =>
      obtain rfl : coreX = p := Option.some.inj hj
      exact ⟨_, rfl, k41_mk w coreX (A2 := none) (c2 := 0) (Nat.le_refl _) (C_none _ _) (A3 := some ⟨n, 0, none⟩) (c3 := 1) (Nat.le_refl _) p1 (A4 := none) (c4 := 0) (Nat.le_refl _) (C_none _ _) (A5 := none) (c5 := 0) (Nat.le_refl _) (C_none _ _) (A6 := none) (c6 := 0) (Nat.le_refl _) (C_none _ _), fun i u hi => by rw [Nat.zero_mul, Nat.zero_add, ← Array.getElem?_toList]; exact hi⟩
    | succ j => simp at hj)
  exact k41_mk w coreP (A2 := none) (c2 := 0) (Nat.le_refl _) (C_none _ _) (A3 := none) (c3 := 0) (Nat.le_refl _) (C_none _ _) (A4 := none) (c4 := 0) (Nat.le_refl _) (C_none _ _) (A5 := some ⟨m, 0, none⟩) (c5 := 1) (Nat.le_refl _) p2 (A6 := none) (c6 := 0) (Nat.le_refl _) (C_none _ _)

theorem one_P {w : World} {n m b : Nat} (h1 : w.heap[n]? = some (.cells #[.string ⟨#[120]⟩, .bool false, .int .i64 0, .int .i64 0, .string ⟨#[]⟩, .slice none 0 0] 44 (0, 0)))
    (h2 : w.heap[m]? = some (.cells #[.int .i64 1, .string ⟨#[]⟩, .slice none 0 0, .slice (some ⟨n, 0, none⟩) 1 1, .slice none 0 0, .slice none 0 0, .slice none 0 0] 41 (0, 0)))
    (h3 : w.heap[b]? = some (.cells (rowP m).toArray 41 (0, 0))) : Kd.C k41 w (some ⟨b, 0, none⟩) 1 [coreP] := C_blk h3 (by simp) (fun j p hj => by
  cases j with
  | zero =>
    obtain rfl : coreP = p := Option.some.inj hj
    exact ⟨_, rfl, coreP_K h1 h2, fun i u hi => by rw [Nat.zero_mul, Nat.zero_add, ← Array.getElem?_toList]; exact hi⟩
  | succ j => simp at hj)
theorem two_P {w : World} {n m b : Nat} (h1 : w.heap[n]? = some (.cells #[.string ⟨#[120]⟩, .bool false, .int .i64 0, .int .i64 0, .string ⟨#[]⟩, .slice none 0 0] 44 (0, 0)))
    (h2 : w.heap[m]? = some (.cells #[.int .i64 1, .string ⟨#[]⟩, .slice none 0 0, .slice (some ⟨n, 0, none⟩) 1 1, .slice none 0 0, .slice none 0 0, .slice none 0 0] 41 (0, 0)))
    (h3 : w.heap[b]? = some (.cells (rowP m ++ rowP m).toArray 41 (0, 0))) : Kd.C k41 w (some ⟨b, 0, none⟩) 2 [coreP, coreP] := C_blk h3 (by simp) (fun j p hj => by
  cases j with
  | zero =>
    obtain rfl : coreP = p := Option.some.inj hj
    exact ⟨_, rfl, coreP_K h1 h2, fun i u hi => by
      rw [Nat.zero_mul, Nat.zero_add, ← Array.getElem?_toList]
      show (rowP m ++ rowP m)[i]? = some u
      rw [List.getElem?_append_left (List.getElem?_eq_some_iff.mp hi).1]; exact hi⟩
  | succ j =>
    cases j with
    | zero =>
      obtain rfl : coreP = p := Option.some.inj hj
      exact ⟨_, rfl, coreP_K h1 h2, fun i u hi => by
        rw [← Array.getElem?_toList]
        show (rowP m ++ rowP m)[(0 + 1) * 7 + i]? = some u
        rw [List.getElem?_append_right (by simp [rowP])]
        simpa [rowP] using hi⟩
    | succ j => simp at hj)
theorem one_bad {w : World} {b : Nat} (h3 : w.heap[b]? = some (.cells #[.int .i64 2, .string ⟨#[80]⟩, .slice none 0 0, .slice none 0 0, .slice none 0 0, .slice none 0 0, .slice none 0 0] 41 (0, 0))) : Kd.C k41 w (some ⟨b, 0, none⟩) 1 [coreBad] := C_blk h3 (by simp) (fun j p hj => by
  cases j with
  | zero =>
    obtain rfl : coreBad = p := Option.some.inj hj
    exact ⟨_, rfl, k41_mk w coreBad (A2 := none) (c2 := 0) (Nat.le_refl _) (C_none _ _) (A3 := none) (c3 := 0) (Nat.le_refl _) (C_none _ _) (A4 := none) (c4 := 0) (Nat.le_refl _) (C_none _ _) (A5 := none) (c5 := 0) (Nat.le_refl _) (C_none _ _) (A6 := none) (c6 := 0) (Nat.le_refl _) (C_none _ _), fun i u hi => by rw [Nat.zero_mul, Nat.zero_add, ← Array.getElem?_toList]; exact hi⟩
  | succ j => simp at hj)
theorem two_ints {w : World} {b : Nat} (h3 : w.heap[b]? = some (.cells #[.int .i64 0, .int .i64 2] 3 (0, 0))) : Kd.C (Kd.int .i64) w (some ⟨b, 0, none⟩) 2 [0, 2] := C_blk h3 (by simp) (fun j p hj => by
  cases j with
  | zero =>
    obtain rfl : (0 : Int) = p := Option.some.inj hj
    exact ⟨[.int .i64 0], rfl, rfl, fun i u hi => by cases i with | zero => exact hi | succ i => simp at hi⟩
  | succ j =>
    cases j with
    | zero =>
      obtain rfl : (2 : Int) = p := Option.some.inj hj
      exact ⟨[.int .i64 2], rfl, rfl, fun i u hi => by cases i with | zero => exact hi | succ i => simp at hi⟩
    | succ j => simp at hj)
/-- What every program answers that is one: told where it does. -/
def stencillaw15_awake.f (k : Nat) : Option Bool :=
  (core_Check.f k [coreP]).bind fun e => if e = 0 then (core_Check.f k [coreBad]).bind fun f => if f = 1500 then (core_Count.f k [coreP, coreP]).bind fun c => if c = 4 then
    (core_Statics.f k [coreP, coreP]).bind fun s => (stencillaw0_SameInts.f k s [0, 2]).bind fun b => if b = true then (core_Loops.f k [coreP]).bind fun l => if l = 0 then some true else none else none
    else none else none else none
theorem bind_if {α β : Type} {x : Option α} {p : α → Prop} [DecidablePred p] {y : α → Option β} {r : β} (h : (x.bind fun e => if p e then y e else none) = some r) : ∃ e, x = some e ∧ p e ∧ y e = some r := by
  obtain ⟨e, h1, h2⟩ := Option.bind_eq_some_iff.mp h
  by_cases hp : p e
  · rw [if_pos hp] at h2; exact ⟨e, h1, hp, h2⟩
  · rw [if_neg hp] at h2; cases h2
theorem varP {w : World} {b m : Nat} (h : w.heap[b]? = some (.cells (rowP m).toArray 41 (0, 0))) : w.cell? ⟨b, 0, none⟩ = some (.int .i64 2) ∧ w.cell? ⟨b, 1, none⟩ = some (.string ⟨#[112]⟩) ∧ w.cell? ⟨b, 2, none⟩ = some (.slice none 0 0) ∧ w.cell? ⟨b, 3, none⟩ = some (.slice none 0 0) ∧
    w.cell? ⟨b, 4, none⟩ = some (.slice none 0 0) ∧ w.cell? ⟨b, 5, none⟩ = some (.slice (some ⟨m, 0, none⟩) 1 1) ∧ w.cell? ⟨b, 6, none⟩ = some (.slice none 0 0) :=
  ⟨(blk_cell h 0).trans rfl, (blk_cell h 1).trans rfl, (blk_cell h 2).trans rfl, (blk_cell h 3).trans rfl, (blk_cell h 4).trans rfl, (blk_cell h 5).trans rfl, (blk_cell h 6).trans rfl⟩
set_option maxHeartbeats 8000000 in
set_option maxRecDepth 1000000 in
theorem stencillaw15_awake.calls (k : Nat) (r : Bool) (w : World) (hL : LaidW w) (h : stencillaw15_awake.f k = some r) :
    Calls Tryd.prog 5 #[] w fun e w' => e = .returned (.bool r) ∧ Below w.heap.size w w' := by
  obtain ⟨e1, h1, rfl, h⟩ := bind_if (p := fun e => e = 0) h
  obtain ⟨e2, h2, rfl, h⟩ := bind_if (p := fun e => e = 1500) h
  obtain ⟨e3, h3, rfl, h⟩ := bind_if (p := fun e => e = 4) h
  obtain ⟨s, h4, h⟩ := Option.bind_eq_some_iff.mp h
  obtain ⟨e5, h5, rfl, h⟩ := bind_if (p := fun e => e = true) h
  obtain ⟨e6, h6, rfl, h⟩ := bind_if (p := fun e => e = 0) h
  obtain rfl := Option.some.inj h
  have H1 := Aside0.mk h1
  have H2 := Aside0.mk h2
  have H3 := Aside0.mk h3
  have H4 := Aside0.mk h4
  have H5 := Aside0.mk h5
  have H6 := Aside0.mk h6
  have HL := Aside0.mk hL
  clear h1 h2 h3 h4 h5 h6 h hL
  have hu41 := Tryd.underlying41
  go_enter Tryd.func5, Tryd.ntmps5
  go_upto_region 2 with (fail)
  have B0 := Aside0.mk (Below.alloc' (Below.alloc' ((Below.refl w.heap.size w).alloc (Nat.le_refl _) (.cells #[.string ⟨#[120]⟩, .bool false, .int .i64 0, .int .i64 0, .string ⟨#[]⟩, .slice none 0 0] 44)) (Nat.le_refl _) (.cells #[.int .i64 1, .string ⟨#[]⟩, .slice none 0 0, .slice (some ⟨w.heap.size, 0, none⟩) 1 1, .slice none 0 0, .slice none 0 0, .slice none 0 0] 41)) (Nat.le_refl _) (.cells (rowP (w.heap.size + 1)).toArray 41))
  have P0 := Aside0.mk (blk_alloc (blk_alloc (blk_new w (.cells #[.string ⟨#[120]⟩, .bool false, .int .i64 0, .int .i64 0, .string ⟨#[]⟩, .slice none 0 0] 44)) (.cells #[.int .i64 1, .string ⟨#[]⟩, .slice none 0 0, .slice (some ⟨w.heap.size, 0, none⟩) 1 1, .slice none 0 0, .slice none 0 0, .slice none 0 0] 41)) (.cells (rowP (w.heap.size + 1)).toArray 41))
  have Q0 := Aside0.mk (blk_alloc (blk_new (w.alloc (.cells #[.string ⟨#[120]⟩, .bool false, .int .i64 0, .int .i64 0, .string ⟨#[]⟩, .slice none 0 0] 44)) (.cells #[.int .i64 1, .string ⟨#[]⟩, .slice none 0 0, .slice (some ⟨w.heap.size, 0, none⟩) 1 1, .slice none 0 0, .slice none 0 0, .slice none 0 0] 41)) (.cells (rowP (w.heap.size + 1)).toArray 41))
  have V0 := Aside0.mk (blk_new ((w.alloc (.cells #[.string ⟨#[120]⟩, .bool false, .int .i64 0, .int .i64 0, .string ⟨#[]⟩, .slice none 0 0] 44)).alloc (.cells #[.int .i64 1, .string ⟨#[]⟩, .slice none 0 0, .slice (some ⟨w.heap.size, 0, none⟩) 1 1, .slice none 0 0, .slice none 0 0, .slice none 0 0] 41)) (.cells (rowP (w.heap.size + 1)).toArray 41))
  have Q1 := Aside0.mk (show _ from by have h := Q0.out; rw [show (w.alloc (.cells #[.string ⟨#[120]⟩, .bool false, .int .i64 0, .int .i64 0, .string ⟨#[]⟩, .slice none 0 0] 44)).heap.size = w.heap.size + 1 from by simp] at h; exact h)
  have V1 := Aside0.mk (show _ from by have h := V0.out; rw [show ((w.alloc (.cells #[.string ⟨#[120]⟩, .bool false, .int .i64 0, .int .i64 0, .string ⟨#[]⟩, .slice none 0 0] 44)).alloc (.cells #[.int .i64 1, .string ⟨#[]⟩, .slice none 0 0, .slice (some ⟨w.heap.size, 0, none⟩) 1 1, .slice none 0 0, .slice none 0 0, .slice none 0 0] 41)).heap.size = w.heap.size + 1 + 1 from by simp] at h; exact h)
  clear Q0 V0
  change Code.wp _ _ _ _ (((w.alloc (.cells #[.string ⟨#[120]⟩, .bool false, .int .i64 0, .int .i64 0, .string ⟨#[]⟩, .slice none 0 0] 44)).alloc (.cells #[.int .i64 1, .string ⟨#[]⟩, .slice none 0 0, .slice (some ⟨w.heap.size, 0, none⟩) 1 1, .slice none 0 0, .slice none 0 0, .slice none 0 0] 41)).alloc (.cells (rowP (w.heap.size + 1)).toArray 41))
  generalize ((w.alloc (.cells #[.string ⟨#[120]⟩, .bool false, .int .i64 0, .int .i64 0, .string ⟨#[]⟩, .slice none 0 0] 44)).alloc (.cells #[.int .i64 1, .string ⟨#[]⟩, .slice none 0 0, .slice (some ⟨w.heap.size, 0, none⟩) 1 1, .slice none 0 0, .slice none 0 0, .slice none 0 0] 41)).alloc (.cells (rowP (w.heap.size + 1)).toArray 41) = W1 at B0 P0 Q1 V1 ⊢
  obtain ⟨v0, v1, v2, v3, v4, v5, v6⟩ := varP V1.out
  go_wp2_with (fail)
  have E1 := Aside0.mk (Below.alloc (Below.refl W1.heap.size W1) (Nat.le_refl _) (.cells (rowP (w.heap.size + 1)).toArray 41))
  refine (core_Check.calls k _ 1 [coreP] 0 (W1.alloc (.cells (rowP (w.heap.size + 1)).toArray 41)) (HL.out.below (B0.out.trans (E1.out.mono B0.out.size))) (one_P (blk_below P0.out E1.out) (blk_below Q1.out E1.out) (blk_new W1 _)) (Nat.le_refl _) H1.out).mono ?_
  rintro e w2 ⟨rfl, hb2⟩
  have T2 := Aside0.mk (E1.out.trans (hb2.mono E1.out.size))
  clear v0 v1 v2 v3 v4 v5 v6 hb2 E1
  go_wp2_with (fail)
  have E2 := Aside0.mk (T2.out.trans ((Below.alloc (Below.refl w2.heap.size w2) (Nat.le_refl _) (.cells #[.int .i64 2, .string ⟨#[80]⟩, .slice none 0 0, .slice none 0 0, .slice none 0 0, .slice none 0 0, .slice none 0 0] 41)).mono T2.out.size))
  refine (core_Check.calls k _ 1 [coreBad] 1500 (w2.alloc (.cells #[.int .i64 2, .string ⟨#[80]⟩, .slice none 0 0, .slice none 0 0, .slice none 0 0, .slice none 0 0, .slice none 0 0] 41)) (HL.out.below (B0.out.trans (E2.out.mono B0.out.size))) (one_bad (blk_new w2 _)) (Nat.le_refl _) H2.out).mono ?_
  rintro e w3 ⟨rfl, hb3⟩
  have T3 := Aside0.mk (E2.out.trans (hb3.mono E2.out.size))
  clear hb3 E2 T2
  go_wp2_with (fail)
  refine (stencillaw0_Num.calls 0 0 _ rfl).mono ?_
  rintro e w4 ⟨rfl, hd4⟩
  have T4 := Aside0.mk (T3.out.trans (hd4.below.mono T3.out.size))
  clear hd4 T3
  go_wp2_with (fail)
  refine (stencillaw0_Num.calls 1500 1500 _ rfl).mono ?_
  rintro e w5 ⟨rfl, hd5⟩
  have T5 := Aside0.mk (T4.out.trans (hd5.below.mono T4.out.size))
  clear hd5 T4
  obtain ⟨v0, v1, v2, v3, v4, v5, v6⟩ := varP (blk_below V1.out T5.out)
  go_wp2_with (fail)
  have E5 := Aside0.mk (T5.out.trans ((Below.alloc (Below.refl w5.heap.size w5) (Nat.le_refl _) (.cells (rowP (w.heap.size + 1) ++ rowP (w.heap.size + 1)).toArray 41)).mono T5.out.size))
  refine (core_Count.calls k _ 2 [coreP, coreP] 4 (w5.alloc (.cells (rowP (w.heap.size + 1) ++ rowP (w.heap.size + 1)).toArray 41)) (HL.out.below (B0.out.trans (E5.out.mono B0.out.size))) (two_P (blk_below P0.out E5.out) (blk_below Q1.out E5.out) (blk_new w5 _)) (Nat.le_refl _) H3.out).mono ?_
  rintro e w6 ⟨rfl, hb6⟩
  have T6 := Aside0.mk (E5.out.trans (hb6.mono E5.out.size))
  clear v0 v1 v2 v3 v4 v5 v6 hb6 E5 T5
  obtain ⟨v0, v1, v2, v3, v4, v5, v6⟩ := varP (blk_below V1.out T6.out)
  go_wp2_with (fail)
  have E6 := Aside0.mk (T6.out.trans ((Below.alloc (Below.refl w6.heap.size w6) (Nat.le_refl _) (.cells (rowP (w.heap.size + 1) ++ rowP (w.heap.size + 1)).toArray 41)).mono T6.out.size))
  refine (core_Statics.calls k _ 2 [coreP, coreP] s (w6.alloc (.cells (rowP (w.heap.size + 1) ++ rowP (w.heap.size + 1)).toArray 41)) (HL.out.below (B0.out.trans (E6.out.mono B0.out.size))) (two_P (blk_below P0.out E6.out) (blk_below Q1.out E6.out) (blk_new w6 _)) (Nat.le_refl _) H4.out).mono ?_
  rintro e w7 ⟨v9, rfl, hR, hb7⟩
  have T7 := Aside0.mk (E6.out.trans (hb7.mono E6.out.size))
  clear v0 v1 v2 v3 v4 v5 v6 E6 T6 hb7
  obtain ⟨A9, c9, rfl, hl9, hC9⟩ := Kd.R_reads hR
  have HC9 := Aside0.mk hC9
  have HL9 := Aside0.mk hl9
  clear hR hC9 hl9
  go_wp2_with (fail)
  have E7 := Aside0.mk (Below.alloc (Below.refl w7.heap.size w7) (Nat.le_refl _) (.cells #[.int .i64 0, .int .i64 2] 3))
  refine (stencillaw0_SameInts.calls k A9 c9 s _ 2 [0, 2] true (w7.alloc (.cells #[.int .i64 0, .int .i64 2] 3)) (Kd.C_below HC9.out E7.out) HL9.out (two_ints (blk_new w7 _)) (Nat.le_refl _) H5.out).mono ?_
  rintro e w8 ⟨rfl, hd8⟩
  have T8 := Aside0.mk (T7.out.trans ((E7.out.trans (hd8.below.mono E7.out.size)).mono T7.out.size))
  clear hd8 E7 T7
  obtain ⟨v0, v1, v2, v3, v4, v5, v6⟩ := varP (blk_below V1.out T8.out)
  go_wp2_with (fail)
  have E8 := Aside0.mk (T8.out.trans ((Below.alloc (Below.refl w8.heap.size w8) (Nat.le_refl _) (.cells (rowP (w.heap.size + 1)).toArray 41)).mono T8.out.size))
  refine (core_Loops.calls k _ 1 [coreP] 0 (w8.alloc (.cells (rowP (w.heap.size + 1)).toArray 41)) (HL.out.below (B0.out.trans (E8.out.mono B0.out.size))) (one_P (blk_below P0.out E8.out) (blk_below Q1.out E8.out) (blk_new w8 _)) (Nat.le_refl _) H6.out).mono ?_
  rintro e w9 ⟨rfl, hb9⟩
  have T9 := Aside0.mk (E8.out.trans (hb9.mono E8.out.size))
  clear v0 v1 v2 v3 v4 v5 v6 hb9 E8 T8
  go_wp2
  go_ret
  exact ⟨rfl, B0.out.trans (T9.out.mono B0.out.size)⟩
theorem stencillaw15_awake.mono (k : Nat) : LeO (stencillaw15_awake.f k) (stencillaw15_awake.f (k + 1)) :=
  LeO.bind (core_Check.mono _ k) (fun _ => LeO.ite (LeO.bind (core_Check.mono _ k) (fun _ => LeO.ite (LeO.bind (core_Count.mono _ k) (fun _ => LeO.ite (LeO.bind (core_Statics.mono _ k) (fun _ => LeO.bind (stencillaw0_SameInts.mono _ _ k) (fun _ => LeO.ite (LeO.bind (core_Loops.mono _ k) (fun _ => LeO.refl _)) (LeO.refl _)))) (LeO.refl _))) (LeO.refl _))) (LeO.refl _))

/-! ### stencillaw15_CorePlaces: function 4 -/
mutual
def stencillaw15_CorePlaces.l0 : Nat → Int → Int → List (S41) → Int → Option (Bool)
  | 0, _, _, _, _ => none
  | k + 1, x0, x5, x6, x7 => if x7 < x5 then (stencillaw15_CorePlaces.l0 k x0 x5 (([(⟨5, (⟨#[]⟩ : ByteArray), ([] : List (S37)), ([] : List (S44)), (([(⟨1, 0, (⟨#[]⟩ : ByteArray), ([] : List (S35))⟩ : S35)] : List (S35))), x6, ([] : List (S41))⟩ : S41)] : List (S41))) (wrap64 (x7 + 1))) else ((core_Check.f k x6).bind fun t146 => (if x5 ≥ 64 then ((stencillaw0_Num.f t146).bind fun t147 => (some (t147 == 1503))) else (if x0 ≥ 0 then (stencillaw15_CorePlaces.j1 k x5 x6 t146 (decide (x0 ≤ x5))) else (stencillaw15_CorePlaces.j1 k x5 x6 t146 false))))
def stencillaw15_CorePlaces.j1 : Nat → Int → List (S41) → Int → Bool → Option (Bool)
  | 0, _, _, _, _ => none
  | k + 1, x5, x6, x8, x42 => if x42 = true then ((stencillaw0_Num.f x8).bind fun t148 => (if t148 = 0 then ((core_Count.f k x6).bind fun t149 => (some (t149 == (wrap64 (x5 + 1))))) else (some false))) else ((stencillaw0_Num.f x8).bind fun t150 => (if t150 = 1502 then ((core_Count.f k x6).bind fun t151 => (some (t151 == 0))) else (some false)))
end
def stencillaw15_CorePlaces.f (k : Nat) (a0 : Int) (a1 : Int) : Option (Bool) := (stencillaw15_awake.f k).bind fun t133 => (if t133 = true then (stencillaw15_CorePlaces.l0 k a0 (Go.bits .and .i64 a1 63) (([(⟨1, (⟨#[]⟩ : ByteArray), ([] : List (S37)), (([(⟨(⟨#[]⟩ : ByteArray), true, (⟨6, a0, (⟨#[]⟩ : ByteArray), ([] : List (S35))⟩ : S35)⟩ : S44)] : List (S44))), ([] : List (S35)), ([] : List (S41)), ([] : List (S41))⟩ : S41)] : List (S41))) 0) else (some false))
theorem stencillaw15_CorePlaces.mono_l : ∀ k, (∀ y0 y1 y2 y3, LeO (stencillaw15_CorePlaces.l0 k y0 y1 y2 y3) (stencillaw15_CorePlaces.l0 (k + 1) y0 y1 y2 y3)) ∧ (∀ y0 y1 y2 y3, LeO (stencillaw15_CorePlaces.j1 k y0 y1 y2 y3) (stencillaw15_CorePlaces.j1 (k + 1) y0 y1 y2 y3))
  | 0 => ⟨fun _ _ _ _ r h => by simp [stencillaw15_CorePlaces.l0] at h, fun _ _ _ _ r h => by simp [stencillaw15_CorePlaces.j1] at h⟩
  | k + 1 => by
    obtain ⟨ih0, ih1⟩ := stencillaw15_CorePlaces.mono_l k
    refine ⟨?_, ?_⟩
    · intro y0 y1 y2 y3
      unfold stencillaw15_CorePlaces.l0
      repeat' first
      | (with_reducible exact ih0 _ _ _ _)
      | (with_reducible exact ih1 _ _ _ _)
      | (with_reducible exact core_Check.mono _ _)
      | (with_reducible exact core_Count.mono _ _)
      | (with_reducible exact stencillaw15_awake.mono _)
      | (with_reducible exact LeO.refl _)
      | (with_reducible exact LeO.none _)
      | (with_reducible refine LeO.ite ?_ ?_)
      | (with_reducible refine LeO.bind ?_ (fun _ => ?_))
      | exact ih0 _ _ _ _
      | exact ih1 _ _ _ _
      | exact core_Check.mono _ _
      | exact core_Count.mono _ _
      | exact stencillaw15_awake.mono _
      | exact LeO.none _
      | refine LeO.ite ?_ ?_
      | refine LeO.bind ?_ (fun _ => ?_)
    · intro y0 y1 y2 y3
      unfold stencillaw15_CorePlaces.j1
      repeat' first
      | (with_reducible exact ih0 _ _ _ _)
      | (with_reducible exact ih1 _ _ _ _)
      | (with_reducible exact core_Check.mono _ _)
      | (with_reducible exact core_Count.mono _ _)
      | (with_reducible exact stencillaw15_awake.mono _)
      | (with_reducible exact LeO.refl _)
      | (with_reducible exact LeO.none _)
      | (with_reducible refine LeO.ite ?_ ?_)
      | (with_reducible refine LeO.bind ?_ (fun _ => ?_))
      | exact ih0 _ _ _ _
      | exact ih1 _ _ _ _
      | exact core_Check.mono _ _
      | exact core_Count.mono _ _
      | exact stencillaw15_awake.mono _
      | exact LeO.none _
      | refine LeO.ite ?_ ?_
      | refine LeO.bind ?_ (fun _ => ?_)
theorem stencillaw15_CorePlaces.mono : ∀ a0 a1 k, LeO (stencillaw15_CorePlaces.f k a0 a1) (stencillaw15_CorePlaces.f (k + 1) a0 a1) := by
  intro a0 a1 k
  obtain ⟨ih0, ih1⟩ := stencillaw15_CorePlaces.mono_l k
  unfold stencillaw15_CorePlaces.f
  repeat' first
      | (with_reducible exact ih0 _ _ _ _)
      | (with_reducible exact ih1 _ _ _ _)
      | (with_reducible exact core_Check.mono _ _)
      | (with_reducible exact core_Count.mono _ _)
      | (with_reducible exact stencillaw15_awake.mono _)
      | (with_reducible exact LeO.refl _)
      | (with_reducible exact LeO.none _)
      | (with_reducible refine LeO.ite ?_ ?_)
      | (with_reducible refine LeO.bind ?_ (fun _ => ?_))
      | exact ih0 _ _ _ _
      | exact ih1 _ _ _ _
      | exact core_Check.mono _ _
      | exact core_Count.mono _ _
      | exact stencillaw15_awake.mono _
      | exact LeO.none _
      | refine LeO.ite ?_ ?_
      | refine LeO.bind ?_ (fun _ => ?_)
set_option maxHeartbeats 8000000 in
set_option maxRecDepth 100000 in
theorem stencillaw15_CorePlaces.calls (k : Nat) (a0 : Int) (a1 : Int) (r : Bool) (w : World) (hL : LaidW w) (h : stencillaw15_CorePlaces.f k a0 a1 = some r) :
    Calls Tryd.prog 4 #[.int .i64 a0, .int .i64 a1] w fun e w' => e = .returned (.bool r) ∧ Below w.heap.size w w' := by
  have hu35 := Tryd.underlying35
  have hu44 := Tryd.underlying44
  have hu41 := Tryd.underlying41
  have HB := Aside0.mk (Below.refl w.heap.size w)
  have H : ((stencillaw15_awake.f k).bind fun t133 => (if t133 = true then (stencillaw15_CorePlaces.l0 k a0 (Go.bits .and .i64 a1 63) (([(⟨1, (⟨#[]⟩ : ByteArray), ([] : List (S37)), (([(⟨(⟨#[]⟩ : ByteArray), true, (⟨6, a0, (⟨#[]⟩ : ByteArray), ([] : List (S35))⟩ : S35)⟩ : S44)] : List (S44))), ([] : List (S35)), ([] : List (S41)), ([] : List (S41))⟩ : S41)] : List (S41))) 0) else (some false))) = some r := h
  clear h
  replace H := Option.bind_eq_some_iff.mp H
  obtain ⟨t133, A30, H⟩ := H
  replace H : (if t133 = true then (stencillaw15_CorePlaces.l0 k a0 (Go.bits .and .i64 a1 63) (([(⟨1, (⟨#[]⟩ : ByteArray), ([] : List (S37)), (([(⟨(⟨#[]⟩ : ByteArray), true, (⟨6, a0, (⟨#[]⟩ : ByteArray), ([] : List (S35))⟩ : S35)⟩ : S44)] : List (S44))), ([] : List (S35)), ([] : List (S41)), ([] : List (S41))⟩ : S41)] : List (S41))) 0) else (some false)) = some r := H
  have A3 := Aside0.mk A30
  clear A30
  by_cases c4 : t133 = true
  · subst c4
    have H1 : (stencillaw15_CorePlaces.l0 k a0 (Go.bits .and .i64 a1 63) (([(⟨1, (⟨#[]⟩ : ByteArray), ([] : List (S37)), (([(⟨(⟨#[]⟩ : ByteArray), true, (⟨6, a0, (⟨#[]⟩ : ByteArray), ([] : List (S35))⟩ : S35)⟩ : S44)] : List (S44))), ([] : List (S35)), ([] : List (S41)), ([] : List (S41))⟩ : S41)] : List (S41))) 0) = some r := by rw [if_pos rfl] at H; exact H
    clear H
    have H := H1
    clear H1
    obtain ⟨y134, hy134⟩ : ∃ y_ : List (S44), y_ = (([(⟨(⟨#[]⟩ : ByteArray), true, (⟨6, a0, (⟨#[]⟩ : ByteArray), ([] : List (S35))⟩ : S35)⟩ : S44)] : List (S44))) := ⟨_, rfl⟩
    replace H : (stencillaw15_CorePlaces.l0 k a0 (Go.bits .and .i64 a1 63) (([(⟨1, (⟨#[]⟩ : ByteArray), ([] : List (S37)), y134, ([] : List (S35)), ([] : List (S41)), ([] : List (S41))⟩ : S41)] : List (S41))) 0) = some r := by first | (rw [hy134]; with_reducible exact H) | (have H2_ := (Option.bind_some _ _).symm.trans H; rw [hy134]; with_reducible exact H2_) | (have H2_ := (Option.bind_some _ _).symm.trans H; with_reducible exact H2_) | with_reducible exact H | (rw [hy134]; exact H) | exact H
    have Ny134 := Aside0.mk hy134
    clear hy134
    obtain ⟨y137, hy137⟩ : ∃ y_ : List (S41), y_ = (([(⟨1, (⟨#[]⟩ : ByteArray), ([] : List (S37)), y134, ([] : List (S35)), ([] : List (S41)), ([] : List (S41))⟩ : S41)] : List (S41))) := ⟨_, rfl⟩
    replace H : (stencillaw15_CorePlaces.l0 k a0 (Go.bits .and .i64 a1 63) y137 0) = some r := by first | (rw [hy137]; with_reducible exact H) | (have H2_ := (Option.bind_some _ _).symm.trans H; rw [hy137]; with_reducible exact H2_) | (have H2_ := (Option.bind_some _ _).symm.trans H; with_reducible exact H2_) | with_reducible exact H | (rw [hy137]; exact H) | exact H
    have Ny137 := Aside0.mk hy137
    clear hy137
    have H' := Aside0.mk H
    clear H
    go_enter Tryd.func4, Tryd.ntmps4
    go_wp2_with (first | ((with_reducible refine gate_callee (f := 5) rfl ?_); refine goesL_ (some 9) rfl rfl Tryd.func5 (by kernel_rfl) rfl #[] rfl (by (try simp only [List.map_toArray, List.map_cons, List.map_nil]); first | done | rfl | (simp only [List.length_drop, List.length_take]; rfl)) ?_; (with_reducible refine (stencillaw15_awake.calls k  true _ ?side1 A3.out).mono ?_); (case side1 => exact LaidW.below hL (by repeat (first | (with_reducible first | exact HB.out | apply below_alloc | apply pw_below_drewN | apply below_drew1) | exact HB.out))); rintro e w5 ⟨rfl, hb⟩; refine ⟨_, rfl, ?_⟩; have n0_ := Aside0.mk (below_step (by repeat (first | (with_reducible first | exact HB.out | apply below_alloc | apply pw_below_drewN | apply below_drew1) | exact HB.out)) hb); clear HB; have HB := n0_; clear n0_; (try clear hb); (try clear hb2); (try clear hk); (try clear hi)) | ((with_reducible refine gate_dst (N := 16) rfl ?_); refine Kd.N_lit k44 _ 44 ?hg (N' := 16) ?hd (xs := ([(⟨(⟨#[]⟩ : ByteArray), true, (⟨6, a0, (⟨#[]⟩ : ByteArray), ([] : List (S35))⟩ : S35)⟩ : S44)] : List (S44))) (inner := [.string (⟨#[]⟩ : ByteArray), .bool true, .int .i64 6, .int .i64 a0, .string (⟨#[]⟩ : ByteArray), .slice none 0 0]) (ok := (fun _ => True)) (okp := (fun _ => True)) ?hr ?hp (fun _ hk => hk) ((show ∀ k_, w5.heap.size ≤ k_ → (fun _ => True) k_ from fun k_ hk => trivial) _ (Nat.le_refl _)) (Below.refl _ _) (Nat.le_refl _) (by simp) ?_; (case hd => rfl); (case hg => rfl); (case hr => first | (go_simp; done) | (go_simp; rfl)); (case hp => exact (Reps.c6 (show Kd.FK k44 _ _ (⟨(⟨#[]⟩ : ByteArray), true, (⟨6, a0, (⟨#[]⟩ : ByteArray), ([] : List (S35))⟩ : S35)⟩ : S44) [.string (⟨#[]⟩ : ByteArray), .bool true, .int .i64 6, .int .i64 a0, .string (⟨#[]⟩ : ByteArray), .slice none 0 0] from (k44_mkF _ _ (⟨(⟨#[]⟩ : ByteArray), true, (⟨6, a0, (⟨#[]⟩ : ByteArray), ([] : List (S35))⟩ : S35)⟩ : S44) (Nat.le_refl _) (Kd.F_nil _ _ _))) (Reps.none _ _))); intro v135 w6 ho7 hb hg_ hnew_; clear hg_ hnew_; (first | rw [← Ny134.out] at ho7 | (simp only [Int.reduceToNat] at ho7; rw [← Ny134.out] at ho7)); have n0_ := Aside0.mk (Kd.N_lower ho7 (below_size (by repeat (first | (with_reducible first | exact HB.out | apply below_alloc | apply pw_below_drewN | apply below_drew1) | exact HB.out)))); have n1_ := Aside0.mk (below_step (by repeat (first | (with_reducible first | exact HB.out | apply below_alloc | apply pw_below_drewN | apply below_drew1) | exact HB.out)) hb); clear HB; have HO136 := n0_; have HB := n1_; clear n0_ n1_; clear hb ho7; obtain ⟨Ao8, co8, eo8⟩ := Kd.N_slice HO136.out; subst eo8) | ((with_reducible refine gate_dst (N := 18) rfl ?_); refine Kd.N_lit k41 _ 41 ?hg (N' := 18) ?hd (xs := ([(⟨1, (⟨#[]⟩ : ByteArray), ([] : List (S37)), y134, ([] : List (S35)), ([] : List (S41)), ([] : List (S41))⟩ : S41)] : List (S41))) (inner := [.int .i64 1, .string (⟨#[]⟩ : ByteArray), .slice none 0 0, .slice Ao8 y134.length co8, .slice none 0 0, .slice none 0 0, .slice none 0 0]) (ok := (fun _ => True)) (okp := (fun _ => True)) ?hr ?hp (fun _ hk => hk) ((show ∀ k_, w6.heap.size ≤ k_ → (fun _ => True) k_ from fun k_ hk => trivial) _ (Nat.le_refl _)) (Below.refl _ _) (Nat.le_refl _) (by simp) ?_; (case hd => rfl); (case hg => rfl); (case hr => first | (go_simp; done) | (go_simp; rfl)); (case hp => exact (Reps.c7 (show Kd.FK k41 _ _ (⟨1, (⟨#[]⟩ : ByteArray), ([] : List (S37)), y134, ([] : List (S35)), ([] : List (S41)), ([] : List (S41))⟩ : S41) [.int .i64 1, .string (⟨#[]⟩ : ByteArray), .slice none 0 0, .slice Ao8 y134.length co8, .slice none 0 0, .slice none 0 0, .slice none 0 0] from (k41_mkF _ _ (⟨1, (⟨#[]⟩ : ByteArray), ([] : List (S37)), y134, ([] : List (S35)), ([] : List (S41)), ([] : List (S41))⟩ : S41) (Nat.le_refl _) (Kd.F_nil _ _ _) (Kd.N_reads' (Kd.N_mono (ok' := (fun _ => True)) (HO136.out) (fun k_ hk => trivial))).2.1 (Kd.N_F (Kd.N_mono (ok' := (fun _ => True)) (HO136.out) (fun k_ hk => trivial))) (Nat.le_refl _) (Kd.F_nil _ _ _) (Nat.le_refl _) (Kd.F_nil _ _ _) (Nat.le_refl _) (Kd.F_nil _ _ _))) (Reps.none _ _))); intro v138 w9 ho10 hb hg_ hnew_; clear hg_ hnew_; (first | rw [← Ny137.out] at ho10 | (simp only [Int.reduceToNat] at ho10; rw [← Ny137.out] at ho10)); have n0_ := Aside0.mk (Kd.N_lower ho10 (below_size (by repeat (first | (with_reducible first | exact HB.out | apply below_alloc | apply pw_below_drewN | apply below_drew1) | exact HB.out)))); have n1_ := Aside0.mk (below_step (by repeat (first | (with_reducible first | exact HB.out | apply below_alloc | apply pw_below_drewN | apply below_drew1) | exact HB.out)) hb); clear HB; clear HO136; have HO139 := n0_; have HB := n1_; clear n0_ n1_; clear hb ho10))
    go_loopg [6, 7] k (fun kq v6 v7 w' => ∃ (x6_1 : List (S41)) (x7_1 : Int), v7 = .int .i64 x7_1 ∧ Aside0 (stencillaw15_CorePlaces.l0 kq a0 (Go.bits .and .i64 a1 63) x6_1 x7_1 = some r) ∧ Aside0 (kq ≤ k) ∧ Aside0 (Kd.N k41 41 w' w.heap.size (fun _ => True) v6 x6_1) ∧ Aside0 (Below w.heap.size w w'))
    case atStart => exact ⟨(y137), (0), (by first | rfl | (simp; done) | (simp [*]; done)), H', ⟨Nat.le_refl _⟩, ⟨by (with_reducible repeat (first | apply Kd.N_alloc | apply Kd.N_drewN | apply Kd.N_drew)); exact HO139.out⟩, ⟨by repeat (first | (with_reducible first | exact HB.out | apply below_alloc | apply pw_below_drewN | apply below_drew1) | exact HB.out)⟩⟩
    case round =>
      clear H'
      try clear p2
      try clear c4
      try clear c5
      try clear c6
      try clear c7
      obtain ⟨x6_1, x7_1, rfl, HA, HK1, HO_6, HB⟩ := hrel
      cases gk with
      | zero => exact absurd HA.out (by simp [stencillaw15_CorePlaces.l0])
      | succ k1 =>
        have H := HA.out
        clear HA
        simp only [stencillaw15_CorePlaces.l0] at H
        by_cases c11 : x7_1 < (Go.bits .and .i64 a1 63)
        · rw [if_pos c11] at H
          have c11b0 : decide (x7_1 < (Go.bits .and .i64 a1 63)) = true := decide_eq_true c11
          clear c11
          obtain ⟨y140, hy140⟩ : ∃ y_ : List (S35), y_ = (([(⟨1, 0, (⟨#[]⟩ : ByteArray), ([] : List (S35))⟩ : S35)] : List (S35))) := ⟨_, rfl⟩
          replace H : (stencillaw15_CorePlaces.l0 k1 a0 (Go.bits .and .i64 a1 63) (([(⟨5, (⟨#[]⟩ : ByteArray), ([] : List (S37)), ([] : List (S44)), y140, x6_1, ([] : List (S41))⟩ : S41)] : List (S41))) (wrap64 (x7_1 + 1))) = some r := by first | (rw [hy140]; with_reducible exact H) | (have H2_ := (Option.bind_some _ _).symm.trans H; rw [hy140]; with_reducible exact H2_) | (have H2_ := (Option.bind_some _ _).symm.trans H; with_reducible exact H2_) | with_reducible exact H | (rw [hy140]; exact H) | exact H
          have Ny140 := Aside0.mk hy140
          clear hy140
          obtain ⟨y143, hy143⟩ : ∃ y_ : List (S41), y_ = (([(⟨5, (⟨#[]⟩ : ByteArray), ([] : List (S37)), ([] : List (S44)), y140, x6_1, ([] : List (S41))⟩ : S41)] : List (S41))) := ⟨_, rfl⟩
          replace H : (stencillaw15_CorePlaces.l0 k1 a0 (Go.bits .and .i64 a1 63) y143 (wrap64 (x7_1 + 1))) = some r := by first | (rw [hy143]; with_reducible exact H) | (have H2_ := (Option.bind_some _ _).symm.trans H; rw [hy143]; with_reducible exact H2_) | (have H2_ := (Option.bind_some _ _).symm.trans H; with_reducible exact H2_) | with_reducible exact H | (rw [hy143]; exact H) | exact H
          have Ny143 := Aside0.mk hy143
          clear hy143
          have H' := Aside0.mk H
          clear H
          go_wp2_with (first | ((with_reducible refine gate_dst (N := 25) rfl ?_); refine Kd.N_lit k35 _ 35 ?hg (N' := 25) ?hd (xs := ([(⟨1, 0, (⟨#[]⟩ : ByteArray), ([] : List (S35))⟩ : S35)] : List (S35))) (inner := [.int .i64 1, .int .i64 0, .string (⟨#[]⟩ : ByteArray), .slice none 0 0]) (ok := (fun k_ => some k_ ≠ (u6 : Value).ownBlock)) (okp := (fun k_ => some k_ ≠ (u6 : Value).ownBlock)) ?hr ?hp (fun _ hk => hk) ((show ∀ k_, wr.heap.size ≤ k_ → (fun k_ => some k_ ≠ (u6 : Value).ownBlock) k_ from fun k_ hk => Kd.fresh' (Kd.N_lt (by (with_reducible repeat (first | apply Kd.N_alloc | apply Kd.N_drewN | apply Kd.N_drew)); exact HO_6.out)) k_ hk) _ (Nat.le_refl _)) (Below.refl _ _) (Nat.le_refl _) (by simp) ?_; (case hd => rfl); (case hg => rfl); (case hr => first | (go_simp; done) | (go_simp; rfl)); (case hp => exact (Reps.c4 (show Kd.FK k35 _ _ (⟨1, 0, (⟨#[]⟩ : ByteArray), ([] : List (S35))⟩ : S35) [.int .i64 1, .int .i64 0, .string (⟨#[]⟩ : ByteArray), .slice none 0 0] from (k35_mkF _ _ (⟨1, 0, (⟨#[]⟩ : ByteArray), ([] : List (S35))⟩ : S35) (Nat.le_refl _) (Kd.F_nil _ _ _))) (Reps.none _ _))); intro v141 w12 ho13 hb hg_ hnew_; clear hg_ hnew_; (first | rw [← Ny140.out] at ho13 | (simp only [Int.reduceToNat] at ho13; rw [← Ny140.out] at ho13)); have n0_ := Aside0.mk (Kd.N_elder' (by (with_reducible repeat (first | apply Kd.N_alloc | apply Kd.N_drewN | apply Kd.N_drew)); exact HO_6.out) (Kd.N_base ho13) hb); have n1_ := Aside0.mk (Kd.N_lower ho13 (below_size (by repeat (first | (with_reducible first | exact HB.out | apply below_alloc | apply pw_below_drewN | apply below_drew1) | exact HB.out)))); have n2_ := Aside0.mk (below_step (by repeat (first | (with_reducible first | exact HB.out | apply below_alloc | apply pw_below_drewN | apply below_drew1) | exact HB.out)) hb); clear HO_6; clear HB; have HO_6 := n0_; have HO142 := n1_; have HB := n2_; clear n0_ n1_ n2_; clear hb ho13; obtain ⟨Ao14, co14, eo14⟩ := Kd.N_slice HO_6.out; subst eo14; obtain ⟨Ao15, co15, eo15⟩ := Kd.N_slice HO142.out; subst eo15) | ((with_reducible refine gate_dst (N := 28) rfl ?_); refine Kd.N_lit k41 _ 41 ?hg (N' := 28) ?hd (xs := ([(⟨5, (⟨#[]⟩ : ByteArray), ([] : List (S37)), ([] : List (S44)), y140, x6_1, ([] : List (S41))⟩ : S41)] : List (S41))) (inner := [.int .i64 5, .string (⟨#[]⟩ : ByteArray), .slice none 0 0, .slice none 0 0, .slice Ao15 y140.length co15, .slice Ao14 x6_1.length co14, .slice none 0 0]) (ok := (fun _ => True)) (okp := (fun _ => True)) ?hr ?hp (fun _ hk => hk) ((show ∀ k_, w12.heap.size ≤ k_ → (fun _ => True) k_ from fun k_ hk => trivial) _ (Nat.le_refl _)) (Below.refl _ _) (Nat.le_refl _) (by simp) ?_; (case hd => rfl); (case hg => rfl); (case hr => first | (go_simp; done) | (go_simp; rfl)); (case hp => exact (Reps.c7 (show Kd.FK k41 _ _ (⟨5, (⟨#[]⟩ : ByteArray), ([] : List (S37)), ([] : List (S44)), y140, x6_1, ([] : List (S41))⟩ : S41) [.int .i64 5, .string (⟨#[]⟩ : ByteArray), .slice none 0 0, .slice none 0 0, .slice Ao15 y140.length co15, .slice Ao14 x6_1.length co14, .slice none 0 0] from (k41_mkF _ _ (⟨5, (⟨#[]⟩ : ByteArray), ([] : List (S37)), ([] : List (S44)), y140, x6_1, ([] : List (S41))⟩ : S41) (Nat.le_refl _) (Kd.F_nil _ _ _) (Nat.le_refl _) (Kd.F_nil _ _ _) (Kd.N_reads' (Kd.N_mono (ok' := (fun _ => True)) (HO142.out) (fun k_ hk => trivial))).2.1 (Kd.N_F (Kd.N_mono (ok' := (fun _ => True)) (HO142.out) (fun k_ hk => trivial))) (Kd.N_reads' (Kd.N_mono (ok' := (fun _ => True)) (HO_6.out) (fun k_ hk => trivial))).2.1 (Kd.N_F (Kd.N_mono (ok' := (fun _ => True)) (HO_6.out) (fun k_ hk => trivial))) (Nat.le_refl _) (Kd.F_nil _ _ _))) (Reps.none _ _))); intro v144 w16 ho17 hb hg_ hnew_; clear hg_ hnew_; (first | rw [← Ny143.out] at ho17 | (simp only [Int.reduceToNat] at ho17; rw [← Ny143.out] at ho17)); have n0_ := Aside0.mk (Kd.N_lower ho17 (below_size (by repeat (first | (with_reducible first | exact HB.out | apply below_alloc | apply pw_below_drewN | apply below_drew1) | exact HB.out)))); have n1_ := Aside0.mk (below_step (by repeat (first | (with_reducible first | exact HB.out | apply below_alloc | apply pw_below_drewN | apply below_drew1) | exact HB.out)) hb); clear HB; clear HO142; clear HO_6; have HO145 := n0_; have HB := n1_; clear n0_ n1_; clear hb ho17))
          go_roundg k1
          case measure => have := HK1.out; omega
          case rel => exact ⟨(y143), (wrap64 (x7_1 + 1)), (by first | rfl | (simp; done) | (simp [*]; done)), H', ⟨by have := HK1.out; omega⟩, ⟨by (with_reducible repeat (first | apply Kd.N_alloc | apply Kd.N_drewN | apply Kd.N_drew)); exact HO145.out⟩, ⟨by repeat (first | (with_reducible first | exact HB.out | apply below_alloc | apply pw_below_drewN | apply below_drew1) | exact HB.out)⟩⟩
        · rw [if_neg c11] at H
          have c11b0 : decide (x7_1 < (Go.bits .and .i64 a1 63)) = false := decide_eq_false c11
          clear c11
          replace H := Option.bind_eq_some_iff.mp H
          obtain ⟨t146, A180, H⟩ := H
          replace H : (if (Go.bits .and .i64 a1 63) ≥ 64 then ((stencillaw0_Num.f t146).bind fun t147 => (some (t147 == 1503))) else (if a0 ≥ 0 then (stencillaw15_CorePlaces.j1 k1 (Go.bits .and .i64 a1 63) x6_1 t146 (decide (a0 ≤ (Go.bits .and .i64 a1 63)))) else (stencillaw15_CorePlaces.j1 k1 (Go.bits .and .i64 a1 63) x6_1 t146 false))) = some r := H
          have A18 := Aside0.mk A180
          clear A180
          by_cases c19 : (Go.bits .and .i64 a1 63) ≥ 64
          · rw [if_pos c19] at H
            have c19b0 : decide (64 ≤ (Go.bits .and .i64 a1 63)) = true := decide_eq_true c19
            clear c19
            replace H := Option.bind_eq_some_iff.mp H
            obtain ⟨t147, A200, H⟩ := H
            replace H : (some (t147 == 1503)) = some r := H
            have A20 := Aside0.mk A200
            clear A200
            obtain rfl := Option.some.inj H
            obtain ⟨Ao21, co21, eo21⟩ := Kd.N_slice HO_6.out
            subst eo21
            go_wp2_with (first | ((with_reducible refine gate_callee (f := 8) rfl ?_); refine goesL_ (some 30) rfl rfl Tryd.func8 (by kernel_rfl) rfl #[.slice Ao21 x6_1.length co21] rfl (by (try simp only [List.map_toArray, List.map_cons, List.map_nil]); first | done | rfl | (simp only [List.length_drop, List.length_take]; rfl)) ?_; (with_reducible refine (core_Check.calls k1 _ _ x6_1 t146 _ ?side1 ?side2 ?side3 A18.out).mono ?_); (case side1 => exact LaidW.below hL (by repeat (first | (with_reducible first | exact HB.out | apply below_alloc | apply pw_below_drewN | apply below_drew1) | exact HB.out))); (case side2 => repeat (first | exact (Kd.N_reads' HO_6.out).2.2 | (with_reducible refine Kd.C_alloc ?_ _) | (with_reducible refine Kd.C_drewN ?_ _) | (with_reducible refine Kd.C_drew ?_))); (case side3 => exact (Kd.N_reads' HO_6.out).2.1); rintro e w22 ⟨rfl, hb⟩; refine ⟨_, rfl, ?_⟩; have n0_ := Aside0.mk (Kd.N_below (by (with_reducible repeat (first | apply Kd.N_alloc | apply Kd.N_drewN | apply Kd.N_drew)); exact HO_6.out) hb); have n1_ := Aside0.mk (below_step (by repeat (first | (with_reducible first | exact HB.out | apply below_alloc | apply pw_below_drewN | apply below_drew1) | exact HB.out)) hb); clear HO_6; clear HB; have HO_6 := n0_; have HB := n1_; clear n0_ n1_; (try clear hb); (try clear hb2); (try clear hk); (try clear hi)) | ((with_reducible refine gate_callee (f := 9) rfl ?_); refine goesL_ (some 34) rfl rfl Tryd.func9 (by kernel_rfl) rfl #[.int .i64 t146] rfl (by (try simp only [List.map_toArray, List.map_cons, List.map_nil]); first | done | rfl | (simp only [List.length_drop, List.length_take]; rfl)) ?_; (with_reducible refine (stencillaw0_Num.calls t146 t147 _ A20.out).mono ?_); rintro e w' ⟨rfl, ⟨nd, rfl⟩⟩; refine ⟨_, rfl, ?_⟩))
            go_ret
            exact ⟨by first | rfl | (simp [errW_none, errW_some] <;> rfl) | (simp [*, errW_none, errW_some] <;> rfl), by repeat (first | (with_reducible first | exact HB.out | apply below_alloc | apply pw_below_drewN | apply below_drew1) | exact HB.out)⟩
          · rw [if_neg c19] at H
            have c19b0 : decide (64 ≤ (Go.bits .and .i64 a1 63)) = false := decide_eq_false c19
            clear c19
            have HC23 := Aside0.mk H
            clear H
            obtain ⟨Ao24, co24, eo24⟩ := Kd.N_slice HO_6.out
            subst eo24
            go_upto_region 12 with (first | ((with_reducible refine gate_callee (f := 8) rfl ?_); refine goesL_ (some 30) rfl rfl Tryd.func8 (by kernel_rfl) rfl #[.slice Ao24 x6_1.length co24] rfl (by (try simp only [List.map_toArray, List.map_cons, List.map_nil]); first | done | rfl | (simp only [List.length_drop, List.length_take]; rfl)) ?_; (with_reducible refine (core_Check.calls k1 _ _ x6_1 t146 _ ?side1 ?side2 ?side3 A18.out).mono ?_); (case side1 => exact LaidW.below hL (by repeat (first | (with_reducible first | exact HB.out | apply below_alloc | apply pw_below_drewN | apply below_drew1) | exact HB.out))); (case side2 => repeat (first | exact (Kd.N_reads' HO_6.out).2.2 | (with_reducible refine Kd.C_alloc ?_ _) | (with_reducible refine Kd.C_drewN ?_ _) | (with_reducible refine Kd.C_drew ?_))); (case side3 => exact (Kd.N_reads' HO_6.out).2.1); rintro e w25 ⟨rfl, hb⟩; refine ⟨_, rfl, ?_⟩; have n0_ := Aside0.mk (Kd.N_below (by (with_reducible repeat (first | apply Kd.N_alloc | apply Kd.N_drewN | apply Kd.N_drew)); exact HO_6.out) hb); have n1_ := Aside0.mk (below_step (by repeat (first | (with_reducible first | exact HB.out | apply below_alloc | apply pw_below_drewN | apply below_drew1) | exact HB.out)) hb); clear HO_6; clear HB; have HO_6 := n0_; have HB := n1_; clear n0_ n1_; (try clear hb); (try clear hb2); (try clear hk); (try clear hi)))
            (try simp only [Act.put, List.setIfInBounds_toArray, List.set_cons_zero, List.set_cons_succ])
            go_cut [42] (fun v42 wc => ∃ (kq : Nat) (x42_22 : Bool), v42 = .bool x42_22 ∧ Aside0 (stencillaw15_CorePlaces.j1 kq (Go.bits .and .i64 a1 63) x6_1 t146 x42_22 = some r) ∧ Aside0 (kq ≤ k1) ∧ Aside0 (Kd.N k41 41 wc w.heap.size (fun _ => True) (.slice Ao24 x6_1.length co24) x6_1) ∧ Aside0 (Below w.heap.size w wc))
            case first =>
              have H := HC23.out
              clear HC23
              by_cases c26 : a0 ≥ 0
              · rw [if_pos c26] at H
                have c26b0 : decide (0 ≤ a0) = true := decide_eq_true c26
                clear c26
                (first | rw [c26b0] | (simp only [i64_w, i32_w]; rw [c26b0]) | skip)
                have H' := Aside0.mk H
                clear H
                go_wp2
                go_meet
                case rel => exact ⟨_, (decide (a0 ≤ (Go.bits .and .i64 a1 63))), (by first | rfl | (simp; done) | (simp [*]; done)), H', ⟨by have := HK1.out; first | omega | exact Nat.le_refl _⟩, ⟨by (with_reducible repeat (first | apply Kd.N_alloc | apply Kd.N_drewN | apply Kd.N_drew)); exact HO_6.out⟩, ⟨by repeat (first | (with_reducible first | exact HB.out | apply below_alloc | apply pw_below_drewN | apply below_drew1) | exact HB.out)⟩⟩
              · rw [if_neg c26] at H
                have c26b0 : decide (0 ≤ a0) = false := decide_eq_false c26
                clear c26
                (first | rw [c26b0] | (simp only [i64_w, i32_w]; rw [c26b0]) | skip)
                have H' := Aside0.mk H
                clear H
                go_wp2
                go_meet
                case rel => exact ⟨_, (false), (by first | rfl | (simp; done) | (simp [*]; done)), H', ⟨by have := HK1.out; first | omega | exact Nat.le_refl _⟩, ⟨by (with_reducible repeat (first | apply Kd.N_alloc | apply Kd.N_drewN | apply Kd.N_drew)); exact HO_6.out⟩, ⟨by repeat (first | (with_reducible first | exact HB.out | apply below_alloc | apply pw_below_drewN | apply below_drew1) | exact HB.out)⟩⟩
            case rest =>
              clear HC23
              try clear c1
              try clear c2
              try clear p2
              try clear c4
              try clear c5
              try clear c6
              try clear p6
              try clear c7
              try clear c8
              try clear c9
              try clear c11
              try clear c11b0
              try clear c19
              try clear c19b0
              try clear c26
              try clear c26b0
              try clear p2
              obtain ⟨kq, x42_22, rfl, HA, HJ22, HO_6, HB⟩ := hcut
              cases kq with
              | zero => exact absurd HA.out (by simp [stencillaw15_CorePlaces.j1])
              | succ kj22 =>
                have H := HA.out
                clear HA
                simp only [stencillaw15_CorePlaces.j1] at H
                by_cases c27 : x42_22 = true
                · subst c27
                  have H1 : ((stencillaw0_Num.f t146).bind fun t148 => (if t148 = 0 then ((core_Count.f kj22 x6_1).bind fun t149 => (some (t149 == (wrap64 ((Go.bits .and .i64 a1 63) + 1))))) else (some false))) = some r := by rw [if_pos rfl] at H; exact H
                  clear H
                  have H := H1
                  clear H1
                  replace H := Option.bind_eq_some_iff.mp H
                  obtain ⟨t148, A280, H⟩ := H
                  replace H : (if t148 = 0 then ((core_Count.f kj22 x6_1).bind fun t149 => (some (t149 == (wrap64 ((Go.bits .and .i64 a1 63) + 1))))) else (some false)) = some r := H
                  have A28 := Aside0.mk A280
                  clear A280
                  by_cases c29 : t148 = 0
                  · rw [if_pos c29] at H
                    have c29b0 : (t148 == 0) = true := beq_iff_eq.mpr c29
                    have c29b1 : (t148 != 0) = false := bne_eq_false_iff_eq.mpr c29
                    clear c29
                    replace H := Option.bind_eq_some_iff.mp H
                    obtain ⟨t149, A300, H⟩ := H
                    replace H : (some (t149 == (wrap64 ((Go.bits .and .i64 a1 63) + 1)))) = some r := H
                    have A30 := Aside0.mk A300
                    clear A300
                    obtain rfl := Option.some.inj H
                    go_wp2_with (first | ((with_reducible refine gate_callee (f := 9) rfl ?_); refine goesL_ (some 44) rfl rfl Tryd.func9 (by kernel_rfl) rfl #[.int .i64 t146] rfl (by (try simp only [List.map_toArray, List.map_cons, List.map_nil]); first | done | rfl | (simp only [List.length_drop, List.length_take]; rfl)) ?_; (with_reducible refine (stencillaw0_Num.calls t146 t148 _ A28.out).mono ?_); rintro e w' ⟨rfl, ⟨nd, rfl⟩⟩; refine ⟨_, rfl, ?_⟩) | (go_at_call 10; (with_reducible refine (core_Count.calls kj22 _ _ x6_1 t149 _ ?side1 ?side2 ?side3 A30.out).mono ?_); (case side1 => exact LaidW.below hL (by repeat (first | (with_reducible first | exact HB.out | apply below_alloc | apply pw_below_drewN | apply below_drew1) | exact HB.out))); (case side2 => repeat (first | exact (Kd.N_reads' HO_6.out).2.2 | (with_reducible refine Kd.C_alloc ?_ _) | (with_reducible refine Kd.C_drewN ?_ _) | (with_reducible refine Kd.C_drew ?_))); (case side3 => exact (Kd.N_reads' HO_6.out).2.1); rintro e w31 ⟨rfl, hb⟩; have n0_ := Aside0.mk (Kd.N_below (by (with_reducible repeat (first | apply Kd.N_alloc | apply Kd.N_drewN | apply Kd.N_drew)); exact HO_6.out) hb); have n1_ := Aside0.mk (below_step (by repeat (first | (with_reducible first | exact HB.out | apply below_alloc | apply pw_below_drewN | apply below_drew1) | exact HB.out)) hb); clear HO_6; clear HB; have HO_6 := n0_; have HB := n1_; clear n0_ n1_; (try clear hb); (try clear hb2); (try clear hk); (try clear hi)))
                    go_ret
                    exact ⟨by first | rfl | (simp [errW_none, errW_some] <;> rfl) | (simp [*, errW_none, errW_some] <;> rfl), by repeat (first | (with_reducible first | exact HB.out | apply below_alloc | apply pw_below_drewN | apply below_drew1) | exact HB.out)⟩
                  · rw [if_neg c29] at H
                    have c29b0 : (t148 == 0) = false := beq_eq_false_iff_ne.mpr c29
                    have c29b1 : (t148 != 0) = true := bne_iff_ne.mpr c29
                    obtain rfl := Option.some.inj H
                    go_wp2_with (first | ((with_reducible refine gate_callee (f := 9) rfl ?_); refine goesL_ (some 44) rfl rfl Tryd.func9 (by kernel_rfl) rfl #[.int .i64 t146] rfl (by (try simp only [List.map_toArray, List.map_cons, List.map_nil]); first | done | rfl | (simp only [List.length_drop, List.length_take]; rfl)) ?_; (with_reducible refine (stencillaw0_Num.calls t146 t148 _ A28.out).mono ?_); rintro e w' ⟨rfl, ⟨nd, rfl⟩⟩; refine ⟨_, rfl, ?_⟩))
                    go_ret
                    exact ⟨by first | rfl | (simp [errW_none, errW_some] <;> rfl) | (simp [*, errW_none, errW_some] <;> rfl), by repeat (first | (with_reducible first | exact HB.out | apply below_alloc | apply pw_below_drewN | apply below_drew1) | exact HB.out)⟩
                · replace c27 := Bool.eq_false_iff.mpr c27
                  subst c27
                  have H1 : ((stencillaw0_Num.f t146).bind fun t150 => (if t150 = 1502 then ((core_Count.f kj22 x6_1).bind fun t151 => (some (t151 == 0))) else (some false))) = some r := by rw [if_neg (show ¬ (false = true) by decide)] at H; exact H
                  clear H
                  have H := H1
                  clear H1
                  replace H := Option.bind_eq_some_iff.mp H
                  obtain ⟨t150, A320, H⟩ := H
                  replace H : (if t150 = 1502 then ((core_Count.f kj22 x6_1).bind fun t151 => (some (t151 == 0))) else (some false)) = some r := H
                  have A32 := Aside0.mk A320
                  clear A320
                  by_cases c33 : t150 = 1502
                  · rw [if_pos c33] at H
                    have c33b0 : (t150 == 1502) = true := beq_iff_eq.mpr c33
                    have c33b1 : (t150 != 1502) = false := bne_eq_false_iff_eq.mpr c33
                    clear c33
                    replace H := Option.bind_eq_some_iff.mp H
                    obtain ⟨t151, A340, H⟩ := H
                    replace H : (some (t151 == 0)) = some r := H
                    have A34 := Aside0.mk A340
                    clear A340
                    obtain rfl := Option.some.inj H
                    go_wp2_with (first | ((with_reducible refine gate_callee (f := 9) rfl ?_); refine goesL_ (some 54) rfl rfl Tryd.func9 (by kernel_rfl) rfl #[.int .i64 t146] rfl (by (try simp only [List.map_toArray, List.map_cons, List.map_nil]); first | done | rfl | (simp only [List.length_drop, List.length_take]; rfl)) ?_; (with_reducible refine (stencillaw0_Num.calls t146 t150 _ A32.out).mono ?_); rintro e w' ⟨rfl, ⟨nd, rfl⟩⟩; refine ⟨_, rfl, ?_⟩) | (go_at_call 10; (with_reducible refine (core_Count.calls kj22 _ _ x6_1 t151 _ ?side1 ?side2 ?side3 A34.out).mono ?_); (case side1 => exact LaidW.below hL (by repeat (first | (with_reducible first | exact HB.out | apply below_alloc | apply pw_below_drewN | apply below_drew1) | exact HB.out))); (case side2 => repeat (first | exact (Kd.N_reads' HO_6.out).2.2 | (with_reducible refine Kd.C_alloc ?_ _) | (with_reducible refine Kd.C_drewN ?_ _) | (with_reducible refine Kd.C_drew ?_))); (case side3 => exact (Kd.N_reads' HO_6.out).2.1); rintro e w35 ⟨rfl, hb⟩; have n0_ := Aside0.mk (Kd.N_below (by (with_reducible repeat (first | apply Kd.N_alloc | apply Kd.N_drewN | apply Kd.N_drew)); exact HO_6.out) hb); have n1_ := Aside0.mk (below_step (by repeat (first | (with_reducible first | exact HB.out | apply below_alloc | apply pw_below_drewN | apply below_drew1) | exact HB.out)) hb); clear HO_6; clear HB; have HO_6 := n0_; have HB := n1_; clear n0_ n1_; (try clear hb); (try clear hb2); (try clear hk); (try clear hi)))
                    go_ret
                    exact ⟨by first | rfl | (simp [errW_none, errW_some] <;> rfl) | (simp [*, errW_none, errW_some] <;> rfl), by repeat (first | (with_reducible first | exact HB.out | apply below_alloc | apply pw_below_drewN | apply below_drew1) | exact HB.out)⟩
                  · rw [if_neg c33] at H
                    have c33b0 : (t150 == 1502) = false := beq_eq_false_iff_ne.mpr c33
                    have c33b1 : (t150 != 1502) = true := bne_iff_ne.mpr c33
                    obtain rfl := Option.some.inj H
                    go_wp2_with (first | ((with_reducible refine gate_callee (f := 9) rfl ?_); refine goesL_ (some 54) rfl rfl Tryd.func9 (by kernel_rfl) rfl #[.int .i64 t146] rfl (by (try simp only [List.map_toArray, List.map_cons, List.map_nil]); first | done | rfl | (simp only [List.length_drop, List.length_take]; rfl)) ?_; (with_reducible refine (stencillaw0_Num.calls t146 t150 _ A32.out).mono ?_); rintro e w' ⟨rfl, ⟨nd, rfl⟩⟩; refine ⟨_, rfl, ?_⟩))
                    go_ret
                    exact ⟨by first | rfl | (simp [errW_none, errW_some] <;> rfl) | (simp [*, errW_none, errW_some] <;> rfl), by repeat (first | (with_reducible first | exact HB.out | apply below_alloc | apply pw_below_drewN | apply below_drew1) | exact HB.out)⟩
  · replace c4 := Bool.eq_false_iff.mpr c4
    subst c4
    have H1 : (some false) = some r := by rw [if_neg (show ¬ (false = true) by decide)] at H; exact H
    clear H
    have H := H1
    clear H1
    obtain rfl := Option.some.inj H
    go_enter Tryd.func4, Tryd.ntmps4
    go_wp2_with (first | ((with_reducible refine gate_callee (f := 5) rfl ?_); refine goesL_ (some 9) rfl rfl Tryd.func5 (by kernel_rfl) rfl #[] rfl (by (try simp only [List.map_toArray, List.map_cons, List.map_nil]); first | done | rfl | (simp only [List.length_drop, List.length_take]; rfl)) ?_; (with_reducible refine (stencillaw15_awake.calls k  false _ ?side1 A3.out).mono ?_); (case side1 => exact LaidW.below hL (by repeat (first | (with_reducible first | exact HB.out | apply below_alloc | apply pw_below_drewN | apply below_drew1) | exact HB.out))); rintro e w36 ⟨rfl, hb⟩; refine ⟨_, rfl, ?_⟩; have n0_ := Aside0.mk (below_step (by repeat (first | (with_reducible first | exact HB.out | apply below_alloc | apply pw_below_drewN | apply below_drew1) | exact HB.out)) hb); clear HB; have HB := n0_; clear n0_; (try clear hb); (try clear hb2); (try clear hk); (try clear hi)))
    go_ret
    exact ⟨by first | rfl | (simp [errW_none, errW_some] <;> rfl) | (simp [*, errW_none, errW_some] <;> rfl), by repeat (first | (with_reducible first | exact HB.out | apply below_alloc | apply pw_below_drewN | apply below_drew1) | exact HB.out)⟩

/-- THE ONE PURE STATEMENT of stencillaw15_CorePlaces: yours. -/
def stencillaw15_CorePlaces.Pure : Prop := ∀ (a0 : Int) (a1 : Int), (Lit.int .i64 a0).wf = true → (Lit.int .i64 a1).wf = true → ∃ k, stencillaw15_CorePlaces.f k a0 a1 = some true
theorem stencillaw15_CorePlaces.walk (P : stencillaw15_CorePlaces.Pure) (a0 : Int) (a1 : Int) (w : World)  (hL : LaidW w) (w0 : (Lit.int .i64 a0).wf = true) (w1 : (Lit.int .i64 a1).wf = true) :
    Calls Tryd.prog 4 #[.int .i64 a0, .int .i64 a1] w fun e w' => e = .returned (.bool true) ∧ Below w.heap.size w w' := by
  obtain ⟨k, h⟩ := P a0 a1 w0 w1
  refine (stencillaw15_CorePlaces.calls k a0 a1 true w hL h).mono ?_
  rintro e w' ⟨rfl, hd⟩
  exact ⟨rfl, hd⟩

end Go.Proofs.YtncpknhmoakjmaaDoor.PCorePlaces
