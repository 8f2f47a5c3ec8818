-- Written by wip/tools/print2.py (a program of this session's, over the kit's print) out of the translation. Not trusted: Lean checks it.
import Derived.Test.YtimdoelphelbeaaDoorPWholeTextsx0
import Derived.Test.YtimdoelphelbeaaDoorPWholeTextsx1
import Derived.Test.YtimdoelphelbeaaDoorPWholeTextsx2
namespace Go.Proofs.YtimdoelphelbeaaDoor.PWholeTexts
open Go.RowKit Go.Proofs.YtimdoelphelbeaaDoorW.PrintWords Go.Proofs.YtimdoelphelbeaaDoorW.PrintLast Go.Proofs.YtimdoelphelbeaaDoorW.PrintMore
attribute [local go_sem] max2_int min2_int max_two min_two max_three min_three max_four min_four   -- for this text's walks alone
set_option linter.unusedVariables false
set_option linter.unusedSimpArgs false

/-! ### whole_Mul: function 17: not printed -/
def whole_Mul.f (a0 : Int) (a1 : Int) : Option (Int × Int) :=
  if (-9223372036854775808 ≤ a0 ∧ a0 ≤ 9223372036854775807) ∧ (-9223372036854775808 ≤ a1 ∧ a1 ≤ 9223372036854775807) then
    (if -9223372036854775808 ≤ a0 * a1 ∧ a0 * a1 ≤ 9223372036854775807 then some (a0 * a1, 0) else some (0, 100)) else none
theorem wsize_f (a : Int) (h0 : -9223372036854775808 ≤ a) (h1 : a ≤ 9223372036854775807) : whole_size.f a = some ((a.natAbs : Nat) : Int) := by
  have e1 : ∀ z : Int, IntKind.u64.wrap z = z % 18446744073709551616 := fun _ => rfl
  unfold whole_size.f
  by_cases h : a < 0
  · rw [if_pos h, e1, e1]; congr 1; omega
  · rw [if_neg h, e1]; congr 1; omega
theorem below_mul (a b : Int) (x y : Nat) (hx : a.natAbs = x) (hy : b.natAbs = y) (hs : ((decide (a < 0)) != (decide (b < 0))) = true) : a * b = -((x * y : Nat) : Int) := by
  subst hx hy
  by_cases h1 : a < 0
  · by_cases h2 : b < 0
    · rw [decide_eq_true h1, decide_eq_true h2] at hs; exact absurd hs (by decide)
    · have e1 : ((a.natAbs : Nat) : Int) = -a := by omega
      have e2 : ((b.natAbs : Nat) : Int) = b := by omega
      rw [Int.natCast_mul, e1, e2, Int.neg_mul, Int.neg_neg]
  · by_cases h2 : b < 0
    · have e1 : ((a.natAbs : Nat) : Int) = a := by omega
      have e2 : ((b.natAbs : Nat) : Int) = -b := by omega
      rw [Int.natCast_mul, e1, e2, Int.mul_neg, Int.neg_neg]
    · rw [decide_eq_false h1, decide_eq_false h2] at hs; exact absurd hs (by decide)
theorem above_mul (a b : Int) (x y : Nat) (hx : a.natAbs = x) (hy : b.natAbs = y) (hs : ((decide (a < 0)) != (decide (b < 0))) = false) : a * b = ((x * y : Nat) : Int) := by
  subst hx hy
  by_cases h1 : a < 0
  · by_cases h2 : b < 0
    · have e1 : ((a.natAbs : Nat) : Int) = -a := by omega
      have e2 : ((b.natAbs : Nat) : Int) = -b := by omega
      rw [Int.natCast_mul, e1, e2, Int.neg_mul_neg]
    · rw [decide_eq_true h1, decide_eq_false h2] at hs; exact absurd hs (by decide)
  · by_cases h2 : b < 0
    · rw [decide_eq_false h1, decide_eq_true h2] at hs; exact absurd hs (by decide)
    · have e1 : ((a.natAbs : Nat) : Int) = a := by omega
      have e2 : ((b.natAbs : Nat) : Int) = b := by omega
      rw [Int.natCast_mul, e1, e2]
set_option maxHeartbeats 2000000 in
set_option maxRecDepth 100000 in
/-- The walk, every test decided. -/
theorem mul_walk (a0 a1 : Int) (x y hi lo : Int) (w : World) (below over : Bool) (S0 : Aside0 (whole_size.f a0 = some x)) (S1 : Aside0 (whole_size.f a1 = some y))
    (M : Aside0 (∀ w, Calls Tryd.prog 24 #[.int .u64 x, .int .u64 y] w fun e w' => e = .returned (.tuple #[.int .u64 hi, .int .u64 lo]) ∧ w' = w))
    (hs : ((decide (a0 < 0)) != (decide (a1 < 0))) = below) (hl0 : 0 ≤ lo) (hl1 : lo ≤ 18446744073709551615)
    (hov : over = (hi != 0 || decide ((if below then 9223372036854775808 else 9223372036854775807) < lo))) :
    Calls Tryd.prog 17 #[.int .i64 a0, .int .i64 a1] w fun e w' => e = .returned (if over then .tuple #[.int .i64 0, .int .i64 100] else if below then .tuple #[.int .i64 (wrap64 (IntKind.u64.wrap (-lo))), .int .i64 0] else .tuple #[.int .i64 (wrap64 lo), .int .i64 0]) ∧ Drawn0 w w' := by
  have hs2 : (!decide (a0 < 0) == decide (a1 < 0)) = below := by rw [← hs]; cases decide (a0 < 0) <;> cases decide (a1 < 0) <;> rfl
  cases h1 : (hi != 0) with
  | true =>
    rw [h1, Bool.true_or] at hov
    subst hov
    cases below with
    | true =>
      show Calls Tryd.prog 17 _ w fun e w' => e = .returned (.tuple #[.int .i64 0, .int .i64 100]) ∧ Drawn0 w w'
      go_enter Tryd.func17, Tryd.ntmps17
      go_wp2_with (first | (go_at_call 24; ((refine (M.out _).mono ?_); rintro e w' ⟨rfl, rfl⟩)) | (go_at_call 25; first | ((with_reducible refine (whole_size.calls a0 x _ S0.out).mono ?_); rintro e w' ⟨rfl, ⟨nd, rfl⟩⟩) | ((with_reducible refine (whole_size.calls a1 y _ S1.out).mono ?_); rintro e w' ⟨rfl, ⟨nd, rfl⟩⟩)))
      all_goals
        go_ret2
        exact ⟨rfl, by repeat (first | exact Drawn0.refl _ | apply Drawn0.step)⟩
    | false =>
      show Calls Tryd.prog 17 _ w fun e w' => e = .returned (.tuple #[.int .i64 0, .int .i64 100]) ∧ Drawn0 w w'
      go_enter Tryd.func17, Tryd.ntmps17
      go_wp2_with (first | (go_at_call 24; ((refine (M.out _).mono ?_); rintro e w' ⟨rfl, rfl⟩)) | (go_at_call 25; first | ((with_reducible refine (whole_size.calls a0 x _ S0.out).mono ?_); rintro e w' ⟨rfl, ⟨nd, rfl⟩⟩) | ((with_reducible refine (whole_size.calls a1 y _ S1.out).mono ?_); rintro e w' ⟨rfl, ⟨nd, rfl⟩⟩)))
      all_goals
        go_ret2
        exact ⟨rfl, by repeat (first | exact Drawn0.refl _ | apply Drawn0.step)⟩
  | false =>
    rw [h1, Bool.false_or] at hov
    have h1' : (hi == 0) = true := by simpa using h1
    cases below with
    | true =>
      rw [if_pos rfl] at hov
      have HOV := Aside0.mk hov.symm
      clear hov
      cases over with
      | true =>
        show Calls Tryd.prog 17 _ w fun e w' => e = .returned (.tuple #[.int .i64 0, .int .i64 100]) ∧ Drawn0 w w'
        go_enter Tryd.func17, Tryd.ntmps17
        go_wp2_with (first | (go_at_call 24; ((refine (M.out _).mono ?_); rintro e w' ⟨rfl, rfl⟩)) | (go_at_call 25; first | ((with_reducible refine (whole_size.calls a0 x _ S0.out).mono ?_); rintro e w' ⟨rfl, ⟨nd, rfl⟩⟩) | ((with_reducible refine (whole_size.calls a1 y _ S1.out).mono ?_); rintro e w' ⟨rfl, ⟨nd, rfl⟩⟩)))
        all_goals
          first
          | (go_ret2; exact ⟨rfl, by repeat (first | exact Drawn0.refl _ | apply Drawn0.step)⟩)
          | (exfalso; have h0 := HOV.out; simp only [decide_eq_true_eq, decide_eq_false_iff_not] at h0; omega)
      | false =>
        show Calls Tryd.prog 17 _ w fun e w' => e = .returned (.tuple #[.int .i64 (wrap64 (IntKind.u64.wrap (-lo))), .int .i64 0]) ∧ Drawn0 w w'
        go_enter Tryd.func17, Tryd.ntmps17
        go_wp2_with (first | (go_at_call 24; ((refine (M.out _).mono ?_); rintro e w' ⟨rfl, rfl⟩)) | (go_at_call 25; first | ((with_reducible refine (whole_size.calls a0 x _ S0.out).mono ?_); rintro e w' ⟨rfl, ⟨nd, rfl⟩⟩) | ((with_reducible refine (whole_size.calls a1 y _ S1.out).mono ?_); rintro e w' ⟨rfl, ⟨nd, rfl⟩⟩)))
        all_goals
          first
          | (go_ret2; exact ⟨rfl, by repeat (first | exact Drawn0.refl _ | apply Drawn0.step)⟩)
          | (exfalso; have h0 := HOV.out; simp only [decide_eq_true_eq, decide_eq_false_iff_not] at h0; omega)
    | false =>
      rw [if_neg (by decide)] at hov
      have HOV := Aside0.mk hov.symm
      clear hov
      cases over with
      | true =>
        show Calls Tryd.prog 17 _ w fun e w' => e = .returned (.tuple #[.int .i64 0, .int .i64 100]) ∧ Drawn0 w w'
        go_enter Tryd.func17, Tryd.ntmps17
        go_wp2_with (first | (go_at_call 24; ((refine (M.out _).mono ?_); rintro e w' ⟨rfl, rfl⟩)) | (go_at_call 25; first | ((with_reducible refine (whole_size.calls a0 x _ S0.out).mono ?_); rintro e w' ⟨rfl, ⟨nd, rfl⟩⟩) | ((with_reducible refine (whole_size.calls a1 y _ S1.out).mono ?_); rintro e w' ⟨rfl, ⟨nd, rfl⟩⟩)))
        all_goals
          first
          | (go_ret2; exact ⟨rfl, by repeat (first | exact Drawn0.refl _ | apply Drawn0.step)⟩)
          | (exfalso; have h0 := HOV.out; simp only [decide_eq_true_eq, decide_eq_false_iff_not] at h0; omega)
      | false =>
        show Calls Tryd.prog 17 _ w fun e w' => e = .returned (.tuple #[.int .i64 (wrap64 lo), .int .i64 0]) ∧ Drawn0 w w'
        rw [show wrap64 lo = lo by have h0 := HOV.out; simp only [decide_eq_false_iff_not] at h0; unfold wrap64; omega]
        go_enter Tryd.func17, Tryd.ntmps17
        go_wp2_with (first | (go_at_call 24; ((refine (M.out _).mono ?_); rintro e w' ⟨rfl, rfl⟩)) | (go_at_call 25; first | ((with_reducible refine (whole_size.calls a0 x _ S0.out).mono ?_); rintro e w' ⟨rfl, ⟨nd, rfl⟩⟩) | ((with_reducible refine (whole_size.calls a1 y _ S1.out).mono ?_); rintro e w' ⟨rfl, ⟨nd, rfl⟩⟩)))
        all_goals
          first
          | (go_ret2; exact ⟨rfl, by repeat (first | exact Drawn0.refl _ | apply Drawn0.step)⟩)
          | (exfalso; have h0 := HOV.out; simp only [decide_eq_true_eq, decide_eq_false_iff_not] at h0; omega)
theorem whole_Mul.calls (a0 : Int) (a1 : Int) (r1 : Int) (r2 : Int) (w : World) (h : whole_Mul.f a0 a1 = some (r1, r2)) :
    Calls Tryd.prog 17 #[.int .i64 a0, .int .i64 a1] w fun e w' => e = .returned (.tuple #[.int .i64 r1, .int .i64 r2]) ∧ Drawn0 w w' := by
  unfold whole_Mul.f at h
  by_cases hb : (-9223372036854775808 ≤ a0 ∧ a0 ≤ 9223372036854775807) ∧ (-9223372036854775808 ≤ a1 ∧ a1 ≤ 9223372036854775807)
  · rw [if_pos hb] at h
    obtain ⟨⟨l0, l1⟩, l2, l3⟩ := hb
    have S0 := Aside0.mk (wsize_f a0 l0 l1)
    have S1 := Aside0.mk (wsize_f a1 l2 l3)
    generalize hx : a0.natAbs = x at S0
    generalize hy : a1.natAbs = y at S1
    have bx : x < 18446744073709551616 := by omega
    have by_ : y < 18446744073709551616 := by omega
    have M := Aside0.mk (Tryd.bits_Mul64 x y bx by_)
    have e1 : ∀ z : Int, IntKind.u64.wrap z = z % 18446744073709551616 := fun _ => rfl
    have hW := mul_walk a0 a1 x y _ _ w _ _ S0 S1 M rfl (by omega) (by omega) rfl
    refine hW.mono fun e w' ⟨he, hd⟩ => ⟨?_, hd⟩
    rw [he]
    congr 1
    cases hs : ((decide (a0 < 0)) != (decide (a1 < 0))) with
    | true =>
      have hm := below_mul a0 a1 x y hx hy hs
      rw [hm] at h
      generalize x * y = p at h ⊢
      by_cases ho : p ≤ 9223372036854775808
      · rw [if_pos ⟨by omega, by omega⟩] at h
        injection h with h
        injection h with h1 h2
        have hq : p / 18446744073709551616 = 0 := by omega
        have hr : p % 18446744073709551616 = p := by omega
        have c1 : (((0 : Nat) : Int) != 0 || decide ((if true = true then (9223372036854775808 : Int) else 9223372036854775807) < (p : Int))) = false := by
          rw [if_pos rfl, decide_eq_false (by omega)]; rfl
        have hff : ¬ (false = true) := by decide
        have hw : wrap64 (-(p : Int) % 18446744073709551616) = -(p : Int) := by unfold wrap64; omega
        rw [hq, hr, c1, if_neg hff, if_pos rfl, ← h1, ← h2, e1, hw]
      · rw [if_neg (by omega)] at h
        injection h with h
        injection h with h1 h2
        have c1 : (((p / 18446744073709551616 : Nat) : Int) != 0 || decide ((if true = true then (9223372036854775808 : Int) else 9223372036854775807) < ((p % 18446744073709551616 : Nat) : Int))) = true := by
          rw [if_pos rfl, Bool.or_eq_true, bne_iff_ne, decide_eq_true_eq]; omega
        rw [c1, if_pos rfl, ← h1, ← h2]
    | false =>
      have hm := above_mul a0 a1 x y hx hy hs
      rw [hm] at h
      generalize x * y = p at h ⊢
      by_cases ho : p ≤ 9223372036854775807
      · rw [if_pos ⟨by omega, by omega⟩] at h
        injection h with h
        injection h with h1 h2
        have hq : p / 18446744073709551616 = 0 := by omega
        have hr : p % 18446744073709551616 = p := by omega
        have hff : ¬ (false = true) := by decide
        have c1 : (((0 : Nat) : Int) != 0 || decide ((if false = true then (9223372036854775808 : Int) else 9223372036854775807) < (p : Int))) = false := by
          rw [if_neg hff, decide_eq_false (by omega)]; rfl
        have hw : wrap64 (p : Int) = (p : Int) := by unfold wrap64; omega
        rw [hq, hr, c1, if_neg hff, if_neg hff, ← h1, ← h2, hw]
      · rw [if_neg (by omega)] at h
        injection h with h
        injection h with h1 h2
        have hff : ¬ (false = true) := by decide
        have c1 : (((p / 18446744073709551616 : Nat) : Int) != 0 || decide ((if false = true then (9223372036854775808 : Int) else 9223372036854775807) < ((p % 18446744073709551616 : Nat) : Int))) = true := by
          rw [if_neg hff, Bool.or_eq_true, bne_iff_ne, decide_eq_true_eq]; omega
        rw [c1, if_pos rfl, ← h1, ← h2]
  · rw [if_neg hb] at h; cases h

/-! ### whole_far: function 26 -/
def whole_far.f (a0 : Int) : Option (Bool) := if a0 < 0 then (some true) else (some (decide (a0 > 63)))
set_option maxHeartbeats 8000000 in
set_option maxRecDepth 100000 in
theorem whole_far.calls (a0 : Int) (r : Bool) (w : World) (h : whole_far.f a0 = some r) :
    Calls Tryd.prog 26 #[.int .i64 a0] w fun e w' => e = .returned (.bool r) ∧ Drawn0 w w' := by
  have H : (if a0 < 0 then (some true) else (some (decide (a0 > 63)))) = some r := h
  clear h
  by_cases c2 : a0 < 0
  · rw [if_pos c2] at H
    have c2b0 : decide (a0 < 0) = true := decide_eq_true c2
    clear c2
    obtain rfl := Option.some.inj H
    go_enter Tryd.func26, Tryd.ntmps26
    go_wp2
    go_ret
    exact ⟨by first | rfl | (simp; done) | (simp [*]; done), by repeat (first | exact Drawn0.refl _ | apply Drawn0.step)⟩
  · rw [if_neg c2] at H
    have c2b0 : decide (a0 < 0) = false := decide_eq_false c2
    clear c2
    obtain rfl := Option.some.inj H
    go_enter Tryd.func26, Tryd.ntmps26
    go_wp2
    go_ret
    exact ⟨by first | rfl | (simp; done) | (simp [*]; done), by repeat (first | exact Drawn0.refl _ | apply Drawn0.step)⟩

/-! ### whole_Shl: function 18 -/
def whole_Shl.f (a0 : Int) (a1 : Int) : Option (Int × Int) := (whole_far.f a1).bind fun t143 => (if t143 = true then (some (0, 102)) else (if 0 ≤ (IntKind.u64.wrap (a1)) then (if (shr .i64 (shl .i64 a0 (IntKind.u64.wrap (a1))) (IntKind.u64.wrap (a1))) = a0 then (some (shl .i64 a0 (IntKind.u64.wrap (a1)), 0)) else (some (0, 100))) else (none)))
set_option maxHeartbeats 8000000 in
set_option maxRecDepth 100000 in
theorem whole_Shl.calls (a0 : Int) (a1 : Int) (r1 : Int) (r2 : Int) (w : World) (h : whole_Shl.f a0 a1 = some (r1, r2)) :
    Calls Tryd.prog 18 #[.int .i64 a0, .int .i64 a1] w fun e w' => e = .returned (.tuple #[.int .i64 r1, .int .i64 r2]) ∧ Drawn0 w w' := by
  have H : ((whole_far.f a1).bind fun t143 => (if t143 = true then (some (0, 102)) else (if 0 ≤ (IntKind.u64.wrap (a1)) then (if (shr .i64 (shl .i64 a0 (IntKind.u64.wrap (a1))) (IntKind.u64.wrap (a1))) = a0 then (some (shl .i64 a0 (IntKind.u64.wrap (a1)), 0)) else (some (0, 100))) else (none)))) = some (r1, r2) := h
  clear h
  replace H := Option.bind_eq_some_iff.mp H
  obtain ⟨t143, A30, H⟩ := H
  replace H : (if t143 = true then (some (0, 102)) else (if 0 ≤ (IntKind.u64.wrap (a1)) then (if (shr .i64 (shl .i64 a0 (IntKind.u64.wrap (a1))) (IntKind.u64.wrap (a1))) = a0 then (some (shl .i64 a0 (IntKind.u64.wrap (a1)), 0)) else (some (0, 100))) else (none))) = some (r1, r2) := H
  have A3 := Aside0.mk A30
  clear A30
  by_cases c4 : t143 = true
  · subst c4
    have H1 : (some (0, 102)) = some (r1, r2) := by rw [if_pos rfl] at H; exact H
    clear H
    have H := H1
    clear H1
    simp only [Option.some.injEq, Prod.mk.injEq] at H
    obtain ⟨rfl, rfl⟩ := H
    go_enter Tryd.func18, Tryd.ntmps18
    go_wp2_with (first | ((with_reducible refine gate_callee (f := 26) rfl ?_); refine goesL_ (some 8) rfl rfl Tryd.func26 (by kernel_rfl) rfl #[.int .i64 a1] rfl (by (try simp only [List.map_toArray, List.map_cons, List.map_nil]); first | done | rfl | (simp only [List.length_drop, List.length_take]; rfl)) ?_; (with_reducible refine (whole_far.calls a1 true _ A3.out).mono ?_); rintro e w' ⟨rfl, ⟨nd, rfl⟩⟩; refine ⟨_, rfl, ?_⟩))
    go_ret2
    exact ⟨by first | rfl | (simp; done) | (simp [*]; done), by repeat (first | exact Drawn0.refl _ | apply Drawn0.step)⟩
  · replace c4 := Bool.eq_false_iff.mpr c4
    subst c4
    have H1 : (if 0 ≤ (IntKind.u64.wrap (a1)) then (if (shr .i64 (shl .i64 a0 (IntKind.u64.wrap (a1))) (IntKind.u64.wrap (a1))) = a0 then (some (shl .i64 a0 (IntKind.u64.wrap (a1)), 0)) else (some (0, 100))) else (none)) = some (r1, r2) := by rw [if_neg (show ¬ (false = true) by decide)] at H; exact H
    clear H
    have H := H1
    clear H1
    obtain ⟨ji5, hji5⟩ : ∃ j_ : Int, (IntKind.u64.wrap (a1)) = j_ := ⟨_, rfl⟩
    replace H : (if 0 ≤ (ji5) then (if (shr .i64 (shl .i64 a0 (ji5)) (ji5)) = a0 then (some (shl .i64 a0 (ji5), 0)) else (some (0, 100))) else (none)) = some (r1, r2) := by first | (rw [hji5] at H; exact H) | (simp only [hji5] at H ⊢; exact H)
    (try rw [hji5] at A3)
    by_cases c6 : 0 ≤ (ji5)
    · rw [if_pos c6] at H
      have c6b0 := eq_true c6
      have c6b1 : decide (0 ≤ (ji5)) = true := decide_eq_true c6
      clear c6
      obtain ⟨ji7, hji7⟩ : ∃ j_ : Int, (shl .i64 a0 (ji5)) = j_ := ⟨_, rfl⟩
      replace H : (if (shr .i64 (ji7) (ji5)) = a0 then (some (ji7, 0)) else (some (0, 100))) = some (r1, r2) := by first | (rw [hji7] at H; exact H) | (simp only [hji7] at H ⊢; exact H)
      (try rw [hji7] at A3)
      have hji7_ : (IntKind.i64.wrap (a0 * 2 ^ min (ji5).toNat 64)) = ji7 := hji7
      have hji7z : (ji5) ≤ 64 → (IntKind.i64.wrap (a0 * 2 ^ (ji5).toNat)) = ji7 := shl_small hji7
      have hji7y : (wrap64 (a0 * 2 ^ min (ji5).toNat 64)) = ji7 := (i64_w _).symm.trans hji7_
      have hji7x : (ji5) ≤ 64 → (wrap64 (a0 * 2 ^ (ji5).toNat)) = ji7 := fun h_ => (i64_w _).symm.trans (hji7z h_)
      have c8b0 := eq_true (of_decide_eq_true (by first | (with_reducible assumption) | assumption) : 0 ≤ (ji5))
      obtain ⟨ji9, hji9⟩ : ∃ j_ : Int, (shr .i64 (ji7) (ji5)) = j_ := ⟨_, rfl⟩
      replace H : (if (ji9) = a0 then (some (ji7, 0)) else (some (0, 100))) = some (r1, r2) := by first | (rw [hji9] at H; exact H) | (simp only [hji9] at H ⊢; exact H)
      (try rw [hji9] at A3)
      have hji9_ : ((ji7) / 2 ^ min (ji5).toNat 64) = ji9 := hji9
      have hji9z : (ji5) ≤ 64 → ((ji7) / 2 ^ (ji5).toNat) = ji9 := shr_small hji9
      by_cases c10 : (ji9) = a0
      · rw [if_pos c10] at H
        have c10b0 : ((ji9) == a0) = true := beq_iff_eq.mpr c10
        have c10b1 : ((ji9) != a0) = false := bne_eq_false_iff_eq.mpr c10
        clear c10
        simp only [Option.some.injEq, Prod.mk.injEq] at H
        obtain ⟨rfl, rfl⟩ := H
        go_enter Tryd.func18, Tryd.ntmps18
        go_wp2_with (first | ((with_reducible refine gate_callee (f := 26) rfl ?_); refine goesL_ (some 8) rfl rfl Tryd.func26 (by kernel_rfl) rfl #[.int .i64 a1] rfl (by (try simp only [List.map_toArray, List.map_cons, List.map_nil]); first | done | rfl | (simp only [List.length_drop, List.length_take]; rfl)) ?_; (with_reducible refine (whole_far.calls a1 false _ A3.out).mono ?_); rintro e w' ⟨rfl, ⟨nd, rfl⟩⟩; refine ⟨_, rfl, ?_⟩))
        go_ret2
        exact ⟨by first | rfl | (simp; done) | (simp only [← hji5, ← hji7, ← hji9] <;> (first | rfl | simp)) | (simp [*]; done), by repeat (first | exact Drawn0.refl _ | apply Drawn0.step)⟩
      · rw [if_neg c10] at H
        have c10b0 : ((ji9) == a0) = false := beq_eq_false_iff_ne.mpr c10
        have c10b1 : ((ji9) != a0) = true := bne_iff_ne.mpr c10
        simp only [Option.some.injEq, Prod.mk.injEq] at H
        obtain ⟨rfl, rfl⟩ := H
        go_enter Tryd.func18, Tryd.ntmps18
        go_wp2_with (first | ((with_reducible refine gate_callee (f := 26) rfl ?_); refine goesL_ (some 8) rfl rfl Tryd.func26 (by kernel_rfl) rfl #[.int .i64 a1] rfl (by (try simp only [List.map_toArray, List.map_cons, List.map_nil]); first | done | rfl | (simp only [List.length_drop, List.length_take]; rfl)) ?_; (with_reducible refine (whole_far.calls a1 false _ A3.out).mono ?_); rintro e w' ⟨rfl, ⟨nd, rfl⟩⟩; refine ⟨_, rfl, ?_⟩))
        go_ret2
        exact ⟨by first | rfl | (simp; done) | (simp only [← hji5, ← hji7, ← hji9] <;> (first | rfl | simp)) | (simp [*]; done), by repeat (first | exact Drawn0.refl _ | apply Drawn0.step)⟩
    · rw [if_neg c6] at H
      exact absurd H (by simp)

/-! ### whole_To: function 19 -/
mutual
def whole_To.j0 : Nat → Int → Int → Bool → Bool → Option (Int × Int)
  | 0, _, _, _, _ => none
  | k + 1, x0, x1, x2, x8 => if x8 = true then (some (wrap64 (IntKind.i8.wrap (x0)), 0)) else (if x1 = 8 then (some ((x0) % 256, 0)) else (if x1 = 16 then (whole_To.j1 k x0 x1 x2 x2) else (whole_To.j1 k x0 x1 x2 false)))
def whole_To.j1 : Nat → Int → Int → Bool → Bool → Option (Int × Int)
  | 0, _, _, _, _ => none
  | k + 1, x0, x1, x2, x23 => if x23 = true then (some (wrap64 (IntKind.i16.wrap (x0)), 0)) else (if x1 = 16 then (some (wrap64 (IntKind.u16.wrap (x0)), 0)) else (if x1 = 32 then (whole_To.j2 k x0 x1 x2) else (whole_To.j2 k x0 x1 false)))
def whole_To.j2 : Nat → Int → Int → Bool → Option (Int × Int)
  | 0, _, _, _ => none
  | k + 1, x0, x1, x38 => if x38 = true then (some (wrap64 (wrap32 (x0)), 0)) else (if x1 = 32 then (some ((x0) % 4294967296, 0)) else (some (0, 103)))
end
def whole_To.f (k : Nat) (a0 : Int) (a1 : Int) (a2 : Bool) : Option (Int × Int) := if a1 = 8 then (whole_To.j0 k a0 a1 a2 a2) else (whole_To.j0 k a0 a1 a2 false)
theorem whole_To.mono_l : ∀ k, (∀ y0 y1 y2 y3, LeO (whole_To.j0 k y0 y1 y2 y3) (whole_To.j0 (k + 1) y0 y1 y2 y3)) ∧ (∀ y0 y1 y2 y3, LeO (whole_To.j1 k y0 y1 y2 y3) (whole_To.j1 (k + 1) y0 y1 y2 y3)) ∧ (∀ y0 y1 y2, LeO (whole_To.j2 k y0 y1 y2) (whole_To.j2 (k + 1) y0 y1 y2))
  | 0 => ⟨fun _ _ _ _ r h => by simp [whole_To.j0] at h, fun _ _ _ _ r h => by simp [whole_To.j1] at h, fun _ _ _ r h => by simp [whole_To.j2] at h⟩
  | k + 1 => by
    obtain ⟨ih0, ih1, ih2⟩ := whole_To.mono_l k
    refine ⟨?_, ?_, ?_⟩
    · intro y0 y1 y2 y3
      unfold whole_To.j0
      repeat' first
      | (with_reducible exact ih0 _ _ _ _)
      | (with_reducible exact ih1 _ _ _ _)
      | (with_reducible exact ih2 _ _ _)
      | (with_reducible exact LeO.refl _)
      | (with_reducible exact LeO.none _)
      | (with_reducible refine LeO.ite ?_ ?_)
      | (with_reducible refine LeO.bind ?_ (fun _ => ?_))
      | exact ih0 _ _ _ _
      | exact ih1 _ _ _ _
      | exact ih2 _ _ _
      | exact LeO.none _
      | refine LeO.ite ?_ ?_
      | refine LeO.bind ?_ (fun _ => ?_)
    · intro y0 y1 y2 y3
      unfold whole_To.j1
      repeat' first
      | (with_reducible exact ih0 _ _ _ _)
      | (with_reducible exact ih1 _ _ _ _)
      | (with_reducible exact ih2 _ _ _)
      | (with_reducible exact LeO.refl _)
      | (with_reducible exact LeO.none _)
      | (with_reducible refine LeO.ite ?_ ?_)
      | (with_reducible refine LeO.bind ?_ (fun _ => ?_))
      | exact ih0 _ _ _ _
      | exact ih1 _ _ _ _
      | exact ih2 _ _ _
      | exact LeO.none _
      | refine LeO.ite ?_ ?_
      | refine LeO.bind ?_ (fun _ => ?_)
    · intro y0 y1 y2
      unfold whole_To.j2
      repeat' first
      | (with_reducible exact ih0 _ _ _ _)
      | (with_reducible exact ih1 _ _ _ _)
      | (with_reducible exact ih2 _ _ _)
      | (with_reducible exact LeO.refl _)
      | (with_reducible exact LeO.none _)
      | (with_reducible refine LeO.ite ?_ ?_)
      | (with_reducible refine LeO.bind ?_ (fun _ => ?_))
      | exact ih0 _ _ _ _
      | exact ih1 _ _ _ _
      | exact ih2 _ _ _
      | exact LeO.none _
      | refine LeO.ite ?_ ?_
      | refine LeO.bind ?_ (fun _ => ?_)
theorem whole_To.mono : ∀ a0 a1 a2 k, LeO (whole_To.f k a0 a1 a2) (whole_To.f (k + 1) a0 a1 a2) := by
  intro a0 a1 a2 k
  obtain ⟨ih0, ih1, ih2⟩ := whole_To.mono_l k
  unfold whole_To.f
  repeat' first
      | (with_reducible exact ih0 _ _ _ _)
      | (with_reducible exact ih1 _ _ _ _)
      | (with_reducible exact ih2 _ _ _)
      | (with_reducible exact LeO.refl _)
      | (with_reducible exact LeO.none _)
      | (with_reducible refine LeO.ite ?_ ?_)
      | (with_reducible refine LeO.bind ?_ (fun _ => ?_))
      | exact ih0 _ _ _ _
      | exact ih1 _ _ _ _
      | exact ih2 _ _ _
      | exact LeO.none _
      | refine LeO.ite ?_ ?_
      | refine LeO.bind ?_ (fun _ => ?_)
set_option maxHeartbeats 8000000 in
set_option maxRecDepth 100000 in
theorem whole_To.calls (k : Nat) (a0 : Int) (a1 : Int) (a2 : Bool) (r1 : Int) (r2 : Int) (w : World) (h : whole_To.f k a0 a1 a2 = some (r1, r2)) :
    Calls Tryd.prog 19 #[.int .i64 a0, .int .i64 a1, .bool a2] w fun e w' => e = .returned (.tuple #[.int .i64 r1, .int .i64 r2]) ∧ Drawn0 w w' := by
  have H : (if a1 = 8 then (whole_To.j0 k a0 a1 a2 a2) else (whole_To.j0 k a0 a1 a2 false)) = some (r1, r2) := h
  clear h
  have HC4 := Aside0.mk H
  clear H
  go_enter Tryd.func19, Tryd.ntmps19
  go_upto_region 1 with (fail)
  go_cut [8] (fun v8 wc => ∃ (kq : Nat) (x8_3 : Bool), v8 = .bool x8_3 ∧ Aside0 (whole_To.j0 kq a0 a1 a2 x8_3 = some (r1, r2)) ∧ Aside0 (kq ≤ k) ∧ Drawn0 w wc)
  case first =>
    have H := HC4.out
    clear HC4
    by_cases c5 : a1 = 8
    · rw [if_pos c5] at H
      have c5b0 : (a1 == 8) = true := beq_iff_eq.mpr c5
      have c5b1 : (a1 != 8) = false := bne_eq_false_iff_eq.mpr c5
      clear c5
      (first | rw [c5b0] | (simp only [i64_w, i32_w]; rw [c5b0]) | skip)
      have H' := Aside0.mk H
      clear H
      go_wp2
      go_meet
      case rel => exact ⟨_, (a2), (by first | rfl | (simp; done) | (simp [*]; done)), H', ⟨by first | omega | exact Nat.le_refl _⟩, by repeat (first | exact Drawn0.refl _ | apply Drawn0.step)⟩
    · rw [if_neg c5] at H
      have c5b0 : (a1 == 8) = false := beq_eq_false_iff_ne.mpr c5
      have c5b1 : (a1 != 8) = true := bne_iff_ne.mpr c5
      (first | rw [c5b0] | (simp only [i64_w, i32_w]; rw [c5b0]) | skip)
      have H' := Aside0.mk H
      clear H
      go_wp2
      go_meet
      case rel => exact ⟨_, (false), (by first | rfl | (simp; done) | (simp [*]; done)), H', ⟨by first | omega | exact Nat.le_refl _⟩, by repeat (first | exact Drawn0.refl _ | apply Drawn0.step)⟩
  case rest =>
    clear HC4
    try clear c1
    try clear p2
    try clear c5
    try clear c5b0
    try clear c5b1
    obtain ⟨kq, x8_3, rfl, HA, HJ3, ⟨mc3, rfl⟩⟩ := hcut
    cases kq with
    | zero => exact absurd HA.out (by simp [whole_To.j0])
    | succ kj3 =>
      have H := HA.out
      clear HA
      simp only [whole_To.j0] at H
      by_cases c6 : x8_3 = true
      · subst c6
        have H1 : (some (wrap64 (IntKind.i8.wrap (a0)), 0)) = some (r1, r2) := by rw [if_pos rfl] at H; exact H
        clear H
        have H := H1
        clear H1
        simp only [Option.some.injEq, Prod.mk.injEq] at H
        obtain ⟨rfl, rfl⟩ := H
        go_wp2
        go_ret2
        exact ⟨by first | rfl | (simp; done) | (simp [*]; done), by repeat (first | exact Drawn0.refl _ | apply Drawn0.step)⟩
      · replace c6 := Bool.eq_false_iff.mpr c6
        subst c6
        have H1 : (if a1 = 8 then (some ((a0) % 256, 0)) else (if a1 = 16 then (whole_To.j1 kj3 a0 a1 a2 a2) else (whole_To.j1 kj3 a0 a1 a2 false))) = some (r1, r2) := by rw [if_neg (show ¬ (false = true) by decide)] at H; exact H
        clear H
        have H := H1
        clear H1
        by_cases c7 : a1 = 8
        · rw [if_pos c7] at H
          have c7b0 : (a1 == 8) = true := beq_iff_eq.mpr c7
          have c7b1 : (a1 != 8) = false := bne_eq_false_iff_eq.mpr c7
          clear c7
          simp only [Option.some.injEq, Prod.mk.injEq] at H
          obtain ⟨rfl, rfl⟩ := H
          go_wp2
          go_ret2
          exact ⟨by first | rfl | (simp; done) | (simp [*]; done), by repeat (first | exact Drawn0.refl _ | apply Drawn0.step)⟩
        · rw [if_neg c7] at H
          have c7b0 : (a1 == 8) = false := beq_eq_false_iff_ne.mpr c7
          have c7b1 : (a1 != 8) = true := bne_iff_ne.mpr c7
          have HC8 := Aside0.mk H
          clear H
          go_upto_region 5 with (fail)
          go_cut [23] (fun v23 wc => ∃ (kq : Nat) (x23_7 : Bool), v23 = .bool x23_7 ∧ Aside0 (whole_To.j1 kq a0 a1 a2 x23_7 = some (r1, r2)) ∧ Aside0 (kq ≤ kj3) ∧ Drawn0 w wc)
          case first =>
            have H := HC8.out
            clear HC8
            by_cases c9 : a1 = 16
            · rw [if_pos c9] at H
              have c9b0 : (a1 == 16) = true := beq_iff_eq.mpr c9
              have c9b1 : (a1 != 16) = false := bne_eq_false_iff_eq.mpr c9
              clear c9
              (first | rw [c9b0] | (simp only [i64_w, i32_w]; rw [c9b0]) | skip)
              have H' := Aside0.mk H
              clear H
              go_wp2
              go_meet
              case rel => exact ⟨_, (a2), (by first | rfl | (simp; done) | (simp [*]; done)), H', ⟨by have := HJ3.out; first | omega | exact Nat.le_refl _⟩, by repeat (first | exact Drawn0.refl _ | apply Drawn0.step)⟩
            · rw [if_neg c9] at H
              have c9b0 : (a1 == 16) = false := beq_eq_false_iff_ne.mpr c9
              have c9b1 : (a1 != 16) = true := bne_iff_ne.mpr c9
              (first | rw [c9b0] | (simp only [i64_w, i32_w]; rw [c9b0]) | skip)
              have H' := Aside0.mk H
              clear H
              go_wp2
              go_meet
              case rel => exact ⟨_, (false), (by first | rfl | (simp; done) | (simp [*]; done)), H', ⟨by have := HJ3.out; first | omega | exact Nat.le_refl _⟩, by repeat (first | exact Drawn0.refl _ | apply Drawn0.step)⟩
          case rest =>
            clear HC8
            try clear c1
            try clear p2
            try clear c3
            try clear c5
            try clear c5b0
            try clear c5b1
            try clear c6
            try clear p6
            try clear c7
            try clear c7b0
            try clear c7b1
            try clear c9
            try clear c9b0
            try clear c9b1
            try clear p2
            obtain ⟨kq, x23_7, rfl, HA, HJ7, ⟨mc7, rfl⟩⟩ := hcut
            cases kq with
            | zero => exact absurd HA.out (by simp [whole_To.j1])
            | succ kj7 =>
              have H := HA.out
              clear HA
              simp only [whole_To.j1] at H
              by_cases c10 : x23_7 = true
              · subst c10
                have H1 : (some (wrap64 (IntKind.i16.wrap (a0)), 0)) = some (r1, r2) := by rw [if_pos rfl] at H; exact H
                clear H
                have H := H1
                clear H1
                simp only [Option.some.injEq, Prod.mk.injEq] at H
                obtain ⟨rfl, rfl⟩ := H
                go_wp2
                go_ret2
                exact ⟨by first | rfl | (simp; done) | (simp [*]; done), by repeat (first | exact Drawn0.refl _ | apply Drawn0.step)⟩
              · replace c10 := Bool.eq_false_iff.mpr c10
                subst c10
                have H1 : (if a1 = 16 then (some (wrap64 (IntKind.u16.wrap (a0)), 0)) else (if a1 = 32 then (whole_To.j2 kj7 a0 a1 a2) else (whole_To.j2 kj7 a0 a1 false))) = some (r1, r2) := by rw [if_neg (show ¬ (false = true) by decide)] at H; exact H
                clear H
                have H := H1
                clear H1
                by_cases c11 : a1 = 16
                · rw [if_pos c11] at H
                  have c11b0 : (a1 == 16) = true := beq_iff_eq.mpr c11
                  have c11b1 : (a1 != 16) = false := bne_eq_false_iff_eq.mpr c11
                  clear c11
                  simp only [Option.some.injEq, Prod.mk.injEq] at H
                  obtain ⟨rfl, rfl⟩ := H
                  go_wp2
                  go_ret2
                  exact ⟨by first | rfl | (simp; done) | (simp [*]; done), by repeat (first | exact Drawn0.refl _ | apply Drawn0.step)⟩
                · rw [if_neg c11] at H
                  have c11b0 : (a1 == 16) = false := beq_eq_false_iff_ne.mpr c11
                  have c11b1 : (a1 != 16) = true := bne_iff_ne.mpr c11
                  have HC12 := Aside0.mk H
                  clear H
                  go_upto_region 9 with (fail)
                  go_cut [38] (fun v38 wc => ∃ (kq : Nat) (x38_11 : Bool), v38 = .bool x38_11 ∧ Aside0 (whole_To.j2 kq a0 a1 x38_11 = some (r1, r2)) ∧ Aside0 (kq ≤ kj7) ∧ Drawn0 w wc)
                  case first =>
                    have H := HC12.out
                    clear HC12
                    by_cases c13 : a1 = 32
                    · rw [if_pos c13] at H
                      have c13b0 : (a1 == 32) = true := beq_iff_eq.mpr c13
                      have c13b1 : (a1 != 32) = false := bne_eq_false_iff_eq.mpr c13
                      clear c13
                      (first | rw [c13b0] | (simp only [i64_w, i32_w]; rw [c13b0]) | skip)
                      have H' := Aside0.mk H
                      clear H
                      go_wp2
                      go_meet
                      case rel => exact ⟨_, (a2), (by first | rfl | (simp; done) | (simp [*]; done)), H', ⟨by have := HJ3.out; have := HJ7.out; first | omega | exact Nat.le_refl _⟩, by repeat (first | exact Drawn0.refl _ | apply Drawn0.step)⟩
                    · rw [if_neg c13] at H
                      have c13b0 : (a1 == 32) = false := beq_eq_false_iff_ne.mpr c13
                      have c13b1 : (a1 != 32) = true := bne_iff_ne.mpr c13
                      (first | rw [c13b0] | (simp only [i64_w, i32_w]; rw [c13b0]) | skip)
                      have H' := Aside0.mk H
                      clear H
                      go_wp2
                      go_meet
                      case rel => exact ⟨_, (false), (by first | rfl | (simp; done) | (simp [*]; done)), H', ⟨by have := HJ3.out; have := HJ7.out; first | omega | exact Nat.le_refl _⟩, by repeat (first | exact Drawn0.refl _ | apply Drawn0.step)⟩
                  case rest =>
                    clear HC12
                    try clear c1
                    try clear p2
                    try clear c3
                    try clear c5
                    try clear c5b0
                    try clear c5b1
                    try clear c6
                    try clear p6
                    try clear c7
                    try clear c7b0
                    try clear c7b1
                    try clear c9
                    try clear c9b0
                    try clear c9b1
                    try clear c10
                    try clear c11
                    try clear c11b0
                    try clear c11b1
                    try clear c13
                    try clear c13b0
                    try clear c13b1
                    try clear p2
                    try clear p6
                    obtain ⟨kq, x38_11, rfl, HA, HJ11, ⟨mc11, rfl⟩⟩ := hcut
                    cases kq with
                    | zero => exact absurd HA.out (by simp [whole_To.j2])
                    | succ kj11 =>
                      have H := HA.out
                      clear HA
                      simp only [whole_To.j2] at H
                      by_cases c14 : x38_11 = true
                      · subst c14
                        have H1 : (some (wrap64 (wrap32 (a0)), 0)) = some (r1, r2) := by rw [if_pos rfl] at H; exact H
                        clear H
                        have H := H1
                        clear H1
                        simp only [Option.some.injEq, Prod.mk.injEq] at H
                        obtain ⟨rfl, rfl⟩ := H
                        go_wp2
                        go_ret2
                        exact ⟨by first | rfl | (simp; done) | (simp [*]; done), by repeat (first | exact Drawn0.refl _ | apply Drawn0.step)⟩
                      · replace c14 := Bool.eq_false_iff.mpr c14
                        subst c14
                        have H1 : (if a1 = 32 then (some ((a0) % 4294967296, 0)) else (some (0, 103))) = some (r1, r2) := by rw [if_neg (show ¬ (false = true) by decide)] at H; exact H
                        clear H
                        have H := H1
                        clear H1
                        by_cases c15 : a1 = 32
                        · rw [if_pos c15] at H
                          have c15b0 : (a1 == 32) = true := beq_iff_eq.mpr c15
                          have c15b1 : (a1 != 32) = false := bne_eq_false_iff_eq.mpr c15
                          clear c15
                          simp only [Option.some.injEq, Prod.mk.injEq] at H
                          obtain ⟨rfl, rfl⟩ := H
                          go_wp2
                          go_ret2
                          exact ⟨by first | rfl | (simp; done) | (simp [*]; done), by repeat (first | exact Drawn0.refl _ | apply Drawn0.step)⟩
                        · rw [if_neg c15] at H
                          have c15b0 : (a1 == 32) = false := beq_eq_false_iff_ne.mpr c15
                          have c15b1 : (a1 != 32) = true := bne_iff_ne.mpr c15
                          simp only [Option.some.injEq, Prod.mk.injEq] at H
                          obtain ⟨rfl, rfl⟩ := H
                          go_wp2
                          go_ret2
                          exact ⟨by first | rfl | (simp; done) | (simp [*]; done), by repeat (first | exact Drawn0.refl _ | apply Drawn0.step)⟩

/-! ### whole_Neg: function 27 -/
def whole_Neg.f (a0 : Int) : Option (Int × Int) := if a0 = (-9223372036854775808) then (some (0, 100)) else (some (wrap64 (-a0), 0))
set_option maxHeartbeats 8000000 in
set_option maxRecDepth 100000 in
theorem whole_Neg.calls (a0 : Int) (r1 : Int) (r2 : Int) (w : World) (h : whole_Neg.f a0 = some (r1, r2)) :
    Calls Tryd.prog 27 #[.int .i64 a0] w fun e w' => e = .returned (.tuple #[.int .i64 r1, .int .i64 r2]) ∧ Drawn0 w w' := by
  have H : (if a0 = (-9223372036854775808) then (some (0, 100)) else (some (wrap64 (-a0), 0))) = some (r1, r2) := h
  clear h
  by_cases c2 : a0 = (-9223372036854775808)
  · rw [if_pos c2] at H
    have c2b0 : (a0 == (-9223372036854775808)) = true := beq_iff_eq.mpr c2
    have c2b1 : (a0 != (-9223372036854775808)) = false := bne_eq_false_iff_eq.mpr c2
    clear c2
    simp only [Option.some.injEq, Prod.mk.injEq] at H
    obtain ⟨rfl, rfl⟩ := H
    go_enter Tryd.func27, Tryd.ntmps27
    go_wp2
    go_ret2
    exact ⟨by first | rfl | (simp; done) | (simp [*]; done), by repeat (first | exact Drawn0.refl _ | apply Drawn0.step)⟩
  · rw [if_neg c2] at H
    have c2b0 : (a0 == (-9223372036854775808)) = false := beq_eq_false_iff_ne.mpr c2
    have c2b1 : (a0 != (-9223372036854775808)) = true := bne_iff_ne.mpr c2
    simp only [Option.some.injEq, Prod.mk.injEq] at H
    obtain ⟨rfl, rfl⟩ := H
    go_enter Tryd.func27, Tryd.ntmps27
    go_wp2
    go_ret2
    exact ⟨by first | rfl | (simp; done) | (simp [*]; done), by repeat (first | exact Drawn0.refl _ | apply Drawn0.step)⟩

/-! ### whole_Div: function 20 -/
def whole_Div.f (a0 : Int) (a1 : Int) : Option (Int × Int) := if a1 = 0 then (some (0, 101)) else (if a1 = (-1) then ((whole_Neg.f a0).bind fun bt144 => (some (bt144.1, bt144.2))) else (some (wrap64 (Int.tdiv a0 a1), 0)))
set_option maxHeartbeats 8000000 in
set_option maxRecDepth 100000 in
theorem whole_Div.calls (a0 : Int) (a1 : Int) (r1 : Int) (r2 : Int) (w : World) (h : whole_Div.f a0 a1 = some (r1, r2)) :
    Calls Tryd.prog 20 #[.int .i64 a0, .int .i64 a1] w fun e w' => e = .returned (.tuple #[.int .i64 r1, .int .i64 r2]) ∧ Drawn0 w w' := by
  have H : (if a1 = 0 then (some (0, 101)) else (if a1 = (-1) then ((whole_Neg.f a0).bind fun bt144 => (some (bt144.1, bt144.2))) else (some (wrap64 (Int.tdiv a0 a1), 0)))) = some (r1, r2) := h
  clear h
  by_cases c3 : a1 = 0
  · rw [if_pos c3] at H
    have c3b0 : (a1 == 0) = true := beq_iff_eq.mpr c3
    have c3b1 : (a1 != 0) = false := bne_eq_false_iff_eq.mpr c3
    clear c3
    simp only [Option.some.injEq, Prod.mk.injEq] at H
    obtain ⟨rfl, rfl⟩ := H
    go_enter Tryd.func20, Tryd.ntmps20
    go_wp2
    go_ret2
    exact ⟨by first | rfl | (simp; done) | (simp [*]; done), by repeat (first | exact Drawn0.refl _ | apply Drawn0.step)⟩
  · rw [if_neg c3] at H
    have c3b0 : (a1 == 0) = false := beq_eq_false_iff_ne.mpr c3
    have c3b1 : (a1 != 0) = true := bne_iff_ne.mpr c3
    by_cases c4 : a1 = (-1)
    · rw [if_pos c4] at H
      have c4b0 : (a1 == (-1)) = true := beq_iff_eq.mpr c4
      have c4b1 : (a1 != (-1)) = false := bne_eq_false_iff_eq.mpr c4
      clear c4
      replace H := Option.bind_eq_some_iff.mp H
      obtain ⟨⟨t144, t145⟩, A50, H⟩ := H
      replace H : (some (t144, t145)) = some (r1, r2) := H
      have A5 := Aside0.mk A50
      clear A50
      simp only [Option.some.injEq, Prod.mk.injEq] at H
      obtain ⟨rfl, rfl⟩ := H
      go_enter Tryd.func20, Tryd.ntmps20
      go_wp2_with (first | ((with_reducible refine gate_callee (f := 27) rfl ?_); refine goesL_ (some 13) rfl rfl Tryd.func27 (by kernel_rfl) rfl #[.int .i64 a0] rfl (by (try simp only [List.map_toArray, List.map_cons, List.map_nil]); first | done | rfl | (simp only [List.length_drop, List.length_take]; rfl)) ?_; (with_reducible refine (whole_Neg.calls a0 t144 t145 _ A5.out).mono ?_); rintro e w' ⟨rfl, ⟨nd, rfl⟩⟩; refine ⟨_, rfl, ?_⟩))
      go_ret2
      exact ⟨by first | rfl | (simp; done) | (simp [*]; done), by repeat (first | exact Drawn0.refl _ | apply Drawn0.step)⟩
    · rw [if_neg c4] at H
      have c4b0 : (a1 == (-1)) = false := beq_eq_false_iff_ne.mpr c4
      have c4b1 : (a1 != (-1)) = true := bne_iff_ne.mpr c4
      simp only [Option.some.injEq, Prod.mk.injEq] at H
      obtain ⟨rfl, rfl⟩ := H
      go_enter Tryd.func20, Tryd.ntmps20
      go_wp2
      go_ret2
      exact ⟨by first | rfl | (simp; done) | (simp [*]; done), by repeat (first | exact Drawn0.refl _ | apply Drawn0.step)⟩

/-! ### stencillaw1_awake: function 9 -/
def stencillaw1_awake.f (k : Nat)  : Option (Bool) := (whole_Add.f 2 3).bind fun bt146 => ((whole_Mul.f (-2) 3).bind fun bt148 => ((whole_Shl.f 1 62).bind fun bt150 => ((whole_To.f k 300 8 false).bind fun bt152 => ((whole_Parse.f (⟨#[45, 49, 50]⟩ : ByteArray)).bind fun bt154 => ((whole_Div.f 1 0).bind fun bt156 => ((stencillaw1_fine.f bt146.1 bt146.2 5 0).bind fun t158 => (if t158 = true then ((stencillaw1_fine.f bt148.1 bt148.2 (-6) 0).bind fun t159 => (if t159 = true then ((stencillaw1_fine.f bt150.1 bt150.2 4611686018427387904 0).bind fun t160 => (if t160 = true then ((stencillaw1_fine.f bt152.1 bt152.2 44 0).bind fun t161 => (if t161 = true then ((stencillaw1_fine.f bt154.1 bt154.2 (-12) 0).bind fun t162 => (if t162 = true then ((stencillaw0_Num.f bt156.2).bind fun t163 => (if t163 = 101 then ((whole_Text.f (-7)).bind fun t164 => (some (t164.toList == ([45, 55] : List UInt8)))) else (some false))) else (some false))) else (some false))) else (some false))) else (some false))) else (some false))))))))
theorem stencillaw1_awake.mono : ∀ k, LeO (stencillaw1_awake.f k ) (stencillaw1_awake.f (k + 1) ) := by
  intro  k
  unfold stencillaw1_awake.f
  repeat' first
      | (with_reducible exact whole_To.mono _ _ _ _)
      | (with_reducible exact LeO.refl _)
      | (with_reducible exact LeO.none _)
      | (with_reducible refine LeO.ite ?_ ?_)
      | (with_reducible refine LeO.bind ?_ (fun _ => ?_))
      | exact whole_To.mono _ _ _ _
      | exact LeO.none _
      | refine LeO.ite ?_ ?_
      | refine LeO.bind ?_ (fun _ => ?_)
set_option maxHeartbeats 8000000 in
set_option maxRecDepth 100000 in
theorem stencillaw1_awake.calls (k : Nat)  (r : Bool) (w : World) (hL : LaidW w) (h : stencillaw1_awake.f k  = some r) :
    Calls Tryd.prog 9 #[] w fun e w' => e = .returned (.bool r) ∧ Below w.heap.size w w' := by
  have HB := Aside0.mk (Below.refl w.heap.size w)
  have H : ((whole_Add.f 2 3).bind fun bt146 => ((whole_Mul.f (-2) 3).bind fun bt148 => ((whole_Shl.f 1 62).bind fun bt150 => ((whole_To.f k 300 8 false).bind fun bt152 => ((whole_Parse.f (⟨#[45, 49, 50]⟩ : ByteArray)).bind fun bt154 => ((whole_Div.f 1 0).bind fun bt156 => ((stencillaw1_fine.f bt146.1 bt146.2 5 0).bind fun t158 => (if t158 = true then ((stencillaw1_fine.f bt148.1 bt148.2 (-6) 0).bind fun t159 => (if t159 = true then ((stencillaw1_fine.f bt150.1 bt150.2 4611686018427387904 0).bind fun t160 => (if t160 = true then ((stencillaw1_fine.f bt152.1 bt152.2 44 0).bind fun t161 => (if t161 = true then ((stencillaw1_fine.f bt154.1 bt154.2 (-12) 0).bind fun t162 => (if t162 = true then ((stencillaw0_Num.f bt156.2).bind fun t163 => (if t163 = 101 then ((whole_Text.f (-7)).bind fun t164 => (some (t164.toList == ([45, 55] : List UInt8)))) else (some false))) else (some false))) else (some false))) else (some false))) else (some false))) else (some false))))))))) = some r := h
  clear h
  replace H := Option.bind_eq_some_iff.mp H
  obtain ⟨⟨t146, t147⟩, A10, H⟩ := H
  replace H : ((whole_Mul.f (-2) 3).bind fun bt148 => ((whole_Shl.f 1 62).bind fun bt150 => ((whole_To.f k 300 8 false).bind fun bt152 => ((whole_Parse.f (⟨#[45, 49, 50]⟩ : ByteArray)).bind fun bt154 => ((whole_Div.f 1 0).bind fun bt156 => ((stencillaw1_fine.f t146 t147 5 0).bind fun t158 => (if t158 = true then ((stencillaw1_fine.f bt148.1 bt148.2 (-6) 0).bind fun t159 => (if t159 = true then ((stencillaw1_fine.f bt150.1 bt150.2 4611686018427387904 0).bind fun t160 => (if t160 = true then ((stencillaw1_fine.f bt152.1 bt152.2 44 0).bind fun t161 => (if t161 = true then ((stencillaw1_fine.f bt154.1 bt154.2 (-12) 0).bind fun t162 => (if t162 = true then ((stencillaw0_Num.f bt156.2).bind fun t163 => (if t163 = 101 then ((whole_Text.f (-7)).bind fun t164 => (some (t164.toList == ([45, 55] : List UInt8)))) else (some false))) else (some false))) else (some false))) else (some false))) else (some false))) else (some false)))))))) = some r := H
  have A1 := Aside0.mk A10
  clear A10
  replace H := Option.bind_eq_some_iff.mp H
  obtain ⟨⟨t148, t149⟩, A20, H⟩ := H
  replace H : ((whole_Shl.f 1 62).bind fun bt150 => ((whole_To.f k 300 8 false).bind fun bt152 => ((whole_Parse.f (⟨#[45, 49, 50]⟩ : ByteArray)).bind fun bt154 => ((whole_Div.f 1 0).bind fun bt156 => ((stencillaw1_fine.f t146 t147 5 0).bind fun t158 => (if t158 = true then ((stencillaw1_fine.f t148 t149 (-6) 0).bind fun t159 => (if t159 = true then ((stencillaw1_fine.f bt150.1 bt150.2 4611686018427387904 0).bind fun t160 => (if t160 = true then ((stencillaw1_fine.f bt152.1 bt152.2 44 0).bind fun t161 => (if t161 = true then ((stencillaw1_fine.f bt154.1 bt154.2 (-12) 0).bind fun t162 => (if t162 = true then ((stencillaw0_Num.f bt156.2).bind fun t163 => (if t163 = 101 then ((whole_Text.f (-7)).bind fun t164 => (some (t164.toList == ([45, 55] : List UInt8)))) else (some false))) else (some false))) else (some false))) else (some false))) else (some false))) else (some false))))))) = some r := H
  have A2 := Aside0.mk A20
  clear A20
  replace H := Option.bind_eq_some_iff.mp H
  obtain ⟨⟨t150, t151⟩, A30, H⟩ := H
  replace H : ((whole_To.f k 300 8 false).bind fun bt152 => ((whole_Parse.f (⟨#[45, 49, 50]⟩ : ByteArray)).bind fun bt154 => ((whole_Div.f 1 0).bind fun bt156 => ((stencillaw1_fine.f t146 t147 5 0).bind fun t158 => (if t158 = true then ((stencillaw1_fine.f t148 t149 (-6) 0).bind fun t159 => (if t159 = true then ((stencillaw1_fine.f t150 t151 4611686018427387904 0).bind fun t160 => (if t160 = true then ((stencillaw1_fine.f bt152.1 bt152.2 44 0).bind fun t161 => (if t161 = true then ((stencillaw1_fine.f bt154.1 bt154.2 (-12) 0).bind fun t162 => (if t162 = true then ((stencillaw0_Num.f bt156.2).bind fun t163 => (if t163 = 101 then ((whole_Text.f (-7)).bind fun t164 => (some (t164.toList == ([45, 55] : List UInt8)))) else (some false))) else (some false))) else (some false))) else (some false))) else (some false))) else (some false)))))) = some r := H
  have A3 := Aside0.mk A30
  clear A30
  replace H := Option.bind_eq_some_iff.mp H
  obtain ⟨⟨t152, t153⟩, A40, H⟩ := H
  replace H : ((whole_Parse.f (⟨#[45, 49, 50]⟩ : ByteArray)).bind fun bt154 => ((whole_Div.f 1 0).bind fun bt156 => ((stencillaw1_fine.f t146 t147 5 0).bind fun t158 => (if t158 = true then ((stencillaw1_fine.f t148 t149 (-6) 0).bind fun t159 => (if t159 = true then ((stencillaw1_fine.f t150 t151 4611686018427387904 0).bind fun t160 => (if t160 = true then ((stencillaw1_fine.f t152 t153 44 0).bind fun t161 => (if t161 = true then ((stencillaw1_fine.f bt154.1 bt154.2 (-12) 0).bind fun t162 => (if t162 = true then ((stencillaw0_Num.f bt156.2).bind fun t163 => (if t163 = 101 then ((whole_Text.f (-7)).bind fun t164 => (some (t164.toList == ([45, 55] : List UInt8)))) else (some false))) else (some false))) else (some false))) else (some false))) else (some false))) else (some false))))) = some r := H
  have A4 := Aside0.mk A40
  clear A40
  replace H := Option.bind_eq_some_iff.mp H
  obtain ⟨⟨t154, t155⟩, A50, H⟩ := H
  replace H : ((whole_Div.f 1 0).bind fun bt156 => ((stencillaw1_fine.f t146 t147 5 0).bind fun t158 => (if t158 = true then ((stencillaw1_fine.f t148 t149 (-6) 0).bind fun t159 => (if t159 = true then ((stencillaw1_fine.f t150 t151 4611686018427387904 0).bind fun t160 => (if t160 = true then ((stencillaw1_fine.f t152 t153 44 0).bind fun t161 => (if t161 = true then ((stencillaw1_fine.f t154 t155 (-12) 0).bind fun t162 => (if t162 = true then ((stencillaw0_Num.f bt156.2).bind fun t163 => (if t163 = 101 then ((whole_Text.f (-7)).bind fun t164 => (some (t164.toList == ([45, 55] : List UInt8)))) else (some false))) else (some false))) else (some false))) else (some false))) else (some false))) else (some false)))) = some r := H
  have A5 := Aside0.mk A50
  clear A50
  replace H := Option.bind_eq_some_iff.mp H
  obtain ⟨⟨t156, t157⟩, A60, H⟩ := H
  replace H : ((stencillaw1_fine.f t146 t147 5 0).bind fun t158 => (if t158 = true then ((stencillaw1_fine.f t148 t149 (-6) 0).bind fun t159 => (if t159 = true then ((stencillaw1_fine.f t150 t151 4611686018427387904 0).bind fun t160 => (if t160 = true then ((stencillaw1_fine.f t152 t153 44 0).bind fun t161 => (if t161 = true then ((stencillaw1_fine.f t154 t155 (-12) 0).bind fun t162 => (if t162 = true then ((stencillaw0_Num.f t157).bind fun t163 => (if t163 = 101 then ((whole_Text.f (-7)).bind fun t164 => (some (t164.toList == ([45, 55] : List UInt8)))) else (some false))) else (some false))) else (some false))) else (some false))) else (some false))) else (some false))) = some r := H
  have A6 := Aside0.mk A60
  clear A60
  replace H := Option.bind_eq_some_iff.mp H
  obtain ⟨t158, A70, H⟩ := H
  replace H : (if t158 = true then ((stencillaw1_fine.f t148 t149 (-6) 0).bind fun t159 => (if t159 = true then ((stencillaw1_fine.f t150 t151 4611686018427387904 0).bind fun t160 => (if t160 = true then ((stencillaw1_fine.f t152 t153 44 0).bind fun t161 => (if t161 = true then ((stencillaw1_fine.f t154 t155 (-12) 0).bind fun t162 => (if t162 = true then ((stencillaw0_Num.f t157).bind fun t163 => (if t163 = 101 then ((whole_Text.f (-7)).bind fun t164 => (some (t164.toList == ([45, 55] : List UInt8)))) else (some false))) else (some false))) else (some false))) else (some false))) else (some false))) else (some false)) = some r := H
  have A7 := Aside0.mk A70
  clear A70
  by_cases c8 : t158 = true
  · subst c8
    have H1 : ((stencillaw1_fine.f t148 t149 (-6) 0).bind fun t159 => (if t159 = true then ((stencillaw1_fine.f t150 t151 4611686018427387904 0).bind fun t160 => (if t160 = true then ((stencillaw1_fine.f t152 t153 44 0).bind fun t161 => (if t161 = true then ((stencillaw1_fine.f t154 t155 (-12) 0).bind fun t162 => (if t162 = true then ((stencillaw0_Num.f t157).bind fun t163 => (if t163 = 101 then ((whole_Text.f (-7)).bind fun t164 => (some (t164.toList == ([45, 55] : List UInt8)))) else (some false))) else (some false))) else (some false))) else (some false))) else (some false))) = some r := by rw [if_pos rfl] at H; exact H
    clear H
    have H := H1
    clear H1
    replace H := Option.bind_eq_some_iff.mp H
    obtain ⟨t159, A90, H⟩ := H
    replace H : (if t159 = true then ((stencillaw1_fine.f t150 t151 4611686018427387904 0).bind fun t160 => (if t160 = true then ((stencillaw1_fine.f t152 t153 44 0).bind fun t161 => (if t161 = true then ((stencillaw1_fine.f t154 t155 (-12) 0).bind fun t162 => (if t162 = true then ((stencillaw0_Num.f t157).bind fun t163 => (if t163 = 101 then ((whole_Text.f (-7)).bind fun t164 => (some (t164.toList == ([45, 55] : List UInt8)))) else (some false))) else (some false))) else (some false))) else (some false))) else (some false)) = some r := H
    have A9 := Aside0.mk A90
    clear A90
    by_cases c10 : t159 = true
    · subst c10
      have H1 : ((stencillaw1_fine.f t150 t151 4611686018427387904 0).bind fun t160 => (if t160 = true then ((stencillaw1_fine.f t152 t153 44 0).bind fun t161 => (if t161 = true then ((stencillaw1_fine.f t154 t155 (-12) 0).bind fun t162 => (if t162 = true then ((stencillaw0_Num.f t157).bind fun t163 => (if t163 = 101 then ((whole_Text.f (-7)).bind fun t164 => (some (t164.toList == ([45, 55] : List UInt8)))) else (some false))) else (some false))) else (some false))) else (some false))) = some r := by rw [if_pos rfl] at H; exact H
      clear H
      have H := H1
      clear H1
      replace H := Option.bind_eq_some_iff.mp H
      obtain ⟨t160, A110, H⟩ := H
      replace H : (if t160 = true then ((stencillaw1_fine.f t152 t153 44 0).bind fun t161 => (if t161 = true then ((stencillaw1_fine.f t154 t155 (-12) 0).bind fun t162 => (if t162 = true then ((stencillaw0_Num.f t157).bind fun t163 => (if t163 = 101 then ((whole_Text.f (-7)).bind fun t164 => (some (t164.toList == ([45, 55] : List UInt8)))) else (some false))) else (some false))) else (some false))) else (some false)) = some r := H
      have A11 := Aside0.mk A110
      clear A110
      by_cases c12 : t160 = true
      · subst c12
        have H1 : ((stencillaw1_fine.f t152 t153 44 0).bind fun t161 => (if t161 = true then ((stencillaw1_fine.f t154 t155 (-12) 0).bind fun t162 => (if t162 = true then ((stencillaw0_Num.f t157).bind fun t163 => (if t163 = 101 then ((whole_Text.f (-7)).bind fun t164 => (some (t164.toList == ([45, 55] : List UInt8)))) else (some false))) else (some false))) else (some false))) = some r := by rw [if_pos rfl] at H; exact H
        clear H
        have H := H1
        clear H1
        replace H := Option.bind_eq_some_iff.mp H
        obtain ⟨t161, A130, H⟩ := H
        replace H : (if t161 = true then ((stencillaw1_fine.f t154 t155 (-12) 0).bind fun t162 => (if t162 = true then ((stencillaw0_Num.f t157).bind fun t163 => (if t163 = 101 then ((whole_Text.f (-7)).bind fun t164 => (some (t164.toList == ([45, 55] : List UInt8)))) else (some false))) else (some false))) else (some false)) = some r := H
        have A13 := Aside0.mk A130
        clear A130
        by_cases c14 : t161 = true
        · subst c14
          have H1 : ((stencillaw1_fine.f t154 t155 (-12) 0).bind fun t162 => (if t162 = true then ((stencillaw0_Num.f t157).bind fun t163 => (if t163 = 101 then ((whole_Text.f (-7)).bind fun t164 => (some (t164.toList == ([45, 55] : List UInt8)))) else (some false))) else (some false))) = some r := by rw [if_pos rfl] at H; exact H
          clear H
          have H := H1
          clear H1
          replace H := Option.bind_eq_some_iff.mp H
          obtain ⟨t162, A150, H⟩ := H
          replace H : (if t162 = true then ((stencillaw0_Num.f t157).bind fun t163 => (if t163 = 101 then ((whole_Text.f (-7)).bind fun t164 => (some (t164.toList == ([45, 55] : List UInt8)))) else (some false))) else (some false)) = some r := H
          have A15 := Aside0.mk A150
          clear A150
          by_cases c16 : t162 = true
          · subst c16
            have H1 : ((stencillaw0_Num.f t157).bind fun t163 => (if t163 = 101 then ((whole_Text.f (-7)).bind fun t164 => (some (t164.toList == ([45, 55] : List UInt8)))) else (some false))) = some r := by rw [if_pos rfl] at H; exact H
            clear H
            have H := H1
            clear H1
            replace H := Option.bind_eq_some_iff.mp H
            obtain ⟨t163, A170, H⟩ := H
            replace H : (if t163 = 101 then ((whole_Text.f (-7)).bind fun t164 => (some (t164.toList == ([45, 55] : List UInt8)))) else (some false)) = some r := H
            have A17 := Aside0.mk A170
            clear A170
            by_cases c18 : t163 = 101
            · rw [if_pos c18] at H
              have c18b0 : (t163 == 101) = true := beq_iff_eq.mpr c18
              have c18b1 : (t163 != 101) = false := bne_eq_false_iff_eq.mpr c18
              clear c18
              replace H := Option.bind_eq_some_iff.mp H
              obtain ⟨t164, A190, H⟩ := H
              replace H : (some (t164.toList == ([45, 55] : List UInt8))) = some r := H
              have A19 := Aside0.mk A190
              clear A190
              obtain rfl := Option.some.inj H
              go_enter Tryd.func9, Tryd.ntmps9
              go_wp2_with (first | ((with_reducible refine gate_callee (f := 16) rfl ?_); refine goesL_ (some 14) rfl rfl Tryd.func16 (by kernel_rfl) rfl #[.int .i64 2, .int .i64 3] rfl (by (try simp only [List.map_toArray, List.map_cons, List.map_nil]); first | done | rfl | (simp only [List.length_drop, List.length_take]; rfl)) ?_; (with_reducible refine (whole_Add.calls 2 3 t146 t147 _ A1.out).mono ?_); rintro e w' ⟨rfl, ⟨nd, rfl⟩⟩; refine ⟨_, rfl, ?_⟩) | ((with_reducible refine gate_callee (f := 17) rfl ?_); refine goesL_ (some 18) rfl rfl Tryd.func17 (by kernel_rfl) rfl #[.int .i64 (-2), .int .i64 3] rfl (by (try simp only [List.map_toArray, List.map_cons, List.map_nil]); first | done | rfl | (simp only [List.length_drop, List.length_take]; rfl)) ?_; (with_reducible refine (whole_Mul.calls (-2) 3 t148 t149 _ A2.out).mono ?_); rintro e w' ⟨rfl, ⟨nd, rfl⟩⟩; refine ⟨_, rfl, ?_⟩) | ((with_reducible refine gate_callee (f := 18) rfl ?_); refine goesL_ (some 22) rfl rfl Tryd.func18 (by kernel_rfl) rfl #[.int .i64 1, .int .i64 62] rfl (by (try simp only [List.map_toArray, List.map_cons, List.map_nil]); first | done | rfl | (simp only [List.length_drop, List.length_take]; rfl)) ?_; (with_reducible refine (whole_Shl.calls 1 62 t150 t151 _ A3.out).mono ?_); rintro e w' ⟨rfl, ⟨nd, rfl⟩⟩; refine ⟨_, rfl, ?_⟩) | ((with_reducible refine gate_callee (f := 19) rfl ?_); refine goesL_ (some 26) rfl rfl Tryd.func19 (by kernel_rfl) rfl #[.int .i64 300, .int .i64 8, .bool false] rfl (by (try simp only [List.map_toArray, List.map_cons, List.map_nil]); first | done | rfl | (simp only [List.length_drop, List.length_take]; rfl)) ?_; (with_reducible refine (whole_To.calls k 300 8 false t152 t153 _ A4.out).mono ?_); rintro e w' ⟨rfl, ⟨nd, rfl⟩⟩; refine ⟨_, rfl, ?_⟩) | ((with_reducible refine gate_callee (f := 4) rfl ?_); refine goesL_ (some 30) rfl rfl Tryd.func4 (by kernel_rfl) rfl #[.string (⟨#[45, 49, 50]⟩ : ByteArray)] rfl (by (try simp only [List.map_toArray, List.map_cons, List.map_nil]); first | done | rfl | (simp only [List.length_drop, List.length_take]; rfl)) ?_; (with_reducible refine (whole_Parse.calls (⟨#[45, 49, 50]⟩ : ByteArray) t154 t155 _ ?side1 A5.out).mono ?_); (case side1 => exact LaidW.below hL (by repeat (first | (with_reducible first | exact HB.out | apply below_alloc | apply pw_below_drewN | apply below_drew1) | exact HB.out))); rintro e w20 ⟨rfl, hb⟩; refine ⟨_, rfl, ?_⟩; have n0_ := Aside0.mk (below_step (by repeat (first | (with_reducible first | exact HB.out | apply below_alloc | apply pw_below_drewN | apply below_drew1) | exact HB.out)) hb); clear HB; have HB := n0_; clear n0_; (try clear hb); (try clear hb2); (try clear hk); (try clear hi)) | ((with_reducible refine gate_callee (f := 20) rfl ?_); refine goesL_ (some 34) rfl rfl Tryd.func20 (by kernel_rfl) rfl #[.int .i64 1, .int .i64 0] rfl (by (try simp only [List.map_toArray, List.map_cons, List.map_nil]); first | done | rfl | (simp only [List.length_drop, List.length_take]; rfl)) ?_; (with_reducible refine (whole_Div.calls 1 0 t156 t157 _ A6.out).mono ?_); rintro e w' ⟨rfl, ⟨nd, rfl⟩⟩; refine ⟨_, rfl, ?_⟩) | ((with_reducible refine gate_callee (f := 8) rfl ?_); refine goesL_ (some 39) rfl rfl Tryd.func8 (by kernel_rfl) rfl #[.int .i64 t146, .int .i64 t147, .int .i64 5, .int .i64 0] rfl (by (try simp only [List.map_toArray, List.map_cons, List.map_nil]); first | done | rfl | (simp only [List.length_drop, List.length_take]; rfl)) ?_; (with_reducible refine (stencillaw1_fine.calls t146 t147 5 0 true _ A7.out).mono ?_); rintro e w' ⟨rfl, ⟨nd, rfl⟩⟩; refine ⟨_, rfl, ?_⟩) | (go_at_call 8; (with_reducible refine (stencillaw1_fine.calls t148 t149 (-6) 0 true _ A9.out).mono ?_); rintro e w' ⟨rfl, ⟨nd, rfl⟩⟩) | (go_at_call 8; (with_reducible refine (stencillaw1_fine.calls t150 t151 4611686018427387904 0 true _ A11.out).mono ?_); rintro e w' ⟨rfl, ⟨nd, rfl⟩⟩) | (go_at_call 8; (with_reducible refine (stencillaw1_fine.calls t152 t153 44 0 true _ A13.out).mono ?_); rintro e w' ⟨rfl, ⟨nd, rfl⟩⟩) | (go_at_call 8; (with_reducible refine (stencillaw1_fine.calls t154 t155 (-12) 0 true _ A15.out).mono ?_); rintro e w' ⟨rfl, ⟨nd, rfl⟩⟩) | (go_at_call 15; (with_reducible refine (stencillaw0_Num.calls t157 t163 _ A17.out).mono ?_); rintro e w' ⟨rfl, ⟨nd, rfl⟩⟩) | (go_at_call 6; (with_reducible refine (whole_Text.calls (-7) t164 _ ?side1 A19.out).mono ?_); (case side1 => exact LaidW.below hL (by repeat (first | (with_reducible first | exact HB.out | apply below_alloc | apply pw_below_drewN | apply below_drew1) | exact HB.out))); rintro e w21 ⟨rfl, hb⟩; have n0_ := Aside0.mk (below_step (by repeat (first | (with_reducible first | exact HB.out | apply below_alloc | apply pw_below_drewN | apply below_drew1) | exact HB.out)) hb); clear HB; have HB := n0_; clear n0_; (try clear hb); (try clear hb2); (try clear hk); (try clear hi)))
              go_ret
              exact ⟨by first | rfl | (simp [errW_none, errW_some] <;> rfl) | (simp [*, errW_none, errW_some] <;> rfl), by repeat (first | (with_reducible first | exact HB.out | apply below_alloc | apply pw_below_drewN | apply below_drew1) | exact HB.out)⟩
            · rw [if_neg c18] at H
              have c18b0 : (t163 == 101) = false := beq_eq_false_iff_ne.mpr c18
              have c18b1 : (t163 != 101) = true := bne_iff_ne.mpr c18
              obtain rfl := Option.some.inj H
              go_enter Tryd.func9, Tryd.ntmps9
              go_wp2_with (first | ((with_reducible refine gate_callee (f := 16) rfl ?_); refine goesL_ (some 14) rfl rfl Tryd.func16 (by kernel_rfl) rfl #[.int .i64 2, .int .i64 3] rfl (by (try simp only [List.map_toArray, List.map_cons, List.map_nil]); first | done | rfl | (simp only [List.length_drop, List.length_take]; rfl)) ?_; (with_reducible refine (whole_Add.calls 2 3 t146 t147 _ A1.out).mono ?_); rintro e w' ⟨rfl, ⟨nd, rfl⟩⟩; refine ⟨_, rfl, ?_⟩) | ((with_reducible refine gate_callee (f := 17) rfl ?_); refine goesL_ (some 18) rfl rfl Tryd.func17 (by kernel_rfl) rfl #[.int .i64 (-2), .int .i64 3] rfl (by (try simp only [List.map_toArray, List.map_cons, List.map_nil]); first | done | rfl | (simp only [List.length_drop, List.length_take]; rfl)) ?_; (with_reducible refine (whole_Mul.calls (-2) 3 t148 t149 _ A2.out).mono ?_); rintro e w' ⟨rfl, ⟨nd, rfl⟩⟩; refine ⟨_, rfl, ?_⟩) | ((with_reducible refine gate_callee (f := 18) rfl ?_); refine goesL_ (some 22) rfl rfl Tryd.func18 (by kernel_rfl) rfl #[.int .i64 1, .int .i64 62] rfl (by (try simp only [List.map_toArray, List.map_cons, List.map_nil]); first | done | rfl | (simp only [List.length_drop, List.length_take]; rfl)) ?_; (with_reducible refine (whole_Shl.calls 1 62 t150 t151 _ A3.out).mono ?_); rintro e w' ⟨rfl, ⟨nd, rfl⟩⟩; refine ⟨_, rfl, ?_⟩) | ((with_reducible refine gate_callee (f := 19) rfl ?_); refine goesL_ (some 26) rfl rfl Tryd.func19 (by kernel_rfl) rfl #[.int .i64 300, .int .i64 8, .bool false] rfl (by (try simp only [List.map_toArray, List.map_cons, List.map_nil]); first | done | rfl | (simp only [List.length_drop, List.length_take]; rfl)) ?_; (with_reducible refine (whole_To.calls k 300 8 false t152 t153 _ A4.out).mono ?_); rintro e w' ⟨rfl, ⟨nd, rfl⟩⟩; refine ⟨_, rfl, ?_⟩) | ((with_reducible refine gate_callee (f := 4) rfl ?_); refine goesL_ (some 30) rfl rfl Tryd.func4 (by kernel_rfl) rfl #[.string (⟨#[45, 49, 50]⟩ : ByteArray)] rfl (by (try simp only [List.map_toArray, List.map_cons, List.map_nil]); first | done | rfl | (simp only [List.length_drop, List.length_take]; rfl)) ?_; (with_reducible refine (whole_Parse.calls (⟨#[45, 49, 50]⟩ : ByteArray) t154 t155 _ ?side1 A5.out).mono ?_); (case side1 => exact LaidW.below hL (by repeat (first | (with_reducible first | exact HB.out | apply below_alloc | apply pw_below_drewN | apply below_drew1) | exact HB.out))); rintro e w22 ⟨rfl, hb⟩; refine ⟨_, rfl, ?_⟩; have n0_ := Aside0.mk (below_step (by repeat (first | (with_reducible first | exact HB.out | apply below_alloc | apply pw_below_drewN | apply below_drew1) | exact HB.out)) hb); clear HB; have HB := n0_; clear n0_; (try clear hb); (try clear hb2); (try clear hk); (try clear hi)) | ((with_reducible refine gate_callee (f := 20) rfl ?_); refine goesL_ (some 34) rfl rfl Tryd.func20 (by kernel_rfl) rfl #[.int .i64 1, .int .i64 0] rfl (by (try simp only [List.map_toArray, List.map_cons, List.map_nil]); first | done | rfl | (simp only [List.length_drop, List.length_take]; rfl)) ?_; (with_reducible refine (whole_Div.calls 1 0 t156 t157 _ A6.out).mono ?_); rintro e w' ⟨rfl, ⟨nd, rfl⟩⟩; refine ⟨_, rfl, ?_⟩) | ((with_reducible refine gate_callee (f := 8) rfl ?_); refine goesL_ (some 39) rfl rfl Tryd.func8 (by kernel_rfl) rfl #[.int .i64 t146, .int .i64 t147, .int .i64 5, .int .i64 0] rfl (by (try simp only [List.map_toArray, List.map_cons, List.map_nil]); first | done | rfl | (simp only [List.length_drop, List.length_take]; rfl)) ?_; (with_reducible refine (stencillaw1_fine.calls t146 t147 5 0 true _ A7.out).mono ?_); rintro e w' ⟨rfl, ⟨nd, rfl⟩⟩; refine ⟨_, rfl, ?_⟩) | (go_at_call 8; (with_reducible refine (stencillaw1_fine.calls t148 t149 (-6) 0 true _ A9.out).mono ?_); rintro e w' ⟨rfl, ⟨nd, rfl⟩⟩) | (go_at_call 8; (with_reducible refine (stencillaw1_fine.calls t150 t151 4611686018427387904 0 true _ A11.out).mono ?_); rintro e w' ⟨rfl, ⟨nd, rfl⟩⟩) | (go_at_call 8; (with_reducible refine (stencillaw1_fine.calls t152 t153 44 0 true _ A13.out).mono ?_); rintro e w' ⟨rfl, ⟨nd, rfl⟩⟩) | (go_at_call 8; (with_reducible refine (stencillaw1_fine.calls t154 t155 (-12) 0 true _ A15.out).mono ?_); rintro e w' ⟨rfl, ⟨nd, rfl⟩⟩) | (go_at_call 15; (with_reducible refine (stencillaw0_Num.calls t157 t163 _ A17.out).mono ?_); rintro e w' ⟨rfl, ⟨nd, rfl⟩⟩))
              go_ret
              exact ⟨by first | rfl | (simp [errW_none, errW_some] <;> rfl) | (simp [*, errW_none, errW_some] <;> rfl), by repeat (first | (with_reducible first | exact HB.out | apply below_alloc | apply pw_below_drewN | apply below_drew1) | exact HB.out)⟩
          · replace c16 := Bool.eq_false_iff.mpr c16
            subst c16
            have H1 : (some false) = some r := by rw [if_neg (show ¬ (false = true) by decide)] at H; exact H
            clear H
            have H := H1
            clear H1
            obtain rfl := Option.some.inj H
            go_enter Tryd.func9, Tryd.ntmps9
            go_wp2_with (first | ((with_reducible refine gate_callee (f := 16) rfl ?_); refine goesL_ (some 14) rfl rfl Tryd.func16 (by kernel_rfl) rfl #[.int .i64 2, .int .i64 3] rfl (by (try simp only [List.map_toArray, List.map_cons, List.map_nil]); first | done | rfl | (simp only [List.length_drop, List.length_take]; rfl)) ?_; (with_reducible refine (whole_Add.calls 2 3 t146 t147 _ A1.out).mono ?_); rintro e w' ⟨rfl, ⟨nd, rfl⟩⟩; refine ⟨_, rfl, ?_⟩) | ((with_reducible refine gate_callee (f := 17) rfl ?_); refine goesL_ (some 18) rfl rfl Tryd.func17 (by kernel_rfl) rfl #[.int .i64 (-2), .int .i64 3] rfl (by (try simp only [List.map_toArray, List.map_cons, List.map_nil]); first | done | rfl | (simp only [List.length_drop, List.length_take]; rfl)) ?_; (with_reducible refine (whole_Mul.calls (-2) 3 t148 t149 _ A2.out).mono ?_); rintro e w' ⟨rfl, ⟨nd, rfl⟩⟩; refine ⟨_, rfl, ?_⟩) | ((with_reducible refine gate_callee (f := 18) rfl ?_); refine goesL_ (some 22) rfl rfl Tryd.func18 (by kernel_rfl) rfl #[.int .i64 1, .int .i64 62] rfl (by (try simp only [List.map_toArray, List.map_cons, List.map_nil]); first | done | rfl | (simp only [List.length_drop, List.length_take]; rfl)) ?_; (with_reducible refine (whole_Shl.calls 1 62 t150 t151 _ A3.out).mono ?_); rintro e w' ⟨rfl, ⟨nd, rfl⟩⟩; refine ⟨_, rfl, ?_⟩) | ((with_reducible refine gate_callee (f := 19) rfl ?_); refine goesL_ (some 26) rfl rfl Tryd.func19 (by kernel_rfl) rfl #[.int .i64 300, .int .i64 8, .bool false] rfl (by (try simp only [List.map_toArray, List.map_cons, List.map_nil]); first | done | rfl | (simp only [List.length_drop, List.length_take]; rfl)) ?_; (with_reducible refine (whole_To.calls k 300 8 false t152 t153 _ A4.out).mono ?_); rintro e w' ⟨rfl, ⟨nd, rfl⟩⟩; refine ⟨_, rfl, ?_⟩) | ((with_reducible refine gate_callee (f := 4) rfl ?_); refine goesL_ (some 30) rfl rfl Tryd.func4 (by kernel_rfl) rfl #[.string (⟨#[45, 49, 50]⟩ : ByteArray)] rfl (by (try simp only [List.map_toArray, List.map_cons, List.map_nil]); first | done | rfl | (simp only [List.length_drop, List.length_take]; rfl)) ?_; (with_reducible refine (whole_Parse.calls (⟨#[45, 49, 50]⟩ : ByteArray) t154 t155 _ ?side1 A5.out).mono ?_); (case side1 => exact LaidW.below hL (by repeat (first | (with_reducible first | exact HB.out | apply below_alloc | apply pw_below_drewN | apply below_drew1) | exact HB.out))); rintro e w23 ⟨rfl, hb⟩; refine ⟨_, rfl, ?_⟩; have n0_ := Aside0.mk (below_step (by repeat (first | (with_reducible first | exact HB.out | apply below_alloc | apply pw_below_drewN | apply below_drew1) | exact HB.out)) hb); clear HB; have HB := n0_; clear n0_; (try clear hb); (try clear hb2); (try clear hk); (try clear hi)) | ((with_reducible refine gate_callee (f := 20) rfl ?_); refine goesL_ (some 34) rfl rfl Tryd.func20 (by kernel_rfl) rfl #[.int .i64 1, .int .i64 0] rfl (by (try simp only [List.map_toArray, List.map_cons, List.map_nil]); first | done | rfl | (simp only [List.length_drop, List.length_take]; rfl)) ?_; (with_reducible refine (whole_Div.calls 1 0 t156 t157 _ A6.out).mono ?_); rintro e w' ⟨rfl, ⟨nd, rfl⟩⟩; refine ⟨_, rfl, ?_⟩) | ((with_reducible refine gate_callee (f := 8) rfl ?_); refine goesL_ (some 39) rfl rfl Tryd.func8 (by kernel_rfl) rfl #[.int .i64 t146, .int .i64 t147, .int .i64 5, .int .i64 0] rfl (by (try simp only [List.map_toArray, List.map_cons, List.map_nil]); first | done | rfl | (simp only [List.length_drop, List.length_take]; rfl)) ?_; (with_reducible refine (stencillaw1_fine.calls t146 t147 5 0 true _ A7.out).mono ?_); rintro e w' ⟨rfl, ⟨nd, rfl⟩⟩; refine ⟨_, rfl, ?_⟩) | (go_at_call 8; (with_reducible refine (stencillaw1_fine.calls t148 t149 (-6) 0 true _ A9.out).mono ?_); rintro e w' ⟨rfl, ⟨nd, rfl⟩⟩) | (go_at_call 8; (with_reducible refine (stencillaw1_fine.calls t150 t151 4611686018427387904 0 true _ A11.out).mono ?_); rintro e w' ⟨rfl, ⟨nd, rfl⟩⟩) | (go_at_call 8; (with_reducible refine (stencillaw1_fine.calls t152 t153 44 0 true _ A13.out).mono ?_); rintro e w' ⟨rfl, ⟨nd, rfl⟩⟩) | (go_at_call 8; (with_reducible refine (stencillaw1_fine.calls t154 t155 (-12) 0 false _ A15.out).mono ?_); rintro e w' ⟨rfl, ⟨nd, rfl⟩⟩))
            go_ret
            exact ⟨by first | rfl | (simp [errW_none, errW_some] <;> rfl) | (simp [*, errW_none, errW_some] <;> rfl), by repeat (first | (with_reducible first | exact HB.out | apply below_alloc | apply pw_below_drewN | apply below_drew1) | exact HB.out)⟩
        · replace c14 := Bool.eq_false_iff.mpr c14
          subst c14
          have H1 : (some false) = some r := by rw [if_neg (show ¬ (false = true) by decide)] at H; exact H
          clear H
          have H := H1
          clear H1
          obtain rfl := Option.some.inj H
          go_enter Tryd.func9, Tryd.ntmps9
          go_wp2_with (first | ((with_reducible refine gate_callee (f := 16) rfl ?_); refine goesL_ (some 14) rfl rfl Tryd.func16 (by kernel_rfl) rfl #[.int .i64 2, .int .i64 3] rfl (by (try simp only [List.map_toArray, List.map_cons, List.map_nil]); first | done | rfl | (simp only [List.length_drop, List.length_take]; rfl)) ?_; (with_reducible refine (whole_Add.calls 2 3 t146 t147 _ A1.out).mono ?_); rintro e w' ⟨rfl, ⟨nd, rfl⟩⟩; refine ⟨_, rfl, ?_⟩) | ((with_reducible refine gate_callee (f := 17) rfl ?_); refine goesL_ (some 18) rfl rfl Tryd.func17 (by kernel_rfl) rfl #[.int .i64 (-2), .int .i64 3] rfl (by (try simp only [List.map_toArray, List.map_cons, List.map_nil]); first | done | rfl | (simp only [List.length_drop, List.length_take]; rfl)) ?_; (with_reducible refine (whole_Mul.calls (-2) 3 t148 t149 _ A2.out).mono ?_); rintro e w' ⟨rfl, ⟨nd, rfl⟩⟩; refine ⟨_, rfl, ?_⟩) | ((with_reducible refine gate_callee (f := 18) rfl ?_); refine goesL_ (some 22) rfl rfl Tryd.func18 (by kernel_rfl) rfl #[.int .i64 1, .int .i64 62] rfl (by (try simp only [List.map_toArray, List.map_cons, List.map_nil]); first | done | rfl | (simp only [List.length_drop, List.length_take]; rfl)) ?_; (with_reducible refine (whole_Shl.calls 1 62 t150 t151 _ A3.out).mono ?_); rintro e w' ⟨rfl, ⟨nd, rfl⟩⟩; refine ⟨_, rfl, ?_⟩) | ((with_reducible refine gate_callee (f := 19) rfl ?_); refine goesL_ (some 26) rfl rfl Tryd.func19 (by kernel_rfl) rfl #[.int .i64 300, .int .i64 8, .bool false] rfl (by (try simp only [List.map_toArray, List.map_cons, List.map_nil]); first | done | rfl | (simp only [List.length_drop, List.length_take]; rfl)) ?_; (with_reducible refine (whole_To.calls k 300 8 false t152 t153 _ A4.out).mono ?_); rintro e w' ⟨rfl, ⟨nd, rfl⟩⟩; refine ⟨_, rfl, ?_⟩) | ((with_reducible refine gate_callee (f := 4) rfl ?_); refine goesL_ (some 30) rfl rfl Tryd.func4 (by kernel_rfl) rfl #[.string (⟨#[45, 49, 50]⟩ : ByteArray)] rfl (by (try simp only [List.map_toArray, List.map_cons, List.map_nil]); first | done | rfl | (simp only [List.length_drop, List.length_take]; rfl)) ?_; (with_reducible refine (whole_Parse.calls (⟨#[45, 49, 50]⟩ : ByteArray) t154 t155 _ ?side1 A5.out).mono ?_); (case side1 => exact LaidW.below hL (by repeat (first | (with_reducible first | exact HB.out | apply below_alloc | apply pw_below_drewN | apply below_drew1) | exact HB.out))); rintro e w24 ⟨rfl, hb⟩; refine ⟨_, rfl, ?_⟩; have n0_ := Aside0.mk (below_step (by repeat (first | (with_reducible first | exact HB.out | apply below_alloc | apply pw_below_drewN | apply below_drew1) | exact HB.out)) hb); clear HB; have HB := n0_; clear n0_; (try clear hb); (try clear hb2); (try clear hk); (try clear hi)) | ((with_reducible refine gate_callee (f := 20) rfl ?_); refine goesL_ (some 34) rfl rfl Tryd.func20 (by kernel_rfl) rfl #[.int .i64 1, .int .i64 0] rfl (by (try simp only [List.map_toArray, List.map_cons, List.map_nil]); first | done | rfl | (simp only [List.length_drop, List.length_take]; rfl)) ?_; (with_reducible refine (whole_Div.calls 1 0 t156 t157 _ A6.out).mono ?_); rintro e w' ⟨rfl, ⟨nd, rfl⟩⟩; refine ⟨_, rfl, ?_⟩) | ((with_reducible refine gate_callee (f := 8) rfl ?_); refine goesL_ (some 39) rfl rfl Tryd.func8 (by kernel_rfl) rfl #[.int .i64 t146, .int .i64 t147, .int .i64 5, .int .i64 0] rfl (by (try simp only [List.map_toArray, List.map_cons, List.map_nil]); first | done | rfl | (simp only [List.length_drop, List.length_take]; rfl)) ?_; (with_reducible refine (stencillaw1_fine.calls t146 t147 5 0 true _ A7.out).mono ?_); rintro e w' ⟨rfl, ⟨nd, rfl⟩⟩; refine ⟨_, rfl, ?_⟩) | (go_at_call 8; (with_reducible refine (stencillaw1_fine.calls t148 t149 (-6) 0 true _ A9.out).mono ?_); rintro e w' ⟨rfl, ⟨nd, rfl⟩⟩) | (go_at_call 8; (with_reducible refine (stencillaw1_fine.calls t150 t151 4611686018427387904 0 true _ A11.out).mono ?_); rintro e w' ⟨rfl, ⟨nd, rfl⟩⟩) | (go_at_call 8; (with_reducible refine (stencillaw1_fine.calls t152 t153 44 0 false _ A13.out).mono ?_); rintro e w' ⟨rfl, ⟨nd, rfl⟩⟩))
          go_ret
          exact ⟨by first | rfl | (simp [errW_none, errW_some] <;> rfl) | (simp [*, errW_none, errW_some] <;> rfl), by repeat (first | (with_reducible first | exact HB.out | apply below_alloc | apply pw_below_drewN | apply below_drew1) | exact HB.out)⟩
      · replace c12 := Bool.eq_false_iff.mpr c12
        subst c12
        have H1 : (some false) = some r := by rw [if_neg (show ¬ (false = true) by decide)] at H; exact H
        clear H
        have H := H1
        clear H1
        obtain rfl := Option.some.inj H
        go_enter Tryd.func9, Tryd.ntmps9
        go_wp2_with (first | ((with_reducible refine gate_callee (f := 16) rfl ?_); refine goesL_ (some 14) rfl rfl Tryd.func16 (by kernel_rfl) rfl #[.int .i64 2, .int .i64 3] rfl (by (try simp only [List.map_toArray, List.map_cons, List.map_nil]); first | done | rfl | (simp only [List.length_drop, List.length_take]; rfl)) ?_; (with_reducible refine (whole_Add.calls 2 3 t146 t147 _ A1.out).mono ?_); rintro e w' ⟨rfl, ⟨nd, rfl⟩⟩; refine ⟨_, rfl, ?_⟩) | ((with_reducible refine gate_callee (f := 17) rfl ?_); refine goesL_ (some 18) rfl rfl Tryd.func17 (by kernel_rfl) rfl #[.int .i64 (-2), .int .i64 3] rfl (by (try simp only [List.map_toArray, List.map_cons, List.map_nil]); first | done | rfl | (simp only [List.length_drop, List.length_take]; rfl)) ?_; (with_reducible refine (whole_Mul.calls (-2) 3 t148 t149 _ A2.out).mono ?_); rintro e w' ⟨rfl, ⟨nd, rfl⟩⟩; refine ⟨_, rfl, ?_⟩) | ((with_reducible refine gate_callee (f := 18) rfl ?_); refine goesL_ (some 22) rfl rfl Tryd.func18 (by kernel_rfl) rfl #[.int .i64 1, .int .i64 62] rfl (by (try simp only [List.map_toArray, List.map_cons, List.map_nil]); first | done | rfl | (simp only [List.length_drop, List.length_take]; rfl)) ?_; (with_reducible refine (whole_Shl.calls 1 62 t150 t151 _ A3.out).mono ?_); rintro e w' ⟨rfl, ⟨nd, rfl⟩⟩; refine ⟨_, rfl, ?_⟩) | ((with_reducible refine gate_callee (f := 19) rfl ?_); refine goesL_ (some 26) rfl rfl Tryd.func19 (by kernel_rfl) rfl #[.int .i64 300, .int .i64 8, .bool false] rfl (by (try simp only [List.map_toArray, List.map_cons, List.map_nil]); first | done | rfl | (simp only [List.length_drop, List.length_take]; rfl)) ?_; (with_reducible refine (whole_To.calls k 300 8 false t152 t153 _ A4.out).mono ?_); rintro e w' ⟨rfl, ⟨nd, rfl⟩⟩; refine ⟨_, rfl, ?_⟩) | ((with_reducible refine gate_callee (f := 4) rfl ?_); refine goesL_ (some 30) rfl rfl Tryd.func4 (by kernel_rfl) rfl #[.string (⟨#[45, 49, 50]⟩ : ByteArray)] rfl (by (try simp only [List.map_toArray, List.map_cons, List.map_nil]); first | done | rfl | (simp only [List.length_drop, List.length_take]; rfl)) ?_; (with_reducible refine (whole_Parse.calls (⟨#[45, 49, 50]⟩ : ByteArray) t154 t155 _ ?side1 A5.out).mono ?_); (case side1 => exact LaidW.below hL (by repeat (first | (with_reducible first | exact HB.out | apply below_alloc | apply pw_below_drewN | apply below_drew1) | exact HB.out))); rintro e w25 ⟨rfl, hb⟩; refine ⟨_, rfl, ?_⟩; have n0_ := Aside0.mk (below_step (by repeat (first | (with_reducible first | exact HB.out | apply below_alloc | apply pw_below_drewN | apply below_drew1) | exact HB.out)) hb); clear HB; have HB := n0_; clear n0_; (try clear hb); (try clear hb2); (try clear hk); (try clear hi)) | ((with_reducible refine gate_callee (f := 20) rfl ?_); refine goesL_ (some 34) rfl rfl Tryd.func20 (by kernel_rfl) rfl #[.int .i64 1, .int .i64 0] rfl (by (try simp only [List.map_toArray, List.map_cons, List.map_nil]); first | done | rfl | (simp only [List.length_drop, List.length_take]; rfl)) ?_; (with_reducible refine (whole_Div.calls 1 0 t156 t157 _ A6.out).mono ?_); rintro e w' ⟨rfl, ⟨nd, rfl⟩⟩; refine ⟨_, rfl, ?_⟩) | ((with_reducible refine gate_callee (f := 8) rfl ?_); refine goesL_ (some 39) rfl rfl Tryd.func8 (by kernel_rfl) rfl #[.int .i64 t146, .int .i64 t147, .int .i64 5, .int .i64 0] rfl (by (try simp only [List.map_toArray, List.map_cons, List.map_nil]); first | done | rfl | (simp only [List.length_drop, List.length_take]; rfl)) ?_; (with_reducible refine (stencillaw1_fine.calls t146 t147 5 0 true _ A7.out).mono ?_); rintro e w' ⟨rfl, ⟨nd, rfl⟩⟩; refine ⟨_, rfl, ?_⟩) | (go_at_call 8; (with_reducible refine (stencillaw1_fine.calls t148 t149 (-6) 0 true _ A9.out).mono ?_); rintro e w' ⟨rfl, ⟨nd, rfl⟩⟩) | (go_at_call 8; (with_reducible refine (stencillaw1_fine.calls t150 t151 4611686018427387904 0 false _ A11.out).mono ?_); rintro e w' ⟨rfl, ⟨nd, rfl⟩⟩))
        go_ret
        exact ⟨by first | rfl | (simp [errW_none, errW_some] <;> rfl) | (simp [*, errW_none, errW_some] <;> rfl), by repeat (first | (with_reducible first | exact HB.out | apply below_alloc | apply pw_below_drewN | apply below_drew1) | exact HB.out)⟩
    · replace c10 := Bool.eq_false_iff.mpr c10
      subst c10
      have H1 : (some false) = some r := by rw [if_neg (show ¬ (false = true) by decide)] at H; exact H
      clear H
      have H := H1
      clear H1
      obtain rfl := Option.some.inj H
      go_enter Tryd.func9, Tryd.ntmps9
      go_wp2_with (first | ((with_reducible refine gate_callee (f := 16) rfl ?_); refine goesL_ (some 14) rfl rfl Tryd.func16 (by kernel_rfl) rfl #[.int .i64 2, .int .i64 3] rfl (by (try simp only [List.map_toArray, List.map_cons, List.map_nil]); first | done | rfl | (simp only [List.length_drop, List.length_take]; rfl)) ?_; (with_reducible refine (whole_Add.calls 2 3 t146 t147 _ A1.out).mono ?_); rintro e w' ⟨rfl, ⟨nd, rfl⟩⟩; refine ⟨_, rfl, ?_⟩) | ((with_reducible refine gate_callee (f := 17) rfl ?_); refine goesL_ (some 18) rfl rfl Tryd.func17 (by kernel_rfl) rfl #[.int .i64 (-2), .int .i64 3] rfl (by (try simp only [List.map_toArray, List.map_cons, List.map_nil]); first | done | rfl | (simp only [List.length_drop, List.length_take]; rfl)) ?_; (with_reducible refine (whole_Mul.calls (-2) 3 t148 t149 _ A2.out).mono ?_); rintro e w' ⟨rfl, ⟨nd, rfl⟩⟩; refine ⟨_, rfl, ?_⟩) | ((with_reducible refine gate_callee (f := 18) rfl ?_); refine goesL_ (some 22) rfl rfl Tryd.func18 (by kernel_rfl) rfl #[.int .i64 1, .int .i64 62] rfl (by (try simp only [List.map_toArray, List.map_cons, List.map_nil]); first | done | rfl | (simp only [List.length_drop, List.length_take]; rfl)) ?_; (with_reducible refine (whole_Shl.calls 1 62 t150 t151 _ A3.out).mono ?_); rintro e w' ⟨rfl, ⟨nd, rfl⟩⟩; refine ⟨_, rfl, ?_⟩) | ((with_reducible refine gate_callee (f := 19) rfl ?_); refine goesL_ (some 26) rfl rfl Tryd.func19 (by kernel_rfl) rfl #[.int .i64 300, .int .i64 8, .bool false] rfl (by (try simp only [List.map_toArray, List.map_cons, List.map_nil]); first | done | rfl | (simp only [List.length_drop, List.length_take]; rfl)) ?_; (with_reducible refine (whole_To.calls k 300 8 false t152 t153 _ A4.out).mono ?_); rintro e w' ⟨rfl, ⟨nd, rfl⟩⟩; refine ⟨_, rfl, ?_⟩) | ((with_reducible refine gate_callee (f := 4) rfl ?_); refine goesL_ (some 30) rfl rfl Tryd.func4 (by kernel_rfl) rfl #[.string (⟨#[45, 49, 50]⟩ : ByteArray)] rfl (by (try simp only [List.map_toArray, List.map_cons, List.map_nil]); first | done | rfl | (simp only [List.length_drop, List.length_take]; rfl)) ?_; (with_reducible refine (whole_Parse.calls (⟨#[45, 49, 50]⟩ : ByteArray) t154 t155 _ ?side1 A5.out).mono ?_); (case side1 => exact LaidW.below hL (by repeat (first | (with_reducible first | exact HB.out | apply below_alloc | apply pw_below_drewN | apply below_drew1) | exact HB.out))); rintro e w26 ⟨rfl, hb⟩; refine ⟨_, rfl, ?_⟩; have n0_ := Aside0.mk (below_step (by repeat (first | (with_reducible first | exact HB.out | apply below_alloc | apply pw_below_drewN | apply below_drew1) | exact HB.out)) hb); clear HB; have HB := n0_; clear n0_; (try clear hb); (try clear hb2); (try clear hk); (try clear hi)) | ((with_reducible refine gate_callee (f := 20) rfl ?_); refine goesL_ (some 34) rfl rfl Tryd.func20 (by kernel_rfl) rfl #[.int .i64 1, .int .i64 0] rfl (by (try simp only [List.map_toArray, List.map_cons, List.map_nil]); first | done | rfl | (simp only [List.length_drop, List.length_take]; rfl)) ?_; (with_reducible refine (whole_Div.calls 1 0 t156 t157 _ A6.out).mono ?_); rintro e w' ⟨rfl, ⟨nd, rfl⟩⟩; refine ⟨_, rfl, ?_⟩) | ((with_reducible refine gate_callee (f := 8) rfl ?_); refine goesL_ (some 39) rfl rfl Tryd.func8 (by kernel_rfl) rfl #[.int .i64 t146, .int .i64 t147, .int .i64 5, .int .i64 0] rfl (by (try simp only [List.map_toArray, List.map_cons, List.map_nil]); first | done | rfl | (simp only [List.length_drop, List.length_take]; rfl)) ?_; (with_reducible refine (stencillaw1_fine.calls t146 t147 5 0 true _ A7.out).mono ?_); rintro e w' ⟨rfl, ⟨nd, rfl⟩⟩; refine ⟨_, rfl, ?_⟩) | (go_at_call 8; (with_reducible refine (stencillaw1_fine.calls t148 t149 (-6) 0 false _ A9.out).mono ?_); rintro e w' ⟨rfl, ⟨nd, rfl⟩⟩))
      go_ret
      exact ⟨by first | rfl | (simp [errW_none, errW_some] <;> rfl) | (simp [*, errW_none, errW_some] <;> rfl), by repeat (first | (with_reducible first | exact HB.out | apply below_alloc | apply pw_below_drewN | apply below_drew1) | exact HB.out)⟩
  · replace c8 := Bool.eq_false_iff.mpr c8
    subst c8
    have H1 : (some false) = some r := by rw [if_neg (show ¬ (false = true) by decide)] at H; exact H
    clear H
    have H := H1
    clear H1
    obtain rfl := Option.some.inj H
    go_enter Tryd.func9, Tryd.ntmps9
    go_wp2_with (first | ((with_reducible refine gate_callee (f := 16) rfl ?_); refine goesL_ (some 14) rfl rfl Tryd.func16 (by kernel_rfl) rfl #[.int .i64 2, .int .i64 3] rfl (by (try simp only [List.map_toArray, List.map_cons, List.map_nil]); first | done | rfl | (simp only [List.length_drop, List.length_take]; rfl)) ?_; (with_reducible refine (whole_Add.calls 2 3 t146 t147 _ A1.out).mono ?_); rintro e w' ⟨rfl, ⟨nd, rfl⟩⟩; refine ⟨_, rfl, ?_⟩) | ((with_reducible refine gate_callee (f := 17) rfl ?_); refine goesL_ (some 18) rfl rfl Tryd.func17 (by kernel_rfl) rfl #[.int .i64 (-2), .int .i64 3] rfl (by (try simp only [List.map_toArray, List.map_cons, List.map_nil]); first | done | rfl | (simp only [List.length_drop, List.length_take]; rfl)) ?_; (with_reducible refine (whole_Mul.calls (-2) 3 t148 t149 _ A2.out).mono ?_); rintro e w' ⟨rfl, ⟨nd, rfl⟩⟩; refine ⟨_, rfl, ?_⟩) | ((with_reducible refine gate_callee (f := 18) rfl ?_); refine goesL_ (some 22) rfl rfl Tryd.func18 (by kernel_rfl) rfl #[.int .i64 1, .int .i64 62] rfl (by (try simp only [List.map_toArray, List.map_cons, List.map_nil]); first | done | rfl | (simp only [List.length_drop, List.length_take]; rfl)) ?_; (with_reducible refine (whole_Shl.calls 1 62 t150 t151 _ A3.out).mono ?_); rintro e w' ⟨rfl, ⟨nd, rfl⟩⟩; refine ⟨_, rfl, ?_⟩) | ((with_reducible refine gate_callee (f := 19) rfl ?_); refine goesL_ (some 26) rfl rfl Tryd.func19 (by kernel_rfl) rfl #[.int .i64 300, .int .i64 8, .bool false] rfl (by (try simp only [List.map_toArray, List.map_cons, List.map_nil]); first | done | rfl | (simp only [List.length_drop, List.length_take]; rfl)) ?_; (with_reducible refine (whole_To.calls k 300 8 false t152 t153 _ A4.out).mono ?_); rintro e w' ⟨rfl, ⟨nd, rfl⟩⟩; refine ⟨_, rfl, ?_⟩) | ((with_reducible refine gate_callee (f := 4) rfl ?_); refine goesL_ (some 30) rfl rfl Tryd.func4 (by kernel_rfl) rfl #[.string (⟨#[45, 49, 50]⟩ : ByteArray)] rfl (by (try simp only [List.map_toArray, List.map_cons, List.map_nil]); first | done | rfl | (simp only [List.length_drop, List.length_take]; rfl)) ?_; (with_reducible refine (whole_Parse.calls (⟨#[45, 49, 50]⟩ : ByteArray) t154 t155 _ ?side1 A5.out).mono ?_); (case side1 => exact LaidW.below hL (by repeat (first | (with_reducible first | exact HB.out | apply below_alloc | apply pw_below_drewN | apply below_drew1) | exact HB.out))); rintro e w27 ⟨rfl, hb⟩; refine ⟨_, rfl, ?_⟩; have n0_ := Aside0.mk (below_step (by repeat (first | (with_reducible first | exact HB.out | apply below_alloc | apply pw_below_drewN | apply below_drew1) | exact HB.out)) hb); clear HB; have HB := n0_; clear n0_; (try clear hb); (try clear hb2); (try clear hk); (try clear hi)) | ((with_reducible refine gate_callee (f := 20) rfl ?_); refine goesL_ (some 34) rfl rfl Tryd.func20 (by kernel_rfl) rfl #[.int .i64 1, .int .i64 0] rfl (by (try simp only [List.map_toArray, List.map_cons, List.map_nil]); first | done | rfl | (simp only [List.length_drop, List.length_take]; rfl)) ?_; (with_reducible refine (whole_Div.calls 1 0 t156 t157 _ A6.out).mono ?_); rintro e w' ⟨rfl, ⟨nd, rfl⟩⟩; refine ⟨_, rfl, ?_⟩) | ((with_reducible refine gate_callee (f := 8) rfl ?_); refine goesL_ (some 39) rfl rfl Tryd.func8 (by kernel_rfl) rfl #[.int .i64 t146, .int .i64 t147, .int .i64 5, .int .i64 0] rfl (by (try simp only [List.map_toArray, List.map_cons, List.map_nil]); first | done | rfl | (simp only [List.length_drop, List.length_take]; rfl)) ?_; (with_reducible refine (stencillaw1_fine.calls t146 t147 5 0 false _ A7.out).mono ?_); rintro e w' ⟨rfl, ⟨nd, rfl⟩⟩; refine ⟨_, rfl, ?_⟩))
    go_ret
    exact ⟨by first | rfl | (simp [errW_none, errW_some] <;> rfl) | (simp [*, errW_none, errW_some] <;> rfl), by repeat (first | (with_reducible first | exact HB.out | apply below_alloc | apply pw_below_drewN | apply below_drew1) | exact HB.out)⟩

end Go.Proofs.YtimdoelphelbeaaDoor.PWholeTexts
