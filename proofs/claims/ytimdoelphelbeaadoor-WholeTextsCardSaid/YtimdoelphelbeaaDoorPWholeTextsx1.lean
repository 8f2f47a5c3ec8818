-- Written by wip/tools/print2.py (a program of this session's, over the kit's print) out of the translation. Not trusted: Lean checks it.
import Derived.Test.YtimdoelphelbeaaDoorPWholeTextsx0
namespace Go.Proofs.YtimdoelphelbeaaDoor.PWholeTexts
open Go.RowKit Go.Proofs.YtimdoelphelbeaaDoorW.PrintWords Go.Proofs.YtimdoelphelbeaaDoorW.PrintLast Go.Proofs.YtimdoelphelbeaaDoorW.PrintMore
attribute [local go_sem] max2_int min2_int max_two min_two max_three min_three max_four min_four   -- for this text's walks alone
set_option linter.unusedVariables false
set_option linter.unusedSimpArgs false

/-! ### whole_formed: function 10 -/
mutual
def whole_formed.j0 : Nat → ByteArray → Bool → Option (Bool)
  | 0, _, _ => none
  | k + 1, x0, x13 => if x13 = true then (if 1 ≤ (x0.size : Int) then (whole_formed.j1 k (x0.extract 1 x0.size)) else (none)) else (whole_formed.j1 k x0)
def whole_formed.j1 : Nat → ByteArray → Option (Bool)
  | 0, _ => none
  | k + 1, x0 => whole_formed.l0 k x0 (x0.size : Int) 0
def whole_formed.l0 : Nat → ByteArray → Int → Int → Option (Bool)
  | 0, _, _, _ => none
  | k + 1, x0, x17, x18 => if x18 < x17 then (if 0 ≤ x18 then (if x18 < (x0.size : Int) then (if (bt x0 x18) < 48 then (some false) else (if (bt x0 x18) > 57 then (some false) else (whole_formed.l0 k x0 x17 (wrap64 (x18 + 1))))) else (none)) else (none)) else (if (x0.size : Int) > 0 then (if 0 < (x0.size : Int) then (some ((bt x0 0) != 48)) else (none)) else (some false))
end
def whole_formed.f (k : Nat) (a0 : ByteArray) : Option (Bool) := if a0.toList = ([48] : List UInt8) then (some true) else (if (a0.size : Int) > 0 then (if 0 < (a0.size : Int) then (whole_formed.j0 k a0 ((bt a0 0) == 45)) else (none)) else (whole_formed.j0 k a0 false))
theorem whole_formed.mono_l : ∀ k, (∀ y0 y1, LeO (whole_formed.j0 k y0 y1) (whole_formed.j0 (k + 1) y0 y1)) ∧ (∀ y0, LeO (whole_formed.j1 k y0) (whole_formed.j1 (k + 1) y0)) ∧ (∀ y0 y1 y2, LeO (whole_formed.l0 k y0 y1 y2) (whole_formed.l0 (k + 1) y0 y1 y2))
  | 0 => ⟨fun _ _ r h => by simp [whole_formed.j0] at h, fun _ r h => by simp [whole_formed.j1] at h, fun _ _ _ r h => by simp [whole_formed.l0] at h⟩
  | k + 1 => by
    obtain ⟨ih0, ih1, ih2⟩ := whole_formed.mono_l k
    refine ⟨?_, ?_, ?_⟩
    · intro y0 y1
      unfold whole_formed.j0
      repeat' first
      | (with_reducible exact ih0 _ _)
      | (with_reducible exact ih1 _)
      | (with_reducible exact ih2 _ _ _)
      | (with_reducible exact LeO.refl _)
      | (with_reducible exact LeO.none _)
      | (with_reducible refine LeO.ite ?_ ?_)
      | (with_reducible refine LeO.bind ?_ (fun _ => ?_))
      | exact ih0 _ _
      | exact ih1 _
      | exact ih2 _ _ _
      | exact LeO.none _
      | refine LeO.ite ?_ ?_
      | refine LeO.bind ?_ (fun _ => ?_)
    · intro y0
      unfold whole_formed.j1
      repeat' first
      | (with_reducible exact ih0 _ _)
      | (with_reducible exact ih1 _)
      | (with_reducible exact ih2 _ _ _)
      | (with_reducible exact LeO.refl _)
      | (with_reducible exact LeO.none _)
      | (with_reducible refine LeO.ite ?_ ?_)
      | (with_reducible refine LeO.bind ?_ (fun _ => ?_))
      | exact ih0 _ _
      | exact ih1 _
      | exact ih2 _ _ _
      | exact LeO.none _
      | refine LeO.ite ?_ ?_
      | refine LeO.bind ?_ (fun _ => ?_)
    · intro y0 y1 y2
      unfold whole_formed.l0
      repeat' first
      | (with_reducible exact ih0 _ _)
      | (with_reducible exact ih1 _)
      | (with_reducible exact ih2 _ _ _)
      | (with_reducible exact LeO.refl _)
      | (with_reducible exact LeO.none _)
      | (with_reducible refine LeO.ite ?_ ?_)
      | (with_reducible refine LeO.bind ?_ (fun _ => ?_))
      | exact ih0 _ _
      | exact ih1 _
      | exact ih2 _ _ _
      | exact LeO.none _
      | refine LeO.ite ?_ ?_
      | refine LeO.bind ?_ (fun _ => ?_)
theorem whole_formed.mono : ∀ a0 k, LeO (whole_formed.f k a0) (whole_formed.f (k + 1) a0) := by
  intro a0 k
  obtain ⟨ih0, ih1, ih2⟩ := whole_formed.mono_l k
  unfold whole_formed.f
  repeat' first
      | (with_reducible exact ih0 _ _)
      | (with_reducible exact ih1 _)
      | (with_reducible exact ih2 _ _ _)
      | (with_reducible exact LeO.refl _)
      | (with_reducible exact LeO.none _)
      | (with_reducible refine LeO.ite ?_ ?_)
      | (with_reducible refine LeO.bind ?_ (fun _ => ?_))
      | exact ih0 _ _
      | exact ih1 _
      | exact ih2 _ _ _
      | exact LeO.none _
      | refine LeO.ite ?_ ?_
      | refine LeO.bind ?_ (fun _ => ?_)
set_option maxHeartbeats 8000000 in
set_option maxRecDepth 100000 in
theorem whole_formed.calls (k : Nat) (a0 : ByteArray) (r : Bool) (w : World) (h : whole_formed.f k a0 = some r) :
    Calls Tryd.prog 10 #[.string a0] w fun e w' => e = .returned (.bool r) ∧ Drawn0 w w' := by
  have H : (if a0.toList = ([48] : List UInt8) then (some true) else (if (a0.size : Int) > 0 then (if 0 < (a0.size : Int) then (whole_formed.j0 k a0 ((bt a0 0) == 45)) else (none)) else (whole_formed.j0 k a0 false))) = some r := h
  clear h
  by_cases c2 : a0.toList = ([48] : List UInt8)
  · rw [if_pos c2] at H
    have c2b0 : (a0.toList == ([48] : List UInt8)) = true := beq_iff_eq.mpr c2
    have c2b1 : (a0.toList != ([48] : List UInt8)) = false := bne_eq_false_iff_eq.mpr c2
    clear c2
    obtain rfl := Option.some.inj H
    go_enter Tryd.func10, Tryd.ntmps10
    go_wp2
    go_ret
    exact ⟨by first | rfl | (simp; done) | (simp [*]; done), by repeat (first | exact Drawn0.refl _ | apply Drawn0.step)⟩
  · rw [if_neg c2] at H
    have c2b0 : (a0.toList == ([48] : List UInt8)) = false := beq_eq_false_iff_ne.mpr c2
    have c2b1 : (a0.toList != ([48] : List UInt8)) = true := bne_iff_ne.mpr c2
    have HC3 := Aside0.mk H
    clear H
    go_enter Tryd.func10, Tryd.ntmps10
    go_upto_region 3 with (fail)
    go_cut [13] (fun v13 wc => ∃ (kq : Nat) (x13_2 : Bool), v13 = .bool x13_2 ∧ Aside0 (whole_formed.j0 kq a0 x13_2 = some r) ∧ Aside0 (kq ≤ k) ∧ Drawn0 w wc)
    case first =>
      have H := HC3.out
      clear HC3
      by_cases c4 : (a0.size : Int) > 0
      · rw [if_pos c4] at H
        have c4b0 : decide (0 < (a0.size : Int)) = true := decide_eq_true c4
        have c4b1 : decide (0 < a0.size) = true := decide_eq_true (by omega)
        clear c4
        (first | rw [c4b0] | (simp only [i64_w, i32_w]; rw [c4b0]) | skip)
        by_cases c5 : 0 < (a0.size : Int)
        · rw [if_pos c5] at H
          have c5b0 : decide (0 < (a0.size : Int)) = true := decide_eq_true c5
          have c5b1 : decide (0 < a0.size) = true := decide_eq_true (by omega)
          clear c5
          have H' := Aside0.mk H
          clear H
          have p6 : 0 ≤ (0 : Int) := (by omega)
          have q6 : 0 < a0.size := (by have : (0 : Int) < (a0.size : Int) := of_decide_eq_true (by first | (with_reducible assumption) | assumption); omega)
          have hx6 : ∀ h : 0 < a0.size, ((a0[0]'h).toNat : Int) = bt a0 0 := bt_at a0 0
          clear p6
          have qi6 : (0 < (a0.size : Int)) = True := eq_true (of_decide_eq_true (by first | (with_reducible assumption) | assumption))
          replace q6 := eq_true q6
          go_wp2
          go_meet
          case rel => exact ⟨_, (((bt a0 0) == 45)), (by first | rfl | (simp; done) | (simp [*]; done)), H', ⟨by first | omega | exact Nat.le_refl _⟩, by repeat (first | exact Drawn0.refl _ | apply Drawn0.step)⟩
        · rw [if_neg c5] at H
          exact absurd H (by simp)
      · rw [if_neg c4] at H
        have c4b0 : decide (0 < (a0.size : Int)) = false := decide_eq_false c4
        have c4b1 : decide (0 < a0.size) = false := decide_eq_false (by omega)
        clear c4
        (first | rw [c4b0] | (simp only [i64_w, i32_w]; rw [c4b0]) | skip)
        have H' := Aside0.mk H
        clear H
        go_wp2
        go_meet
        case rel => exact ⟨_, (false), (by first | rfl | (simp; done) | (simp [*]; done)), H', ⟨by first | omega | exact Nat.le_refl _⟩, by repeat (first | exact Drawn0.refl _ | apply Drawn0.step)⟩
    case rest =>
      clear HC3
      try clear c1
      try clear c2
      try clear c2b0
      try clear c2b1
      try clear p2
      try clear c4
      try clear c4b0
      try clear c4b1
      try clear c5
      try clear c5b0
      try clear c5b1
      try clear p6
      try clear q6
      try clear hx6
      try clear qi6
      try clear p6
      try clear q6
      obtain ⟨kq, x13_2, rfl, HA, HJ2, ⟨mc2, rfl⟩⟩ := hcut
      cases kq with
      | zero => exact absurd HA.out (by simp [whole_formed.j0])
      | succ kj2 =>
        have H := HA.out
        clear HA
        simp only [whole_formed.j0] at H
        have HC7 := Aside0.mk H
        clear H
        go_upto_if 13 with (fail)
        go_cut [0] (fun v0 wc => ∃ (kq : Nat) (x0_6 : ByteArray), v0 = .string x0_6 ∧ Aside0 (whole_formed.j1 kq x0_6 = some r) ∧ Aside0 (kq ≤ kj2) ∧ Drawn0 w wc)
        case first =>
          have H := HC7.out
          clear HC7
          by_cases c8 : x13_2 = true
          · subst c8
            have H1 : (if 1 ≤ (a0.size : Int) then (whole_formed.j1 kj2 (a0.extract 1 a0.size)) else (none)) = some r := by rw [if_pos rfl] at H; exact H
            clear H
            have H := H1
            clear H1
            by_cases c9 : 1 ≤ (a0.size : Int)
            · rw [if_pos c9] at H
              have c9b0 := eq_true c9
              have c9b1 : decide (1 ≤ (a0.size : Int)) = true := decide_eq_true c9
              clear c9
              have H' := Aside0.mk H
              clear H
              go_wp2
              go_meet
              case rel => exact ⟨_, (a0.extract 1 a0.size), (by first | rfl | (simp; done) | (simp [*]; done)), H', ⟨by have := HJ2.out; first | omega | exact Nat.le_refl _⟩, by repeat (first | exact Drawn0.refl _ | apply Drawn0.step)⟩
            · rw [if_neg c9] at H
              exact absurd H (by simp)
          · replace c8 := Bool.eq_false_iff.mpr c8
            subst c8
            have H1 : (whole_formed.j1 kj2 a0) = some r := by rw [if_neg (show ¬ (false = true) by decide)] at H; exact H
            clear H
            have H := H1
            clear H1
            have H' := Aside0.mk H
            clear H
            go_wp2
            go_meet
            case rel => exact ⟨_, (a0), (by first | rfl | (simp; done) | (simp [*]; done)), H', ⟨by have := HJ2.out; first | omega | exact Nat.le_refl _⟩, by repeat (first | exact Drawn0.refl _ | apply Drawn0.step)⟩
        case rest =>
          clear HC7
          try clear c1
          try clear c2
          try clear c2b0
          try clear c2b1
          try clear p2
          try clear c4
          try clear c4b0
          try clear c4b1
          try clear c5
          try clear c5b0
          try clear c5b1
          try clear p6
          try clear q6
          try clear hx6
          try clear qi6
          try clear c8
          try clear c9
          try clear c9b0
          try clear c9b1
          try clear p2
          try clear p6
          try clear q6
          obtain ⟨kq, x0_6, rfl, HA, HJ6, ⟨mc6, rfl⟩⟩ := hcut
          cases kq with
          | zero => exact absurd HA.out (by simp [whole_formed.j1])
          | succ kj6 =>
            have H := HA.out
            clear HA
            simp only [whole_formed.j1] at H
            have H' := Aside0.mk H
            clear H
            go_wp2
            go_loopg [18] kj6 (fun kq v18 w' => ∃ (x18_3 : Int), v18 = .int .i64 x18_3 ∧ Aside0 (whole_formed.l0 kq x0_6 (x0_6.size : Int) x18_3 = some r) ∧ Aside0 (kq ≤ kj6) ∧ Drawn0 w w')
            case atStart => exact ⟨(0), (by first | rfl | (simp; done) | (simp [*]; done)), H', ⟨Nat.le_refl _⟩, by repeat (first | exact Drawn0.refl _ | apply Drawn0.step)⟩
            case round =>
              clear H'
              try clear c1
              try clear c2
              try clear c2b0
              try clear c2b1
              try clear p2
              try clear c4
              try clear c4b0
              try clear c4b1
              try clear c5
              try clear c5b0
              try clear c5b1
              try clear c6
              try clear p6
              try clear q6
              try clear hx6
              try clear qi6
              try clear c8
              try clear c9
              try clear c9b0
              try clear c9b1
              try clear p2
              try clear p6
              try clear q6
              obtain ⟨x18_3, rfl, HA, HK3, ⟨m3, rfl⟩⟩ := hrel
              cases gk with
              | zero => exact absurd HA.out (by simp [whole_formed.l0])
              | succ k3 =>
                have H := HA.out
                clear HA
                simp only [whole_formed.l0] at H
                by_cases c10 : x18_3 < (x0_6.size : Int)
                · rw [if_pos c10] at H
                  have c10b0 : decide (x18_3 < (x0_6.size : Int)) = true := decide_eq_true c10
                  clear c10
                  by_cases c11 : 0 ≤ x18_3
                  · rw [if_pos c11] at H
                    have c11b0 : decide (0 ≤ x18_3) = true := decide_eq_true c11
                    clear c11
                    by_cases c12 : x18_3 < (x0_6.size : Int)
                    · rw [if_pos c12] at H
                      have c12b0 : decide (x18_3 < (x0_6.size : Int)) = true := decide_eq_true c12
                      clear c12
                      by_cases c14 : (bt x0_6 x18_3) < 48
                      · rw [if_pos c14] at H
                        have c14b0 : decide ((bt x0_6 x18_3) < 48) = true := decide_eq_true c14
                        clear c14
                        obtain rfl := Option.some.inj H
                        have p13 : 0 ≤ (x18_3 : Int) := of_decide_eq_true (by first | (with_reducible assumption) | assumption)
                        have q13 : x18_3 < (x0_6.size : Int) := of_decide_eq_true (by first | (with_reducible assumption) | assumption)
                        have hx13 := bt_at x0_6 x18_3
                        replace p13 := eq_true p13
                        replace q13 := eq_true q13
                        go_wp2
                        go_ret
                        exact ⟨by first | rfl | (simp; done) | (simp [*]; done), by repeat (first | exact Drawn0.refl _ | apply Drawn0.step)⟩
                      · rw [if_neg c14] at H
                        have c14b0 : decide ((bt x0_6 x18_3) < 48) = false := decide_eq_false c14
                        clear c14
                        by_cases c16 : (bt x0_6 x18_3) > 57
                        · rw [if_pos c16] at H
                          have c16b0 : decide (57 < (bt x0_6 x18_3)) = true := decide_eq_true c16
                          clear c16
                          obtain rfl := Option.some.inj H
                          have p13 : 0 ≤ (x18_3 : Int) := of_decide_eq_true (by first | (with_reducible assumption) | assumption)
                          have q13 : x18_3 < (x0_6.size : Int) := of_decide_eq_true (by first | (with_reducible assumption) | assumption)
                          have hx13 := bt_at x0_6 x18_3
                          replace p13 := eq_true p13
                          replace q13 := eq_true q13
                          have p15 : 0 ≤ (x18_3 : Int) := of_decide_eq_true (by first | (with_reducible assumption) | assumption)
                          have q15 : x18_3 < (x0_6.size : Int) := of_decide_eq_true (by first | (with_reducible assumption) | assumption)
                          have hx15 := bt_at x0_6 x18_3
                          replace p15 := eq_true p15
                          replace q15 := eq_true q15
                          go_wp2
                          go_ret
                          exact ⟨by first | rfl | (simp; done) | (simp [*]; done), by repeat (first | exact Drawn0.refl _ | apply Drawn0.step)⟩
                        · rw [if_neg c16] at H
                          have c16b0 : decide (57 < (bt x0_6 x18_3)) = false := decide_eq_false c16
                          clear c16
                          have H' := Aside0.mk H
                          clear H
                          have p13 : 0 ≤ (x18_3 : Int) := of_decide_eq_true (by first | (with_reducible assumption) | assumption)
                          have q13 : x18_3 < (x0_6.size : Int) := of_decide_eq_true (by first | (with_reducible assumption) | assumption)
                          have hx13 := bt_at x0_6 x18_3
                          replace p13 := eq_true p13
                          replace q13 := eq_true q13
                          have p15 : 0 ≤ (x18_3 : Int) := of_decide_eq_true (by first | (with_reducible assumption) | assumption)
                          have q15 : x18_3 < (x0_6.size : Int) := of_decide_eq_true (by first | (with_reducible assumption) | assumption)
                          have hx15 := bt_at x0_6 x18_3
                          replace p15 := eq_true p15
                          replace q15 := eq_true q15
                          go_wp2
                          go_roundg k3
                          case measure => have := HJ2.out; have := HJ6.out; have := HK3.out; omega
                          case rel => exact ⟨(wrap64 (x18_3 + 1)), (by first | rfl | (simp; done) | (simp [*]; done)), H', ⟨by have := HJ2.out; have := HJ6.out; have := HK3.out; omega⟩, by repeat (first | exact Drawn0.refl _ | apply Drawn0.step)⟩
                    · rw [if_neg c12] at H
                      exact absurd H (by simp)
                  · rw [if_neg c11] at H
                    exact absurd H (by simp)
                · rw [if_neg c10] at H
                  have c10b0 : decide (x18_3 < (x0_6.size : Int)) = false := decide_eq_false c10
                  clear c10
                  by_cases c17 : (x0_6.size : Int) > 0
                  · rw [if_pos c17] at H
                    have c17b0 : decide (0 < (x0_6.size : Int)) = true := decide_eq_true c17
                    have c17b1 : decide (0 < x0_6.size) = true := decide_eq_true (by omega)
                    clear c17
                    by_cases c18 : 0 < (x0_6.size : Int)
                    · rw [if_pos c18] at H
                      have c18b0 : decide (0 < (x0_6.size : Int)) = true := decide_eq_true c18
                      have c18b1 : decide (0 < x0_6.size) = true := decide_eq_true (by omega)
                      clear c18
                      obtain rfl := Option.some.inj H
                      have p19 : 0 ≤ (0 : Int) := (by omega)
                      have q19 : 0 < x0_6.size := (by have : (0 : Int) < (x0_6.size : Int) := of_decide_eq_true (by first | (with_reducible assumption) | assumption); omega)
                      have hx19 : ∀ h : 0 < x0_6.size, ((x0_6[0]'h).toNat : Int) = bt x0_6 0 := bt_at x0_6 0
                      clear p19
                      have qi19 : (0 < (x0_6.size : Int)) = True := eq_true (of_decide_eq_true (by first | (with_reducible assumption) | assumption))
                      replace q19 := eq_true q19
                      go_wp2
                      go_ret
                      exact ⟨by first | rfl | (simp; done) | (simp [*]; done), by repeat (first | exact Drawn0.refl _ | apply Drawn0.step)⟩
                    · rw [if_neg c18] at H
                      exact absurd H (by simp)
                  · rw [if_neg c17] at H
                    have c17b0 : decide (0 < (x0_6.size : Int)) = false := decide_eq_false c17
                    have c17b1 : decide (0 < x0_6.size) = false := decide_eq_false (by omega)
                    clear c17
                    obtain rfl := Option.some.inj H
                    go_wp2
                    go_ret
                    exact ⟨by first | rfl | (simp; done) | (simp [*]; done), by repeat (first | exact Drawn0.refl _ | apply Drawn0.step)⟩

-- NOT PRINTED: function 41 (strconv_lower)

-- NOT PRINTED: function 42 (strconv_underscoreOK)

-- NOT PRINTED: function 34 (strconv_ParseUint)

-- NOT PRINTED: function 28 (strconv_ParseInt)

-- NOT PRINTED: function 21 (strconv_Atoi_21)

-- NOT PRINTED: function 35 (stringslite_Clone)

-- NOT PRINTED: function 29 (strconv_syntaxError)

-- NOT PRINTED: function 30 (strconv_rangeError)

-- NOT PRINTED: function 37 (strconv_small)

-- NOT PRINTED: function 43 (strconv_log10Pow2)

-- NOT PRINTED: function 44 (bits_Len64)

-- NOT PRINTED: function 45 (strconv_bool2_int)

-- NOT PRINTED: function 38 (strconv_numDigits)

-- NOT PRINTED: function 39 (strconv_formatBase10)

-- NOT PRINTED: function 46 (strconv_isPowerOfTwo)

-- NOT PRINTED: function 48 (bits_TrailingZeros32)

-- NOT PRINTED: function 49 (bits_TrailingZeros64)

-- NOT PRINTED: function 47 (bits_TrailingZeros)

-- NOT PRINTED: function 40 (strconv_formatBits)

-- NOT PRINTED: function 33 (strconv_FormatInt)

-- NOT PRINTED: function 23 (strconv_Itoa_23)

-- NOT PRINTED: function 13 (strconv_Itoa_13)

-- NOT PRINTED: function 36 (errors_New)

-- NOT PRINTED: function 31 (strconv_baseError)

-- NOT PRINTED: function 32 (strconv_bitSizeError)

-- NOT PRINTED: function 22 (strconv_toError)

-- NOT PRINTED: function 11 (strconv_Atoi_11)

/-! ### whole_Parse: function 4: not printed -/
theorem bt_get (s : ByteArray) (i : Nat) (h : i < s.data.toList.length) : bt s (i : Int) = ((s.data.toList[i]'h).toNat : Int) := by
  have hs : i < s.size := by simpa using h
  unfold bt
  rw [dif_pos (by simpa using hs)]
  simp only [Int.toNat_natCast]
  rfl
theorem len_size (s : ByteArray) : s.data.toList.length = s.size := by simp
theorem w64 {x : Int} (h0 : -9223372036854775808 ≤ x) (h1 : x ≤ 9223372036854775807) : wrap64 x = x := by unfold wrap64; omega
theorem u64 {x : Int} (h0 : 0 ≤ x) (h1 : x < 18446744073709551616) : IntKind.u64.wrap x = x := by
  have : IntKind.u64.wrap x = x % 18446744073709551616 := rfl
  rw [this]; omega
theorem isD_iff (c : UInt8) : (WNum.isD c = true) ↔ (48 ≤ (c.toNat : Int) ∧ (c.toNat : Int) ≤ 57) := by unfold WNum.isD; simp only [decide_eq_true_eq]; omega

/-- The loop of whole.formed. -/
theorem formed_l0 (s : ByteArray) (hs : s.size ≤ 140737488351232) (d : Nat) : ∀ (k i : Nat), i ≤ s.size → s.size - i = d → d < k →
    whole_formed.l0 k s (s.size : Int) (i : Int) = some ((s.data.toList.drop i).all WNum.isD && (!s.data.toList.isEmpty && decide (s.data.toList.head? ≠ some 48))) := by
  induction d with
  | zero =>
    intro k i h1 hd hk
    obtain ⟨k, rfl⟩ : ∃ m, k = m + 1 := ⟨k - 1, by omega⟩
    have hi : s.data.toList.length ≤ i := by rw [len_size]; omega
    simp only [whole_formed.l0]
    rw [if_neg (by omega), List.drop_eq_nil_of_le hi]
    cases hl : s.data.toList with
    | nil =>
      have : s.size = 0 := by rw [← len_size, hl]; rfl
      rw [if_neg (by omega)]; rfl
    | cons x r =>
      have hsz : 0 < s.size := by rw [← len_size, hl]; simp
      rw [if_pos (by omega), if_pos (by omega)]
      have hb := bt_get s 0 (by rw [len_size]; omega)
      have hx : s.data.toList[0]'(by rw [len_size]; omega) = x := by simp [hl]
      rw [hx] at hb
      rw [show bt s 0 = (x.toNat : Int) from hb]
      have hiff : ((x.toNat : Int) != 48) = decide ((x :: r).head? ≠ some 48) := by
        rw [Bool.eq_iff_iff]
        simp only [bne_iff_ne, ne_eq, List.head?_cons, Option.some.injEq, decide_eq_true_eq]
        constructor
        · intro h e; exact h (by rw [e]; rfl)
        · intro h e; exact h (UInt8.toNat_inj.mp (by have : x.toNat = 48 := by omega
                                                     rw [this]; rfl))
      rw [hiff]
      rfl
  | succ d ih =>
    intro k i h1 hd hk
    obtain ⟨k, rfl⟩ : ∃ m, k = m + 1 := ⟨k - 1, by omega⟩
    have hi : i < s.data.toList.length := by rw [len_size]; omega
    simp only [whole_formed.l0]
    rw [if_pos (by omega), if_pos (by omega), if_pos (by omega), bt_get s i hi, List.drop_eq_getElem_cons hi, List.all_cons]
    generalize hc : s.data.toList[i] = c
    have hD := isD_iff c
    by_cases h48 : (c.toNat : Int) < 48
    · rw [if_pos h48, show WNum.isD c = false by cases hq : WNum.isD c with
        | false => rfl
        | true => have := hD.1 hq; omega]
      rfl
    · rw [if_neg h48]
      by_cases h57 : (c.toNat : Int) > 57
      · rw [if_pos h57, show WNum.isD c = false by cases hq : WNum.isD c with
          | false => rfl
          | true => have := hD.1 hq; omega]
        rfl
      · rw [if_neg h57, hD.2 ⟨by omega, by omega⟩, Bool.true_and, w64 (by omega) (by omega)]
        exact ih k (i + 1) (by omega) (by omega) (by omega)

theorem formed_j1 (s : ByteArray) (hs : s.size ≤ 140737488351232) (k : Nat) (hk : s.size + 2 < k) :
    whole_formed.j1 k s = some (WNum.okD s.data.toList) := by
  obtain ⟨k, rfl⟩ : ∃ m, k = m + 1 := ⟨k - 1, by omega⟩
  simp only [whole_formed.j1]
  have := formed_l0 s hs s.size k 0 (by omega) (by omega) (by omega)
  rw [show ((0 : Nat) : Int) = 0 from rfl] at this
  rw [this, List.drop_zero]
  unfold WNum.okD
  rw [Bool.and_assoc]

theorem formed_f (s : ByteArray) (hs : s.size ≤ 140737488351232) (k : Nat) (hk : s.size + 5 < k) :
    whole_formed.f k s = some (WNum.formed s.data.toList) := by
  unfold whole_formed.f
  rw [ByteArray.toList_eq]
  unfold WNum.formed
  by_cases h0 : s.data.toList = [48]
  · rw [if_pos h0, decide_eq_true h0, Bool.true_or]
  · rw [if_neg h0, decide_eq_false h0, Bool.false_or]
    obtain ⟨k, rfl⟩ : ∃ m, k = m + 1 := ⟨k - 1, by omega⟩
    cases hl : s.data.toList with
    | nil =>
      have : s.size = 0 := by rw [← len_size, hl]; rfl
      rw [if_neg (by omega)]
      simp only [whole_formed.j0]
      have hff : ¬ (false = true) := by decide
      rw [if_neg hff, formed_j1 s hs k (by omega), hl]; rfl
    | cons x r =>
      have hsz : 0 < s.size := by rw [← len_size, hl]; simp
      have hb := bt_get s 0 (by rw [len_size]; omega)
      have hx : s.data.toList[0]'(by rw [len_size]; omega) = x := by simp [hl]
      rw [hx] at hb
      rw [if_pos (by omega), if_pos (by omega), show bt s 0 = (x.toNat : Int) from hb]
      simp only [whole_formed.j0]
      by_cases h45 : x.toNat = 45
      · rw [if_pos (by rw [h45]; rfl), if_pos (by omega)]
        have he : (s.extract 1 s.size).data.toList = r := by rw [Lib.extract_to_end, hl]; rfl
        have hz : (s.extract 1 s.size).size = s.size - 1 := by rw [← len_size, he, ← len_size, hl]; simp
        rw [formed_j1 _ (by omega) k (by omega), he]
        simp [WNum.body, h45]
      · rw [if_neg (by simp only [beq_iff_eq]; omega), formed_j1 s hs k (by omega), hl]
        simp [WNum.body, h45]


theorem okW {w : World} (n : Nat) {w' : World} (h : w' = w.drewN n ∨ ∃ t, w' = Lib.bytesWorld (w.drewN n) 5 t) : Below w.heap.size w w' := by
  rcases h with rfl | ⟨t, rfl⟩
  · exact pw_below_drewN (Below.refl _ _) _
  · have hb := Lib.bytesWorld_below (w.drewN n) 5 t
    exact below_then (pw_below_drewN (Below.refl w.heap.size w) n) (Nat.le_refl _) hb
def whole_Parse.f (a0 : ByteArray) : Option (Int × Int) := if a0.size ≤ 140737488351232 then some (WNum.parse a0.data.toList) else none
set_option maxHeartbeats 1000000 in
set_option maxRecDepth 100000 in
theorem whole_Parse.calls (a0 : ByteArray) (r1 : Int) (r2 : Int) (w : World) (hL : LaidW w) (h : whole_Parse.f a0 = some (r1, r2)) :
    Calls Tryd.prog 4 #[.string a0] w fun e w' => e = .returned (.tuple #[.int .i64 r1, .int .i64 r2]) ∧ Below w.heap.size w w' := by
  unfold whole_Parse.f at h
  have hs : a0.size ≤ 140737488351232 := by
    by_cases hs : a0.size ≤ 140737488351232
    · exact hs
    · rw [if_neg hs] at h; cases h
  rw [if_pos hs] at h
  have hF := formed_f a0 hs (a0.size + 6) (by omega)
  have e1 : (WNum.parse a0.data.toList).1 = r1 := by injection h with h; rw [h]
  have e2 : (WNum.parse a0.data.toList).2 = r2 := by injection h with h; rw [h]
  clear h
  by_cases hf : WNum.formed a0.data.toList = true
  · rw [hf] at hF
    have hA := WNum.atoi_formed hf
    have H1 := Aside0.mk hF
    clear hF
    by_cases h0 : (WNum.parse a0.data.toList).2 = 0
    · rw [if_pos h0] at hA
      rw [e1] at hA
      rw [e2] at h0
      have HA := Aside0.mk hA
      clear hA e1 e2 hf
      subst h0
      go_enter Tryd.func4, Tryd.ntmps4
      go_wp2_with (first | (go_at_call 10; ((with_reducible refine (whole_formed.calls _ a0 true _ H1.out).mono ?_); rintro e w' ⟨rfl, ⟨nd, rfl⟩⟩)) | (go_at_call 11; (refine (Tryd.strconv_Atoi_ok a0 (by omega) r1 HA.out _).mono ?_; rintro e w' ⟨rfl, hw⟩; have HW := okW _ hw; clear hw)))
      go_ret2
      exact ⟨rfl, HW⟩
    · rw [if_neg h0] at hA
      have e3 := WNum.parse_err _ h0
      rw [e1] at e3
      have e4 : r2 = 100 := by
        rw [← e2]
        unfold WNum.parse at h0 ⊢
        rw [if_pos hf] at h0 ⊢
        dsimp only at h0 ⊢
        split
        · rename_i hn
          rw [if_pos hn] at h0
          split
          · rename_i hv; rw [if_pos hv] at h0; exact absurd rfl h0
          · rfl
        · rename_i hn
          rw [if_neg hn] at h0
          split
          · rename_i hv; rw [if_pos hv] at h0; exact absurd rfl h0
          · rfl
      subst e3 e4
      have HA := Aside0.mk hA
      clear hA e1 e2 hf h0
      obtain ⟨tp, p, hv⟩ := hL.1
      have HV := Aside0.mk hv
      clear hv
      go_enter Tryd.func4, Tryd.ntmps4
      go_wp2_with (first | (go_at_call 10; ((with_reducible refine (whole_formed.calls _ a0 true _ H1.out).mono ?_); rintro e w' ⟨rfl, ⟨nd, rfl⟩⟩)) | (go_at_call 11; (refine (Tryd.strconv_Atoi_range_var a0 (by omega) HA.out tp p _ ?side1).mono ?_; (case side1 => exact HV.out); rintro e w' ⟨N, rfl, _, _, HW⟩)))
      go_ret2
      exact ⟨rfl, (pw_below_drewN (Below.refl _ _) _).trans HW⟩
  · have hf' : WNum.formed a0.data.toList = false := by simpa using hf
    rw [hf'] at hF
    have e3 : r1 = 0 := by rw [← e1]; unfold WNum.parse; rw [if_neg hf]
    have e4 : r2 = 104 := by rw [← e2]; unfold WNum.parse; rw [if_neg hf]
    subst e3 e4
    have H1 := Aside0.mk hF
    clear hF e1 e2 hf hf'
    go_enter Tryd.func4, Tryd.ntmps4
    go_wp2_with (first | (go_at_call 10; ((with_reducible refine (whole_formed.calls _ a0 false _ H1.out).mono ?_); rintro e w' ⟨rfl, ⟨nd, rfl⟩⟩)))
    go_ret2
    exact ⟨rfl, pw_below_drewN (Below.refl _ _) _⟩

/-! ### stencilref1_back: function 12 -/
def stencilref1_back.j0 : Nat → Bool → Int → Bool → Option (Int × Int)
  | 0, _, _, _ => none
  | k + 1, x0, x2, x24 => if x24 = true then (some (0, 100)) else (if x0 = true then (if x2 > 0 then (some (wrap64 ((wrap64 (-(wrap64 (IntKind.u64.wrap (x2 - 1))))) - 1), 0)) else (some (wrap64 (x2), 0))) else (some (wrap64 (x2), 0)))
def stencilref1_back.f (k : Nat) (a0 : Bool) (a1 : Int) (a2 : Int) : Option (Int × Int) := if a1 > 0 then (stencilref1_back.j0 k a0 a2 true) else (if a2 > 9223372036854775808 then (stencilref1_back.j0 k a0 a2 true) else (if a2 = 9223372036854775808 then (stencilref1_back.j0 k a0 a2 (!a0)) else (stencilref1_back.j0 k a0 a2 false)))
theorem stencilref1_back.mono_l : ∀ k, (∀ y0 y1 y2, LeO (stencilref1_back.j0 k y0 y1 y2) (stencilref1_back.j0 (k + 1) y0 y1 y2))
  | 0 => fun _ _ _ r h => by simp [stencilref1_back.j0] at h
  | k + 1 => by
    have ih0 := stencilref1_back.mono_l k
    · intro y0 y1 y2
      unfold stencilref1_back.j0
      repeat' first
      | (with_reducible exact ih0 _ _ _)
      | (with_reducible exact LeO.refl _)
      | (with_reducible exact LeO.none _)
      | (with_reducible refine LeO.ite ?_ ?_)
      | (with_reducible refine LeO.bind ?_ (fun _ => ?_))
      | exact ih0 _ _ _
      | exact LeO.none _
      | refine LeO.ite ?_ ?_
      | refine LeO.bind ?_ (fun _ => ?_)
theorem stencilref1_back.mono : ∀ a0 a1 a2 k, LeO (stencilref1_back.f k a0 a1 a2) (stencilref1_back.f (k + 1) a0 a1 a2) := by
  intro a0 a1 a2 k
  have ih0 := stencilref1_back.mono_l k
  unfold stencilref1_back.f
  repeat' first
      | (with_reducible exact ih0 _ _ _)
      | (with_reducible exact LeO.refl _)
      | (with_reducible exact LeO.none _)
      | (with_reducible refine LeO.ite ?_ ?_)
      | (with_reducible refine LeO.bind ?_ (fun _ => ?_))
      | exact ih0 _ _ _
      | exact LeO.none _
      | refine LeO.ite ?_ ?_
      | refine LeO.bind ?_ (fun _ => ?_)
set_option maxHeartbeats 8000000 in
set_option maxRecDepth 100000 in
theorem stencilref1_back.calls (k : Nat) (a0 : Bool) (a1 : Int) (a2 : Int) (r1 : Int) (r2 : Int) (w : World) (h : stencilref1_back.f k a0 a1 a2 = some (r1, r2)) :
    Calls Tryd.prog 12 #[.bool a0, .int .u64 a1, .int .u64 a2] w fun e w' => e = .returned (.tuple #[.int .i64 r1, .int .i64 r2]) ∧ Drawn0 w w' := by
  have H : (if a1 > 0 then (stencilref1_back.j0 k a0 a2 true) else (if a2 > 9223372036854775808 then (stencilref1_back.j0 k a0 a2 true) else (if a2 = 9223372036854775808 then (stencilref1_back.j0 k a0 a2 (!a0)) else (stencilref1_back.j0 k a0 a2 false)))) = some (r1, r2) := h
  clear h
  have HC4 := Aside0.mk H
  clear H
  go_enter Tryd.func12, Tryd.ntmps12
  go_upto_region 2 with (fail)
  go_cut [24] (fun v24 wc => ∃ (kq : Nat) (x24_3 : Bool), v24 = .bool x24_3 ∧ Aside0 (stencilref1_back.j0 kq a0 a2 x24_3 = some (r1, r2)) ∧ Aside0 (kq ≤ k) ∧ Drawn0 w wc)
  case first =>
    have H := HC4.out
    clear HC4
    by_cases c5 : a1 > 0
    · rw [if_pos c5] at H
      have c5b0 : decide (0 < a1) = true := decide_eq_true c5
      clear c5
      (first | rw [c5b0] | (simp only [i64_w, i32_w]; rw [c5b0]) | skip)
      have H' := Aside0.mk H
      clear H
      go_wp2
      go_meet
      case rel => exact ⟨_, (true), (by first | rfl | (simp; done) | (simp [*]; done)), H', ⟨by first | omega | exact Nat.le_refl _⟩, by repeat (first | exact Drawn0.refl _ | apply Drawn0.step)⟩
    · rw [if_neg c5] at H
      have c5b0 : decide (0 < a1) = false := decide_eq_false c5
      clear c5
      (first | rw [c5b0] | (simp only [i64_w, i32_w]; rw [c5b0]) | skip)
      by_cases c6 : a2 > 9223372036854775808
      · rw [if_pos c6] at H
        have c6b0 : decide (9223372036854775808 < a2) = true := decide_eq_true c6
        clear c6
        have H' := Aside0.mk H
        clear H
        go_wp2
        go_meet
        case rel => exact ⟨_, (true), (by first | rfl | (simp; done) | (simp [*]; done)), H', ⟨by first | omega | exact Nat.le_refl _⟩, by repeat (first | exact Drawn0.refl _ | apply Drawn0.step)⟩
      · rw [if_neg c6] at H
        have c6b0 : decide (9223372036854775808 < a2) = false := decide_eq_false c6
        clear c6
        by_cases c7 : a2 = 9223372036854775808
        · rw [if_pos c7] at H
          have c7b0 : (a2 == 9223372036854775808) = true := beq_iff_eq.mpr c7
          have c7b1 : (a2 != 9223372036854775808) = false := bne_eq_false_iff_eq.mpr c7
          clear c7
          have H' := Aside0.mk H
          clear H
          go_wp2
          go_meet
          case rel => exact ⟨_, (!a0), (by first | rfl | (simp; done) | (simp [*]; done)), H', ⟨by first | omega | exact Nat.le_refl _⟩, by repeat (first | exact Drawn0.refl _ | apply Drawn0.step)⟩
        · rw [if_neg c7] at H
          have c7b0 : (a2 == 9223372036854775808) = false := beq_eq_false_iff_ne.mpr c7
          have c7b1 : (a2 != 9223372036854775808) = true := bne_iff_ne.mpr c7
          have H' := Aside0.mk H
          clear H
          go_wp2
          go_meet
          case rel => exact ⟨_, (false), (by first | rfl | (simp; done) | (simp [*]; done)), H', ⟨by first | omega | exact Nat.le_refl _⟩, by repeat (first | exact Drawn0.refl _ | apply Drawn0.step)⟩
  case rest =>
    clear HC4
    try clear c1
    try clear p2
    try clear c5
    try clear c5b0
    try clear c6
    try clear c6b0
    try clear c7
    try clear c7b0
    try clear c7b1
    obtain ⟨kq, x24_3, rfl, HA, HJ3, ⟨mc3, rfl⟩⟩ := hcut
    cases kq with
    | zero => exact absurd HA.out (by simp [stencilref1_back.j0])
    | succ kj3 =>
      have H := HA.out
      clear HA
      simp only [stencilref1_back.j0] at H
      by_cases c8 : x24_3 = true
      · subst c8
        have H1 : (some (0, 100)) = some (r1, r2) := by rw [if_pos rfl] at H; exact H
        clear H
        have H := H1
        clear H1
        simp only [Option.some.injEq, Prod.mk.injEq] at H
        obtain ⟨rfl, rfl⟩ := H
        go_wp2
        go_ret2
        exact ⟨by first | rfl | (simp; done) | (simp [*]; done), by repeat (first | exact Drawn0.refl _ | apply Drawn0.step)⟩
      · replace c8 := Bool.eq_false_iff.mpr c8
        subst c8
        have H1 : (if a0 = true then (if a2 > 0 then (some (wrap64 ((wrap64 (-(wrap64 (IntKind.u64.wrap (a2 - 1))))) - 1), 0)) else (some (wrap64 (a2), 0))) else (some (wrap64 (a2), 0))) = some (r1, r2) := by rw [if_neg (show ¬ (false = true) by decide)] at H; exact H
        clear H
        have H := H1
        clear H1
        by_cases c9 : a0 = true
        · subst c9
          have H1 : (if a2 > 0 then (some (wrap64 ((wrap64 (-(wrap64 (IntKind.u64.wrap (a2 - 1))))) - 1), 0)) else (some (wrap64 (a2), 0))) = some (r1, r2) := by rw [if_pos rfl] at H; exact H
          clear H
          have H := H1
          clear H1
          by_cases c10 : a2 > 0
          · rw [if_pos c10] at H
            have c10b0 : decide (0 < a2) = true := decide_eq_true c10
            clear c10
            simp only [Option.some.injEq, Prod.mk.injEq] at H
            obtain ⟨rfl, rfl⟩ := H
            go_wp2
            go_ret2
            exact ⟨by first | rfl | (simp; done) | (simp [*]; done), by repeat (first | exact Drawn0.refl _ | apply Drawn0.step)⟩
          · rw [if_neg c10] at H
            have c10b0 : decide (0 < a2) = false := decide_eq_false c10
            clear c10
            simp only [Option.some.injEq, Prod.mk.injEq] at H
            obtain ⟨rfl, rfl⟩ := H
            go_wp2
            go_ret2
            exact ⟨by first | rfl | (simp; done) | (simp [*]; done), by repeat (first | exact Drawn0.refl _ | apply Drawn0.step)⟩
        · replace c9 := Bool.eq_false_iff.mpr c9
          subst c9
          have H1 : (some (wrap64 (a2), 0)) = some (r1, r2) := by rw [if_neg (show ¬ (false = true) by decide)] at H; exact H
          clear H
          have H := H1
          clear H1
          simp only [Option.some.injEq, Prod.mk.injEq] at H
          obtain ⟨rfl, rfl⟩ := H
          go_wp2
          go_ret2
          exact ⟨by first | rfl | (simp; done) | (simp [*]; done), by repeat (first | exact Drawn0.refl _ | apply Drawn0.step)⟩

end Go.Proofs.YtimdoelphelbeaaDoor.PWholeTexts
