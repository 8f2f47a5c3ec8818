-- Written by wip/tools/print2.py (a program of this session's, over the kit's print) out of the translation. Not trusted: Lean checks it.
import Derived.Test.YtncpknhmoakjmaaDoorPCorePlacesx0
namespace Go.Proofs.YtncpknhmoakjmaaDoor.PCorePlaces
open Go.RowKit Go.Proofs.YtncpknhmoakjmaaDoorW.PrintWords Go.Proofs.YtncpknhmoakjmaaDoorW.PrintLast Go.Proofs.YtncpknhmoakjmaaDoorW.PrintMore
attribute [local go_sem] max2_int min2_int max_two min_two max_three min_three max_four min_four   -- for this text's walks alone
set_option linter.unusedVariables false
set_option linter.unusedSimpArgs false

/-! ### shape_nodes: function 35 -/
mutual
def shape_nodes.l0 : Nat → List (S35) → Int → Int → Int → Int → Option (Int)
  | 0, _, _, _, _, _ => none
  | k + 1, x0, x1, x2, x14, x15 => if x15 < x14 then (if x1 > x2 then (some x1) else (if 0 < (x0.length : Int) then (if 0 ≤ x15 then (if x15 < (((rd_T35 x0 0).f3).length : Int) then ((shape_nodes.f k [rd_T35 ((rd_T35 x0 0).f3) x15] x1 x2).bind fun t105 => (shape_nodes.l0 k x0 t105 x2 x14 (wrap64 (x15 + 1)))) else (none)) else (none)) else (none))) else (some x1)
def shape_nodes.f : Nat → List (S35) → Int → Int → Option (Int)
  | 0, _, _, _ => none
  | k + 1, l0, a1, a2 => if 0 < (l0.length : Int) then (shape_nodes.l0 k l0 (wrap64 (a1 + 1)) a2 (((rd_T35 l0 0).f3).length : Int) 0) else (none)
end
theorem shape_nodes.mono_l : ∀ k, (∀ y0 y1 y2, LeO (shape_nodes.f k y0 y1 y2) (shape_nodes.f (k + 1) y0 y1 y2)) ∧ (∀ y0 y1 y2 y3 y4, LeO (shape_nodes.l0 k y0 y1 y2 y3 y4) (shape_nodes.l0 (k + 1) y0 y1 y2 y3 y4))
  | 0 => ⟨fun _ _ _ r h => by simp [shape_nodes.f] at h, fun _ _ _ _ _ r h => by simp [shape_nodes.l0] at h⟩
  | k + 1 => by
    obtain ⟨ih0, ih1⟩ := shape_nodes.mono_l k
    refine ⟨?_, ?_⟩
    · intro y0 y1 y2
      unfold shape_nodes.f
      repeat' first
      | (with_reducible exact ih0 _ _ _)
      | (with_reducible exact ih1 _ _ _ _ _)
      | (with_reducible exact LeO.refl _)
      | (with_reducible exact LeO.none _)
      | (with_reducible refine LeO.ite ?_ ?_)
      | (with_reducible refine LeO.bind ?_ (fun _ => ?_))
      | exact ih0 _ _ _
      | exact ih1 _ _ _ _ _
      | exact LeO.none _
      | refine LeO.ite ?_ ?_
      | refine LeO.bind ?_ (fun _ => ?_)
    · intro y0 y1 y2 y3 y4
      unfold shape_nodes.l0
      repeat' first
      | (with_reducible exact ih0 _ _ _)
      | (with_reducible exact ih1 _ _ _ _ _)
      | (with_reducible exact LeO.refl _)
      | (with_reducible exact LeO.none _)
      | (with_reducible refine LeO.ite ?_ ?_)
      | (with_reducible refine LeO.bind ?_ (fun _ => ?_))
      | exact ih0 _ _ _
      | exact ih1 _ _ _ _ _
      | exact LeO.none _
      | refine LeO.ite ?_ ?_
      | refine LeO.bind ?_ (fun _ => ?_)
theorem shape_nodes.mono : ∀ a0 a1 a2 k, LeO (shape_nodes.f k a0 a1 a2) (shape_nodes.f (k + 1) a0 a1 a2) := by
  intro a0 a1 a2 k
  obtain ⟨ih0, ih1⟩ := shape_nodes.mono_l k
  exact ih0 a0 a1 a2
set_option maxHeartbeats 8000000 in
set_option maxRecDepth 100000 in
theorem shape_nodes.calls (k : Nat) : ∀ (A0 : Option Addr) (l0 : List (S35)) (a1 : Int) (a2 : Int) (r : Int) (w : World) (hr0 : Kd.C k35 w A0 l0.length l0) (h : shape_nodes.f k l0 a1 a2 = some r),
    Calls Tryd.prog 35 #[.pointer A0, .int .i64 a1, .int .i64 a2] w fun e w' => e = .returned (.int .i64 r) ∧ Drawn0 w w' := by
  induction k using Nat.strongRecOn with
  | _ k ih =>
  intro A0 l0 a1 a2 r w hr0 h
  cases k with
  | zero => exact absurd h (by simp [shape_nodes.f])
  | succ k =>
  simp only [shape_nodes.f] at h
  have HR0 := Aside0.mk hr0
  clear hr0
  have H : (if 0 < (l0.length : Int) then (shape_nodes.l0 k l0 (wrap64 (a1 + 1)) a2 (((rd_T35 l0 0).f3).length : Int) 0) else (none)) = some r := h
  clear h
  by_cases c4 : 0 < (l0.length : Int)
  · rw [if_pos c4] at H
    have c4b0 : decide (0 < (l0.length : Int)) = true := decide_eq_true c4
    have c4b1 : decide (0 < l0.length) = true := decide_eq_true (by omega)
    clear c4
    have H' := Aside0.mk H
    clear H
    have p101 : 0 ≤ (0 : Int) := (by omega)
    have q101 : 0 < (l0.length : Int) := of_decide_eq_true (by first | (with_reducible assumption) | assumption)
    obtain ⟨ad101, A101_3, c101_3, e101, hx101_0, hx101_1, hx101_2, hx101_3, hl101_3, hi101_3⟩ := at_T35 HR0.out 0 p101 q101
    cases e101
    have HXR101_3 := Aside0.mk hx101_3
    have qi101 : (0 < l0.length) = True := eq_true (by omega)
    (try rw [show ((0 : Int)).toNat = 0 from rfl] at hx101_0)
    (try rw [show 0 * 4 = 0 from rfl] at hx101_0)
    (try rw [Addr.add_zero'] at hx101_0)
    (try rw [show ((0 : Int)).toNat = 0 from rfl] at hx101_1)
    (try rw [show 0 * 4 = 0 from rfl] at hx101_1)
    (try rw [Addr.add_zero'] at hx101_1)
    (try rw [show ((0 : Int)).toNat = 0 from rfl] at hx101_2)
    (try rw [show 0 * 4 = 0 from rfl] at hx101_2)
    (try rw [Addr.add_zero'] at hx101_2)
    (try rw [show ((0 : Int)).toNat = 0 from rfl] at hx101_3)
    (try rw [show 0 * 4 = 0 from rfl] at hx101_3)
    (try rw [Addr.add_zero'] at hx101_3)
    have HR101_3 := Aside0.mk hi101_3
    have HC101_3 := Aside0.mk hl101_3
    clear hi101_3 hl101_3
    replace p101 := eq_true p101
    replace q101 := eq_true q101
    go_enter Tryd.func35, Tryd.ntmps35
    go_wp2
    go_loopg [1, 15] k (fun kq v1 v15 w' => ∃ (x1_1 : Int) (x15_1 : Int), v1 = .int .i64 x1_1 ∧ v15 = .int .i64 x15_1 ∧ Aside0 (shape_nodes.l0 kq l0 x1_1 a2 (((rd_T35 l0 0).f3).length : Int) x15_1 = some r) ∧ Aside0 (kq ≤ k) ∧ Drawn0 w w')
    case atStart => exact ⟨(wrap64 (a1 + 1)), (0), (by first | rfl | (simp; done) | (simp [*]; done)), (by first | rfl | (simp; done) | (simp [*]; done)), H', ⟨Nat.le_refl _⟩, by repeat (first | exact Drawn0.refl _ | apply Drawn0.step)⟩
    case round =>
      clear H'
      try clear c1
      try clear p1
      try clear q1
      try clear hx1
      try clear qi1
      try clear p2
      try clear c3
      try clear c4
      try clear c4b0
      try clear c4b1
      try clear hx101_0
      try clear hx101_1
      try clear hx101_2
      try clear hx101_3
      try clear p101
      try clear q101
      obtain ⟨x1_1, x15_1, rfl, rfl, HA, HK1, ⟨m1, rfl⟩⟩ := hrel
      cases gk with
      | zero => exact absurd HA.out (by simp [shape_nodes.l0])
      | succ k1 =>
        have H := HA.out
        clear HA
        simp only [shape_nodes.l0] at H
        by_cases c5 : x15_1 < (((rd_T35 l0 0).f3).length : Int)
        · rw [if_pos c5] at H
          have c5b0 : decide (x15_1 < (((rd_T35 l0 0).f3).length : Int)) = true := decide_eq_true c5
          clear c5
          by_cases c6 : x1_1 > a2
          · rw [if_pos c6] at H
            have c6b0 : decide (a2 < x1_1) = true := decide_eq_true c6
            clear c6
            obtain rfl := Option.some.inj H
            go_wp2
            go_ret
            exact ⟨by first | rfl | (simp; done) | (simp [*]; done), by repeat (first | exact Drawn0.refl _ | apply Drawn0.step)⟩
          · rw [if_neg c6] at H
            have c6b0 : decide (a2 < x1_1) = false := decide_eq_false c6
            clear c6
            by_cases c7 : 0 < (l0.length : Int)
            · rw [if_pos c7] at H
              have c7b0 : decide (0 < (l0.length : Int)) = true := decide_eq_true c7
              have c7b1 : decide (0 < l0.length) = true := decide_eq_true (by omega)
              clear c7
              by_cases c8 : 0 ≤ x15_1
              · rw [if_pos c8] at H
                have c8b0 : decide (0 ≤ x15_1) = true := decide_eq_true c8
                clear c8
                by_cases c9 : x15_1 < (((rd_T35 l0 0).f3).length : Int)
                · rw [if_pos c9] at H
                  have c9b0 : decide (x15_1 < (((rd_T35 l0 0).f3).length : Int)) = true := decide_eq_true c9
                  clear c9
                  replace H := Option.bind_eq_some_iff.mp H
                  obtain ⟨t105, A100, H⟩ := H
                  replace H : (shape_nodes.l0 k1 l0 t105 a2 (((rd_T35 l0 0).f3).length : Int) (wrap64 (x15_1 + 1))) = some r := H
                  have A10 := Aside0.mk A100
                  clear A100
                  have H' := Aside0.mk H
                  clear H
                  have p102 : 0 ≤ (0 : Int) := (by omega)
                  have q102 : 0 < (l0.length : Int) := of_decide_eq_true (by first | (with_reducible assumption) | assumption)
                  obtain ⟨ad102, A102_3, c102_3, e102, hx102_0, hx102_1, hx102_2, hx102_3, hl102_3, hi102_3⟩ := at_T35 HR0.out 0 p102 q102
                  obtain rfl : ad101 = ad102 := (by injection e102)
                  have HXR102_3 := Aside0.mk hx102_3
                  (try (have ea_ := Option.some.inj (HXR101_3.out.symm.trans hx102_3); injection ea_ with ea_ en_ ec_; subst ea_; subst ec_; clear en_))
                  have qi102 : (0 < l0.length) = True := eq_true (by omega)
                  (try rw [show ((0 : Int)).toNat = 0 from rfl] at hx102_0)
                  (try rw [show 0 * 4 = 0 from rfl] at hx102_0)
                  (try rw [Addr.add_zero'] at hx102_0)
                  (try rw [show ((0 : Int)).toNat = 0 from rfl] at hx102_1)
                  (try rw [show 0 * 4 = 0 from rfl] at hx102_1)
                  (try rw [Addr.add_zero'] at hx102_1)
                  (try rw [show ((0 : Int)).toNat = 0 from rfl] at hx102_2)
                  (try rw [show 0 * 4 = 0 from rfl] at hx102_2)
                  (try rw [Addr.add_zero'] at hx102_2)
                  (try rw [show ((0 : Int)).toNat = 0 from rfl] at hx102_3)
                  (try rw [show 0 * 4 = 0 from rfl] at hx102_3)
                  (try rw [Addr.add_zero'] at hx102_3)
                  have HR102_3 := Aside0.mk hi102_3
                  have HC102_3 := Aside0.mk hl102_3
                  clear hi102_3 hl102_3
                  replace p102 := eq_true p102
                  replace q102 := eq_true q102
                  have p103 : 0 ≤ (x15_1 : Int) := of_decide_eq_true (by first | (with_reducible assumption) | assumption)
                  have q103 : x15_1 < (((rd_T35 l0 0).f3).length : Int) := of_decide_eq_true (by first | (with_reducible assumption) | assumption)
                  obtain ⟨ad103, A103_3, c103_3, e103, hx103_0, hx103_1, hx103_2, hx103_3, hl103_3, hi103_3⟩ := at_T35 HR102_3.out x15_1 p103 q103
                  cases e103
                  have HXR103_3 := Aside0.mk hx103_3
                  have HR103_3 := Aside0.mk hi103_3
                  have HC103_3 := Aside0.mk hl103_3
                  clear hi103_3 hl103_3
                  replace p103 := eq_true p103
                  replace q103 := eq_true q103
                  have p104 : 0 ≤ (x15_1 : Int) := of_decide_eq_true (by first | (with_reducible assumption) | assumption)
                  have q104 : x15_1 < (((rd_T35 l0 0).f3).length : Int) := of_decide_eq_true (by first | (with_reducible assumption) | assumption)
                  obtain ⟨ad104, A104_3, c104_3, e104, hx104_0, hx104_1, hx104_2, hx104_3, hl104_3, hi104_3⟩ := at_T35 HR102_3.out x15_1 p104 q104
                  cases e104
                  have HXR104_3 := Aside0.mk hx104_3
                  (try (have ea_ := Option.some.inj (HXR103_3.out.symm.trans hx104_3); injection ea_ with ea_ en_ ec_; subst ea_; subst ec_; clear en_))
                  have HR104_3 := Aside0.mk hi104_3
                  have HC104_3 := Aside0.mk hl104_3
                  clear hi104_3 hl104_3
                  replace p104 := eq_true p104
                  replace q104 := eq_true q104
                  go_wp2_with (first | (go_at_call 35; (with_reducible refine (ih k1 (by have := HK1.out; omega) _ [rd_T35 ((rd_T35 l0 0).f3) x15_1] x1_1 a2 t105 _ ?side1 A10.out).mono ?_); (case side1 => repeat (first | (with_reducible exact one35 (x := rd_T35 ((rd_T35 l0 0).f3) x15_1) hx104_0 hx104_1 hx104_2 hx104_3 HC104_3.out HR104_3.out) | (with_reducible refine Kd.C_alloc ?_ _) | (with_reducible refine Kd.C_drewN ?_ _) | (with_reducible refine Kd.C_drew ?_) | exact one35 (x := rd_T35 ((rd_T35 l0 0).f3) x15_1) hx104_0 hx104_1 hx104_2 hx104_3 HC104_3.out HR104_3.out)); rintro e w' ⟨rfl, ⟨nd, rfl⟩⟩))
                  go_roundg k1
                  case measure => have := HK1.out; omega
                  case rel => exact ⟨(t105), (wrap64 (x15_1 + 1)), (by first | rfl | (simp; done) | (simp [*]; done)), (by first | rfl | (simp; done) | (simp [*]; done)), H', ⟨by have := HK1.out; omega⟩, by repeat (first | exact Drawn0.refl _ | apply Drawn0.step)⟩
                · rw [if_neg c9] at H
                  exact absurd H (by simp)
              · rw [if_neg c8] at H
                exact absurd H (by simp)
            · rw [if_neg c7] at H
              exact absurd H (by simp)
        · rw [if_neg c5] at H
          have c5b0 : decide (x15_1 < (((rd_T35 l0 0).f3).length : Int)) = false := decide_eq_false c5
          clear c5
          obtain rfl := Option.some.inj H
          go_wp2
          go_ret
          exact ⟨by first | rfl | (simp; done) | (simp [*]; done), by repeat (first | exact Drawn0.refl _ | apply Drawn0.step)⟩
  · rw [if_neg c4] at H
    exact absurd H (by simp)

end Go.Proofs.YtncpknhmoakjmaaDoor.PCorePlaces
