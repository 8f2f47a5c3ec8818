-- Written by wip/tools/print2.py (a program of this session's, over the kit's print) out of the translation. Not trusted: Lean checks it.
import Derived.Test.YtncpknhmoakjmaaDoorPCorePlacesx0
namespace Go.Proofs.YtncpknhmoakjmaaDoor.PCorePlaces
open Go.RowKit Go.Proofs.YtncpknhmoakjmaaDoorW.PrintWords Go.Proofs.YtncpknhmoakjmaaDoorW.PrintLast Go.Proofs.YtncpknhmoakjmaaDoorW.PrintMore
attribute [local go_sem] max2_int min2_int max_two min_two max_three min_three max_four min_four   -- for this text's walks alone
set_option linter.unusedVariables false
set_option linter.unusedSimpArgs false

/-! ### core_static: function 18 -/
mutual
def core_static.l0 : Nat → List (S41) → Int → Int → Option (Bool)
  | 0, _, _, _ => none
  | k + 1, x0, x16, x17 => if x17 < x16 then (if 0 < (x0.length : Int) then (if 0 ≤ x17 then (if x17 < (((rd_T41 x0 0).f3).length : Int) then (if (rd_T44 ((rd_T41 x0 0).f3) x17).f1 = true then (some false) else (core_static.l0 k x0 x16 (wrap64 (x17 + 1)))) else (none)) else (none)) else (none)) else (some true)
def core_static.l1 : Nat → List (S41) → Int → Int → Option (Bool)
  | 0, _, _, _ => none
  | k + 1, x0, x35, x36 => if x36 < x35 then (if 0 < (x0.length : Int) then (if 0 ≤ x36 then (if x36 < (((rd_T41 x0 0).f2).length : Int) then (if (rd_T37 ((rd_T41 x0 0).f2) x36).f2 = true then (some false) else (core_static.l1 k x0 x35 (wrap64 (x36 + 1)))) else (none)) else (none)) else (none)) else (if 0 < (x0.length : Int) then (core_static.l2 k x0 (((rd_T41 x0 0).f5).length : Int) 0) else (none))
def core_static.l2 : Nat → List (S41) → Int → Int → Option (Bool)
  | 0, _, _, _ => none
  | k + 1, x0, x52, x53 => if x53 < x52 then (if 0 < (x0.length : Int) then (if 0 ≤ x53 then (if x53 < (((rd_T41 x0 0).f5).length : Int) then ((core_static.f k [rd_T41 ((rd_T41 x0 0).f5) x53]).bind fun t115 => (if t115 = true then (core_static.l2 k x0 x52 (wrap64 (x53 + 1))) else (some false))) else (none)) else (none)) else (none)) else (some true)
def core_static.f : Nat → List (S41) → Option (Bool)
  | 0, _ => none
  | k + 1, l0 => if 0 < (l0.length : Int) then (if ((rd_T41 l0 0).f0) = 1 then (core_static.l0 k l0 (((rd_T41 l0 0).f3).length : Int) 0) else (if ((rd_T41 l0 0).f0) = 2 then (core_static.l1 k l0 (((rd_T41 l0 0).f2).length : Int) 0) else (some false))) else (none)
end
theorem core_static.mono_l : ∀ k, (∀ y0, LeO (core_static.f k y0) (core_static.f (k + 1) y0)) ∧ (∀ y0 y1 y2, LeO (core_static.l0 k y0 y1 y2) (core_static.l0 (k + 1) y0 y1 y2)) ∧ (∀ y0 y1 y2, LeO (core_static.l1 k y0 y1 y2) (core_static.l1 (k + 1) y0 y1 y2)) ∧ (∀ y0 y1 y2, LeO (core_static.l2 k y0 y1 y2) (core_static.l2 (k + 1) y0 y1 y2))
  | 0 => ⟨fun _ r h => by simp [core_static.f] at h, fun _ _ _ r h => by simp [core_static.l0] at h, fun _ _ _ r h => by simp [core_static.l1] at h, fun _ _ _ r h => by simp [core_static.l2] at h⟩
  | k + 1 => by
    obtain ⟨ih0, ih1, ih2, ih3⟩ := core_static.mono_l k
    refine ⟨?_, ?_, ?_, ?_⟩
    · intro y0
      unfold core_static.f
      repeat' first
      | (with_reducible exact ih0 _)
      | (with_reducible exact ih1 _ _ _)
      | (with_reducible exact ih2 _ _ _)
      | (with_reducible exact ih3 _ _ _)
      | (with_reducible exact LeO.refl _)
      | (with_reducible exact LeO.none _)
      | (with_reducible refine LeO.ite ?_ ?_)
      | (with_reducible refine LeO.bind ?_ (fun _ => ?_))
      | exact ih0 _
      | exact ih1 _ _ _
      | exact ih2 _ _ _
      | exact ih3 _ _ _
      | exact LeO.none _
      | refine LeO.ite ?_ ?_
      | refine LeO.bind ?_ (fun _ => ?_)
    · intro y0 y1 y2
      unfold core_static.l0
      repeat' first
      | (with_reducible exact ih0 _)
      | (with_reducible exact ih1 _ _ _)
      | (with_reducible exact ih2 _ _ _)
      | (with_reducible exact ih3 _ _ _)
      | (with_reducible exact LeO.refl _)
      | (with_reducible exact LeO.none _)
      | (with_reducible refine LeO.ite ?_ ?_)
      | (with_reducible refine LeO.bind ?_ (fun _ => ?_))
      | exact ih0 _
      | exact ih1 _ _ _
      | exact ih2 _ _ _
      | exact ih3 _ _ _
      | exact LeO.none _
      | refine LeO.ite ?_ ?_
      | refine LeO.bind ?_ (fun _ => ?_)
    · intro y0 y1 y2
      unfold core_static.l1
      repeat' first
      | (with_reducible exact ih0 _)
      | (with_reducible exact ih1 _ _ _)
      | (with_reducible exact ih2 _ _ _)
      | (with_reducible exact ih3 _ _ _)
      | (with_reducible exact LeO.refl _)
      | (with_reducible exact LeO.none _)
      | (with_reducible refine LeO.ite ?_ ?_)
      | (with_reducible refine LeO.bind ?_ (fun _ => ?_))
      | exact ih0 _
      | exact ih1 _ _ _
      | exact ih2 _ _ _
      | exact ih3 _ _ _
      | exact LeO.none _
      | refine LeO.ite ?_ ?_
      | refine LeO.bind ?_ (fun _ => ?_)
    · intro y0 y1 y2
      unfold core_static.l2
      repeat' first
      | (with_reducible exact ih0 _)
      | (with_reducible exact ih1 _ _ _)
      | (with_reducible exact ih2 _ _ _)
      | (with_reducible exact ih3 _ _ _)
      | (with_reducible exact LeO.refl _)
      | (with_reducible exact LeO.none _)
      | (with_reducible refine LeO.ite ?_ ?_)
      | (with_reducible refine LeO.bind ?_ (fun _ => ?_))
      | exact ih0 _
      | exact ih1 _ _ _
      | exact ih2 _ _ _
      | exact ih3 _ _ _
      | exact LeO.none _
      | refine LeO.ite ?_ ?_
      | refine LeO.bind ?_ (fun _ => ?_)
theorem core_static.mono : ∀ a0 k, LeO (core_static.f k a0) (core_static.f (k + 1) a0) := by
  intro a0 k
  obtain ⟨ih0, ih1, ih2, ih3⟩ := core_static.mono_l k
  exact ih0 a0
set_option maxHeartbeats 8000000 in
set_option maxRecDepth 100000 in
theorem core_static.calls (k : Nat) : ∀ (A0 : Option Addr) (l0 : List (S41)) (r : Bool) (w : World) (hr0 : Kd.C k41 w A0 l0.length l0) (h : core_static.f k l0 = some r),
    Calls Tryd.prog 18 #[.pointer A0] w fun e w' => e = .returned (.bool r) ∧ Drawn0 w w' := by
  induction k using Nat.strongRecOn with
  | _ k ih =>
  intro A0 l0 r w hr0 h
  cases k with
  | zero => exact absurd h (by simp [core_static.f])
  | succ k =>
  simp only [core_static.f] at h
  have HR0 := Aside0.mk hr0
  clear hr0
  have H : (if 0 < (l0.length : Int) then (if ((rd_T41 l0 0).f0) = 1 then (core_static.l0 k l0 (((rd_T41 l0 0).f3).length : Int) 0) else (if ((rd_T41 l0 0).f0) = 2 then (core_static.l1 k l0 (((rd_T41 l0 0).f2).length : Int) 0) else (some false))) else (none)) = some r := h
  clear h
  by_cases c2 : 0 < (l0.length : Int)
  · rw [if_pos c2] at H
    have c2b0 : decide (0 < (l0.length : Int)) = true := decide_eq_true c2
    have c2b1 : decide (0 < l0.length) = true := decide_eq_true (by omega)
    clear c2
    by_cases c3 : ((rd_T41 l0 0).f0) = 1
    · rw [if_pos c3] at H
      have c3b0 : (((rd_T41 l0 0).f0) == 1) = true := beq_iff_eq.mpr c3
      have c3b1 : (((rd_T41 l0 0).f0) != 1) = false := bne_eq_false_iff_eq.mpr c3
      clear c3
      have H' := Aside0.mk H
      clear H
      have p106 : 0 ≤ (0 : Int) := (by omega)
      have q106 : 0 < (l0.length : Int) := of_decide_eq_true (by first | (with_reducible assumption) | assumption)
      obtain ⟨ad106, A106_2, c106_2, A106_3, c106_3, A106_4, c106_4, A106_5, c106_5, A106_6, c106_6, e106, hx106_0, hx106_1, hx106_2, hx106_3, hx106_4, hx106_5, hx106_6, hl106_2, hi106_2, hl106_3, hi106_3, hl106_4, hi106_4, hl106_5, hi106_5, hl106_6, hi106_6⟩ := at_T41 HR0.out 0 p106 q106
      cases e106
      have HXR106_2 := Aside0.mk hx106_2
      have HXR106_3 := Aside0.mk hx106_3
      have HXR106_4 := Aside0.mk hx106_4
      have HXR106_5 := Aside0.mk hx106_5
      have HXR106_6 := Aside0.mk hx106_6
      have qi106 : (0 < l0.length) = True := eq_true (by omega)
      (try rw [show ((0 : Int)).toNat = 0 from rfl] at hx106_0)
      (try rw [show 0 * 7 = 0 from rfl] at hx106_0)
      (try rw [Addr.add_zero'] at hx106_0)
      (try rw [show ((0 : Int)).toNat = 0 from rfl] at hx106_1)
      (try rw [show 0 * 7 = 0 from rfl] at hx106_1)
      (try rw [Addr.add_zero'] at hx106_1)
      (try rw [show ((0 : Int)).toNat = 0 from rfl] at hx106_2)
      (try rw [show 0 * 7 = 0 from rfl] at hx106_2)
      (try rw [Addr.add_zero'] at hx106_2)
      (try rw [show ((0 : Int)).toNat = 0 from rfl] at hx106_3)
      (try rw [show 0 * 7 = 0 from rfl] at hx106_3)
      (try rw [Addr.add_zero'] at hx106_3)
      (try rw [show ((0 : Int)).toNat = 0 from rfl] at hx106_4)
      (try rw [show 0 * 7 = 0 from rfl] at hx106_4)
      (try rw [Addr.add_zero'] at hx106_4)
      (try rw [show ((0 : Int)).toNat = 0 from rfl] at hx106_5)
      (try rw [show 0 * 7 = 0 from rfl] at hx106_5)
      (try rw [Addr.add_zero'] at hx106_5)
      (try rw [show ((0 : Int)).toNat = 0 from rfl] at hx106_6)
      (try rw [show 0 * 7 = 0 from rfl] at hx106_6)
      (try rw [Addr.add_zero'] at hx106_6)
      have HR106_2 := Aside0.mk hi106_2
      have HC106_2 := Aside0.mk hl106_2
      clear hi106_2 hl106_2
      have HR106_3 := Aside0.mk hi106_3
      have HC106_3 := Aside0.mk hl106_3
      clear hi106_3 hl106_3
      have HR106_4 := Aside0.mk hi106_4
      have HC106_4 := Aside0.mk hl106_4
      clear hi106_4 hl106_4
      have HR106_5 := Aside0.mk hi106_5
      have HC106_5 := Aside0.mk hl106_5
      clear hi106_5 hl106_5
      have HR106_6 := Aside0.mk hi106_6
      have HC106_6 := Aside0.mk hl106_6
      clear hi106_6 hl106_6
      replace p106 := eq_true p106
      replace q106 := eq_true q106
      go_enter Tryd.func18, Tryd.ntmps18
      go_wp2
      go_loopg [17] k (fun kq v17 w' => ∃ (x17_1 : Int), v17 = .int .i64 x17_1 ∧ Aside0 (core_static.l0 kq l0 (((rd_T41 l0 0).f3).length : Int) x17_1 = some r) ∧ Aside0 (kq ≤ k) ∧ Drawn0 w w')
      case atStart => exact ⟨(0), (by first | rfl | (simp; done) | (simp [*]; done)), H', ⟨Nat.le_refl _⟩, by repeat (first | exact Drawn0.refl _ | apply Drawn0.step)⟩
      case round =>
        clear H'
        try clear c1
        try clear p1
        try clear q1
        try clear hx1
        try clear qi1
        try clear c2
        try clear c2b0
        try clear c2b1
        try clear p2
        try clear c3
        try clear c3b0
        try clear c3b1
        try clear hx106_0
        try clear hx106_1
        try clear hx106_2
        try clear hx106_3
        try clear hx106_4
        try clear hx106_5
        try clear hx106_6
        try clear p106
        try clear q106
        obtain ⟨x17_1, rfl, HA, HK1, ⟨m1, rfl⟩⟩ := hrel
        cases gk with
        | zero => exact absurd HA.out (by simp [core_static.l0])
        | succ k1 =>
          have H := HA.out
          clear HA
          simp only [core_static.l0] at H
          by_cases c4 : x17_1 < (((rd_T41 l0 0).f3).length : Int)
          · rw [if_pos c4] at H
            have c4b0 : decide (x17_1 < (((rd_T41 l0 0).f3).length : Int)) = true := decide_eq_true c4
            clear c4
            by_cases c5 : 0 < (l0.length : Int)
            · rw [if_pos c5] at H
              have c5b0 : decide (0 < (l0.length : Int)) = true := decide_eq_true c5
              have c5b1 : decide (0 < l0.length) = true := decide_eq_true (by omega)
              clear c5
              by_cases c6 : 0 ≤ x17_1
              · rw [if_pos c6] at H
                have c6b0 : decide (0 ≤ x17_1) = true := decide_eq_true c6
                clear c6
                by_cases c7 : x17_1 < (((rd_T41 l0 0).f3).length : Int)
                · rw [if_pos c7] at H
                  have c7b0 : decide (x17_1 < (((rd_T41 l0 0).f3).length : Int)) = true := decide_eq_true c7
                  clear c7
                  obtain ⟨bq8, hbq8⟩ : ∃ b_ : Bool, b_ = ((rd_T44 ((rd_T41 l0 0).f3) x17_1).f1) := ⟨_, rfl⟩
                  replace H : (if bq8 = true then (some false) else (core_static.l0 k1 l0 (((rd_T41 l0 0).f3).length : Int) (wrap64 (x17_1 + 1)))) = some r := by rw [← hbq8] at H; exact H
                  have Nbq8 := Aside0.mk hbq8
                  clear hbq8
                  by_cases c9 : bq8 = true
                  · subst c9
                    have H1 : (some false) = some r := by rw [if_pos rfl] at H; exact H
                    clear H
                    have H := H1
                    clear H1
                    obtain rfl := Option.some.inj H
                    have p107 : 0 ≤ (0 : Int) := (by omega)
                    have q107 : 0 < (l0.length : Int) := of_decide_eq_true (by first | (with_reducible assumption) | assumption)
                    obtain ⟨ad107, A107_2, c107_2, A107_3, c107_3, A107_4, c107_4, A107_5, c107_5, A107_6, c107_6, e107, hx107_0, hx107_1, hx107_2, hx107_3, hx107_4, hx107_5, hx107_6, hl107_2, hi107_2, hl107_3, hi107_3, hl107_4, hi107_4, hl107_5, hi107_5, hl107_6, hi107_6⟩ := at_T41 HR0.out 0 p107 q107
                    obtain rfl : ad106 = ad107 := (by injection e107)
                    have HXR107_2 := Aside0.mk hx107_2
                    have HXR107_3 := Aside0.mk hx107_3
                    have HXR107_4 := Aside0.mk hx107_4
                    have HXR107_5 := Aside0.mk hx107_5
                    have HXR107_6 := Aside0.mk hx107_6
                    (try (have ea_ := Option.some.inj (HXR106_2.out.symm.trans hx107_2); injection ea_ with ea_ en_ ec_; subst ea_; subst ec_; clear en_))
                    (try (have ea_ := Option.some.inj (HXR106_3.out.symm.trans hx107_3); injection ea_ with ea_ en_ ec_; subst ea_; subst ec_; clear en_))
                    (try (have ea_ := Option.some.inj (HXR106_4.out.symm.trans hx107_4); injection ea_ with ea_ en_ ec_; subst ea_; subst ec_; clear en_))
                    (try (have ea_ := Option.some.inj (HXR106_5.out.symm.trans hx107_5); injection ea_ with ea_ en_ ec_; subst ea_; subst ec_; clear en_))
                    (try (have ea_ := Option.some.inj (HXR106_6.out.symm.trans hx107_6); injection ea_ with ea_ en_ ec_; subst ea_; subst ec_; clear en_))
                    have qi107 : (0 < l0.length) = True := eq_true (by omega)
                    (try rw [show ((0 : Int)).toNat = 0 from rfl] at hx107_0)
                    (try rw [show 0 * 7 = 0 from rfl] at hx107_0)
                    (try rw [Addr.add_zero'] at hx107_0)
                    (try rw [show ((0 : Int)).toNat = 0 from rfl] at hx107_1)
                    (try rw [show 0 * 7 = 0 from rfl] at hx107_1)
                    (try rw [Addr.add_zero'] at hx107_1)
                    (try rw [show ((0 : Int)).toNat = 0 from rfl] at hx107_2)
                    (try rw [show 0 * 7 = 0 from rfl] at hx107_2)
                    (try rw [Addr.add_zero'] at hx107_2)
                    (try rw [show ((0 : Int)).toNat = 0 from rfl] at hx107_3)
                    (try rw [show 0 * 7 = 0 from rfl] at hx107_3)
                    (try rw [Addr.add_zero'] at hx107_3)
                    (try rw [show ((0 : Int)).toNat = 0 from rfl] at hx107_4)
                    (try rw [show 0 * 7 = 0 from rfl] at hx107_4)
                    (try rw [Addr.add_zero'] at hx107_4)
                    (try rw [show ((0 : Int)).toNat = 0 from rfl] at hx107_5)
                    (try rw [show 0 * 7 = 0 from rfl] at hx107_5)
                    (try rw [Addr.add_zero'] at hx107_5)
                    (try rw [show ((0 : Int)).toNat = 0 from rfl] at hx107_6)
                    (try rw [show 0 * 7 = 0 from rfl] at hx107_6)
                    (try rw [Addr.add_zero'] at hx107_6)
                    have HR107_2 := Aside0.mk hi107_2
                    have HC107_2 := Aside0.mk hl107_2
                    clear hi107_2 hl107_2
                    have HR107_3 := Aside0.mk hi107_3
                    have HC107_3 := Aside0.mk hl107_3
                    clear hi107_3 hl107_3
                    have HR107_4 := Aside0.mk hi107_4
                    have HC107_4 := Aside0.mk hl107_4
                    clear hi107_4 hl107_4
                    have HR107_5 := Aside0.mk hi107_5
                    have HC107_5 := Aside0.mk hl107_5
                    clear hi107_5 hl107_5
                    have HR107_6 := Aside0.mk hi107_6
                    have HC107_6 := Aside0.mk hl107_6
                    clear hi107_6 hl107_6
                    replace p107 := eq_true p107
                    replace q107 := eq_true q107
                    have p108 : 0 ≤ (x17_1 : Int) := of_decide_eq_true (by first | (with_reducible assumption) | assumption)
                    have q108 : x17_1 < (((rd_T41 l0 0).f3).length : Int) := of_decide_eq_true (by first | (with_reducible assumption) | assumption)
                    obtain ⟨ad108, A108_5, c108_5, e108, hx108_0, hx108_1, hx108_2, hx108_3, hx108_4, hx108_5, hl108_5, hi108_5⟩ := at_T44 HR107_3.out x17_1 p108 q108
                    (try rw [← Nbq8.out] at hx108_1)
                    cases e108
                    have HXR108_5 := Aside0.mk hx108_5
                    have HR108_5 := Aside0.mk hi108_5
                    have HC108_5 := Aside0.mk hl108_5
                    clear hi108_5 hl108_5
                    replace p108 := eq_true p108
                    replace q108 := eq_true q108
                    go_wp2
                    go_ret
                    exact ⟨by first | rfl | (simp; done) | (simp [*]; done), by repeat (first | exact Drawn0.refl _ | apply Drawn0.step)⟩
                  · replace c9 := Bool.eq_false_iff.mpr c9
                    subst c9
                    have H1 : (core_static.l0 k1 l0 (((rd_T41 l0 0).f3).length : Int) (wrap64 (x17_1 + 1))) = some r := by rw [if_neg (show ¬ (false = true) by decide)] at H; exact H
                    clear H
                    have H := H1
                    clear H1
                    have H' := Aside0.mk H
                    clear H
                    have p107 : 0 ≤ (0 : Int) := (by omega)
                    have q107 : 0 < (l0.length : Int) := of_decide_eq_true (by first | (with_reducible assumption) | assumption)
                    obtain ⟨ad107, A107_2, c107_2, A107_3, c107_3, A107_4, c107_4, A107_5, c107_5, A107_6, c107_6, e107, hx107_0, hx107_1, hx107_2, hx107_3, hx107_4, hx107_5, hx107_6, hl107_2, hi107_2, hl107_3, hi107_3, hl107_4, hi107_4, hl107_5, hi107_5, hl107_6, hi107_6⟩ := at_T41 HR0.out 0 p107 q107
                    obtain rfl : ad106 = ad107 := (by injection e107)
                    have HXR107_2 := Aside0.mk hx107_2
                    have HXR107_3 := Aside0.mk hx107_3
                    have HXR107_4 := Aside0.mk hx107_4
                    have HXR107_5 := Aside0.mk hx107_5
                    have HXR107_6 := Aside0.mk hx107_6
                    (try (have ea_ := Option.some.inj (HXR106_2.out.symm.trans hx107_2); injection ea_ with ea_ en_ ec_; subst ea_; subst ec_; clear en_))
                    (try (have ea_ := Option.some.inj (HXR106_3.out.symm.trans hx107_3); injection ea_ with ea_ en_ ec_; subst ea_; subst ec_; clear en_))
                    (try (have ea_ := Option.some.inj (HXR106_4.out.symm.trans hx107_4); injection ea_ with ea_ en_ ec_; subst ea_; subst ec_; clear en_))
                    (try (have ea_ := Option.some.inj (HXR106_5.out.symm.trans hx107_5); injection ea_ with ea_ en_ ec_; subst ea_; subst ec_; clear en_))
                    (try (have ea_ := Option.some.inj (HXR106_6.out.symm.trans hx107_6); injection ea_ with ea_ en_ ec_; subst ea_; subst ec_; clear en_))
                    have qi107 : (0 < l0.length) = True := eq_true (by omega)
                    (try rw [show ((0 : Int)).toNat = 0 from rfl] at hx107_0)
                    (try rw [show 0 * 7 = 0 from rfl] at hx107_0)
                    (try rw [Addr.add_zero'] at hx107_0)
                    (try rw [show ((0 : Int)).toNat = 0 from rfl] at hx107_1)
                    (try rw [show 0 * 7 = 0 from rfl] at hx107_1)
                    (try rw [Addr.add_zero'] at hx107_1)
                    (try rw [show ((0 : Int)).toNat = 0 from rfl] at hx107_2)
                    (try rw [show 0 * 7 = 0 from rfl] at hx107_2)
                    (try rw [Addr.add_zero'] at hx107_2)
                    (try rw [show ((0 : Int)).toNat = 0 from rfl] at hx107_3)
                    (try rw [show 0 * 7 = 0 from rfl] at hx107_3)
                    (try rw [Addr.add_zero'] at hx107_3)
                    (try rw [show ((0 : Int)).toNat = 0 from rfl] at hx107_4)
                    (try rw [show 0 * 7 = 0 from rfl] at hx107_4)
                    (try rw [Addr.add_zero'] at hx107_4)
                    (try rw [show ((0 : Int)).toNat = 0 from rfl] at hx107_5)
                    (try rw [show 0 * 7 = 0 from rfl] at hx107_5)
                    (try rw [Addr.add_zero'] at hx107_5)
                    (try rw [show ((0 : Int)).toNat = 0 from rfl] at hx107_6)
                    (try rw [show 0 * 7 = 0 from rfl] at hx107_6)
                    (try rw [Addr.add_zero'] at hx107_6)
                    have HR107_2 := Aside0.mk hi107_2
                    have HC107_2 := Aside0.mk hl107_2
                    clear hi107_2 hl107_2
                    have HR107_3 := Aside0.mk hi107_3
                    have HC107_3 := Aside0.mk hl107_3
                    clear hi107_3 hl107_3
                    have HR107_4 := Aside0.mk hi107_4
                    have HC107_4 := Aside0.mk hl107_4
                    clear hi107_4 hl107_4
                    have HR107_5 := Aside0.mk hi107_5
                    have HC107_5 := Aside0.mk hl107_5
                    clear hi107_5 hl107_5
                    have HR107_6 := Aside0.mk hi107_6
                    have HC107_6 := Aside0.mk hl107_6
                    clear hi107_6 hl107_6
                    replace p107 := eq_true p107
                    replace q107 := eq_true q107
                    have p108 : 0 ≤ (x17_1 : Int) := of_decide_eq_true (by first | (with_reducible assumption) | assumption)
                    have q108 : x17_1 < (((rd_T41 l0 0).f3).length : Int) := of_decide_eq_true (by first | (with_reducible assumption) | assumption)
                    obtain ⟨ad108, A108_5, c108_5, e108, hx108_0, hx108_1, hx108_2, hx108_3, hx108_4, hx108_5, hl108_5, hi108_5⟩ := at_T44 HR107_3.out x17_1 p108 q108
                    (try rw [← Nbq8.out] at hx108_1)
                    cases e108
                    have HXR108_5 := Aside0.mk hx108_5
                    have HR108_5 := Aside0.mk hi108_5
                    have HC108_5 := Aside0.mk hl108_5
                    clear hi108_5 hl108_5
                    replace p108 := eq_true p108
                    replace q108 := eq_true q108
                    go_wp2
                    go_roundg k1
                    case measure => have := HK1.out; omega
                    case rel => exact ⟨(wrap64 (x17_1 + 1)), (by first | rfl | (simp; done) | (simp [*]; done)), H', ⟨by have := HK1.out; omega⟩, by repeat (first | exact Drawn0.refl _ | apply Drawn0.step)⟩
                · rw [if_neg c7] at H
                  exact absurd H (by simp)
              · rw [if_neg c6] at H
                exact absurd H (by simp)
            · rw [if_neg c5] at H
              exact absurd H (by simp)
          · rw [if_neg c4] at H
            have c4b0 : decide (x17_1 < (((rd_T41 l0 0).f3).length : Int)) = false := decide_eq_false c4
            clear c4
            obtain rfl := Option.some.inj H
            go_wp2
            go_ret
            exact ⟨by first | rfl | (simp; done) | (simp [*]; done), by repeat (first | exact Drawn0.refl _ | apply Drawn0.step)⟩
    · rw [if_neg c3] at H
      have c3b0 : (((rd_T41 l0 0).f0) == 1) = false := beq_eq_false_iff_ne.mpr c3
      have c3b1 : (((rd_T41 l0 0).f0) != 1) = true := bne_iff_ne.mpr c3
      by_cases c10 : ((rd_T41 l0 0).f0) = 2
      · rw [if_pos c10] at H
        have c10b0 : (((rd_T41 l0 0).f0) == 2) = true := beq_iff_eq.mpr c10
        have c10b1 : (((rd_T41 l0 0).f0) != 2) = false := bne_eq_false_iff_eq.mpr c10
        clear c10
        have H' := Aside0.mk H
        clear H
        have p106 : 0 ≤ (0 : Int) := (by omega)
        have q106 : 0 < (l0.length : Int) := of_decide_eq_true (by first | (with_reducible assumption) | assumption)
        obtain ⟨ad106, A106_2, c106_2, A106_3, c106_3, A106_4, c106_4, A106_5, c106_5, A106_6, c106_6, e106, hx106_0, hx106_1, hx106_2, hx106_3, hx106_4, hx106_5, hx106_6, hl106_2, hi106_2, hl106_3, hi106_3, hl106_4, hi106_4, hl106_5, hi106_5, hl106_6, hi106_6⟩ := at_T41 HR0.out 0 p106 q106
        cases e106
        have HXR106_2 := Aside0.mk hx106_2
        have HXR106_3 := Aside0.mk hx106_3
        have HXR106_4 := Aside0.mk hx106_4
        have HXR106_5 := Aside0.mk hx106_5
        have HXR106_6 := Aside0.mk hx106_6
        have qi106 : (0 < l0.length) = True := eq_true (by omega)
        (try rw [show ((0 : Int)).toNat = 0 from rfl] at hx106_0)
        (try rw [show 0 * 7 = 0 from rfl] at hx106_0)
        (try rw [Addr.add_zero'] at hx106_0)
        (try rw [show ((0 : Int)).toNat = 0 from rfl] at hx106_1)
        (try rw [show 0 * 7 = 0 from rfl] at hx106_1)
        (try rw [Addr.add_zero'] at hx106_1)
        (try rw [show ((0 : Int)).toNat = 0 from rfl] at hx106_2)
        (try rw [show 0 * 7 = 0 from rfl] at hx106_2)
        (try rw [Addr.add_zero'] at hx106_2)
        (try rw [show ((0 : Int)).toNat = 0 from rfl] at hx106_3)
        (try rw [show 0 * 7 = 0 from rfl] at hx106_3)
        (try rw [Addr.add_zero'] at hx106_3)
        (try rw [show ((0 : Int)).toNat = 0 from rfl] at hx106_4)
        (try rw [show 0 * 7 = 0 from rfl] at hx106_4)
        (try rw [Addr.add_zero'] at hx106_4)
        (try rw [show ((0 : Int)).toNat = 0 from rfl] at hx106_5)
        (try rw [show 0 * 7 = 0 from rfl] at hx106_5)
        (try rw [Addr.add_zero'] at hx106_5)
        (try rw [show ((0 : Int)).toNat = 0 from rfl] at hx106_6)
        (try rw [show 0 * 7 = 0 from rfl] at hx106_6)
        (try rw [Addr.add_zero'] at hx106_6)
        have HR106_2 := Aside0.mk hi106_2
        have HC106_2 := Aside0.mk hl106_2
        clear hi106_2 hl106_2
        have HR106_3 := Aside0.mk hi106_3
        have HC106_3 := Aside0.mk hl106_3
        clear hi106_3 hl106_3
        have HR106_4 := Aside0.mk hi106_4
        have HC106_4 := Aside0.mk hl106_4
        clear hi106_4 hl106_4
        have HR106_5 := Aside0.mk hi106_5
        have HC106_5 := Aside0.mk hl106_5
        clear hi106_5 hl106_5
        have HR106_6 := Aside0.mk hi106_6
        have HC106_6 := Aside0.mk hl106_6
        clear hi106_6 hl106_6
        replace p106 := eq_true p106
        replace q106 := eq_true q106
        go_enter Tryd.func18, Tryd.ntmps18
        go_wp2
        go_loopg [36] k (fun kq v36 w' => ∃ (x36_1 : Int), v36 = .int .i64 x36_1 ∧ Aside0 (core_static.l1 kq l0 (((rd_T41 l0 0).f2).length : Int) x36_1 = some r) ∧ Aside0 (kq ≤ k) ∧ Drawn0 w w')
        case atStart => exact ⟨(0), (by first | rfl | (simp; done) | (simp [*]; done)), H', ⟨Nat.le_refl _⟩, by repeat (first | exact Drawn0.refl _ | apply Drawn0.step)⟩
        case round =>
          clear H'
          try clear c1
          try clear p1
          try clear q1
          try clear hx1
          try clear qi1
          try clear c2
          try clear c2b0
          try clear c2b1
          try clear p2
          try clear c3
          try clear c3b0
          try clear c3b1
          try clear c4
          try clear c4b0
          try clear c5
          try clear c5b0
          try clear c5b1
          try clear c6
          try clear c6b0
          try clear p6
          try clear c7
          try clear c7b0
          try clear q8
          try clear c9
          try clear c10
          try clear c10b0
          try clear c10b1
          try clear p10
          try clear q10
          try clear hx10
          try clear qi10
          try clear hx106_0
          try clear hx106_1
          try clear hx106_2
          try clear hx106_3
          try clear hx106_4
          try clear hx106_5
          try clear hx106_6
          try clear hx107_0
          try clear hx107_1
          try clear hx107_2
          try clear hx107_3
          try clear hx107_4
          try clear hx107_5
          try clear hx107_6
          try clear hx108_0
          try clear hx108_1
          try clear hx108_2
          try clear hx108_3
          try clear hx108_4
          try clear hx108_5
          try clear p1
          try clear p106
          try clear p107
          try clear p108
          try clear p2
          try clear q1
          try clear q106
          try clear q107
          try clear q108
          obtain ⟨x36_1, rfl, HA, HK1, ⟨m1, rfl⟩⟩ := hrel
          cases gk with
          | zero => exact absurd HA.out (by simp [core_static.l1])
          | succ k1 =>
            have H := HA.out
            clear HA
            simp only [core_static.l1] at H
            by_cases c11 : x36_1 < (((rd_T41 l0 0).f2).length : Int)
            · rw [if_pos c11] at H
              have c11b0 : decide (x36_1 < (((rd_T41 l0 0).f2).length : Int)) = true := decide_eq_true c11
              clear c11
              by_cases c12 : 0 < (l0.length : Int)
              · rw [if_pos c12] at H
                have c12b0 : decide (0 < (l0.length : Int)) = true := decide_eq_true c12
                have c12b1 : decide (0 < l0.length) = true := decide_eq_true (by omega)
                clear c12
                by_cases c13 : 0 ≤ x36_1
                · rw [if_pos c13] at H
                  have c13b0 : decide (0 ≤ x36_1) = true := decide_eq_true c13
                  clear c13
                  by_cases c14 : x36_1 < (((rd_T41 l0 0).f2).length : Int)
                  · rw [if_pos c14] at H
                    have c14b0 : decide (x36_1 < (((rd_T41 l0 0).f2).length : Int)) = true := decide_eq_true c14
                    clear c14
                    obtain ⟨bq15, hbq15⟩ : ∃ b_ : Bool, b_ = ((rd_T37 ((rd_T41 l0 0).f2) x36_1).f2) := ⟨_, rfl⟩
                    replace H : (if bq15 = true then (some false) else (core_static.l1 k1 l0 (((rd_T41 l0 0).f2).length : Int) (wrap64 (x36_1 + 1)))) = some r := by rw [← hbq15] at H; exact H
                    have Nbq15 := Aside0.mk hbq15
                    clear hbq15
                    by_cases c16 : bq15 = true
                    · subst c16
                      have H1 : (some false) = some r := by rw [if_pos rfl] at H; exact H
                      clear H
                      have H := H1
                      clear H1
                      obtain rfl := Option.some.inj H
                      have p109 : 0 ≤ (0 : Int) := (by omega)
                      have q109 : 0 < (l0.length : Int) := of_decide_eq_true (by first | (with_reducible assumption) | assumption)
                      obtain ⟨ad109, A109_2, c109_2, A109_3, c109_3, A109_4, c109_4, A109_5, c109_5, A109_6, c109_6, e109, hx109_0, hx109_1, hx109_2, hx109_3, hx109_4, hx109_5, hx109_6, hl109_2, hi109_2, hl109_3, hi109_3, hl109_4, hi109_4, hl109_5, hi109_5, hl109_6, hi109_6⟩ := at_T41 HR0.out 0 p109 q109
                      obtain rfl : ad106 = ad109 := (by injection e109)
                      have HXR109_2 := Aside0.mk hx109_2
                      have HXR109_3 := Aside0.mk hx109_3
                      have HXR109_4 := Aside0.mk hx109_4
                      have HXR109_5 := Aside0.mk hx109_5
                      have HXR109_6 := Aside0.mk hx109_6
                      (try (have ea_ := Option.some.inj (HXR106_2.out.symm.trans hx109_2); injection ea_ with ea_ en_ ec_; subst ea_; subst ec_; clear en_))
                      (try (have ea_ := Option.some.inj (HXR106_3.out.symm.trans hx109_3); injection ea_ with ea_ en_ ec_; subst ea_; subst ec_; clear en_))
                      (try (have ea_ := Option.some.inj (HXR106_4.out.symm.trans hx109_4); injection ea_ with ea_ en_ ec_; subst ea_; subst ec_; clear en_))
                      (try (have ea_ := Option.some.inj (HXR106_5.out.symm.trans hx109_5); injection ea_ with ea_ en_ ec_; subst ea_; subst ec_; clear en_))
                      (try (have ea_ := Option.some.inj (HXR106_6.out.symm.trans hx109_6); injection ea_ with ea_ en_ ec_; subst ea_; subst ec_; clear en_))
                      have qi109 : (0 < l0.length) = True := eq_true (by omega)
                      (try rw [show ((0 : Int)).toNat = 0 from rfl] at hx109_0)
                      (try rw [show 0 * 7 = 0 from rfl] at hx109_0)
                      (try rw [Addr.add_zero'] at hx109_0)
                      (try rw [show ((0 : Int)).toNat = 0 from rfl] at hx109_1)
                      (try rw [show 0 * 7 = 0 from rfl] at hx109_1)
                      (try rw [Addr.add_zero'] at hx109_1)
                      (try rw [show ((0 : Int)).toNat = 0 from rfl] at hx109_2)
                      (try rw [show 0 * 7 = 0 from rfl] at hx109_2)
                      (try rw [Addr.add_zero'] at hx109_2)
                      (try rw [show ((0 : Int)).toNat = 0 from rfl] at hx109_3)
                      (try rw [show 0 * 7 = 0 from rfl] at hx109_3)
                      (try rw [Addr.add_zero'] at hx109_3)
                      (try rw [show ((0 : Int)).toNat = 0 from rfl] at hx109_4)
                      (try rw [show 0 * 7 = 0 from rfl] at hx109_4)
                      (try rw [Addr.add_zero'] at hx109_4)
                      (try rw [show ((0 : Int)).toNat = 0 from rfl] at hx109_5)
                      (try rw [show 0 * 7 = 0 from rfl] at hx109_5)
                      (try rw [Addr.add_zero'] at hx109_5)
                      (try rw [show ((0 : Int)).toNat = 0 from rfl] at hx109_6)
                      (try rw [show 0 * 7 = 0 from rfl] at hx109_6)
                      (try rw [Addr.add_zero'] at hx109_6)
                      have HR109_2 := Aside0.mk hi109_2
                      have HC109_2 := Aside0.mk hl109_2
                      clear hi109_2 hl109_2
                      have HR109_3 := Aside0.mk hi109_3
                      have HC109_3 := Aside0.mk hl109_3
                      clear hi109_3 hl109_3
                      have HR109_4 := Aside0.mk hi109_4
                      have HC109_4 := Aside0.mk hl109_4
                      clear hi109_4 hl109_4
                      have HR109_5 := Aside0.mk hi109_5
                      have HC109_5 := Aside0.mk hl109_5
                      clear hi109_5 hl109_5
                      have HR109_6 := Aside0.mk hi109_6
                      have HC109_6 := Aside0.mk hl109_6
                      clear hi109_6 hl109_6
                      replace p109 := eq_true p109
                      replace q109 := eq_true q109
                      have p110 : 0 ≤ (x36_1 : Int) := of_decide_eq_true (by first | (with_reducible assumption) | assumption)
                      have q110 : x36_1 < (((rd_T41 l0 0).f2).length : Int) := of_decide_eq_true (by first | (with_reducible assumption) | assumption)
                      obtain ⟨ad110, A110_6, c110_6, e110, hx110_0, hx110_1, hx110_2, hx110_3, hx110_4, hx110_5, hx110_6, hx110_7, hl110_6, hi110_6⟩ := at_T37 HR109_2.out x36_1 p110 q110
                      (try rw [← Nbq15.out] at hx110_2)
                      cases e110
                      have HXR110_6 := Aside0.mk hx110_6
                      have HR110_6 := Aside0.mk hi110_6
                      have HC110_6 := Aside0.mk hl110_6
                      clear hi110_6 hl110_6
                      replace p110 := eq_true p110
                      replace q110 := eq_true q110
                      go_wp2
                      go_ret
                      exact ⟨by first | rfl | (simp; done) | (simp [*]; done), by repeat (first | exact Drawn0.refl _ | apply Drawn0.step)⟩
                    · replace c16 := Bool.eq_false_iff.mpr c16
                      subst c16
                      have H1 : (core_static.l1 k1 l0 (((rd_T41 l0 0).f2).length : Int) (wrap64 (x36_1 + 1))) = some r := by rw [if_neg (show ¬ (false = true) by decide)] at H; exact H
                      clear H
                      have H := H1
                      clear H1
                      have H' := Aside0.mk H
                      clear H
                      have p109 : 0 ≤ (0 : Int) := (by omega)
                      have q109 : 0 < (l0.length : Int) := of_decide_eq_true (by first | (with_reducible assumption) | assumption)
                      obtain ⟨ad109, A109_2, c109_2, A109_3, c109_3, A109_4, c109_4, A109_5, c109_5, A109_6, c109_6, e109, hx109_0, hx109_1, hx109_2, hx109_3, hx109_4, hx109_5, hx109_6, hl109_2, hi109_2, hl109_3, hi109_3, hl109_4, hi109_4, hl109_5, hi109_5, hl109_6, hi109_6⟩ := at_T41 HR0.out 0 p109 q109
                      obtain rfl : ad106 = ad109 := (by injection e109)
                      have HXR109_2 := Aside0.mk hx109_2
                      have HXR109_3 := Aside0.mk hx109_3
                      have HXR109_4 := Aside0.mk hx109_4
                      have HXR109_5 := Aside0.mk hx109_5
                      have HXR109_6 := Aside0.mk hx109_6
                      (try (have ea_ := Option.some.inj (HXR106_2.out.symm.trans hx109_2); injection ea_ with ea_ en_ ec_; subst ea_; subst ec_; clear en_))
                      (try (have ea_ := Option.some.inj (HXR106_3.out.symm.trans hx109_3); injection ea_ with ea_ en_ ec_; subst ea_; subst ec_; clear en_))
                      (try (have ea_ := Option.some.inj (HXR106_4.out.symm.trans hx109_4); injection ea_ with ea_ en_ ec_; subst ea_; subst ec_; clear en_))
                      (try (have ea_ := Option.some.inj (HXR106_5.out.symm.trans hx109_5); injection ea_ with ea_ en_ ec_; subst ea_; subst ec_; clear en_))
                      (try (have ea_ := Option.some.inj (HXR106_6.out.symm.trans hx109_6); injection ea_ with ea_ en_ ec_; subst ea_; subst ec_; clear en_))
                      have qi109 : (0 < l0.length) = True := eq_true (by omega)
                      (try rw [show ((0 : Int)).toNat = 0 from rfl] at hx109_0)
                      (try rw [show 0 * 7 = 0 from rfl] at hx109_0)
                      (try rw [Addr.add_zero'] at hx109_0)
                      (try rw [show ((0 : Int)).toNat = 0 from rfl] at hx109_1)
                      (try rw [show 0 * 7 = 0 from rfl] at hx109_1)
                      (try rw [Addr.add_zero'] at hx109_1)
                      (try rw [show ((0 : Int)).toNat = 0 from rfl] at hx109_2)
                      (try rw [show 0 * 7 = 0 from rfl] at hx109_2)
                      (try rw [Addr.add_zero'] at hx109_2)
                      (try rw [show ((0 : Int)).toNat = 0 from rfl] at hx109_3)
                      (try rw [show 0 * 7 = 0 from rfl] at hx109_3)
                      (try rw [Addr.add_zero'] at hx109_3)
                      (try rw [show ((0 : Int)).toNat = 0 from rfl] at hx109_4)
                      (try rw [show 0 * 7 = 0 from rfl] at hx109_4)
                      (try rw [Addr.add_zero'] at hx109_4)
                      (try rw [show ((0 : Int)).toNat = 0 from rfl] at hx109_5)
                      (try rw [show 0 * 7 = 0 from rfl] at hx109_5)
                      (try rw [Addr.add_zero'] at hx109_5)
                      (try rw [show ((0 : Int)).toNat = 0 from rfl] at hx109_6)
                      (try rw [show 0 * 7 = 0 from rfl] at hx109_6)
                      (try rw [Addr.add_zero'] at hx109_6)
                      have HR109_2 := Aside0.mk hi109_2
                      have HC109_2 := Aside0.mk hl109_2
                      clear hi109_2 hl109_2
                      have HR109_3 := Aside0.mk hi109_3
                      have HC109_3 := Aside0.mk hl109_3
                      clear hi109_3 hl109_3
                      have HR109_4 := Aside0.mk hi109_4
                      have HC109_4 := Aside0.mk hl109_4
                      clear hi109_4 hl109_4
                      have HR109_5 := Aside0.mk hi109_5
                      have HC109_5 := Aside0.mk hl109_5
                      clear hi109_5 hl109_5
                      have HR109_6 := Aside0.mk hi109_6
                      have HC109_6 := Aside0.mk hl109_6
                      clear hi109_6 hl109_6
                      replace p109 := eq_true p109
                      replace q109 := eq_true q109
                      have p110 : 0 ≤ (x36_1 : Int) := of_decide_eq_true (by first | (with_reducible assumption) | assumption)
                      have q110 : x36_1 < (((rd_T41 l0 0).f2).length : Int) := of_decide_eq_true (by first | (with_reducible assumption) | assumption)
                      obtain ⟨ad110, A110_6, c110_6, e110, hx110_0, hx110_1, hx110_2, hx110_3, hx110_4, hx110_5, hx110_6, hx110_7, hl110_6, hi110_6⟩ := at_T37 HR109_2.out x36_1 p110 q110
                      (try rw [← Nbq15.out] at hx110_2)
                      cases e110
                      have HXR110_6 := Aside0.mk hx110_6
                      have HR110_6 := Aside0.mk hi110_6
                      have HC110_6 := Aside0.mk hl110_6
                      clear hi110_6 hl110_6
                      replace p110 := eq_true p110
                      replace q110 := eq_true q110
                      go_wp2
                      go_roundg k1
                      case measure => have := HK1.out; omega
                      case rel => exact ⟨(wrap64 (x36_1 + 1)), (by first | rfl | (simp; done) | (simp [*]; done)), H', ⟨by have := HK1.out; omega⟩, by repeat (first | exact Drawn0.refl _ | apply Drawn0.step)⟩
                  · rw [if_neg c14] at H
                    exact absurd H (by simp)
                · rw [if_neg c13] at H
                  exact absurd H (by simp)
              · rw [if_neg c12] at H
                exact absurd H (by simp)
            · rw [if_neg c11] at H
              have c11b0 : decide (x36_1 < (((rd_T41 l0 0).f2).length : Int)) = false := decide_eq_false c11
              clear c11
              by_cases c17 : 0 < (l0.length : Int)
              · rw [if_pos c17] at H
                have c17b0 : decide (0 < (l0.length : Int)) = true := decide_eq_true c17
                have c17b1 : decide (0 < l0.length) = true := decide_eq_true (by omega)
                clear c17
                have H' := Aside0.mk H
                clear H
                have p111 : 0 ≤ (0 : Int) := (by omega)
                have q111 : 0 < (l0.length : Int) := of_decide_eq_true (by first | (with_reducible assumption) | assumption)
                obtain ⟨ad111, A111_2, c111_2, A111_3, c111_3, A111_4, c111_4, A111_5, c111_5, A111_6, c111_6, e111, hx111_0, hx111_1, hx111_2, hx111_3, hx111_4, hx111_5, hx111_6, hl111_2, hi111_2, hl111_3, hi111_3, hl111_4, hi111_4, hl111_5, hi111_5, hl111_6, hi111_6⟩ := at_T41 HR0.out 0 p111 q111
                obtain rfl : ad106 = ad111 := (by injection e111)
                have HXR111_2 := Aside0.mk hx111_2
                have HXR111_3 := Aside0.mk hx111_3
                have HXR111_4 := Aside0.mk hx111_4
                have HXR111_5 := Aside0.mk hx111_5
                have HXR111_6 := Aside0.mk hx111_6
                (try (have ea_ := Option.some.inj (HXR106_2.out.symm.trans hx111_2); injection ea_ with ea_ en_ ec_; subst ea_; subst ec_; clear en_))
                (try (have ea_ := Option.some.inj (HXR106_3.out.symm.trans hx111_3); injection ea_ with ea_ en_ ec_; subst ea_; subst ec_; clear en_))
                (try (have ea_ := Option.some.inj (HXR106_4.out.symm.trans hx111_4); injection ea_ with ea_ en_ ec_; subst ea_; subst ec_; clear en_))
                (try (have ea_ := Option.some.inj (HXR106_5.out.symm.trans hx111_5); injection ea_ with ea_ en_ ec_; subst ea_; subst ec_; clear en_))
                (try (have ea_ := Option.some.inj (HXR106_6.out.symm.trans hx111_6); injection ea_ with ea_ en_ ec_; subst ea_; subst ec_; clear en_))
                have qi111 : (0 < l0.length) = True := eq_true (by omega)
                (try rw [show ((0 : Int)).toNat = 0 from rfl] at hx111_0)
                (try rw [show 0 * 7 = 0 from rfl] at hx111_0)
                (try rw [Addr.add_zero'] at hx111_0)
                (try rw [show ((0 : Int)).toNat = 0 from rfl] at hx111_1)
                (try rw [show 0 * 7 = 0 from rfl] at hx111_1)
                (try rw [Addr.add_zero'] at hx111_1)
                (try rw [show ((0 : Int)).toNat = 0 from rfl] at hx111_2)
                (try rw [show 0 * 7 = 0 from rfl] at hx111_2)
                (try rw [Addr.add_zero'] at hx111_2)
                (try rw [show ((0 : Int)).toNat = 0 from rfl] at hx111_3)
                (try rw [show 0 * 7 = 0 from rfl] at hx111_3)
                (try rw [Addr.add_zero'] at hx111_3)
                (try rw [show ((0 : Int)).toNat = 0 from rfl] at hx111_4)
                (try rw [show 0 * 7 = 0 from rfl] at hx111_4)
                (try rw [Addr.add_zero'] at hx111_4)
                (try rw [show ((0 : Int)).toNat = 0 from rfl] at hx111_5)
                (try rw [show 0 * 7 = 0 from rfl] at hx111_5)
                (try rw [Addr.add_zero'] at hx111_5)
                (try rw [show ((0 : Int)).toNat = 0 from rfl] at hx111_6)
                (try rw [show 0 * 7 = 0 from rfl] at hx111_6)
                (try rw [Addr.add_zero'] at hx111_6)
                have HR111_2 := Aside0.mk hi111_2
                have HC111_2 := Aside0.mk hl111_2
                clear hi111_2 hl111_2
                have HR111_3 := Aside0.mk hi111_3
                have HC111_3 := Aside0.mk hl111_3
                clear hi111_3 hl111_3
                have HR111_4 := Aside0.mk hi111_4
                have HC111_4 := Aside0.mk hl111_4
                clear hi111_4 hl111_4
                have HR111_5 := Aside0.mk hi111_5
                have HC111_5 := Aside0.mk hl111_5
                clear hi111_5 hl111_5
                have HR111_6 := Aside0.mk hi111_6
                have HC111_6 := Aside0.mk hl111_6
                clear hi111_6 hl111_6
                replace p111 := eq_true p111
                replace q111 := eq_true q111
                go_wp2
                go_loopg [53] k1 (fun kq v53 w' => ∃ (x53_2 : Int), v53 = .int .i64 x53_2 ∧ Aside0 (core_static.l2 kq l0 (((rd_T41 l0 0).f5).length : Int) x53_2 = some r) ∧ Aside0 (kq ≤ k1) ∧ Drawn0 w w')
                case atStart => exact ⟨(0), (by first | rfl | (simp; done) | (simp [*]; done)), H', ⟨Nat.le_refl _⟩, by repeat (first | exact Drawn0.refl _ | apply Drawn0.step)⟩
                case round =>
                  clear H'
                  try clear c1
                  try clear p1
                  try clear q1
                  try clear hx1
                  try clear qi1
                  try clear c2
                  try clear c2b0
                  try clear c2b1
                  try clear p2
                  try clear c3
                  try clear c3b0
                  try clear c3b1
                  try clear c4
                  try clear c4b0
                  try clear c5
                  try clear c5b0
                  try clear c5b1
                  try clear c6
                  try clear c6b0
                  try clear p6
                  try clear c7
                  try clear c7b0
                  try clear q8
                  try clear c9
                  try clear c10
                  try clear c10b0
                  try clear c10b1
                  try clear p10
                  try clear q10
                  try clear hx10
                  try clear qi10
                  try clear c11
                  try clear c11b0
                  try clear p11
                  try clear q11
                  try clear hx11
                  try clear qi11
                  try clear c12
                  try clear c12b0
                  try clear c12b1
                  try clear c13
                  try clear c13b0
                  try clear c14
                  try clear c14b0
                  try clear q15
                  try clear c16
                  try clear c17
                  try clear c17b0
                  try clear c17b1
                  try clear hx106_0
                  try clear hx106_1
                  try clear hx106_2
                  try clear hx106_3
                  try clear hx106_4
                  try clear hx106_5
                  try clear hx106_6
                  try clear hx107_0
                  try clear hx107_1
                  try clear hx107_2
                  try clear hx107_3
                  try clear hx107_4
                  try clear hx107_5
                  try clear hx107_6
                  try clear hx108_0
                  try clear hx108_1
                  try clear hx108_2
                  try clear hx108_3
                  try clear hx108_4
                  try clear hx108_5
                  try clear hx109_0
                  try clear hx109_1
                  try clear hx109_2
                  try clear hx109_3
                  try clear hx109_4
                  try clear hx109_5
                  try clear hx109_6
                  try clear hx110_0
                  try clear hx110_1
                  try clear hx110_2
                  try clear hx110_3
                  try clear hx110_4
                  try clear hx110_5
                  try clear hx110_6
                  try clear hx110_7
                  try clear hx111_0
                  try clear hx111_1
                  try clear hx111_2
                  try clear hx111_3
                  try clear hx111_4
                  try clear hx111_5
                  try clear hx111_6
                  try clear p1
                  try clear p10
                  try clear p106
                  try clear p107
                  try clear p108
                  try clear p109
                  try clear p110
                  try clear p111
                  try clear p2
                  try clear p6
                  try clear q1
                  try clear q10
                  try clear q106
                  try clear q107
                  try clear q108
                  try clear q109
                  try clear q110
                  try clear q111
                  try clear q8
                  obtain ⟨x53_2, rfl, HA, HK2, ⟨m2, rfl⟩⟩ := hrel
                  cases gk with
                  | zero => exact absurd HA.out (by simp [core_static.l2])
                  | succ k2 =>
                    have H := HA.out
                    clear HA
                    simp only [core_static.l2] at H
                    by_cases c18 : x53_2 < (((rd_T41 l0 0).f5).length : Int)
                    · rw [if_pos c18] at H
                      have c18b0 : decide (x53_2 < (((rd_T41 l0 0).f5).length : Int)) = true := decide_eq_true c18
                      clear c18
                      by_cases c19 : 0 < (l0.length : Int)
                      · rw [if_pos c19] at H
                        have c19b0 : decide (0 < (l0.length : Int)) = true := decide_eq_true c19
                        have c19b1 : decide (0 < l0.length) = true := decide_eq_true (by omega)
                        clear c19
                        by_cases c20 : 0 ≤ x53_2
                        · rw [if_pos c20] at H
                          have c20b0 : decide (0 ≤ x53_2) = true := decide_eq_true c20
                          clear c20
                          by_cases c21 : x53_2 < (((rd_T41 l0 0).f5).length : Int)
                          · rw [if_pos c21] at H
                            have c21b0 : decide (x53_2 < (((rd_T41 l0 0).f5).length : Int)) = true := decide_eq_true c21
                            clear c21
                            replace H := Option.bind_eq_some_iff.mp H
                            obtain ⟨t115, A220, H⟩ := H
                            replace H : (if t115 = true then (core_static.l2 k2 l0 (((rd_T41 l0 0).f5).length : Int) (wrap64 (x53_2 + 1))) else (some false)) = some r := H
                            have A22 := Aside0.mk A220
                            clear A220
                            by_cases c23 : t115 = true
                            · subst c23
                              have H1 : (core_static.l2 k2 l0 (((rd_T41 l0 0).f5).length : Int) (wrap64 (x53_2 + 1))) = some r := by rw [if_pos rfl] at H; exact H
                              clear H
                              have H := H1
                              clear H1
                              have H' := Aside0.mk H
                              clear H
                              have p112 : 0 ≤ (0 : Int) := (by omega)
                              have q112 : 0 < (l0.length : Int) := of_decide_eq_true (by first | (with_reducible assumption) | assumption)
                              obtain ⟨ad112, A112_2, c112_2, A112_3, c112_3, A112_4, c112_4, A112_5, c112_5, A112_6, c112_6, e112, hx112_0, hx112_1, hx112_2, hx112_3, hx112_4, hx112_5, hx112_6, hl112_2, hi112_2, hl112_3, hi112_3, hl112_4, hi112_4, hl112_5, hi112_5, hl112_6, hi112_6⟩ := at_T41 HR0.out 0 p112 q112
                              obtain rfl : ad106 = ad112 := (by injection e112)
                              have HXR112_2 := Aside0.mk hx112_2
                              have HXR112_3 := Aside0.mk hx112_3
                              have HXR112_4 := Aside0.mk hx112_4
                              have HXR112_5 := Aside0.mk hx112_5
                              have HXR112_6 := Aside0.mk hx112_6
                              (try (have ea_ := Option.some.inj (HXR111_2.out.symm.trans hx112_2); injection ea_ with ea_ en_ ec_; subst ea_; subst ec_; clear en_))
                              (try (have ea_ := Option.some.inj (HXR111_3.out.symm.trans hx112_3); injection ea_ with ea_ en_ ec_; subst ea_; subst ec_; clear en_))
                              (try (have ea_ := Option.some.inj (HXR111_4.out.symm.trans hx112_4); injection ea_ with ea_ en_ ec_; subst ea_; subst ec_; clear en_))
                              (try (have ea_ := Option.some.inj (HXR111_5.out.symm.trans hx112_5); injection ea_ with ea_ en_ ec_; subst ea_; subst ec_; clear en_))
                              (try (have ea_ := Option.some.inj (HXR111_6.out.symm.trans hx112_6); injection ea_ with ea_ en_ ec_; subst ea_; subst ec_; clear en_))
                              have qi112 : (0 < l0.length) = True := eq_true (by omega)
                              (try rw [show ((0 : Int)).toNat = 0 from rfl] at hx112_0)
                              (try rw [show 0 * 7 = 0 from rfl] at hx112_0)
                              (try rw [Addr.add_zero'] at hx112_0)
                              (try rw [show ((0 : Int)).toNat = 0 from rfl] at hx112_1)
                              (try rw [show 0 * 7 = 0 from rfl] at hx112_1)
                              (try rw [Addr.add_zero'] at hx112_1)
                              (try rw [show ((0 : Int)).toNat = 0 from rfl] at hx112_2)
                              (try rw [show 0 * 7 = 0 from rfl] at hx112_2)
                              (try rw [Addr.add_zero'] at hx112_2)
                              (try rw [show ((0 : Int)).toNat = 0 from rfl] at hx112_3)
                              (try rw [show 0 * 7 = 0 from rfl] at hx112_3)
                              (try rw [Addr.add_zero'] at hx112_3)
                              (try rw [show ((0 : Int)).toNat = 0 from rfl] at hx112_4)
                              (try rw [show 0 * 7 = 0 from rfl] at hx112_4)
                              (try rw [Addr.add_zero'] at hx112_4)
                              (try rw [show ((0 : Int)).toNat = 0 from rfl] at hx112_5)
                              (try rw [show 0 * 7 = 0 from rfl] at hx112_5)
                              (try rw [Addr.add_zero'] at hx112_5)
                              (try rw [show ((0 : Int)).toNat = 0 from rfl] at hx112_6)
                              (try rw [show 0 * 7 = 0 from rfl] at hx112_6)
                              (try rw [Addr.add_zero'] at hx112_6)
                              have HR112_2 := Aside0.mk hi112_2
                              have HC112_2 := Aside0.mk hl112_2
                              clear hi112_2 hl112_2
                              have HR112_3 := Aside0.mk hi112_3
                              have HC112_3 := Aside0.mk hl112_3
                              clear hi112_3 hl112_3
                              have HR112_4 := Aside0.mk hi112_4
                              have HC112_4 := Aside0.mk hl112_4
                              clear hi112_4 hl112_4
                              have HR112_5 := Aside0.mk hi112_5
                              have HC112_5 := Aside0.mk hl112_5
                              clear hi112_5 hl112_5
                              have HR112_6 := Aside0.mk hi112_6
                              have HC112_6 := Aside0.mk hl112_6
                              clear hi112_6 hl112_6
                              replace p112 := eq_true p112
                              replace q112 := eq_true q112
                              have p113 : 0 ≤ (x53_2 : Int) := of_decide_eq_true (by first | (with_reducible assumption) | assumption)
                              have q113 : x53_2 < (((rd_T41 l0 0).f5).length : Int) := of_decide_eq_true (by first | (with_reducible assumption) | assumption)
                              obtain ⟨ad113, A113_2, c113_2, A113_3, c113_3, A113_4, c113_4, A113_5, c113_5, A113_6, c113_6, e113, hx113_0, hx113_1, hx113_2, hx113_3, hx113_4, hx113_5, hx113_6, hl113_2, hi113_2, hl113_3, hi113_3, hl113_4, hi113_4, hl113_5, hi113_5, hl113_6, hi113_6⟩ := at_T41 HR112_5.out x53_2 p113 q113
                              cases e113
                              have HXR113_2 := Aside0.mk hx113_2
                              have HXR113_3 := Aside0.mk hx113_3
                              have HXR113_4 := Aside0.mk hx113_4
                              have HXR113_5 := Aside0.mk hx113_5
                              have HXR113_6 := Aside0.mk hx113_6
                              have HR113_2 := Aside0.mk hi113_2
                              have HC113_2 := Aside0.mk hl113_2
                              clear hi113_2 hl113_2
                              have HR113_3 := Aside0.mk hi113_3
                              have HC113_3 := Aside0.mk hl113_3
                              clear hi113_3 hl113_3
                              have HR113_4 := Aside0.mk hi113_4
                              have HC113_4 := Aside0.mk hl113_4
                              clear hi113_4 hl113_4
                              have HR113_5 := Aside0.mk hi113_5
                              have HC113_5 := Aside0.mk hl113_5
                              clear hi113_5 hl113_5
                              have HR113_6 := Aside0.mk hi113_6
                              have HC113_6 := Aside0.mk hl113_6
                              clear hi113_6 hl113_6
                              replace p113 := eq_true p113
                              replace q113 := eq_true q113
                              have p114 : 0 ≤ (x53_2 : Int) := of_decide_eq_true (by first | (with_reducible assumption) | assumption)
                              have q114 : x53_2 < (((rd_T41 l0 0).f5).length : Int) := of_decide_eq_true (by first | (with_reducible assumption) | assumption)
                              obtain ⟨ad114, A114_2, c114_2, A114_3, c114_3, A114_4, c114_4, A114_5, c114_5, A114_6, c114_6, e114, hx114_0, hx114_1, hx114_2, hx114_3, hx114_4, hx114_5, hx114_6, hl114_2, hi114_2, hl114_3, hi114_3, hl114_4, hi114_4, hl114_5, hi114_5, hl114_6, hi114_6⟩ := at_T41 HR112_5.out x53_2 p114 q114
                              cases e114
                              have HXR114_2 := Aside0.mk hx114_2
                              have HXR114_3 := Aside0.mk hx114_3
                              have HXR114_4 := Aside0.mk hx114_4
                              have HXR114_5 := Aside0.mk hx114_5
                              have HXR114_6 := Aside0.mk hx114_6
                              (try (have ea_ := Option.some.inj (HXR113_2.out.symm.trans hx114_2); injection ea_ with ea_ en_ ec_; subst ea_; subst ec_; clear en_))
                              (try (have ea_ := Option.some.inj (HXR113_3.out.symm.trans hx114_3); injection ea_ with ea_ en_ ec_; subst ea_; subst ec_; clear en_))
                              (try (have ea_ := Option.some.inj (HXR113_4.out.symm.trans hx114_4); injection ea_ with ea_ en_ ec_; subst ea_; subst ec_; clear en_))
                              (try (have ea_ := Option.some.inj (HXR113_5.out.symm.trans hx114_5); injection ea_ with ea_ en_ ec_; subst ea_; subst ec_; clear en_))
                              (try (have ea_ := Option.some.inj (HXR113_6.out.symm.trans hx114_6); injection ea_ with ea_ en_ ec_; subst ea_; subst ec_; clear en_))
                              have HR114_2 := Aside0.mk hi114_2
                              have HC114_2 := Aside0.mk hl114_2
                              clear hi114_2 hl114_2
                              have HR114_3 := Aside0.mk hi114_3
                              have HC114_3 := Aside0.mk hl114_3
                              clear hi114_3 hl114_3
                              have HR114_4 := Aside0.mk hi114_4
                              have HC114_4 := Aside0.mk hl114_4
                              clear hi114_4 hl114_4
                              have HR114_5 := Aside0.mk hi114_5
                              have HC114_5 := Aside0.mk hl114_5
                              clear hi114_5 hl114_5
                              have HR114_6 := Aside0.mk hi114_6
                              have HC114_6 := Aside0.mk hl114_6
                              clear hi114_6 hl114_6
                              replace p114 := eq_true p114
                              replace q114 := eq_true q114
                              go_wp2_with (first | (go_at_call 18; (with_reducible refine (ih k2 (by have := HK1.out; have := HK2.out; omega) _ [rd_T41 ((rd_T41 l0 0).f5) x53_2] true _ ?side1 A22.out).mono ?_); (case side1 => repeat (first | (with_reducible exact one41 (x := rd_T41 ((rd_T41 l0 0).f5) x53_2) hx114_0 hx114_1 hx114_2 hx114_3 hx114_4 hx114_5 hx114_6 HC114_2.out HR114_2.out HC114_3.out HR114_3.out HC114_4.out HR114_4.out HC114_5.out HR114_5.out HC114_6.out HR114_6.out) | (with_reducible refine Kd.C_alloc ?_ _) | (with_reducible refine Kd.C_drewN ?_ _) | (with_reducible refine Kd.C_drew ?_) | exact one41 (x := rd_T41 ((rd_T41 l0 0).f5) x53_2) hx114_0 hx114_1 hx114_2 hx114_3 hx114_4 hx114_5 hx114_6 HC114_2.out HR114_2.out HC114_3.out HR114_3.out HC114_4.out HR114_4.out HC114_5.out HR114_5.out HC114_6.out HR114_6.out)); rintro e w' ⟨rfl, ⟨nd, rfl⟩⟩))
                              go_roundg k2
                              case measure => have := HK1.out; have := HK2.out; omega
                              case rel => exact ⟨(wrap64 (x53_2 + 1)), (by first | rfl | (simp; done) | (simp [*]; done)), H', ⟨by have := HK1.out; have := HK2.out; omega⟩, by repeat (first | exact Drawn0.refl _ | apply Drawn0.step)⟩
                            · replace c23 := Bool.eq_false_iff.mpr c23
                              subst c23
                              have H1 : (some false) = some r := by rw [if_neg (show ¬ (false = true) by decide)] at H; exact H
                              clear H
                              have H := H1
                              clear H1
                              obtain rfl := Option.some.inj H
                              have p112 : 0 ≤ (0 : Int) := (by omega)
                              have q112 : 0 < (l0.length : Int) := of_decide_eq_true (by first | (with_reducible assumption) | assumption)
                              obtain ⟨ad112, A112_2, c112_2, A112_3, c112_3, A112_4, c112_4, A112_5, c112_5, A112_6, c112_6, e112, hx112_0, hx112_1, hx112_2, hx112_3, hx112_4, hx112_5, hx112_6, hl112_2, hi112_2, hl112_3, hi112_3, hl112_4, hi112_4, hl112_5, hi112_5, hl112_6, hi112_6⟩ := at_T41 HR0.out 0 p112 q112
                              obtain rfl : ad106 = ad112 := (by injection e112)
                              have HXR112_2 := Aside0.mk hx112_2
                              have HXR112_3 := Aside0.mk hx112_3
                              have HXR112_4 := Aside0.mk hx112_4
                              have HXR112_5 := Aside0.mk hx112_5
                              have HXR112_6 := Aside0.mk hx112_6
                              (try (have ea_ := Option.some.inj (HXR111_2.out.symm.trans hx112_2); injection ea_ with ea_ en_ ec_; subst ea_; subst ec_; clear en_))
                              (try (have ea_ := Option.some.inj (HXR111_3.out.symm.trans hx112_3); injection ea_ with ea_ en_ ec_; subst ea_; subst ec_; clear en_))
                              (try (have ea_ := Option.some.inj (HXR111_4.out.symm.trans hx112_4); injection ea_ with ea_ en_ ec_; subst ea_; subst ec_; clear en_))
                              (try (have ea_ := Option.some.inj (HXR111_5.out.symm.trans hx112_5); injection ea_ with ea_ en_ ec_; subst ea_; subst ec_; clear en_))
                              (try (have ea_ := Option.some.inj (HXR111_6.out.symm.trans hx112_6); injection ea_ with ea_ en_ ec_; subst ea_; subst ec_; clear en_))
                              have qi112 : (0 < l0.length) = True := eq_true (by omega)
                              (try rw [show ((0 : Int)).toNat = 0 from rfl] at hx112_0)
                              (try rw [show 0 * 7 = 0 from rfl] at hx112_0)
                              (try rw [Addr.add_zero'] at hx112_0)
                              (try rw [show ((0 : Int)).toNat = 0 from rfl] at hx112_1)
                              (try rw [show 0 * 7 = 0 from rfl] at hx112_1)
                              (try rw [Addr.add_zero'] at hx112_1)
                              (try rw [show ((0 : Int)).toNat = 0 from rfl] at hx112_2)
                              (try rw [show 0 * 7 = 0 from rfl] at hx112_2)
                              (try rw [Addr.add_zero'] at hx112_2)
                              (try rw [show ((0 : Int)).toNat = 0 from rfl] at hx112_3)
                              (try rw [show 0 * 7 = 0 from rfl] at hx112_3)
                              (try rw [Addr.add_zero'] at hx112_3)
                              (try rw [show ((0 : Int)).toNat = 0 from rfl] at hx112_4)
                              (try rw [show 0 * 7 = 0 from rfl] at hx112_4)
                              (try rw [Addr.add_zero'] at hx112_4)
                              (try rw [show ((0 : Int)).toNat = 0 from rfl] at hx112_5)
                              (try rw [show 0 * 7 = 0 from rfl] at hx112_5)
                              (try rw [Addr.add_zero'] at hx112_5)
                              (try rw [show ((0 : Int)).toNat = 0 from rfl] at hx112_6)
                              (try rw [show 0 * 7 = 0 from rfl] at hx112_6)
                              (try rw [Addr.add_zero'] at hx112_6)
                              have HR112_2 := Aside0.mk hi112_2
                              have HC112_2 := Aside0.mk hl112_2
                              clear hi112_2 hl112_2
                              have HR112_3 := Aside0.mk hi112_3
                              have HC112_3 := Aside0.mk hl112_3
                              clear hi112_3 hl112_3
                              have HR112_4 := Aside0.mk hi112_4
                              have HC112_4 := Aside0.mk hl112_4
                              clear hi112_4 hl112_4
                              have HR112_5 := Aside0.mk hi112_5
                              have HC112_5 := Aside0.mk hl112_5
                              clear hi112_5 hl112_5
                              have HR112_6 := Aside0.mk hi112_6
                              have HC112_6 := Aside0.mk hl112_6
                              clear hi112_6 hl112_6
                              replace p112 := eq_true p112
                              replace q112 := eq_true q112
                              have p113 : 0 ≤ (x53_2 : Int) := of_decide_eq_true (by first | (with_reducible assumption) | assumption)
                              have q113 : x53_2 < (((rd_T41 l0 0).f5).length : Int) := of_decide_eq_true (by first | (with_reducible assumption) | assumption)
                              obtain ⟨ad113, A113_2, c113_2, A113_3, c113_3, A113_4, c113_4, A113_5, c113_5, A113_6, c113_6, e113, hx113_0, hx113_1, hx113_2, hx113_3, hx113_4, hx113_5, hx113_6, hl113_2, hi113_2, hl113_3, hi113_3, hl113_4, hi113_4, hl113_5, hi113_5, hl113_6, hi113_6⟩ := at_T41 HR112_5.out x53_2 p113 q113
                              cases e113
                              have HXR113_2 := Aside0.mk hx113_2
                              have HXR113_3 := Aside0.mk hx113_3
                              have HXR113_4 := Aside0.mk hx113_4
                              have HXR113_5 := Aside0.mk hx113_5
                              have HXR113_6 := Aside0.mk hx113_6
                              (try (have ea_ := Option.some.inj (HXR114_2.out.symm.trans hx113_2); injection ea_ with ea_ en_ ec_; subst ea_; subst ec_; clear en_))
                              (try (have ea_ := Option.some.inj (HXR114_3.out.symm.trans hx113_3); injection ea_ with ea_ en_ ec_; subst ea_; subst ec_; clear en_))
                              (try (have ea_ := Option.some.inj (HXR114_4.out.symm.trans hx113_4); injection ea_ with ea_ en_ ec_; subst ea_; subst ec_; clear en_))
                              (try (have ea_ := Option.some.inj (HXR114_5.out.symm.trans hx113_5); injection ea_ with ea_ en_ ec_; subst ea_; subst ec_; clear en_))
                              (try (have ea_ := Option.some.inj (HXR114_6.out.symm.trans hx113_6); injection ea_ with ea_ en_ ec_; subst ea_; subst ec_; clear en_))
                              have HR113_2 := Aside0.mk hi113_2
                              have HC113_2 := Aside0.mk hl113_2
                              clear hi113_2 hl113_2
                              have HR113_3 := Aside0.mk hi113_3
                              have HC113_3 := Aside0.mk hl113_3
                              clear hi113_3 hl113_3
                              have HR113_4 := Aside0.mk hi113_4
                              have HC113_4 := Aside0.mk hl113_4
                              clear hi113_4 hl113_4
                              have HR113_5 := Aside0.mk hi113_5
                              have HC113_5 := Aside0.mk hl113_5
                              clear hi113_5 hl113_5
                              have HR113_6 := Aside0.mk hi113_6
                              have HC113_6 := Aside0.mk hl113_6
                              clear hi113_6 hl113_6
                              replace p113 := eq_true p113
                              replace q113 := eq_true q113
                              have p114 : 0 ≤ (x53_2 : Int) := of_decide_eq_true (by first | (with_reducible assumption) | assumption)
                              have q114 : x53_2 < (((rd_T41 l0 0).f5).length : Int) := of_decide_eq_true (by first | (with_reducible assumption) | assumption)
                              obtain ⟨ad114, A114_2, c114_2, A114_3, c114_3, A114_4, c114_4, A114_5, c114_5, A114_6, c114_6, e114, hx114_0, hx114_1, hx114_2, hx114_3, hx114_4, hx114_5, hx114_6, hl114_2, hi114_2, hl114_3, hi114_3, hl114_4, hi114_4, hl114_5, hi114_5, hl114_6, hi114_6⟩ := at_T41 HR112_5.out x53_2 p114 q114
                              cases e114
                              have HXR114_2 := Aside0.mk hx114_2
                              have HXR114_3 := Aside0.mk hx114_3
                              have HXR114_4 := Aside0.mk hx114_4
                              have HXR114_5 := Aside0.mk hx114_5
                              have HXR114_6 := Aside0.mk hx114_6
                              (try (have ea_ := Option.some.inj (HXR113_2.out.symm.trans hx114_2); injection ea_ with ea_ en_ ec_; subst ea_; subst ec_; clear en_))
                              (try (have ea_ := Option.some.inj (HXR113_3.out.symm.trans hx114_3); injection ea_ with ea_ en_ ec_; subst ea_; subst ec_; clear en_))
                              (try (have ea_ := Option.some.inj (HXR113_4.out.symm.trans hx114_4); injection ea_ with ea_ en_ ec_; subst ea_; subst ec_; clear en_))
                              (try (have ea_ := Option.some.inj (HXR113_5.out.symm.trans hx114_5); injection ea_ with ea_ en_ ec_; subst ea_; subst ec_; clear en_))
                              (try (have ea_ := Option.some.inj (HXR113_6.out.symm.trans hx114_6); injection ea_ with ea_ en_ ec_; subst ea_; subst ec_; clear en_))
                              have HR114_2 := Aside0.mk hi114_2
                              have HC114_2 := Aside0.mk hl114_2
                              clear hi114_2 hl114_2
                              have HR114_3 := Aside0.mk hi114_3
                              have HC114_3 := Aside0.mk hl114_3
                              clear hi114_3 hl114_3
                              have HR114_4 := Aside0.mk hi114_4
                              have HC114_4 := Aside0.mk hl114_4
                              clear hi114_4 hl114_4
                              have HR114_5 := Aside0.mk hi114_5
                              have HC114_5 := Aside0.mk hl114_5
                              clear hi114_5 hl114_5
                              have HR114_6 := Aside0.mk hi114_6
                              have HC114_6 := Aside0.mk hl114_6
                              clear hi114_6 hl114_6
                              replace p114 := eq_true p114
                              replace q114 := eq_true q114
                              go_wp2_with (first | (go_at_call 18; (with_reducible refine (ih k2 (by have := HK1.out; have := HK2.out; omega) _ [rd_T41 ((rd_T41 l0 0).f5) x53_2] false _ ?side1 A22.out).mono ?_); (case side1 => repeat (first | (with_reducible exact one41 (x := rd_T41 ((rd_T41 l0 0).f5) x53_2) hx114_0 hx114_1 hx114_2 hx114_3 hx114_4 hx114_5 hx114_6 HC114_2.out HR114_2.out HC114_3.out HR114_3.out HC114_4.out HR114_4.out HC114_5.out HR114_5.out HC114_6.out HR114_6.out) | (with_reducible refine Kd.C_alloc ?_ _) | (with_reducible refine Kd.C_drewN ?_ _) | (with_reducible refine Kd.C_drew ?_) | exact one41 (x := rd_T41 ((rd_T41 l0 0).f5) x53_2) hx114_0 hx114_1 hx114_2 hx114_3 hx114_4 hx114_5 hx114_6 HC114_2.out HR114_2.out HC114_3.out HR114_3.out HC114_4.out HR114_4.out HC114_5.out HR114_5.out HC114_6.out HR114_6.out)); rintro e w' ⟨rfl, ⟨nd, rfl⟩⟩))
                              go_ret
                              exact ⟨by first | rfl | (simp; done) | (simp [*]; done), by repeat (first | exact Drawn0.refl _ | apply Drawn0.step)⟩
                          · rw [if_neg c21] at H
                            exact absurd H (by simp)
                        · rw [if_neg c20] at H
                          exact absurd H (by simp)
                      · rw [if_neg c19] at H
                        exact absurd H (by simp)
                    · rw [if_neg c18] at H
                      have c18b0 : decide (x53_2 < (((rd_T41 l0 0).f5).length : Int)) = false := decide_eq_false c18
                      clear c18
                      obtain rfl := Option.some.inj H
                      go_wp2
                      go_ret
                      exact ⟨by first | rfl | (simp; done) | (simp [*]; done), by repeat (first | exact Drawn0.refl _ | apply Drawn0.step)⟩
              · rw [if_neg c17] at H
                exact absurd H (by simp)
      · rw [if_neg c10] at H
        have c10b0 : (((rd_T41 l0 0).f0) == 2) = false := beq_eq_false_iff_ne.mpr c10
        have c10b1 : (((rd_T41 l0 0).f0) != 2) = true := bne_iff_ne.mpr c10
        obtain rfl := Option.some.inj H
        have p106 : 0 ≤ (0 : Int) := (by omega)
        have q106 : 0 < (l0.length : Int) := of_decide_eq_true (by first | (with_reducible assumption) | assumption)
        obtain ⟨ad106, A106_2, c106_2, A106_3, c106_3, A106_4, c106_4, A106_5, c106_5, A106_6, c106_6, e106, hx106_0, hx106_1, hx106_2, hx106_3, hx106_4, hx106_5, hx106_6, hl106_2, hi106_2, hl106_3, hi106_3, hl106_4, hi106_4, hl106_5, hi106_5, hl106_6, hi106_6⟩ := at_T41 HR0.out 0 p106 q106
        cases e106
        have HXR106_2 := Aside0.mk hx106_2
        have HXR106_3 := Aside0.mk hx106_3
        have HXR106_4 := Aside0.mk hx106_4
        have HXR106_5 := Aside0.mk hx106_5
        have HXR106_6 := Aside0.mk hx106_6
        have qi106 : (0 < l0.length) = True := eq_true (by omega)
        (try rw [show ((0 : Int)).toNat = 0 from rfl] at hx106_0)
        (try rw [show 0 * 7 = 0 from rfl] at hx106_0)
        (try rw [Addr.add_zero'] at hx106_0)
        (try rw [show ((0 : Int)).toNat = 0 from rfl] at hx106_1)
        (try rw [show 0 * 7 = 0 from rfl] at hx106_1)
        (try rw [Addr.add_zero'] at hx106_1)
        (try rw [show ((0 : Int)).toNat = 0 from rfl] at hx106_2)
        (try rw [show 0 * 7 = 0 from rfl] at hx106_2)
        (try rw [Addr.add_zero'] at hx106_2)
        (try rw [show ((0 : Int)).toNat = 0 from rfl] at hx106_3)
        (try rw [show 0 * 7 = 0 from rfl] at hx106_3)
        (try rw [Addr.add_zero'] at hx106_3)
        (try rw [show ((0 : Int)).toNat = 0 from rfl] at hx106_4)
        (try rw [show 0 * 7 = 0 from rfl] at hx106_4)
        (try rw [Addr.add_zero'] at hx106_4)
        (try rw [show ((0 : Int)).toNat = 0 from rfl] at hx106_5)
        (try rw [show 0 * 7 = 0 from rfl] at hx106_5)
        (try rw [Addr.add_zero'] at hx106_5)
        (try rw [show ((0 : Int)).toNat = 0 from rfl] at hx106_6)
        (try rw [show 0 * 7 = 0 from rfl] at hx106_6)
        (try rw [Addr.add_zero'] at hx106_6)
        have HR106_2 := Aside0.mk hi106_2
        have HC106_2 := Aside0.mk hl106_2
        clear hi106_2 hl106_2
        have HR106_3 := Aside0.mk hi106_3
        have HC106_3 := Aside0.mk hl106_3
        clear hi106_3 hl106_3
        have HR106_4 := Aside0.mk hi106_4
        have HC106_4 := Aside0.mk hl106_4
        clear hi106_4 hl106_4
        have HR106_5 := Aside0.mk hi106_5
        have HC106_5 := Aside0.mk hl106_5
        clear hi106_5 hl106_5
        have HR106_6 := Aside0.mk hi106_6
        have HC106_6 := Aside0.mk hl106_6
        clear hi106_6 hl106_6
        replace p106 := eq_true p106
        replace q106 := eq_true q106
        go_enter Tryd.func18, Tryd.ntmps18
        go_wp2
        go_ret
        exact ⟨by first | rfl | (simp; done) | (simp [*]; done), by repeat (first | exact Drawn0.refl _ | apply Drawn0.step)⟩
  · rw [if_neg c2] at H
    exact absurd H (by simp)

end Go.Proofs.YtncpknhmoakjmaaDoor.PCorePlaces
