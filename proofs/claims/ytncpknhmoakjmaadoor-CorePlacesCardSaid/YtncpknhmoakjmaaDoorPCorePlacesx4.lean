-- Written by wip/tools/print2.py (a program of this session's, over the kit's print) out of the translation. Not trusted: Lean checks it.
import Derived.Test.YtncpknhmoakjmaaDoorPCorePlacesx0
import Derived.Test.YtncpknhmoakjmaaDoorPCorePlacesx3
namespace Go.Proofs.YtncpknhmoakjmaaDoor.PCorePlaces
open Go.RowKit Go.Proofs.YtncpknhmoakjmaaDoorW.PrintWords Go.Proofs.YtncpknhmoakjmaaDoorW.PrintLast Go.Proofs.YtncpknhmoakjmaaDoorW.PrintMore
attribute [local go_sem] max2_int min2_int max_two min_two max_three min_three max_four min_four   -- for this text's walks alone
set_option linter.unusedVariables false
set_option linter.unusedSimpArgs false

/-! ### core_around_behind: function 28 -/
def core_around_behind.f (a0_0 : Int) (a0_1 : Int) (a0_2 : Int) (l1 : List (S41)) : Option (Int × Int × Int) := if 0 < (l1.length : Int) then (if ((rd_T41 l1 0).f0) = 2 then (some (a0_0, wrap64 (a0_1 + 1), a0_2)) else (if ((rd_T41 l1 0).f0) = 4 then (some (wrap64 (a0_0 + 2), a0_1, wrap64 (a0_2 + 1))) else (if ((rd_T41 l1 0).f0) = 5 then (some (wrap64 (a0_0 + (((rd_T41 l1 0).f4).length : Int)), a0_1, a0_2)) else (some (a0_0, a0_1, a0_2))))) else (none)
def core_around_behind.T8 : Bool × List (List Nat × List Nat) := (true, [([], []), ([0], [0]), ([], []), ([2], [2]), ([3], [3]), ([4], [4]), ([5], [5]), ([1, 6], [1, 6]), ([0, 1, 2, 3, 4, 5, 6, 7], []), ([8, 7, 0, 1, 2, 3, 4, 5, 6, 7], [7, 8])])
def core_around_behind.B8 : List Nat := [0, 1, 0, 4, 12, 28, 60, 127, 255, 511]
theorem core_around_behind.tab8 : rtab .any (opsOf Tryd.f28 8) = core_around_behind.T8 := by kernel_rfl
theorem core_around_behind.bits8 : waitsOk core_around_behind.T8.2 core_around_behind.B8 = true := by kernel_rfl
set_option maxHeartbeats 8000000 in
set_option maxRecDepth 100000 in
theorem core_around_behind.calls (a0_0 : Int) (a0_1 : Int) (a0_2 : Int) (A1 : Option Addr) (l1 : List (S41)) (r1 : Int) (r2 : Int) (r3 : Int) (w : World) (hr1 : Kd.C k41 w A1 l1.length l1) (h : core_around_behind.f a0_0 a0_1 a0_2 l1 = some (r1, r2, r3)) :
    Calls Tryd.prog 28 #[.agg #[.int .i64 a0_0, .int .i64 a0_1, .int .i64 a0_2], .pointer A1] w fun e w' => e = .returned (.agg #[.int .i64 r1, .int .i64 r2, .int .i64 r3]) ∧ Below w.heap.size w w' := by
  have hu60 := Tryd.underlying60
  have HR1 := Aside0.mk hr1
  clear hr1
  have HB := Aside0.mk (Below.refl w.heap.size w)
  have H : (if 0 < (l1.length : Int) then (if ((rd_T41 l1 0).f0) = 2 then (some (a0_0, wrap64 (a0_1 + 1), a0_2)) else (if ((rd_T41 l1 0).f0) = 4 then (some (wrap64 (a0_0 + 2), a0_1, wrap64 (a0_2 + 1))) else (if ((rd_T41 l1 0).f0) = 5 then (some (wrap64 (a0_0 + (((rd_T41 l1 0).f4).length : Int)), a0_1, a0_2)) else (some (a0_0, a0_1, a0_2))))) else (none)) = some (r1, r2, r3) := h
  clear h
  by_cases c3 : 0 < (l1.length : Int)
  · rw [if_pos c3] at H
    have c3b0 : decide (0 < (l1.length : Int)) = true := decide_eq_true c3
    have c3b1 : decide (0 < l1.length) = true := decide_eq_true (by omega)
    clear c3
    by_cases c4 : ((rd_T41 l1 0).f0) = 2
    · rw [if_pos c4] at H
      have c4b0 : (((rd_T41 l1 0).f0) == 2) = true := beq_iff_eq.mpr c4
      have c4b1 : (((rd_T41 l1 0).f0) != 2) = false := bne_eq_false_iff_eq.mpr c4
      clear c4
      simp only [Option.some.injEq, Prod.mk.injEq] at H
      obtain ⟨rfl, rfl, rfl⟩ := H
      go_enter Tryd.func28, Tryd.ntmps28
      go_wp2_with (first | ((with_reducible refine gate_dst (N := 2) rfl ?_); refine box_event ?hg (N := 2) ?hd (cs := #[.int .i64 a0_0, .int .i64 a0_1, .int .i64 a0_2]) (t := 60) ?hr ?_; (case hd => rfl); (case hg => rfl); (case hr => first | (go_simp; done) | (go_simp; rfl)); intro gb119 hg w5 hbox hb; have n0_ := Aside0.mk (below_step (by repeat (first | (with_reducible first | exact HB.out | apply below_alloc | apply pw_below_drewN | apply below_drew1) | exact HB.out)) hb); have n1_ := Aside0.mk (hbox); have n2_ := Aside0.mk ((by rw [hg]; exact (below_size (by repeat (first | (with_reducible first | exact HB.out | apply below_alloc | apply pw_below_drewN | apply below_drew1) | exact HB.out))) : w.heap.size ≤ gb119)); have n3_ := Aside0.mk ((by rw [hg]; exact (below_size (by repeat (first | (with_reducible first | exact HB.out | apply below_alloc | apply pw_below_drewN | apply below_drew1) | exact HB.out))) : w.heap.size ≤ gb119)); clear HB; have HB := n0_; have BK119 := n1_; have GW119 := n2_; have GE119 := n3_; clear n0_ n1_ n2_ n3_; clear hb hbox hg) | ((with_reducible refine gate_dst (N := 4) rfl ?_); refine box_event ?hg (N := 4) ?hd (cs := #[.int .i64 0, .int .i64 0, .int .i64 0]) (t := 60) ?hr ?_; (case hd => rfl); (case hg => rfl); (case hr => first | (go_simp; done) | (go_simp; rfl)); intro gb120 hg w6 hbox hb; have n0_ := Aside0.mk (blk_below (g := gb119) (o := .cells #[.int .i64 a0_0, .int .i64 a0_1, .int .i64 a0_2] 60 (0, 0)) (by (with_reducible repeat (first | refine blk_drewN ?_ _ | refine blk_drew ?_ | refine blk_alloc ?_ _)); exact BK119.out) hb); have n1_ := Aside0.mk (below_step (by repeat (first | (with_reducible first | exact HB.out | apply below_alloc | apply pw_below_drewN | apply below_drew1 | refine below_set ?_ GE119.out) | exact HB.out)) hb); have n2_ := Aside0.mk (hbox); have n3_ := Aside0.mk ((by rw [hg]; exact (below_size (by repeat (first | (with_reducible first | exact HB.out | apply below_alloc | apply pw_below_drewN | apply below_drew1 | refine below_set ?_ GE119.out) | exact HB.out))) : w.heap.size ≤ gb120)); have n4_ := Aside0.mk ((by rw [hg]; exact (below_size (by repeat (first | (with_reducible first | exact HB.out | apply below_alloc | apply pw_below_drewN | apply below_drew1 | refine below_set ?_ GE119.out) | exact HB.out))) : w.heap.size ≤ gb120)); have n5_ := Aside0.mk ((by rw [hg]; exact Nat.ne_of_lt (blk_lt (g := gb119) (o := .cells #[.int .i64 a0_0, .int .i64 a0_1, .int .i64 a0_2] 60 (0, 0)) (by (with_reducible repeat (first | refine blk_drewN ?_ _ | refine blk_drew ?_ | refine blk_alloc ?_ _)); exact BK119.out)) : gb119 ≠ gb120)); have n6_ := Aside0.mk ((by rw [hg]; exact Nat.ne_of_gt (blk_lt (g := gb119) (o := .cells #[.int .i64 a0_0, .int .i64 a0_1, .int .i64 a0_2] 60 (0, 0)) (by (with_reducible repeat (first | refine blk_drewN ?_ _ | refine blk_drew ?_ | refine blk_alloc ?_ _)); exact BK119.out)) : gb120 ≠ gb119)); clear BK119; clear HB; have BK119 := n0_; have HB := n1_; have BK120 := n2_; have GW120 := n3_; have GE120 := n4_; have NB119_120 := n5_; have NB120_119 := n6_; clear n0_ n1_ n2_ n3_ n4_ n5_ n6_; clear hb hbox hg; have p121 : 0 ≤ (0 : Int) := (by omega); have q121 : 0 < (l1.length : Int) := of_decide_eq_true (by first | (with_reducible assumption) | assumption); obtain ⟨ad121, A121_2, c121_2, A121_3, c121_3, A121_4, c121_4, A121_5, c121_5, A121_6, c121_6, e121, hx121_0, hx121_1, hx121_2, hx121_3, hx121_4, hx121_5, hx121_6, hl121_2, hi121_2, hl121_3, hi121_3, hl121_4, hi121_4, hl121_5, hi121_5, hl121_6, hi121_6⟩ := at_T41 HR1.out 0 p121 q121; cases e121; have HXR121_2 := Aside0.mk hx121_2; have HXR121_3 := Aside0.mk hx121_3; have HXR121_4 := Aside0.mk hx121_4; have HXR121_5 := Aside0.mk hx121_5; have HXR121_6 := Aside0.mk hx121_6; have qi121 : (0 < l1.length) = True := eq_true (by omega); (try rw [show ((0 : Int)).toNat = 0 from rfl] at hx121_0); (try rw [show 0 * 7 = 0 from rfl] at hx121_0); (try rw [Addr.add_zero'] at hx121_0); (try rw [show ((0 : Int)).toNat = 0 from rfl] at hx121_1); (try rw [show 0 * 7 = 0 from rfl] at hx121_1); (try rw [Addr.add_zero'] at hx121_1); (try rw [show ((0 : Int)).toNat = 0 from rfl] at hx121_2); (try rw [show 0 * 7 = 0 from rfl] at hx121_2); (try rw [Addr.add_zero'] at hx121_2); (try rw [show ((0 : Int)).toNat = 0 from rfl] at hx121_3); (try rw [show 0 * 7 = 0 from rfl] at hx121_3); (try rw [Addr.add_zero'] at hx121_3); (try rw [show ((0 : Int)).toNat = 0 from rfl] at hx121_4); (try rw [show 0 * 7 = 0 from rfl] at hx121_4); (try rw [Addr.add_zero'] at hx121_4); (try rw [show ((0 : Int)).toNat = 0 from rfl] at hx121_5); (try rw [show 0 * 7 = 0 from rfl] at hx121_5); (try rw [Addr.add_zero'] at hx121_5); (try rw [show ((0 : Int)).toNat = 0 from rfl] at hx121_6); (try rw [show 0 * 7 = 0 from rfl] at hx121_6); (try rw [Addr.add_zero'] at hx121_6); replace hx121_0 := (HB.out.cell (World.block_lt_of_cell? w _ hx121_0)).trans hx121_0; replace hx121_1 := (HB.out.cell (World.block_lt_of_cell? w _ hx121_1)).trans hx121_1; replace hx121_2 := (HB.out.cell (World.block_lt_of_cell? w _ hx121_2)).trans hx121_2; replace hx121_3 := (HB.out.cell (World.block_lt_of_cell? w _ hx121_3)).trans hx121_3; replace hx121_4 := (HB.out.cell (World.block_lt_of_cell? w _ hx121_4)).trans hx121_4; replace hx121_5 := (HB.out.cell (World.block_lt_of_cell? w _ hx121_5)).trans hx121_5; replace hx121_6 := (HB.out.cell (World.block_lt_of_cell? w _ hx121_6)).trans hx121_6; have HR121_2 := Aside0.mk hi121_2; have HC121_2 := Aside0.mk hl121_2; clear hi121_2 hl121_2; have HR121_3 := Aside0.mk hi121_3; have HC121_3 := Aside0.mk hl121_3; clear hi121_3 hl121_3; have HR121_4 := Aside0.mk hi121_4; have HC121_4 := Aside0.mk hl121_4; clear hi121_4 hl121_4; have HR121_5 := Aside0.mk hi121_5; have HC121_5 := Aside0.mk hl121_5; clear hi121_5 hl121_5; have HR121_6 := Aside0.mk hi121_6; have HC121_6 := Aside0.mk hl121_6; clear hi121_6 hl121_6; replace p121 := eq_true p121; replace q121 := eq_true q121; have hnb7 := NB119_120.out; have hnc7 := NB120_119.out; have hcz8_0 : w6.cell? ⟨gb119, 0, none⟩ = some (.int .i64 a0_0) := (blk_cell BK119.out 0).trans rfl; have hcz8_1 : w6.cell? ⟨gb119, 1, none⟩ = some (.int .i64 a0_1) := (blk_cell BK119.out 1).trans rfl; have hcz8_2 : w6.cell? ⟨gb119, 2, none⟩ = some (.int .i64 a0_2) := (blk_cell BK119.out 2).trans rfl; have hfz8_0 := blk_frozen BK119.out 0; have hfz8_1 := blk_frozen BK119.out 1; have hfz8_2 := blk_frozen BK119.out 2; have hcz9_0 : w6.cell? ⟨gb120, 0, none⟩ = some (.int .i64 0) := (blk_cell BK120.out 0).trans rfl; have hcz9_1 : w6.cell? ⟨gb120, 1, none⟩ = some (.int .i64 0) := (blk_cell BK120.out 1).trans rfl; have hcz9_2 : w6.cell? ⟨gb120, 2, none⟩ = some (.int .i64 0) := (blk_cell BK120.out 2).trans rfl; have hfz9_0 := blk_frozen BK120.out 0; have hfz9_1 := blk_frozen BK120.out 1; have hfz9_2 := blk_frozen BK120.out 2))
      refine bodyPost_ret (results_cell_row rfl _ _ gb120 60 #[.int .i64 a0_0, .int .i64 (wrap64 (a0_1 + 1)), .int .i64 a0_2] (0, 0) _ rfl (by (with_reducible repeat (first | refine blk_drewN ?_ _ | refine blk_drew ?_ | refine blk_alloc ?_ _)); refine blk_put (cs := #[.int .i64 a0_0, .int .i64 (wrap64 (a0_1 + 1)), .int .i64 0]) ?_ 2 _ rfl; (with_reducible repeat (first | refine blk_drewN ?_ _ | refine blk_drew ?_ | refine blk_alloc ?_ _)); refine blk_put (cs := #[.int .i64 a0_0, .int .i64 0, .int .i64 0]) ?_ 1 _ rfl; (with_reducible repeat (first | refine blk_drewN ?_ _ | refine blk_drew ?_ | refine blk_alloc ?_ _)); refine blk_put (cs := #[.int .i64 0, .int .i64 0, .int .i64 0]) ?_ 0 _ rfl; (with_reducible repeat (first | refine blk_drewN ?_ _ | refine blk_drew ?_ | refine blk_alloc ?_ _)); refine blk_far ?_ NB120_119.out _; (with_reducible repeat (first | refine blk_drewN ?_ _ | refine blk_drew ?_ | refine blk_alloc ?_ _)); exact BK120.out) Tryd.underlying60 rfl (by kernel_rfl)) rfl ?_
      exact ⟨by first | rfl | (simp [errW_none, errW_some] <;> rfl) | (simp [*, errW_none, errW_some] <;> rfl), by repeat (first | (with_reducible first | exact HB.out | apply below_alloc | apply pw_below_drewN | apply below_drew1 | refine below_set ?_ GE119.out | refine below_set ?_ GE120.out) | exact HB.out)⟩
    · rw [if_neg c4] at H
      have c4b0 : (((rd_T41 l1 0).f0) == 2) = false := beq_eq_false_iff_ne.mpr c4
      have c4b1 : (((rd_T41 l1 0).f0) != 2) = true := bne_iff_ne.mpr c4
      by_cases c10 : ((rd_T41 l1 0).f0) = 4
      · rw [if_pos c10] at H
        have c10b0 : (((rd_T41 l1 0).f0) == 4) = true := beq_iff_eq.mpr c10
        have c10b1 : (((rd_T41 l1 0).f0) != 4) = false := bne_eq_false_iff_eq.mpr c10
        clear c10
        simp only [Option.some.injEq, Prod.mk.injEq] at H
        obtain ⟨rfl, rfl, rfl⟩ := H
        go_enter Tryd.func28, Tryd.ntmps28
        go_wp2_with (first | ((with_reducible refine gate_dst (N := 2) rfl ?_); refine box_event ?hg (N := 2) ?hd (cs := #[.int .i64 a0_0, .int .i64 a0_1, .int .i64 a0_2]) (t := 60) ?hr ?_; (case hd => rfl); (case hg => rfl); (case hr => first | (go_simp; done) | (go_simp; rfl)); intro gb119 hg w11 hbox hb; have n0_ := Aside0.mk (below_step (by repeat (first | (with_reducible first | exact HB.out | apply below_alloc | apply pw_below_drewN | apply below_drew1) | exact HB.out)) hb); have n1_ := Aside0.mk (hbox); have n2_ := Aside0.mk ((by rw [hg]; exact (below_size (by repeat (first | (with_reducible first | exact HB.out | apply below_alloc | apply pw_below_drewN | apply below_drew1) | exact HB.out))) : w.heap.size ≤ gb119)); have n3_ := Aside0.mk ((by rw [hg]; exact (below_size (by repeat (first | (with_reducible first | exact HB.out | apply below_alloc | apply pw_below_drewN | apply below_drew1) | exact HB.out))) : w.heap.size ≤ gb119)); clear HB; have HB := n0_; have BK119 := n1_; have GW119 := n2_; have GE119 := n3_; clear n0_ n1_ n2_ n3_; clear hb hbox hg) | ((with_reducible refine gate_dst (N := 4) rfl ?_); refine box_event ?hg (N := 4) ?hd (cs := #[.int .i64 0, .int .i64 0, .int .i64 0]) (t := 60) ?hr ?_; (case hd => rfl); (case hg => rfl); (case hr => first | (go_simp; done) | (go_simp; rfl)); intro gb120 hg w12 hbox hb; have n0_ := Aside0.mk (blk_below (g := gb119) (o := .cells #[.int .i64 a0_0, .int .i64 a0_1, .int .i64 a0_2] 60 (0, 0)) (by (with_reducible repeat (first | refine blk_drewN ?_ _ | refine blk_drew ?_ | refine blk_alloc ?_ _)); exact BK119.out) hb); have n1_ := Aside0.mk (below_step (by repeat (first | (with_reducible first | exact HB.out | apply below_alloc | apply pw_below_drewN | apply below_drew1 | refine below_set ?_ GE119.out) | exact HB.out)) hb); have n2_ := Aside0.mk (hbox); have n3_ := Aside0.mk ((by rw [hg]; exact (below_size (by repeat (first | (with_reducible first | exact HB.out | apply below_alloc | apply pw_below_drewN | apply below_drew1 | refine below_set ?_ GE119.out) | exact HB.out))) : w.heap.size ≤ gb120)); have n4_ := Aside0.mk ((by rw [hg]; exact (below_size (by repeat (first | (with_reducible first | exact HB.out | apply below_alloc | apply pw_below_drewN | apply below_drew1 | refine below_set ?_ GE119.out) | exact HB.out))) : w.heap.size ≤ gb120)); have n5_ := Aside0.mk ((by rw [hg]; exact Nat.ne_of_lt (blk_lt (g := gb119) (o := .cells #[.int .i64 a0_0, .int .i64 a0_1, .int .i64 a0_2] 60 (0, 0)) (by (with_reducible repeat (first | refine blk_drewN ?_ _ | refine blk_drew ?_ | refine blk_alloc ?_ _)); exact BK119.out)) : gb119 ≠ gb120)); have n6_ := Aside0.mk ((by rw [hg]; exact Nat.ne_of_gt (blk_lt (g := gb119) (o := .cells #[.int .i64 a0_0, .int .i64 a0_1, .int .i64 a0_2] 60 (0, 0)) (by (with_reducible repeat (first | refine blk_drewN ?_ _ | refine blk_drew ?_ | refine blk_alloc ?_ _)); exact BK119.out)) : gb120 ≠ gb119)); clear BK119; clear HB; have BK119 := n0_; have HB := n1_; have BK120 := n2_; have GW120 := n3_; have GE120 := n4_; have NB119_120 := n5_; have NB120_119 := n6_; clear n0_ n1_ n2_ n3_ n4_ n5_ n6_; clear hb hbox hg; have p121 : 0 ≤ (0 : Int) := (by omega); have q121 : 0 < (l1.length : Int) := of_decide_eq_true (by first | (with_reducible assumption) | assumption); obtain ⟨ad121, A121_2, c121_2, A121_3, c121_3, A121_4, c121_4, A121_5, c121_5, A121_6, c121_6, e121, hx121_0, hx121_1, hx121_2, hx121_3, hx121_4, hx121_5, hx121_6, hl121_2, hi121_2, hl121_3, hi121_3, hl121_4, hi121_4, hl121_5, hi121_5, hl121_6, hi121_6⟩ := at_T41 HR1.out 0 p121 q121; cases e121; have HXR121_2 := Aside0.mk hx121_2; have HXR121_3 := Aside0.mk hx121_3; have HXR121_4 := Aside0.mk hx121_4; have HXR121_5 := Aside0.mk hx121_5; have HXR121_6 := Aside0.mk hx121_6; have qi121 : (0 < l1.length) = True := eq_true (by omega); (try rw [show ((0 : Int)).toNat = 0 from rfl] at hx121_0); (try rw [show 0 * 7 = 0 from rfl] at hx121_0); (try rw [Addr.add_zero'] at hx121_0); (try rw [show ((0 : Int)).toNat = 0 from rfl] at hx121_1); (try rw [show 0 * 7 = 0 from rfl] at hx121_1); (try rw [Addr.add_zero'] at hx121_1); (try rw [show ((0 : Int)).toNat = 0 from rfl] at hx121_2); (try rw [show 0 * 7 = 0 from rfl] at hx121_2); (try rw [Addr.add_zero'] at hx121_2); (try rw [show ((0 : Int)).toNat = 0 from rfl] at hx121_3); (try rw [show 0 * 7 = 0 from rfl] at hx121_3); (try rw [Addr.add_zero'] at hx121_3); (try rw [show ((0 : Int)).toNat = 0 from rfl] at hx121_4); (try rw [show 0 * 7 = 0 from rfl] at hx121_4); (try rw [Addr.add_zero'] at hx121_4); (try rw [show ((0 : Int)).toNat = 0 from rfl] at hx121_5); (try rw [show 0 * 7 = 0 from rfl] at hx121_5); (try rw [Addr.add_zero'] at hx121_5); (try rw [show ((0 : Int)).toNat = 0 from rfl] at hx121_6); (try rw [show 0 * 7 = 0 from rfl] at hx121_6); (try rw [Addr.add_zero'] at hx121_6); replace hx121_0 := (HB.out.cell (World.block_lt_of_cell? w _ hx121_0)).trans hx121_0; replace hx121_1 := (HB.out.cell (World.block_lt_of_cell? w _ hx121_1)).trans hx121_1; replace hx121_2 := (HB.out.cell (World.block_lt_of_cell? w _ hx121_2)).trans hx121_2; replace hx121_3 := (HB.out.cell (World.block_lt_of_cell? w _ hx121_3)).trans hx121_3; replace hx121_4 := (HB.out.cell (World.block_lt_of_cell? w _ hx121_4)).trans hx121_4; replace hx121_5 := (HB.out.cell (World.block_lt_of_cell? w _ hx121_5)).trans hx121_5; replace hx121_6 := (HB.out.cell (World.block_lt_of_cell? w _ hx121_6)).trans hx121_6; have HR121_2 := Aside0.mk hi121_2; have HC121_2 := Aside0.mk hl121_2; clear hi121_2 hl121_2; have HR121_3 := Aside0.mk hi121_3; have HC121_3 := Aside0.mk hl121_3; clear hi121_3 hl121_3; have HR121_4 := Aside0.mk hi121_4; have HC121_4 := Aside0.mk hl121_4; clear hi121_4 hl121_4; have HR121_5 := Aside0.mk hi121_5; have HC121_5 := Aside0.mk hl121_5; clear hi121_5 hl121_5; have HR121_6 := Aside0.mk hi121_6; have HC121_6 := Aside0.mk hl121_6; clear hi121_6 hl121_6; replace p121 := eq_true p121; replace q121 := eq_true q121; have hnb13 := NB119_120.out; have hnc13 := NB120_119.out; have hcz14_0 : w12.cell? ⟨gb119, 0, none⟩ = some (.int .i64 a0_0) := (blk_cell BK119.out 0).trans rfl; have hcz14_1 : w12.cell? ⟨gb119, 1, none⟩ = some (.int .i64 a0_1) := (blk_cell BK119.out 1).trans rfl; have hcz14_2 : w12.cell? ⟨gb119, 2, none⟩ = some (.int .i64 a0_2) := (blk_cell BK119.out 2).trans rfl; have hfz14_0 := blk_frozen BK119.out 0; have hfz14_1 := blk_frozen BK119.out 1; have hfz14_2 := blk_frozen BK119.out 2; have hcz15_0 : w12.cell? ⟨gb120, 0, none⟩ = some (.int .i64 0) := (blk_cell BK120.out 0).trans rfl; have hcz15_1 : w12.cell? ⟨gb120, 1, none⟩ = some (.int .i64 0) := (blk_cell BK120.out 1).trans rfl; have hcz15_2 : w12.cell? ⟨gb120, 2, none⟩ = some (.int .i64 0) := (blk_cell BK120.out 2).trans rfl; have hfz15_0 := blk_frozen BK120.out 0; have hfz15_1 := blk_frozen BK120.out 1; have hfz15_2 := blk_frozen BK120.out 2))
        refine bodyPost_ret (results_cell_row rfl _ _ gb120 60 #[.int .i64 (wrap64 (a0_0 + 2)), .int .i64 a0_1, .int .i64 (wrap64 (a0_2 + 1))] (0, 0) _ rfl (by (with_reducible repeat (first | refine blk_drewN ?_ _ | refine blk_drew ?_ | refine blk_alloc ?_ _)); refine blk_put (cs := #[.int .i64 (wrap64 (a0_0 + 2)), .int .i64 a0_1, .int .i64 0]) ?_ 2 _ rfl; (with_reducible repeat (first | refine blk_drewN ?_ _ | refine blk_drew ?_ | refine blk_alloc ?_ _)); refine blk_put (cs := #[.int .i64 (wrap64 (a0_0 + 2)), .int .i64 0, .int .i64 0]) ?_ 1 _ rfl; (with_reducible repeat (first | refine blk_drewN ?_ _ | refine blk_drew ?_ | refine blk_alloc ?_ _)); refine blk_put (cs := #[.int .i64 0, .int .i64 0, .int .i64 0]) ?_ 0 _ rfl; (with_reducible repeat (first | refine blk_drewN ?_ _ | refine blk_drew ?_ | refine blk_alloc ?_ _)); refine blk_far ?_ NB120_119.out _; (with_reducible repeat (first | refine blk_drewN ?_ _ | refine blk_drew ?_ | refine blk_alloc ?_ _)); refine blk_far ?_ NB120_119.out _; (with_reducible repeat (first | refine blk_drewN ?_ _ | refine blk_drew ?_ | refine blk_alloc ?_ _)); exact BK120.out) Tryd.underlying60 rfl (by kernel_rfl)) rfl ?_
        exact ⟨by first | rfl | (simp [errW_none, errW_some] <;> rfl) | (simp [*, errW_none, errW_some] <;> rfl), by repeat (first | (with_reducible first | exact HB.out | apply below_alloc | apply pw_below_drewN | apply below_drew1 | refine below_set ?_ GE119.out | refine below_set ?_ GE120.out) | exact HB.out)⟩
      · rw [if_neg c10] at H
        have c10b0 : (((rd_T41 l1 0).f0) == 4) = false := beq_eq_false_iff_ne.mpr c10
        have c10b1 : (((rd_T41 l1 0).f0) != 4) = true := bne_iff_ne.mpr c10
        by_cases c16 : ((rd_T41 l1 0).f0) = 5
        · rw [if_pos c16] at H
          have c16b0 : (((rd_T41 l1 0).f0) == 5) = true := beq_iff_eq.mpr c16
          have c16b1 : (((rd_T41 l1 0).f0) != 5) = false := bne_eq_false_iff_eq.mpr c16
          clear c16
          simp only [Option.some.injEq, Prod.mk.injEq] at H
          obtain ⟨rfl, rfl, rfl⟩ := H
          go_enter Tryd.func28, Tryd.ntmps28
          try go_wp2_with (first | ((with_reducible refine gate_dst (N := 2) rfl ?_); refine box_event ?hg (N := 2) ?hd (cs := #[.int .i64 a0_0, .int .i64 a0_1, .int .i64 a0_2]) (t := 60) ?hr ?_; (case hd => rfl); (case hg => rfl); (case hr => first | (go_simp; done) | (go_simp; rfl)); intro gb119 hg w17 hbox hb; have n0_ := Aside0.mk (below_step (by repeat (first | (with_reducible first | exact HB.out | apply below_alloc | apply pw_below_drewN | apply below_drew1) | exact HB.out)) hb); have n1_ := Aside0.mk (hbox); have n2_ := Aside0.mk ((by rw [hg]; exact (below_size (by repeat (first | (with_reducible first | exact HB.out | apply below_alloc | apply pw_below_drewN | apply below_drew1) | exact HB.out))) : w.heap.size ≤ gb119)); have n3_ := Aside0.mk ((by rw [hg]; exact (below_size (by repeat (first | (with_reducible first | exact HB.out | apply below_alloc | apply pw_below_drewN | apply below_drew1) | exact HB.out))) : w.heap.size ≤ gb119)); clear HB; have HB := n0_; have BK119 := n1_; have GW119 := n2_; have GE119 := n3_; clear n0_ n1_ n2_ n3_; clear hb hbox hg) | ((with_reducible refine gate_dst (N := 4) rfl ?_); refine box_event ?hg (N := 4) ?hd (cs := #[.int .i64 0, .int .i64 0, .int .i64 0]) (t := 60) ?hr ?_; (case hd => rfl); (case hg => rfl); (case hr => first | (go_simp; done) | (go_simp; rfl)); intro gb120 hg w18 hbox hb; have n0_ := Aside0.mk (blk_below (g := gb119) (o := .cells #[.int .i64 a0_0, .int .i64 a0_1, .int .i64 a0_2] 60 (0, 0)) (by (with_reducible repeat (first | refine blk_drewN ?_ _ | refine blk_drew ?_ | refine blk_alloc ?_ _)); exact BK119.out) hb); have n1_ := Aside0.mk (below_step (by repeat (first | (with_reducible first | exact HB.out | apply below_alloc | apply pw_below_drewN | apply below_drew1 | refine below_set ?_ GE119.out) | exact HB.out)) hb); have n2_ := Aside0.mk (hbox); have n3_ := Aside0.mk ((by rw [hg]; exact (below_size (by repeat (first | (with_reducible first | exact HB.out | apply below_alloc | apply pw_below_drewN | apply below_drew1 | refine below_set ?_ GE119.out) | exact HB.out))) : w.heap.size ≤ gb120)); have n4_ := Aside0.mk ((by rw [hg]; exact (below_size (by repeat (first | (with_reducible first | exact HB.out | apply below_alloc | apply pw_below_drewN | apply below_drew1 | refine below_set ?_ GE119.out) | exact HB.out))) : w.heap.size ≤ gb120)); have n5_ := Aside0.mk ((by rw [hg]; exact Nat.ne_of_lt (blk_lt (g := gb119) (o := .cells #[.int .i64 a0_0, .int .i64 a0_1, .int .i64 a0_2] 60 (0, 0)) (by (with_reducible repeat (first | refine blk_drewN ?_ _ | refine blk_drew ?_ | refine blk_alloc ?_ _)); exact BK119.out)) : gb119 ≠ gb120)); have n6_ := Aside0.mk ((by rw [hg]; exact Nat.ne_of_gt (blk_lt (g := gb119) (o := .cells #[.int .i64 a0_0, .int .i64 a0_1, .int .i64 a0_2] 60 (0, 0)) (by (with_reducible repeat (first | refine blk_drewN ?_ _ | refine blk_drew ?_ | refine blk_alloc ?_ _)); exact BK119.out)) : gb120 ≠ gb119)); clear BK119; clear HB; have BK119 := n0_; have HB := n1_; have BK120 := n2_; have GW120 := n3_; have GE120 := n4_; have NB119_120 := n5_; have NB120_119 := n6_; clear n0_ n1_ n2_ n3_ n4_ n5_ n6_; clear hb hbox hg; have p121 : 0 ≤ (0 : Int) := (by omega); have q121 : 0 < (l1.length : Int) := of_decide_eq_true (by first | (with_reducible assumption) | assumption); obtain ⟨ad121, A121_2, c121_2, A121_3, c121_3, A121_4, c121_4, A121_5, c121_5, A121_6, c121_6, e121, hx121_0, hx121_1, hx121_2, hx121_3, hx121_4, hx121_5, hx121_6, hl121_2, hi121_2, hl121_3, hi121_3, hl121_4, hi121_4, hl121_5, hi121_5, hl121_6, hi121_6⟩ := at_T41 HR1.out 0 p121 q121; cases e121; have HXR121_2 := Aside0.mk hx121_2; have HXR121_3 := Aside0.mk hx121_3; have HXR121_4 := Aside0.mk hx121_4; have HXR121_5 := Aside0.mk hx121_5; have HXR121_6 := Aside0.mk hx121_6; have qi121 : (0 < l1.length) = True := eq_true (by omega); (try rw [show ((0 : Int)).toNat = 0 from rfl] at hx121_0); (try rw [show 0 * 7 = 0 from rfl] at hx121_0); (try rw [Addr.add_zero'] at hx121_0); (try rw [show ((0 : Int)).toNat = 0 from rfl] at hx121_1); (try rw [show 0 * 7 = 0 from rfl] at hx121_1); (try rw [Addr.add_zero'] at hx121_1); (try rw [show ((0 : Int)).toNat = 0 from rfl] at hx121_2); (try rw [show 0 * 7 = 0 from rfl] at hx121_2); (try rw [Addr.add_zero'] at hx121_2); (try rw [show ((0 : Int)).toNat = 0 from rfl] at hx121_3); (try rw [show 0 * 7 = 0 from rfl] at hx121_3); (try rw [Addr.add_zero'] at hx121_3); (try rw [show ((0 : Int)).toNat = 0 from rfl] at hx121_4); (try rw [show 0 * 7 = 0 from rfl] at hx121_4); (try rw [Addr.add_zero'] at hx121_4); (try rw [show ((0 : Int)).toNat = 0 from rfl] at hx121_5); (try rw [show 0 * 7 = 0 from rfl] at hx121_5); (try rw [Addr.add_zero'] at hx121_5); (try rw [show ((0 : Int)).toNat = 0 from rfl] at hx121_6); (try rw [show 0 * 7 = 0 from rfl] at hx121_6); (try rw [Addr.add_zero'] at hx121_6); replace hx121_0 := (HB.out.cell (World.block_lt_of_cell? w _ hx121_0)).trans hx121_0; replace hx121_1 := (HB.out.cell (World.block_lt_of_cell? w _ hx121_1)).trans hx121_1; replace hx121_2 := (HB.out.cell (World.block_lt_of_cell? w _ hx121_2)).trans hx121_2; replace hx121_3 := (HB.out.cell (World.block_lt_of_cell? w _ hx121_3)).trans hx121_3; replace hx121_4 := (HB.out.cell (World.block_lt_of_cell? w _ hx121_4)).trans hx121_4; replace hx121_5 := (HB.out.cell (World.block_lt_of_cell? w _ hx121_5)).trans hx121_5; replace hx121_6 := (HB.out.cell (World.block_lt_of_cell? w _ hx121_6)).trans hx121_6; have HR121_2 := Aside0.mk hi121_2; have HC121_2 := Aside0.mk hl121_2; clear hi121_2 hl121_2; have HR121_3 := Aside0.mk hi121_3; have HC121_3 := Aside0.mk hl121_3; clear hi121_3 hl121_3; have HR121_4 := Aside0.mk hi121_4; have HC121_4 := Aside0.mk hl121_4; clear hi121_4 hl121_4; have HR121_5 := Aside0.mk hi121_5; have HC121_5 := Aside0.mk hl121_5; clear hi121_5 hl121_5; have HR121_6 := Aside0.mk hi121_6; have HC121_6 := Aside0.mk hl121_6; clear hi121_6 hl121_6; replace p121 := eq_true p121; replace q121 := eq_true q121))
          have n0_ := Aside0.mk (blk_drew BK119.out)
          have n1_ := Aside0.mk (blk_drew BK120.out)
          have n2_ := Aside0.mk (below_drew1 HB.out)
          clear BK119
          clear BK120
          clear HB
          have BK119 := n0_
          have BK120 := n1_
          have HB := n2_
          clear n0_ n1_ n2_
          have p122 : 0 ≤ (0 : Int) := (by omega)
          have q122 : 0 < (l1.length : Int) := of_decide_eq_true (by first | (with_reducible assumption) | assumption)
          obtain ⟨ad122, A122_2, c122_2, A122_3, c122_3, A122_4, c122_4, A122_5, c122_5, A122_6, c122_6, e122, hx122_0, hx122_1, hx122_2, hx122_3, hx122_4, hx122_5, hx122_6, hl122_2, hi122_2, hl122_3, hi122_3, hl122_4, hi122_4, hl122_5, hi122_5, hl122_6, hi122_6⟩ := at_T41 HR1.out 0 p122 q122
          have hw122_6 := hx122_6
          (try rw [show ((0 : Int)).toNat = 0 from rfl] at hw122_6)
          (try rw [show 0 * 7 = 0 from rfl] at hw122_6)
          (try rw [Addr.add_zero'] at hw122_6)
          have hw122_5 := hx122_5
          (try rw [show ((0 : Int)).toNat = 0 from rfl] at hw122_5)
          (try rw [show 0 * 7 = 0 from rfl] at hw122_5)
          (try rw [Addr.add_zero'] at hw122_5)
          have hw122_4 := hx122_4
          (try rw [show ((0 : Int)).toNat = 0 from rfl] at hw122_4)
          (try rw [show 0 * 7 = 0 from rfl] at hw122_4)
          (try rw [Addr.add_zero'] at hw122_4)
          have hw122_3 := hx122_3
          (try rw [show ((0 : Int)).toNat = 0 from rfl] at hw122_3)
          (try rw [show 0 * 7 = 0 from rfl] at hw122_3)
          (try rw [Addr.add_zero'] at hw122_3)
          have hw122_2 := hx122_2
          (try rw [show ((0 : Int)).toNat = 0 from rfl] at hw122_2)
          (try rw [show 0 * 7 = 0 from rfl] at hw122_2)
          (try rw [Addr.add_zero'] at hw122_2)
          have hw122_1 := hx122_1
          (try rw [show ((0 : Int)).toNat = 0 from rfl] at hw122_1)
          (try rw [show 0 * 7 = 0 from rfl] at hw122_1)
          (try rw [Addr.add_zero'] at hw122_1)
          have hw122_0 := hx122_0
          (try rw [show ((0 : Int)).toNat = 0 from rfl] at hw122_0)
          (try rw [show 0 * 7 = 0 from rfl] at hw122_0)
          (try rw [Addr.add_zero'] at hw122_0)
          obtain rfl : ad121 = ad122 := (by injection e122)
          have HXR122_2 := Aside0.mk hx122_2
          have HXR122_3 := Aside0.mk hx122_3
          have HXR122_4 := Aside0.mk hx122_4
          have HXR122_5 := Aside0.mk hx122_5
          have HXR122_6 := Aside0.mk hx122_6
          (try (have ea_ := Option.some.inj (HXR121_2.out.symm.trans hx122_2); injection ea_ with ea_ en_ ec_; subst ea_; subst ec_; clear en_))
          (try (have ea_ := Option.some.inj (HXR121_3.out.symm.trans hx122_3); injection ea_ with ea_ en_ ec_; subst ea_; subst ec_; clear en_))
          (try (have ea_ := Option.some.inj (HXR121_4.out.symm.trans hx122_4); injection ea_ with ea_ en_ ec_; subst ea_; subst ec_; clear en_))
          (try (have ea_ := Option.some.inj (HXR121_5.out.symm.trans hx122_5); injection ea_ with ea_ en_ ec_; subst ea_; subst ec_; clear en_))
          (try (have ea_ := Option.some.inj (HXR121_6.out.symm.trans hx122_6); injection ea_ with ea_ en_ ec_; subst ea_; subst ec_; clear en_))
          have qi122 : (0 < l1.length) = True := eq_true (by omega)
          (try rw [show ((0 : Int)).toNat = 0 from rfl] at hx122_0)
          (try rw [show 0 * 7 = 0 from rfl] at hx122_0)
          (try rw [Addr.add_zero'] at hx122_0)
          (try rw [show ((0 : Int)).toNat = 0 from rfl] at hx122_1)
          (try rw [show 0 * 7 = 0 from rfl] at hx122_1)
          (try rw [Addr.add_zero'] at hx122_1)
          (try rw [show ((0 : Int)).toNat = 0 from rfl] at hx122_2)
          (try rw [show 0 * 7 = 0 from rfl] at hx122_2)
          (try rw [Addr.add_zero'] at hx122_2)
          (try rw [show ((0 : Int)).toNat = 0 from rfl] at hx122_3)
          (try rw [show 0 * 7 = 0 from rfl] at hx122_3)
          (try rw [Addr.add_zero'] at hx122_3)
          (try rw [show ((0 : Int)).toNat = 0 from rfl] at hx122_4)
          (try rw [show 0 * 7 = 0 from rfl] at hx122_4)
          (try rw [Addr.add_zero'] at hx122_4)
          (try rw [show ((0 : Int)).toNat = 0 from rfl] at hx122_5)
          (try rw [show 0 * 7 = 0 from rfl] at hx122_5)
          (try rw [Addr.add_zero'] at hx122_5)
          (try rw [show ((0 : Int)).toNat = 0 from rfl] at hx122_6)
          (try rw [show 0 * 7 = 0 from rfl] at hx122_6)
          (try rw [Addr.add_zero'] at hx122_6)
          replace hx122_0 := (HB.out.cell (World.block_lt_of_cell? w _ hx122_0)).trans hx122_0
          replace hx122_1 := (HB.out.cell (World.block_lt_of_cell? w _ hx122_1)).trans hx122_1
          replace hx122_2 := (HB.out.cell (World.block_lt_of_cell? w _ hx122_2)).trans hx122_2
          replace hx122_3 := (HB.out.cell (World.block_lt_of_cell? w _ hx122_3)).trans hx122_3
          replace hx122_4 := (HB.out.cell (World.block_lt_of_cell? w _ hx122_4)).trans hx122_4
          replace hx122_5 := (HB.out.cell (World.block_lt_of_cell? w _ hx122_5)).trans hx122_5
          replace hx122_6 := (HB.out.cell (World.block_lt_of_cell? w _ hx122_6)).trans hx122_6
          have HR122_2 := Aside0.mk hi122_2
          have HC122_2 := Aside0.mk hl122_2
          clear hi122_2 hl122_2
          have HR122_3 := Aside0.mk hi122_3
          have HC122_3 := Aside0.mk hl122_3
          clear hi122_3 hl122_3
          have HR122_4 := Aside0.mk hi122_4
          have HC122_4 := Aside0.mk hl122_4
          clear hi122_4 hl122_4
          have HR122_5 := Aside0.mk hi122_5
          have HC122_5 := Aside0.mk hl122_5
          clear hi122_5 hl122_5
          have HR122_6 := Aside0.mk hi122_6
          have HC122_6 := Aside0.mk hl122_6
          clear hi122_6 hl122_6
          replace p122 := eq_true p122
          replace q122 := eq_true q122
          refine start_ (n := 10) (S := fun w' => w'.cell? ⟨gb119, 0, none⟩ = some (.int .i64 a0_0) ∧ w'.cell? ⟨gb119, 1, none⟩ = some (.int .i64 a0_1) ∧ w'.cell? ⟨gb119, 2, none⟩ = some (.int .i64 a0_2) ∧ w'.cell? ad121 = some (.int .i64 ((rd_T41 l1 0).f0)) ∧ w'.cell? ⟨ad121.block, ad121.off + 1, none⟩ = some (.string ((rd_T41 l1 0).f1)) ∧ w'.cell? ⟨ad121.block, ad121.off + 2, none⟩ = some (.slice A121_2 ((rd_T41 l1 0).f2).length c121_2) ∧ w'.cell? ⟨ad121.block, ad121.off + 3, none⟩ = some (.slice A121_3 ((rd_T41 l1 0).f3).length c121_3) ∧ w'.cell? ⟨ad121.block, ad121.off + 4, none⟩ = some (.slice A121_4 ((rd_T41 l1 0).f4).length c121_4) ∧ w'.cell? ⟨ad121.block, ad121.off + 5, none⟩ = some (.slice A121_5 ((rd_T41 l1 0).f5).length c121_5) ∧ w'.cell? ⟨ad121.block, ad121.off + 6, none⟩ = some (.slice A121_6 ((rd_T41 l1 0).f6).length c121_6)) (ds := [9]) #[false, false, false, false, false, false, false, false, false, false] (by kernel_rfl) rfl rfl ⟨(blk_cell BK119.out 0).trans rfl, (blk_cell BK119.out 1).trans rfl, (blk_cell BK119.out 2).trans rfl, ((HB.out.cell (World.block_lt_of_cell? w _ hw122_0)).trans hw122_0), ((HB.out.cell (World.block_lt_of_cell? w _ hw122_1)).trans hw122_1), ((HB.out.cell (World.block_lt_of_cell? w _ hw122_2)).trans hw122_2), ((HB.out.cell (World.block_lt_of_cell? w _ hw122_3)).trans hw122_3), ((HB.out.cell (World.block_lt_of_cell? w _ hw122_4)).trans hw122_4), ((HB.out.cell (World.block_lt_of_cell? w _ hw122_5)).trans hw122_5), ((HB.out.cell (World.block_lt_of_cell? w _ hw122_6)).trans hw122_6)⟩ (fun hHeld => ?_); refine with_tabW core_around_behind.tab8 core_around_behind.bits8 (fun HT_ HW_ => ?_)
          generalize w18.drew = w19 at BK119 BK120 HB HR122_2 HR122_3 HR122_4 HR122_5 HR122_6 hx122_0 hx122_1 hx122_2 hx122_3 hx122_4 hx122_5 hx122_6 hHeld ⊢
          refine pure_ (i := 0) (N := some 27) (v := ?_) (a' := ?_) #[true, false, false, false, false, false, false, false, false, false] rfl rfl (any_of HT_.out (by kernel_rfl)) (fun _ _ _ h => h) (Or.inl ⟨by rfl, ?_⟩) ?_ ?_
          rotate_left
          · intro w'
            go_simp
            with_reducible rfl
          rotate_left
          · simp only [Act.put, List.setIfInBounds_toArray, List.set_cons_zero, List.set_cons_succ, i64_w, i32_w]
            rfl
          refine pure_ (i := 2) (N := some 29) (v := ?_) (a' := ?_) #[true, false, true, false, false, false, false, false, false, false] rfl rfl (any_of HT_.out (by kernel_rfl)) (fun _ _ _ h => h) (Or.inl ⟨by rfl, ?_⟩) ?_ ?_
          rotate_left
          · intro w'
            go_simp
            with_reducible rfl
          rotate_left
          · simp only [Act.put, List.setIfInBounds_toArray, List.set_cons_zero, List.set_cons_succ, i64_w, i32_w]
            rfl
          refine pure_ (i := 3) (N := some 30) (v := ?_) (a' := ?_) #[true, false, true, true, false, false, false, false, false, false] rfl rfl (any_of HT_.out (by kernel_rfl)) (fun _ _ _ h => h) (Or.inl ⟨by rfl, ?_⟩) ?_ ?_
          rotate_left
          · intro w'
            go_simp
            with_reducible rfl
          rotate_left
          · simp only [Act.put, List.setIfInBounds_toArray, List.set_cons_zero, List.set_cons_succ, i64_w, i32_w]
            rfl
          refine pure_ (i := 4) (N := some 31) (v := ?_) (a' := ?_) #[true, false, true, true, true, false, false, false, false, false] rfl rfl (any_of HT_.out (by kernel_rfl)) (fun _ _ _ h => h) (Or.inl ⟨by rfl, ?_⟩) ?_ ?_
          rotate_left
          · intro w'
            go_simp
            with_reducible rfl
          rotate_left
          · simp only [Act.put, List.setIfInBounds_toArray, List.set_cons_zero, List.set_cons_succ, i64_w, i32_w]
            rfl
          refine take_ (i := 1) (N := some 28) (v := ?_) (a' := ?_) #[true, true, true, true, true, false, false, false, false, false] rfl rfl (take_ofW HT_.out HW_.out (by kernel_rfl)) (fun _ _ _ h => h) (Or.inl ⟨by rfl, ?_⟩) hHeld ?_ ?_
          rotate_left
          · rintro w' ⟨s0, s1, s2, s3, s4, s5, s6, s7, s8, s9⟩
            go_simp
            with_reducible rfl
          rotate_left
          · simp only [Act.put, List.setIfInBounds_toArray, List.set_cons_zero, List.set_cons_succ, i64_w, i32_w]
            rfl
          refine take_ (i := 5) (N := some 32) (v := ?_) (a' := ?_) #[true, true, true, true, true, true, false, false, false, false] rfl rfl (take_ofW HT_.out HW_.out (by kernel_rfl)) (fun _ _ _ h => h) (Or.inl ⟨by rfl, ?_⟩) hHeld ?_ ?_
          rotate_left
          · rintro w' ⟨s0, s1, s2, s3, s4, s5, s6, s7, s8, s9⟩
            go_simp
            with_reducible rfl
          rotate_left
          · simp only [Act.put, List.setIfInBounds_toArray, List.set_cons_zero, List.set_cons_succ, i64_w, i32_w]
            rfl
          refine pure_ (i := 6) (N := some 33) (v := ?_) (a' := ?_) #[true, true, true, true, true, true, true, false, false, false] rfl rfl (any_of HT_.out (by kernel_rfl)) (fun _ _ _ h => h) (Or.inl ⟨by rfl, ?_⟩) ?_ ?_
          rotate_left
          · intro w'
            go_simp
            with_reducible rfl
          rotate_left
          · simp only [Act.put, List.setIfInBounds_toArray, List.set_cons_zero, List.set_cons_succ, i64_w, i32_w]
            rfl
          refine pure_ (i := 7) (N := some 34) (v := ?_) (a' := ?_) #[true, true, true, true, true, true, true, true, false, false] rfl rfl (any_of HT_.out (by kernel_rfl)) (fun _ _ _ h => h) (Or.inl ⟨by rfl, ?_⟩) ?_ ?_
          rotate_left
          · intro w'
            go_simp
            with_reducible rfl
          rotate_left
          · simp only [Act.put, List.setIfInBounds_toArray, List.set_cons_zero, List.set_cons_succ, i64_w, i32_w]
            rfl
          refine pure_ (i := 8) (N := some 35) (v := ?_) (a' := ?_) #[true, true, true, true, true, true, true, true, true, false] rfl rfl (any_of HT_.out (by kernel_rfl)) (fun _ _ _ h => h) (Or.inl ⟨by rfl, ?_⟩) ?_ ?_
          rotate_left
          · intro w'
            go_simp
            with_reducible rfl
          rotate_left
          · simp only [Act.put, List.setIfInBounds_toArray, List.set_cons_zero, List.set_cons_succ, i64_w, i32_w]
            rfl
          refine last_ (i := 9) (N := none) #[true, true, true, true, true, true, true, true, true, true] rfl rfl (one_of HT_.out (by kernel_rfl)) (by decide) (fun K hK => ?_)
          have hs20 : w19.cell? ⟨gb119, 0, none⟩ = some (.int .i64 a0_0) := (blk_cell BK119.out 0).trans rfl
          have hfs20 := blk_frozen BK119.out 0
          have hns20_1 := NB120_119.out
          have hms20_1 := NB119_120.out
          refine skip_ (w1 := ?_) (by rfl) rfl ?_ ?_
          rotate_left
          · go_simp
            rfl
          refine hK.out _ _ ?_
          clear hK K
          refine done_ (done_of HT_.out (by kernel_rfl)) ?_
          have hnb21 := NB119_120.out
          have hnc21 := NB120_119.out
          have hcz22_0 : w19.cell? ⟨gb119, 0, none⟩ = some (.int .i64 a0_0) := (blk_cell BK119.out 0).trans rfl
          have hcz22_1 : w19.cell? ⟨gb119, 1, none⟩ = some (.int .i64 a0_1) := (blk_cell BK119.out 1).trans rfl
          have hcz22_2 : w19.cell? ⟨gb119, 2, none⟩ = some (.int .i64 a0_2) := (blk_cell BK119.out 2).trans rfl
          have hfz22_0 := blk_frozen BK119.out 0
          have hfz22_1 := blk_frozen BK119.out 1
          have hfz22_2 := blk_frozen BK119.out 2
          have hcz23_0 : w19.cell? ⟨gb120, 0, none⟩ = some (.int .i64 0) := (blk_cell BK120.out 0).trans rfl
          have hcz23_1 : w19.cell? ⟨gb120, 1, none⟩ = some (.int .i64 0) := (blk_cell BK120.out 1).trans rfl
          have hcz23_2 : w19.cell? ⟨gb120, 2, none⟩ = some (.int .i64 0) := (blk_cell BK120.out 2).trans rfl
          have hfz23_0 := blk_frozen BK120.out 0
          have hfz23_1 := blk_frozen BK120.out 1
          have hfz23_2 := blk_frozen BK120.out 2
          try go_wp2
          refine bodyPost_ret (results_cell_row rfl _ _ gb120 60 #[.int .i64 (wrap64 (a0_0 + (((rd_T41 l1 0).f4).length : Int))), .int .i64 a0_1, .int .i64 a0_2] (0, 0) _ rfl (by (with_reducible repeat (first | refine blk_drewN ?_ _ | refine blk_drew ?_ | refine blk_alloc ?_ _)); refine blk_put (cs := #[.int .i64 (wrap64 (a0_0 + (((rd_T41 l1 0).f4).length : Int))), .int .i64 a0_1, .int .i64 0]) ?_ 2 _ rfl; (with_reducible repeat (first | refine blk_drewN ?_ _ | refine blk_drew ?_ | refine blk_alloc ?_ _)); refine blk_put (cs := #[.int .i64 (wrap64 (a0_0 + (((rd_T41 l1 0).f4).length : Int))), .int .i64 0, .int .i64 0]) ?_ 1 _ rfl; (with_reducible repeat (first | refine blk_drewN ?_ _ | refine blk_drew ?_ | refine blk_alloc ?_ _)); refine blk_put (cs := #[.int .i64 0, .int .i64 0, .int .i64 0]) ?_ 0 _ rfl; (with_reducible repeat (first | refine blk_drewN ?_ _ | refine blk_drew ?_ | refine blk_alloc ?_ _)); refine blk_far ?_ NB120_119.out _; (with_reducible repeat (first | refine blk_drewN ?_ _ | refine blk_drew ?_ | refine blk_alloc ?_ _)); exact BK120.out) Tryd.underlying60 rfl (by kernel_rfl)) rfl ?_
          exact ⟨by first | rfl | (simp [errW_none, errW_some] <;> rfl) | (simp [*, errW_none, errW_some] <;> rfl), by repeat (first | (with_reducible first | exact HB.out | apply below_alloc | apply pw_below_drewN | apply below_drew1 | refine below_set ?_ GE119.out | refine below_set ?_ GE120.out) | exact HB.out)⟩
        · rw [if_neg c16] at H
          have c16b0 : (((rd_T41 l1 0).f0) == 5) = false := beq_eq_false_iff_ne.mpr c16
          have c16b1 : (((rd_T41 l1 0).f0) != 5) = true := bne_iff_ne.mpr c16
          simp only [Option.some.injEq, Prod.mk.injEq] at H
          obtain ⟨rfl, rfl, rfl⟩ := H
          go_enter Tryd.func28, Tryd.ntmps28
          go_wp2_with (first | ((with_reducible refine gate_dst (N := 2) rfl ?_); refine box_event ?hg (N := 2) ?hd (cs := #[.int .i64 a0_0, .int .i64 a0_1, .int .i64 a0_2]) (t := 60) ?hr ?_; (case hd => rfl); (case hg => rfl); (case hr => first | (go_simp; done) | (go_simp; rfl)); intro gb119 hg w24 hbox hb; have n0_ := Aside0.mk (below_step (by repeat (first | (with_reducible first | exact HB.out | apply below_alloc | apply pw_below_drewN | apply below_drew1) | exact HB.out)) hb); have n1_ := Aside0.mk (hbox); have n2_ := Aside0.mk ((by rw [hg]; exact (below_size (by repeat (first | (with_reducible first | exact HB.out | apply below_alloc | apply pw_below_drewN | apply below_drew1) | exact HB.out))) : w.heap.size ≤ gb119)); have n3_ := Aside0.mk ((by rw [hg]; exact (below_size (by repeat (first | (with_reducible first | exact HB.out | apply below_alloc | apply pw_below_drewN | apply below_drew1) | exact HB.out))) : w.heap.size ≤ gb119)); clear HB; have HB := n0_; have BK119 := n1_; have GW119 := n2_; have GE119 := n3_; clear n0_ n1_ n2_ n3_; clear hb hbox hg) | ((with_reducible refine gate_dst (N := 4) rfl ?_); refine box_event ?hg (N := 4) ?hd (cs := #[.int .i64 0, .int .i64 0, .int .i64 0]) (t := 60) ?hr ?_; (case hd => rfl); (case hg => rfl); (case hr => first | (go_simp; done) | (go_simp; rfl)); intro gb120 hg w25 hbox hb; have n0_ := Aside0.mk (blk_below (g := gb119) (o := .cells #[.int .i64 a0_0, .int .i64 a0_1, .int .i64 a0_2] 60 (0, 0)) (by (with_reducible repeat (first | refine blk_drewN ?_ _ | refine blk_drew ?_ | refine blk_alloc ?_ _)); exact BK119.out) hb); have n1_ := Aside0.mk (below_step (by repeat (first | (with_reducible first | exact HB.out | apply below_alloc | apply pw_below_drewN | apply below_drew1 | refine below_set ?_ GE119.out) | exact HB.out)) hb); have n2_ := Aside0.mk (hbox); have n3_ := Aside0.mk ((by rw [hg]; exact (below_size (by repeat (first | (with_reducible first | exact HB.out | apply below_alloc | apply pw_below_drewN | apply below_drew1 | refine below_set ?_ GE119.out) | exact HB.out))) : w.heap.size ≤ gb120)); have n4_ := Aside0.mk ((by rw [hg]; exact (below_size (by repeat (first | (with_reducible first | exact HB.out | apply below_alloc | apply pw_below_drewN | apply below_drew1 | refine below_set ?_ GE119.out) | exact HB.out))) : w.heap.size ≤ gb120)); have n5_ := Aside0.mk ((by rw [hg]; exact Nat.ne_of_lt (blk_lt (g := gb119) (o := .cells #[.int .i64 a0_0, .int .i64 a0_1, .int .i64 a0_2] 60 (0, 0)) (by (with_reducible repeat (first | refine blk_drewN ?_ _ | refine blk_drew ?_ | refine blk_alloc ?_ _)); exact BK119.out)) : gb119 ≠ gb120)); have n6_ := Aside0.mk ((by rw [hg]; exact Nat.ne_of_gt (blk_lt (g := gb119) (o := .cells #[.int .i64 a0_0, .int .i64 a0_1, .int .i64 a0_2] 60 (0, 0)) (by (with_reducible repeat (first | refine blk_drewN ?_ _ | refine blk_drew ?_ | refine blk_alloc ?_ _)); exact BK119.out)) : gb120 ≠ gb119)); clear BK119; clear HB; have BK119 := n0_; have HB := n1_; have BK120 := n2_; have GW120 := n3_; have GE120 := n4_; have NB119_120 := n5_; have NB120_119 := n6_; clear n0_ n1_ n2_ n3_ n4_ n5_ n6_; clear hb hbox hg; have p121 : 0 ≤ (0 : Int) := (by omega); have q121 : 0 < (l1.length : Int) := of_decide_eq_true (by first | (with_reducible assumption) | assumption); obtain ⟨ad121, A121_2, c121_2, A121_3, c121_3, A121_4, c121_4, A121_5, c121_5, A121_6, c121_6, e121, hx121_0, hx121_1, hx121_2, hx121_3, hx121_4, hx121_5, hx121_6, hl121_2, hi121_2, hl121_3, hi121_3, hl121_4, hi121_4, hl121_5, hi121_5, hl121_6, hi121_6⟩ := at_T41 HR1.out 0 p121 q121; cases e121; have HXR121_2 := Aside0.mk hx121_2; have HXR121_3 := Aside0.mk hx121_3; have HXR121_4 := Aside0.mk hx121_4; have HXR121_5 := Aside0.mk hx121_5; have HXR121_6 := Aside0.mk hx121_6; have qi121 : (0 < l1.length) = True := eq_true (by omega); (try rw [show ((0 : Int)).toNat = 0 from rfl] at hx121_0); (try rw [show 0 * 7 = 0 from rfl] at hx121_0); (try rw [Addr.add_zero'] at hx121_0); (try rw [show ((0 : Int)).toNat = 0 from rfl] at hx121_1); (try rw [show 0 * 7 = 0 from rfl] at hx121_1); (try rw [Addr.add_zero'] at hx121_1); (try rw [show ((0 : Int)).toNat = 0 from rfl] at hx121_2); (try rw [show 0 * 7 = 0 from rfl] at hx121_2); (try rw [Addr.add_zero'] at hx121_2); (try rw [show ((0 : Int)).toNat = 0 from rfl] at hx121_3); (try rw [show 0 * 7 = 0 from rfl] at hx121_3); (try rw [Addr.add_zero'] at hx121_3); (try rw [show ((0 : Int)).toNat = 0 from rfl] at hx121_4); (try rw [show 0 * 7 = 0 from rfl] at hx121_4); (try rw [Addr.add_zero'] at hx121_4); (try rw [show ((0 : Int)).toNat = 0 from rfl] at hx121_5); (try rw [show 0 * 7 = 0 from rfl] at hx121_5); (try rw [Addr.add_zero'] at hx121_5); (try rw [show ((0 : Int)).toNat = 0 from rfl] at hx121_6); (try rw [show 0 * 7 = 0 from rfl] at hx121_6); (try rw [Addr.add_zero'] at hx121_6); replace hx121_0 := (HB.out.cell (World.block_lt_of_cell? w _ hx121_0)).trans hx121_0; replace hx121_1 := (HB.out.cell (World.block_lt_of_cell? w _ hx121_1)).trans hx121_1; replace hx121_2 := (HB.out.cell (World.block_lt_of_cell? w _ hx121_2)).trans hx121_2; replace hx121_3 := (HB.out.cell (World.block_lt_of_cell? w _ hx121_3)).trans hx121_3; replace hx121_4 := (HB.out.cell (World.block_lt_of_cell? w _ hx121_4)).trans hx121_4; replace hx121_5 := (HB.out.cell (World.block_lt_of_cell? w _ hx121_5)).trans hx121_5; replace hx121_6 := (HB.out.cell (World.block_lt_of_cell? w _ hx121_6)).trans hx121_6; have HR121_2 := Aside0.mk hi121_2; have HC121_2 := Aside0.mk hl121_2; clear hi121_2 hl121_2; have HR121_3 := Aside0.mk hi121_3; have HC121_3 := Aside0.mk hl121_3; clear hi121_3 hl121_3; have HR121_4 := Aside0.mk hi121_4; have HC121_4 := Aside0.mk hl121_4; clear hi121_4 hl121_4; have HR121_5 := Aside0.mk hi121_5; have HC121_5 := Aside0.mk hl121_5; clear hi121_5 hl121_5; have HR121_6 := Aside0.mk hi121_6; have HC121_6 := Aside0.mk hl121_6; clear hi121_6 hl121_6; replace p121 := eq_true p121; replace q121 := eq_true q121; have hnb26 := NB119_120.out; have hnc26 := NB120_119.out; have hcz27_0 : w25.cell? ⟨gb119, 0, none⟩ = some (.int .i64 a0_0) := (blk_cell BK119.out 0).trans rfl; have hcz27_1 : w25.cell? ⟨gb119, 1, none⟩ = some (.int .i64 a0_1) := (blk_cell BK119.out 1).trans rfl; have hcz27_2 : w25.cell? ⟨gb119, 2, none⟩ = some (.int .i64 a0_2) := (blk_cell BK119.out 2).trans rfl; have hfz27_0 := blk_frozen BK119.out 0; have hfz27_1 := blk_frozen BK119.out 1; have hfz27_2 := blk_frozen BK119.out 2; have hcz28_0 : w25.cell? ⟨gb120, 0, none⟩ = some (.int .i64 0) := (blk_cell BK120.out 0).trans rfl; have hcz28_1 : w25.cell? ⟨gb120, 1, none⟩ = some (.int .i64 0) := (blk_cell BK120.out 1).trans rfl; have hcz28_2 : w25.cell? ⟨gb120, 2, none⟩ = some (.int .i64 0) := (blk_cell BK120.out 2).trans rfl; have hfz28_0 := blk_frozen BK120.out 0; have hfz28_1 := blk_frozen BK120.out 1; have hfz28_2 := blk_frozen BK120.out 2))
          refine bodyPost_ret (results_cell_row rfl _ _ gb120 60 #[.int .i64 a0_0, .int .i64 a0_1, .int .i64 a0_2] (0, 0) _ rfl (by (with_reducible repeat (first | refine blk_drewN ?_ _ | refine blk_drew ?_ | refine blk_alloc ?_ _)); refine blk_put (cs := #[.int .i64 a0_0, .int .i64 a0_1, .int .i64 0]) ?_ 2 _ rfl; (with_reducible repeat (first | refine blk_drewN ?_ _ | refine blk_drew ?_ | refine blk_alloc ?_ _)); refine blk_put (cs := #[.int .i64 a0_0, .int .i64 0, .int .i64 0]) ?_ 1 _ rfl; (with_reducible repeat (first | refine blk_drewN ?_ _ | refine blk_drew ?_ | refine blk_alloc ?_ _)); refine blk_put (cs := #[.int .i64 0, .int .i64 0, .int .i64 0]) ?_ 0 _ rfl; (with_reducible repeat (first | refine blk_drewN ?_ _ | refine blk_drew ?_ | refine blk_alloc ?_ _)); exact BK120.out) Tryd.underlying60 rfl (by kernel_rfl)) rfl ?_
          exact ⟨by first | rfl | (simp [errW_none, errW_some] <;> rfl) | (simp [*, errW_none, errW_some] <;> rfl), by repeat (first | (with_reducible first | exact HB.out | apply below_alloc | apply pw_below_drewN | apply below_drew1 | refine below_set ?_ GE119.out | refine below_set ?_ GE120.out) | exact HB.out)⟩
  · rw [if_neg c3] at H
    exact absurd H (by simp)

/-! ### shape_Zero: function 43 -/
def shape_Zero.f (l0 : List (S35)) : Option (Bool) := if 0 < (l0.length : Int) then (if ((rd_T35 l0 0).f0) = 0 then (if ((rd_T35 l0 0).f1) = 0 then (if ((rd_T35 l0 0).f2).toList = ([] : List UInt8) then (some ((((rd_T35 l0 0).f3).length : Int) == 0)) else (some false)) else (some false)) else (some false)) else (none)
set_option maxHeartbeats 8000000 in
set_option maxRecDepth 100000 in
theorem shape_Zero.calls (A0 : Option Addr) (l0 : List (S35)) (r : Bool) (w : World) (hr0 : Kd.C k35 w A0 l0.length l0) (h : shape_Zero.f l0 = some r) :
    Calls Tryd.prog 43 #[.pointer A0] w fun e w' => e = .returned (.bool r) ∧ Drawn0 w w' := by
  have HR0 := Aside0.mk hr0
  clear hr0
  have H : (if 0 < (l0.length : Int) then (if ((rd_T35 l0 0).f0) = 0 then (if ((rd_T35 l0 0).f1) = 0 then (if ((rd_T35 l0 0).f2).toList = ([] : List UInt8) then (some ((((rd_T35 l0 0).f3).length : Int) == 0)) else (some false)) else (some false)) else (some false)) else (none)) = some r := h
  clear h
  by_cases c2 : 0 < (l0.length : Int)
  · rw [if_pos c2] at H
    have c2b0 : decide (0 < (l0.length : Int)) = true := decide_eq_true c2
    have c2b1 : decide (0 < l0.length) = true := decide_eq_true (by omega)
    clear c2
    by_cases c3 : ((rd_T35 l0 0).f0) = 0
    · rw [if_pos c3] at H
      have c3b0 : (((rd_T35 l0 0).f0) == 0) = true := beq_iff_eq.mpr c3
      have c3b1 : (((rd_T35 l0 0).f0) != 0) = false := bne_eq_false_iff_eq.mpr c3
      clear c3
      by_cases c4 : ((rd_T35 l0 0).f1) = 0
      · rw [if_pos c4] at H
        have c4b0 : (((rd_T35 l0 0).f1) == 0) = true := beq_iff_eq.mpr c4
        have c4b1 : (((rd_T35 l0 0).f1) != 0) = false := bne_eq_false_iff_eq.mpr c4
        clear c4
        by_cases c5 : ((rd_T35 l0 0).f2).toList = ([] : List UInt8)
        · rw [if_pos c5] at H
          have c5b0 : (((rd_T35 l0 0).f2).toList == ([] : List UInt8)) = true := beq_iff_eq.mpr c5
          have c5b1 : (((rd_T35 l0 0).f2).toList != ([] : List UInt8)) = false := bne_eq_false_iff_eq.mpr c5
          clear c5
          obtain rfl := Option.some.inj H
          have p123 : 0 ≤ (0 : Int) := (by omega)
          have q123 : 0 < (l0.length : Int) := of_decide_eq_true (by first | (with_reducible assumption) | assumption)
          obtain ⟨ad123, A123_3, c123_3, e123, hx123_0, hx123_1, hx123_2, hx123_3, hl123_3, hi123_3⟩ := at_T35 HR0.out 0 p123 q123
          cases e123
          have HXR123_3 := Aside0.mk hx123_3
          have qi123 : (0 < l0.length) = True := eq_true (by omega)
          (try rw [show ((0 : Int)).toNat = 0 from rfl] at hx123_0)
          (try rw [show 0 * 4 = 0 from rfl] at hx123_0)
          (try rw [Addr.add_zero'] at hx123_0)
          (try rw [show ((0 : Int)).toNat = 0 from rfl] at hx123_1)
          (try rw [show 0 * 4 = 0 from rfl] at hx123_1)
          (try rw [Addr.add_zero'] at hx123_1)
          (try rw [show ((0 : Int)).toNat = 0 from rfl] at hx123_2)
          (try rw [show 0 * 4 = 0 from rfl] at hx123_2)
          (try rw [Addr.add_zero'] at hx123_2)
          (try rw [show ((0 : Int)).toNat = 0 from rfl] at hx123_3)
          (try rw [show 0 * 4 = 0 from rfl] at hx123_3)
          (try rw [Addr.add_zero'] at hx123_3)
          have HR123_3 := Aside0.mk hi123_3
          have HC123_3 := Aside0.mk hl123_3
          clear hi123_3 hl123_3
          replace p123 := eq_true p123
          replace q123 := eq_true q123
          go_enter Tryd.func43, Tryd.ntmps43
          go_wp2
          go_ret
          exact ⟨by first | rfl | (simp; done) | (simp [*]; done), by repeat (first | exact Drawn0.refl _ | apply Drawn0.step)⟩
        · rw [if_neg c5] at H
          have c5b0 : (((rd_T35 l0 0).f2).toList == ([] : List UInt8)) = false := beq_eq_false_iff_ne.mpr c5
          have c5b1 : (((rd_T35 l0 0).f2).toList != ([] : List UInt8)) = true := bne_iff_ne.mpr c5
          obtain rfl := Option.some.inj H
          have p123 : 0 ≤ (0 : Int) := (by omega)
          have q123 : 0 < (l0.length : Int) := of_decide_eq_true (by first | (with_reducible assumption) | assumption)
          obtain ⟨ad123, A123_3, c123_3, e123, hx123_0, hx123_1, hx123_2, hx123_3, hl123_3, hi123_3⟩ := at_T35 HR0.out 0 p123 q123
          cases e123
          have HXR123_3 := Aside0.mk hx123_3
          have qi123 : (0 < l0.length) = True := eq_true (by omega)
          (try rw [show ((0 : Int)).toNat = 0 from rfl] at hx123_0)
          (try rw [show 0 * 4 = 0 from rfl] at hx123_0)
          (try rw [Addr.add_zero'] at hx123_0)
          (try rw [show ((0 : Int)).toNat = 0 from rfl] at hx123_1)
          (try rw [show 0 * 4 = 0 from rfl] at hx123_1)
          (try rw [Addr.add_zero'] at hx123_1)
          (try rw [show ((0 : Int)).toNat = 0 from rfl] at hx123_2)
          (try rw [show 0 * 4 = 0 from rfl] at hx123_2)
          (try rw [Addr.add_zero'] at hx123_2)
          (try rw [show ((0 : Int)).toNat = 0 from rfl] at hx123_3)
          (try rw [show 0 * 4 = 0 from rfl] at hx123_3)
          (try rw [Addr.add_zero'] at hx123_3)
          have HR123_3 := Aside0.mk hi123_3
          have HC123_3 := Aside0.mk hl123_3
          clear hi123_3 hl123_3
          replace p123 := eq_true p123
          replace q123 := eq_true q123
          go_enter Tryd.func43, Tryd.ntmps43
          go_wp2
          go_ret
          exact ⟨by first | rfl | (simp; done) | (simp [*]; done), by repeat (first | exact Drawn0.refl _ | apply Drawn0.step)⟩
      · rw [if_neg c4] at H
        have c4b0 : (((rd_T35 l0 0).f1) == 0) = false := beq_eq_false_iff_ne.mpr c4
        have c4b1 : (((rd_T35 l0 0).f1) != 0) = true := bne_iff_ne.mpr c4
        obtain rfl := Option.some.inj H
        have p123 : 0 ≤ (0 : Int) := (by omega)
        have q123 : 0 < (l0.length : Int) := of_decide_eq_true (by first | (with_reducible assumption) | assumption)
        obtain ⟨ad123, A123_3, c123_3, e123, hx123_0, hx123_1, hx123_2, hx123_3, hl123_3, hi123_3⟩ := at_T35 HR0.out 0 p123 q123
        cases e123
        have HXR123_3 := Aside0.mk hx123_3
        have qi123 : (0 < l0.length) = True := eq_true (by omega)
        (try rw [show ((0 : Int)).toNat = 0 from rfl] at hx123_0)
        (try rw [show 0 * 4 = 0 from rfl] at hx123_0)
        (try rw [Addr.add_zero'] at hx123_0)
        (try rw [show ((0 : Int)).toNat = 0 from rfl] at hx123_1)
        (try rw [show 0 * 4 = 0 from rfl] at hx123_1)
        (try rw [Addr.add_zero'] at hx123_1)
        (try rw [show ((0 : Int)).toNat = 0 from rfl] at hx123_2)
        (try rw [show 0 * 4 = 0 from rfl] at hx123_2)
        (try rw [Addr.add_zero'] at hx123_2)
        (try rw [show ((0 : Int)).toNat = 0 from rfl] at hx123_3)
        (try rw [show 0 * 4 = 0 from rfl] at hx123_3)
        (try rw [Addr.add_zero'] at hx123_3)
        have HR123_3 := Aside0.mk hi123_3
        have HC123_3 := Aside0.mk hl123_3
        clear hi123_3 hl123_3
        replace p123 := eq_true p123
        replace q123 := eq_true q123
        go_enter Tryd.func43, Tryd.ntmps43
        go_wp2
        go_ret
        exact ⟨by first | rfl | (simp; done) | (simp [*]; done), by repeat (first | exact Drawn0.refl _ | apply Drawn0.step)⟩
    · rw [if_neg c3] at H
      have c3b0 : (((rd_T35 l0 0).f0) == 0) = false := beq_eq_false_iff_ne.mpr c3
      have c3b1 : (((rd_T35 l0 0).f0) != 0) = true := bne_iff_ne.mpr c3
      obtain rfl := Option.some.inj H
      have p123 : 0 ≤ (0 : Int) := (by omega)
      have q123 : 0 < (l0.length : Int) := of_decide_eq_true (by first | (with_reducible assumption) | assumption)
      obtain ⟨ad123, A123_3, c123_3, e123, hx123_0, hx123_1, hx123_2, hx123_3, hl123_3, hi123_3⟩ := at_T35 HR0.out 0 p123 q123
      cases e123
      have HXR123_3 := Aside0.mk hx123_3
      have qi123 : (0 < l0.length) = True := eq_true (by omega)
      (try rw [show ((0 : Int)).toNat = 0 from rfl] at hx123_0)
      (try rw [show 0 * 4 = 0 from rfl] at hx123_0)
      (try rw [Addr.add_zero'] at hx123_0)
      (try rw [show ((0 : Int)).toNat = 0 from rfl] at hx123_1)
      (try rw [show 0 * 4 = 0 from rfl] at hx123_1)
      (try rw [Addr.add_zero'] at hx123_1)
      (try rw [show ((0 : Int)).toNat = 0 from rfl] at hx123_2)
      (try rw [show 0 * 4 = 0 from rfl] at hx123_2)
      (try rw [Addr.add_zero'] at hx123_2)
      (try rw [show ((0 : Int)).toNat = 0 from rfl] at hx123_3)
      (try rw [show 0 * 4 = 0 from rfl] at hx123_3)
      (try rw [Addr.add_zero'] at hx123_3)
      have HR123_3 := Aside0.mk hi123_3
      have HC123_3 := Aside0.mk hl123_3
      clear hi123_3 hl123_3
      replace p123 := eq_true p123
      replace q123 := eq_true q123
      go_enter Tryd.func43, Tryd.ntmps43
      go_wp2
      go_ret
      exact ⟨by first | rfl | (simp; done) | (simp [*]; done), by repeat (first | exact Drawn0.refl _ | apply Drawn0.step)⟩
  · rw [if_neg c2] at H
    exact absurd H (by simp)

/-! ### core_text: function 36: not printed -/
/-- May a part not be? prev: its elder is bound, or there is none. -/
def badPart (prev : Bool) (p : S44) : Option Bool :=
  if p.f1 = true then some (p.f0.toList != []) else if p.f0.toList = [] then some true
  else (shape_Valid.f p.f0).bind fun v => if v = true then (shape_Zero.f [p.f2]).bind fun z => if z = true then some (!prev) else some true else some true
def textL : Bool → List S44 → Option Bool
  | _, [] => some true
  | prev, p :: ps => (badPart prev p).bind fun b => if b = true then some false else textL p.f1 ps
def core_text.f (l0 : List S41) : Option Bool :=
  match l0 with
  | [c] => (textL true c.f3).bind fun b => if b = true then some (decide (0 < c.f3.length) && decide (c.f4.length = 0) && decide (c.f5.length = 0)) else some false
  | _ => none
theorem badR {b r : Bool} {x y : Option Bool} (h1 : (if True then some false else x) = some b) (h2 : (if b = true then y else some false) = some r) : false = r := by
  obtain rfl : false = b := Option.some.inj h1
  exact Option.some.inj h2
def prevB (c : S41) (i : Nat) : Bool := if i = 0 then true else (rd_T44 c.f3 ((i - 1 : Nat) : Int)).f1
theorem rd_of_drop44 {xs : List S44} {i : Nat} {x : S44} {ys : List S44} (h : xs.drop i = x :: ys) : rd_T44 xs (i : Int) = x := by
  have h2 : xs[i]? = some x := by rw [← List.head?_drop, h]; rfl
  simp [rd_T44, List.getD, h2]
theorem prevB_succ {c : S41} {i : Nat} {x : S44} {ys : List S44} (h : c.f3.drop i = x :: ys) : prevB c (i + 1) = x.f1 := by
  unfold prevB; rw [if_neg (by omega), Nat.add_sub_cancel, rd_of_drop44 h]
theorem wrap_nat (j n : Nat) (h : j + 1 < n) (hn : n ≤ 9223372036854775807) : wrap64 (j : Int) = (j : Int) := by unfold wrap64; omega
set_option maxHeartbeats 8000000 in
set_option maxRecDepth 1000000 in
theorem core_text.calls (A0 : Option Addr) (l0 : List S41) (r : Bool) (w : World) (hL : LaidW w) (hr0 : Kd.C k41 w A0 l0.length l0) (h : core_text.f l0 = some r) :
    Calls Tryd.prog 36 #[.pointer A0] w fun e w' => e = .returned (.bool r) ∧ Below w.heap.size w w' := by
  obtain ⟨c, rfl⟩ : ∃ c, l0 = [c] := by
    unfold core_text.f at h; split at h
    · exact ⟨_, rfl⟩
    · exact absurd h (by simp)
  have HE := Aside0.mk h
  obtain ⟨ad, A2, c2, A3, c3, A4, c4, A5, c5, A6, c6, rfl, x0, x1, x2, x3, x4, x5, x6, l2, C2, l3, C3, l4, C4, l5, C5, l6, C6⟩ := at_T41 hr0 0 (by omega) (by simp)
  have hz : (ad.add ((0 : Int).toNat * 7)) = ad := by rw [show (0 : Int).toNat * 7 = 0 from rfl, Addr.add_zero']
  rw [hz] at x0 x1 x2 x3 x4 x5 x6
  have hc0 : rd_T41 [c] 0 = c := rfl
  rw [hc0] at x0 x1 x2 x3 x4 x5 x6 l3 C3
  clear h hr0 hz hc0 C2 C4 C5 C6 l2 l4 l5 l6
  have HC3 := Aside0.mk C3
  have HX := Aside0.mk (And.intro x3 (And.intro x4 x5))
  have HLD := Aside0.mk hL
  have HL3 := Aside0.mk l3
  clear hL C3 l3 x0 x1 x2 x4 x5 x6
  obtain ⟨b, hb, hbr⟩ := Option.bind_eq_some_iff.mp (show (textL true c.f3).bind _ = some r from HE.out)
  have HT := Aside0.mk hb
  have HBR := Aside0.mk hbr
  clear hb hbr HE
  go_enter Tryd.func36, Tryd.ntmps36
  go_wp2
  clear x3
  go_loopg [10] c.f3.length (fun gf vv wx => ∃ (i : Nat), vv = .int .i64 (i : Int) ∧ Aside0 (Below w.heap.size w wx) ∧ Aside0 (textL (prevB c i) (c.f3.drop i) = some b) ∧ Aside0 (i + gf = c.f3.length))
  case atStart => exact ⟨0, rfl, ⟨Below.refl _ _⟩, HT, ⟨Nat.zero_add _⟩⟩
  case round =>
    obtain ⟨i, rfl, HB, HA, HG⟩ := hrel
    have y2 := pw_cell_below HB.out HX.out.1
    by_cases hi : i < c.f3.length
    · obtain ⟨ae, a, x, e1, ha, hd, f0, fb, hal, cz⟩ := nth44 (Kd.C_below HC3.out HB.out) i hi
      subst e1
      have hA := HA.out
      have hi' : ((i : Int) < (c.f3.length : Int)) := cast_lt hi
      have hw := wrap_succ i _ hi (Kd.C_max HC3.out)
      obtain ⟨g', rfl⟩ : ∃ g', gk = g' + 1 := gk_pos HG.out hi
      have HP := Aside0.mk (prevB_succ hd)
      rw [hd] at hA
      obtain ⟨bad, hbad, hA2⟩ := Option.bind_eq_some_iff.mp (show (badPart (prevB c i) x).bind _ = some b from hA)
      have HA2 := Aside0.mk hA2
      have HCZ := Aside0.mk cz
      have HLZ := Aside0.mk (HLD.out.below HB.out)
      unfold badPart at hbad
      clear hA hA2 cz hd HA hal
      by_cases hbd : x.f1 = true
      · rw [hbd] at fb
        rw [if_pos hbd] at hbad
        by_cases hpl : x.f0.toList = []
        · have hp1 : (x.f0.toList == ([] : List UInt8)) = true := beq_iff_eq.mpr hpl
          have hp2 : (x.f0.toList != ([] : List UInt8)) = false := bne_eq_false_iff_eq.mpr hpl
          obtain rfl : false = bad := by rw [hp2] at hbad; exact Option.some.inj hbad
          clear hbad hpl
          go_wp2
          go_roundg g'
          case measure => exact Nat.lt_succ_self _
          case rel => exact ⟨i + 1, by rw [hw], HB, ⟨by rw [HP.out]; exact HA2.out⟩, ⟨gk_next HG.out⟩⟩
        · have hp1 : (x.f0.toList == ([] : List UInt8)) = false := beq_eq_false_iff_ne.mpr hpl
          have hp2 : (x.f0.toList != ([] : List UInt8)) = true := bne_iff_ne.mpr hpl
          obtain rfl : true = bad := by rw [hp2] at hbad; exact Option.some.inj hbad
          clear hbad hpl
          go_wp2
          go_ret
          obtain rfl := badR HA2.out HBR.out
          exact ⟨rfl, HB.out⟩
      · have hbf : x.f1 = false := by simpa using hbd
        rw [hbf] at fb
        rw [if_neg hbd] at hbad
        by_cases hpl : x.f0.toList = []
        · have hp1 : (x.f0.toList == ([] : List UInt8)) = true := beq_iff_eq.mpr hpl
          have hp2 : (x.f0.toList != ([] : List UInt8)) = false := bne_eq_false_iff_eq.mpr hpl
          obtain rfl : true = bad := by rw [if_pos hpl] at hbad; exact Option.some.inj hbad
          clear hbad hpl
          go_wp2
          go_ret
          obtain rfl := badR HA2.out HBR.out
          exact ⟨rfl, HB.out⟩
        · have hp1 : (x.f0.toList == ([] : List UInt8)) = false := beq_eq_false_iff_ne.mpr hpl
          have hp2 : (x.f0.toList != ([] : List UInt8)) = true := bne_iff_ne.mpr hpl
          rw [if_neg hpl] at hbad
          obtain ⟨v, hv, hbad2⟩ := Option.bind_eq_some_iff.mp hbad
          have HV := Aside0.mk hv
          clear hbad hpl hv
          cases v with
          | false =>
            obtain rfl : true = bad := Option.some.inj hbad2
            clear hbad2
            go_wp2_with (go_at_call 42; (refine (shape_Valid.calls x.f0 false _ HLZ.out HV.out).mono ?_); rintro e w1 ⟨rfl, hb1⟩)
            go_ret
            obtain rfl := badR HA2.out HBR.out
            exact ⟨rfl, HB.out.trans (hb1.mono HB.out.size)⟩
          | true =>
            obtain ⟨z, hz, hbad3⟩ := Option.bind_eq_some_iff.mp (show (shape_Zero.f [x.f2]).bind _ = some bad from hbad2)
            have HZ := Aside0.mk hz
            clear hbad2 hz
            cases z with
            | false =>
              obtain rfl : true = bad := Option.some.inj hbad3
              clear hbad3
              go_wp2_with (first | (go_at_call 42; (refine (shape_Valid.calls x.f0 true _ HLZ.out HV.out).mono ?_); rintro e w1 ⟨rfl, hb1⟩) | (go_at_call 43; (refine (shape_Zero.calls _ [x.f2] false _ (Kd.C_below HCZ.out hb1) HZ.out).mono ?_); rintro e w2 ⟨rfl, ⟨nd, rfl⟩⟩))
              go_ret
              obtain rfl := badR HA2.out HBR.out
              exact ⟨rfl, pw_below_drewN (HB.out.trans (hb1.mono HB.out.size)) _⟩
            | true =>
              obtain hbad4 : (!prevB c i) = bad := Option.some.inj hbad3
              clear hbad3
              cases i with
              | zero =>
                obtain rfl : false = bad := hbad4
                go_wp2_with (first | (go_at_call 42; (refine (shape_Valid.calls x.f0 true _ HLZ.out HV.out).mono ?_); rintro e w1 ⟨rfl, hb1⟩) | (go_at_call 43; (refine (shape_Zero.calls _ [x.f2] true _ (Kd.C_below HCZ.out hb1) HZ.out).mono ?_); rintro e w2 ⟨rfl, ⟨nd, rfl⟩⟩))
                go_roundg g'
                case measure => exact Nat.lt_succ_self _
                case rel => exact ⟨0 + 1, rfl, ⟨pw_below_drewN (HB.out.trans (hb1.mono HB.out.size)) _⟩, ⟨by rw [HP.out]; exact HA2.out⟩, ⟨gk_next HG.out⟩⟩
              | succ j =>
                have hj1 := wrap_nat j _ hi (Kd.C_max HC3.out)
                have hj2 : decide (((j + 1 : Nat) : Int) > 0) = true := decide_eq_true (by omega)
                have hj3 : (j : Int) < (c.f3.length : Int) := cast_lt (Nat.lt_of_succ_lt hi)
                obtain ⟨ae2, a2, x2, e2, ha2, hd2, f20, f2b, hal2, cz2⟩ := nth44 (Kd.C_below HC3.out HB.out) j (Nat.lt_of_succ_lt hi)
                obtain rfl : ae = ae2 := Option.some.inj e2
                have hpv : prevB c (j + 1) = x2.f1 := prevB_succ hd2
                rw [hpv] at hbad4
                have F2B := Aside0.mk f2b
                have Y2 := Aside0.mk y2
                clear hpv e2 hd2 f20 hal2 cz2 f2b
                by_cases hpb : x2.f1 = true
                · obtain rfl : false = bad := by rw [hpb] at hbad4; exact hbad4
                  have F2C := Aside0.mk (hpb ▸ F2B.out)
                  clear hbad4 hpb F2B
                  go_wp2_with (first | (go_at_call 42; (refine (shape_Valid.calls x.f0 true _ HLZ.out HV.out).mono ?_); rintro e w1 ⟨rfl, hb1⟩) | (go_at_call 43; (refine (shape_Zero.calls _ [x.f2] true _ (Kd.C_below HCZ.out hb1) HZ.out).mono ?_); rintro e w2 ⟨rfl, ⟨nd, rfl⟩⟩; (have z1 := pw_cell_below hb1 Y2.out); (have z2 := pw_cell_below hb1 F2C.out)))
                  go_roundg g'
                  case measure => exact Nat.lt_succ_self _
                  case rel => exact ⟨j + 1 + 1, by rw [← hw]; rfl, ⟨pw_below_drewN (HB.out.trans (hb1.mono HB.out.size)) _⟩, ⟨by rw [HP.out]; exact HA2.out⟩, ⟨gk_next HG.out⟩⟩
                · have hpf : x2.f1 = false := by simpa using hpb
                  obtain rfl : true = bad := by rw [hpf] at hbad4; exact hbad4
                  have F2C := Aside0.mk (hpf ▸ F2B.out)
                  clear hbad4 hpb hpf F2B
                  go_wp2_with (first | (go_at_call 42; (refine (shape_Valid.calls x.f0 true _ HLZ.out HV.out).mono ?_); rintro e w1 ⟨rfl, hb1⟩) | (go_at_call 43; (refine (shape_Zero.calls _ [x.f2] true _ (Kd.C_below HCZ.out hb1) HZ.out).mono ?_); rintro e w2 ⟨rfl, ⟨nd, rfl⟩⟩; (have z1 := pw_cell_below hb1 Y2.out); (have z2 := pw_cell_below hb1 F2C.out)))
                  go_ret
                  obtain rfl := badR HA2.out HBR.out
                  exact ⟨rfl, pw_below_drewN (HB.out.trans (hb1.mono HB.out.size)) _⟩
    · have hnil : c.f3.drop i = [] := drop_end hi
      have hi' : ¬ ((i : Int) < (c.f3.length : Int)) := cast_nlt hi
      have hA := HA.out
      rw [hnil] at hA
      obtain rfl : true = b := Option.some.inj hA
      have y4 := pw_cell_below HB.out HX.out.2.1
      have y5 := pw_cell_below HB.out HX.out.2.2
      have hr : (decide (0 < c.f3.length) && decide (c.f4.length = 0) && decide (c.f5.length = 0)) = r := Option.some.inj HBR.out
      have HR := Aside0.mk hr
      clear hr hA hnil HA
      by_cases g3 : 0 < c.f3.length <;> by_cases g4 : c.f4.length = 0 <;> by_cases g5 : c.f5.length = 0
      all_goals
        have G := Aside0.mk (And.intro g3 (And.intro g4 g5))
        have g3' : decide ((c.f3.length : Int) > 0) = decide (0 < c.f3.length) := decide_eq_decide.mpr (by omega)
        have g4' : ((c.f4.length : Int) == 0) = decide (c.f4.length = 0) := by rw [Bool.eq_iff_iff]; simp
        have g5' : ((c.f5.length : Int) == 0) = decide (c.f5.length = 0) := by rw [Bool.eq_iff_iff]; simp
        go_wp2
        go_ret
        refine ⟨congrArg (fun z => Ending.returned (Value.bool z)) (Eq.trans ?_ HR.out), HB.out⟩
        simp [G.out.1, G.out.2.1, G.out.2.2]

/-! ### utf_Tag: function 44 -/
def utf_Tag.f (k : Nat) (a0 : ByteArray) : Option (Bool) := (utf_spelt.f k a0 45).bind fun t124 => (some t124)
theorem utf_Tag.mono : ∀ a0 k, LeO (utf_Tag.f k a0) (utf_Tag.f (k + 1) a0) := by
  intro a0 k
  unfold utf_Tag.f
  repeat' first
      | (with_reducible exact utf_spelt.mono _ _ _)
      | (with_reducible exact LeO.refl _)
      | (with_reducible exact LeO.none _)
      | (with_reducible refine LeO.ite ?_ ?_)
      | (with_reducible refine LeO.bind ?_ (fun _ => ?_))
      | exact utf_spelt.mono _ _ _
      | exact LeO.none _
      | refine LeO.ite ?_ ?_
      | refine LeO.bind ?_ (fun _ => ?_)
set_option maxHeartbeats 8000000 in
set_option maxRecDepth 100000 in
theorem utf_Tag.calls (k : Nat) (a0 : ByteArray) (r : Bool) (w : World) (h : utf_Tag.f k a0 = some r) :
    Calls Tryd.prog 44 #[.string a0] w fun e w' => e = .returned (.bool r) ∧ Drawn0 w w' := by
  have H : ((utf_spelt.f k a0 45).bind fun t124 => (some t124)) = some r := h
  clear h
  replace H := Option.bind_eq_some_iff.mp H
  obtain ⟨t124, A20, H⟩ := H
  replace H : (some t124) = some r := H
  have A2 := Aside0.mk A20
  clear A20
  obtain rfl := Option.some.inj H
  go_enter Tryd.func44, Tryd.ntmps44
  go_wp2_with (first | ((with_reducible refine gate_callee (f := 52) rfl ?_); refine goesL_ (some 4) rfl rfl Tryd.func52 (by kernel_rfl) rfl #[.string a0, .int .u8 45] rfl (by (try simp only [List.map_toArray, List.map_cons, List.map_nil]); first | done | rfl | (simp only [List.length_drop, List.length_take]; rfl)) ?_; (with_reducible refine (utf_spelt.calls k a0 45 t124 _ A2.out).mono ?_); rintro e w' ⟨rfl, ⟨nd, rfl⟩⟩; refine ⟨_, rfl, ?_⟩))
  go_ret
  exact ⟨by first | rfl | (simp; done) | (simp [*]; done), by repeat (first | exact Drawn0.refl _ | apply Drawn0.step)⟩

end Go.Proofs.YtncpknhmoakjmaaDoor.PCorePlaces
