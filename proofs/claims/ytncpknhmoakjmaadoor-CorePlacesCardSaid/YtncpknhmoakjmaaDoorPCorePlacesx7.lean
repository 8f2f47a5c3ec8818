-- Written by wip/tools/print2.py (a program of this session's, over the kit's print) out of the translation. Not trusted: Lean checks it.
import Derived.Test.YtncpknhmoakjmaaDoorPCorePlacesx0
import Derived.Test.YtncpknhmoakjmaaDoorPCorePlacesx3
namespace Go.Proofs.YtncpknhmoakjmaaDoor.PCorePlaces
open Go.RowKit Go.Proofs.YtncpknhmoakjmaaDoorW.PrintWords Go.Proofs.YtncpknhmoakjmaaDoorW.PrintLast Go.Proofs.YtncpknhmoakjmaaDoorW.PrintMore
attribute [local go_sem] max2_int min2_int max_two min_two max_three min_three max_four min_four   -- for this text's walks alone
set_option linter.unusedVariables false
set_option linter.unusedSimpArgs false

/-! ### shape_Expr: function 41: not printed -/
/-- How many kids an operation has; -1: it is none. -/
def kidsN (op : Int) : Int :=
  if 1 ≤ op ∧ op ≤ 6 then 0 else if op = 7 ∨ op = 9 ∨ op = 10 ∨ op = 11 then 1 else if op = 31 then 3 else if op = 8 ∨ (12 ≤ op ∧ op ≤ 30) then 2 else -1
set_option maxHeartbeats 2000000 in
theorem shape_kids.calls (a0 : Int) (w : World) : Calls Tryd.prog 46 #[.int .i64 a0] w fun e w' => e = .returned (.int .i64 (kidsN a0)) ∧ w' = w := by
  go_enter Tryd.func46, Tryd.ntmps46
  go_wp2
  all_goals go_ret
  all_goals refine ⟨congrArg (fun z => Ending.returned (Value.int IntKind.i64 z)) ?_, rfl⟩
  all_goals (unfold kidsN; (repeat' split) <;> first | rfl | (exfalso; simp at *; omega) | (simp at *; omega))
theorem Box.setOther {w : World} {b : Nat} {v : Value} (h : Box w b v) {a : Nat} (u : Value) (hne : a ≠ b) : Box (w.setCell ⟨a, 0, none⟩ u) b v := by
  obtain ⟨ty, e⟩ := h; exact ⟨ty, by rw [Below.heap_setCell _ _ _ _ (fun h => hne h.symm)]; exact e⟩
/-- May an expression that is resolved be, by itself? -/
def fineOf (k : Nat) (e : S35) : Option Bool :=
  if e.f0 = 4 then some (decide (0 ≤ e.f1) && e.f2.toList.isEmpty)
  else if e.f0 = 9 then some (decide (1 ≤ e.f1) && decide (e.f1 ≤ 8) && e.f2.toList.isEmpty)
  else if e.f0 = 5 then (if e.f1 = 0 then (shape_Valid.f e.f2).bind fun v => if v = true then some true else shape_said.f e.f2 else some false)
  else if e.f0 = 6 then some e.f2.toList.isEmpty
  else if e.f0 = 7 then (if e.f1 = 0 then utf_Name.f k e.f2 else some false)
  else some ((e.f1 == 0) && e.f2.toList.isEmpty)
def kidsF (g : List S35 → Int → Option (Bool × Int)) : List S35 → Bool → Int → Option (Bool × Int)
  | [], b, c => some (b, c)
  | x :: xs, b, c => if b = true then (g [x] c).bind fun z => kidsF g xs z.1 z.2 else kidsF g xs false c
def formedF : Nat → List S35 → Int → Int → Option (Bool × Int)
  | 0, _, _, _ => none
  | k + 1, l0, c, m =>
    match l0 with
    | [e] => if m < wrap64 (c + 1) then some (false, wrap64 (c + 1)) else if kidsN e.f0 = (e.f3.length : Int) then
        (fineOf k e).bind fun b => kidsF (fun l c => formedF k l c m) e.f3 b (wrap64 (c + 1)) else some (false, wrap64 (c + 1))
    | _ => none
theorem formedF_one {k : Nat} {l0 : List S35} {c m : Int} {r : Bool × Int} (h : formedF (k + 1) l0 c m = some r) : ∃ e, l0 = [e] := by
  unfold formedF at h; split at h
  · exact ⟨_, rfl⟩
  · exact absurd h (by simp)
theorem below_cellA {B : Nat} {a w : World} (h : Below B a w) {b : Nat} (hb : B ≤ b) (u : Value) : Below B a (w.setCell ⟨b, 0, none⟩ u) := h.setCell hb u

set_option maxHeartbeats 8000000 in
set_option maxRecDepth 1000000 in
theorem expr_formed.calls (k : Nat) : ∀ (A0 : Option Addr) (l0 : List S35) (c m c' : Int) (r : Bool) (bc bm br bf : Nat) (w0 w : World) (hL : LaidW w0) (hb : Below w0.heap.size w0 w) (hr0 : Kd.C k35 w0 A0 l0.length l0)
    (hbc : w0.heap.size ≤ bc) (hne : bc ≠ bm ∧ bc ≠ br ∧ bc ≠ bf) (X1 : Box w bc (.int .i64 c)) (X2 : Box w bm (.int .i64 m)) (X3 : Box w br (.bool true))
    (X4 : Box w bf (.func (.func 45) #[] #[.pointer (some ⟨bc, 0, none⟩), .pointer (some ⟨bm, 0, none⟩), .pointer (some ⟨br, 0, none⟩), .pointer (some ⟨bf, 0, none⟩)])) (h : formedF k l0 c m = some (r, c')),
    Calls Tryd.prog 45 #[.pointer A0, .pointer (some ⟨bc, 0, none⟩), .pointer (some ⟨bm, 0, none⟩), .pointer (some ⟨br, 0, none⟩), .pointer (some ⟨bf, 0, none⟩)] w
      fun e w' => e = .returned (.bool r) ∧ Only (· = bc) w w' ∧ Box w' bc (.int .i64 c') := by
  induction k with
  | zero => intro _ _ _ _ _ _ _ _ _ _ _ _ _ _ _ _ _ _ _ _ _ h; simp [formedF] at h
  | succ k ih =>
    intro A0 l0 c m c' r bc bm br bf w0 w hL hb hr0 hbc hne X1 X2 X3 X4 h
    obtain ⟨e, rfl⟩ := formedF_one h
    obtain ⟨ad, A3, c3, rfl, y0, y1, y2, y3, lz, cz⟩ := at_T35 hr0 0 (by omega) (by simp)
    have hz : (ad.add ((0 : Int).toNat * 4)) = ad := by rw [show (0 : Int).toNat * 4 = 0 from rfl, Addr.add_zero']
    have hc0 : rd_T35 [e] 0 = e := rfl
    rw [hz, hc0] at y0 y1 y2 y3
    rw [hc0] at cz lz
    have HY := Aside0.mk (And.intro y0 (And.intro y1 (And.intro y2 y3)))
    have HL := Aside0.mk hL
    have HB0 := Aside0.mk hb
    have HCZ := Aside0.mk cz
    have HBC := Aside0.mk (And.intro hbc hne)
    have HX := Aside0.mk (And.intro X2 (And.intro X3 X4))
    have HX1 := Aside0.mk X1
    have H : (if m < wrap64 (c + 1) then some (false, wrap64 (c + 1)) else if kidsN e.f0 = (e.f3.length : Int) then
        (fineOf k e).bind fun b => kidsF (fun l c => formedF k l c m) e.f3 b (wrap64 (c + 1)) else some (false, wrap64 (c + 1))) = some (r, c') := h
    have HE := Aside0.mk H
    have IH := Aside0.mk ih
    have q1 := X1.cell
    have q2 := X1.unfrozen
    clear hz hc0 y0 y1 y2 y3 lz cz hL hb hbc hne X1 X2 X3 X4 h H ih hr0
    go_enter Tryd.func45, Tryd.ntmps45
    go_upto_region 2 with (fail)
    have HO1 := Aside0.mk ((Only.refl (· = bc) w).setCell (p := ⟨bc, 0, none⟩) rfl (.int .i64 (wrap64 (c + 1))))
    have HXN := Aside0.mk (HX1.out.set (.int .i64 (wrap64 (c + 1))))
    have HX2 := Aside0.mk (And.intro (HX.out.1.setOther (.int .i64 (wrap64 (c + 1))) HBC.out.2.1) (And.intro (HX.out.2.1.setOther (.int .i64 (wrap64 (c + 1))) HBC.out.2.2.1) (HX.out.2.2.setOther (.int .i64 (wrap64 (c + 1))) HBC.out.2.2.2)))
    have HB1 := Aside0.mk (below_cellA HB0.out HBC.out.1 (.int .i64 (wrap64 (c + 1))))
    generalize wrap64 (c + 1) = c1 at HE HO1 HXN HX2 HB1 ⊢
    generalize w.setCell ⟨bc, 0, none⟩ (.int .i64 c1) = W1 at HO1 HXN HX2 HB1 ⊢
    clear HX HX1 q1 q2 HB0
    have q1 := HXN.out.cell
    have q2 := HX2.out.1.cell
    have z0 := pw_cell_below HB1.out HY.out.1
    have z3 := pw_cell_below HB1.out HY.out.2.2.2
    by_cases hm : m < c1
    · have hm' : decide (c1 > m) = true := decide_eq_true hm
      have hE := HE.out
      rw [if_pos hm] at hE
      injection hE with hE
      injection hE with hE1 hE2
      subst hE1 hE2
      clear hm HE
      go_region
      go_wp2
      go_ret
      exact ⟨rfl, HO1.out.drewN _, HXN.out⟩
    · have hm' : decide (c1 > m) = false := decide_eq_false hm
      have hE := HE.out
      rw [if_neg hm] at hE
      clear hm HE
      by_cases hk : kidsN e.f0 = (e.f3.length : Int)
      · have hk' : (kidsN e.f0 != (e.f3.length : Int)) = false := bne_eq_false_iff_eq.mpr hk
        rw [if_pos hk] at hE
        obtain ⟨b, hb, hE2⟩ := Option.bind_eq_some_iff.mp hE
        have HF := Aside0.mk hb
        have HE := Aside0.mk hE2
        clear hE hb hE2 hk
        go_region_held3 (fun w' => w'.cell? ⟨bc, 0, none⟩ = some (.int .i64 c1) ∧ w'.cell? ⟨bm, 0, none⟩ = some (.int .i64 m) ∧ w'.cell? ad = some (.int .i64 e.f0) ∧ w'.cell? ⟨ad.block, ad.off + 3, none⟩ = some (.slice A3 e.f3.length c3)) (go_keep) ((go_at_call 46; (refine (shape_kids.calls _ _).mono ?_); rintro e w' ⟨rfl, rfl⟩))
        go_upto_region 4 with (fail)
        have HO2 := Aside0.mk (show Only (· = bc) w W1.drew from HO1.out.drewN 1)
        have HXN2 := Aside0.mk (show Box W1.drew bc (.int .i64 c1) from HXN.out)
        have HX3 := Aside0.mk (show Box W1.drew bm (.int .i64 m) ∧ Box W1.drew br (.bool true) ∧ Box W1.drew bf (.func (.func 45) #[] #[.pointer (some ⟨bc, 0, none⟩), .pointer (some ⟨bm, 0, none⟩), .pointer (some ⟨br, 0, none⟩), .pointer (some ⟨bf, 0, none⟩)]) from HX2.out)
        have HB2 := Aside0.mk (show Below w0.heap.size w0 W1.drew from HB1.out.drew)
        generalize W1.drew = W2 at HO2 HXN2 HX3 HB2 ⊢
        clear HO1 HXN HX2 HB1 q1 q2 z0 z3 hm' hk'
        have z0 := pw_cell_below HB2.out HY.out.1
        have z1 := pw_cell_below HB2.out HY.out.2.1
        have z2 := pw_cell_below HB2.out HY.out.2.2.1
        go_cut [7] (fun v7 wx => v7 = .bool ((e.f1 == 0) && e.f2.toList.isEmpty) ∧ wx = W2)
        case first =>
          by_cases h1 : e.f1 = 0
          · have h1' : (e.f1 == 0) = true := beq_iff_eq.mpr h1
            go_wp2
            go_meet
            case rel => exact ⟨by rw [h1']; rfl, rfl⟩
          · have h1' : (e.f1 == 0) = false := beq_eq_false_iff_ne.mpr h1
            go_wp2
            go_meet
            case rel => exact ⟨by rw [h1']; rfl, rfl⟩
        case rest =>
          obtain ⟨rfl, rfl⟩ := hcut
          go_upto_block 0 with (fail)
          go_cut [7, 42] (fun v7 v42 wx => v7 = .bool b ∧ v42 = .int .i64 e.f0 ∧ Below wc.heap.size wc wx)
          case first =>
            have HR := Aside0.mk (HX3.out.2.1.cell)
            have HLc := Aside0.mk (HL.out.below HB2.out)
            have hF := HF.out
            unfold fineOf at hF
            by_cases h4 : e.f0 = 4
            · obtain rfl : (decide (0 ≤ e.f1) && e.f2.toList.isEmpty) = b := by rw [if_pos h4] at hF; exact Option.some.inj hF
              clear hF HF
              by_cases h1 : 0 ≤ e.f1
              · have h1' : decide (e.f1 ≥ 0) = true := decide_eq_true h1
                have h1'' : decide (0 ≤ e.f1) = true := decide_eq_true h1
                go_wp2
                go_meet
                case rel => exact ⟨by rw [h1'']; rfl, by rw [h4], Below.refl _ _⟩
              · have h1' : decide (e.f1 ≥ 0) = false := decide_eq_false h1
                have h1'' : decide (0 ≤ e.f1) = false := decide_eq_false h1
                go_wp2
                go_meet
                case rel => exact ⟨by rw [h1'']; rfl, by rw [h4], Below.refl _ _⟩
            · rw [if_neg h4] at hF
              have h4' : (e.f0 == 4) = false := beq_eq_false_iff_ne.mpr h4
              by_cases h9 : e.f0 = 9
              · rw [if_pos h9] at hF
                obtain rfl := Option.some.inj hF
                clear hF HF h4
                have hlen : callWords.length = 8 := rfl
                by_cases h1 : 1 ≤ e.f1
                · have h1' : decide (e.f1 ≥ 1) = true := decide_eq_true h1
                  have h1'' : decide (1 ≤ e.f1) = true := decide_eq_true h1
                  by_cases h8 : e.f1 ≤ 8
                  · have h8' : decide (e.f1 ≤ 8) = true := decide_eq_true h8
                    go_upto_region 9 with (fail)
                    go_region_held3 (fun w' => w'.cell? ⟨ad.block, ad.off + 1, none⟩ = some (.int .i64 e.f1) ∧ w'.cell? ⟨ad.block, ad.off + 2, none⟩ = some (.string e.f2)) (first | go_keep | (constructor <;> (refine pw_cell_below (by assumption) ?_; simp [*]))) ((go_at_call 47; (refine (shape_Calls.calls callWords _ ?hl rfl).mono ?_); (case hl => exact HLc.out.below (by first | exact below_drew (Below.refl _ _) | exact Below.refl _ _)); rintro e w1 ⟨v0, rfl, hR, hb1⟩; obtain ⟨A9, c9, rfl⟩ := Kd.R_slice hR; clear hR))
                    go_wp2
                    go_meet
                    case rel => exact ⟨by rw [h1'', h8']; rfl, by rw [h9], (below_drew (Below.refl _ _)).trans (Below.mono (by assumption) (by first | exact Nat.le_refl _ | exact (below_drew (Below.refl _ _)).size))⟩
                  · have h8' : decide (e.f1 ≤ 8) = false := decide_eq_false h8
                    go_upto_region 9 with (fail)
                    have Z1 := Aside0.mk z1
                    first | (go_region_with ((go_at_call 47; (refine (shape_Calls.calls callWords _ ?hl rfl).mono ?_); (case hl => exact HLc.out.below (by first | exact below_drew (Below.refl _ _) | exact Below.refl _ _)); rintro e w1 ⟨v0, rfl, hR, hb1⟩; (obtain ⟨A9, c9, rfl⟩ := Kd.R_slice hR); clear hR; (have z9 := pw_cell_below hb1 Z1.out)))) | fail
                    all_goals (go_wp2; go_meet; (case rel => exact ⟨by rw [h1'', h8']; rfl, by rw [h9], (below_drew (Below.refl _ _)).trans (Below.mono (by assumption) (by first | exact Nat.le_refl _ | exact (below_drew (Below.refl _ _)).size))⟩))
                · have h1' : decide (e.f1 ≥ 1) = false := decide_eq_false h1
                  have h1'' : decide (1 ≤ e.f1) = false := decide_eq_false h1
                  go_upto_region 9 with (fail)
                  go_region
                  go_wp2
                  go_meet
                  case rel => exact ⟨by rw [h1'']; rfl, by rw [h9], below_drew (Below.refl _ _)⟩
              · rw [if_neg h9] at hF
                have h9' : (e.f0 == 9) = false := beq_eq_false_iff_ne.mpr h9
                by_cases h5 : e.f0 = 5
                · rw [if_pos h5] at hF
                  have hr1 := HR.out
                  by_cases h1 : e.f1 = 0
                  · have h1' : (e.f1 == 0) = true := beq_iff_eq.mpr h1
                    rw [if_pos h1] at hF
                    obtain ⟨v, hv, hF2⟩ := Option.bind_eq_some_iff.mp hF
                    have HV := Aside0.mk hv
                    clear hF HF hv h4 h9
                    cases v with
                    | true =>
                      obtain rfl : true = b := Option.some.inj hF2
                      clear hF2
                      go_wp2_with (go_at_call 42; (refine (shape_Valid.calls e.f2 true _ HLc.out HV.out).mono ?_); rintro e w1 ⟨rfl, hb1⟩)
                      go_meet
                      case rel => exact ⟨rfl, by rw [h5], hb1⟩
                    | false =>
                      have HS := Aside0.mk (show shape_said.f e.f2 = some b from hF2)
                      have Z2 := Aside0.mk z2
                      clear hF2
                      go_wp2_with (first | (go_at_call 42; (refine (shape_Valid.calls e.f2 false _ HLc.out HV.out).mono ?_); rintro e w1 ⟨rfl, hb1⟩; (have z9 := pw_cell_below hb1 Z2.out); (have HLd := Aside0.mk (HLc.out.below hb1))) | (go_at_call 48; (refine (shape_said.calls _ b _ HLd.out HS.out).mono ?_); rintro e w2 ⟨rfl, hb2⟩))
                      go_meet
                      case rel => exact ⟨rfl, by rw [h5], hb1.trans (hb2.mono hb1.size)⟩
                  · have h1' : (e.f1 == 0) = false := beq_eq_false_iff_ne.mpr h1
                    rw [if_neg h1] at hF
                    obtain rfl := Option.some.inj hF
                    clear hF HF h4 h9
                    go_wp2
                    go_meet
                    case rel => exact ⟨rfl, by rw [h5], Below.refl _ _⟩
                · rw [if_neg h5] at hF
                  have h5' : (e.f0 == 5) = false := beq_eq_false_iff_ne.mpr h5
                  by_cases h6 : e.f0 = 6
                  · rw [if_pos h6] at hF
                    have hr1 := HR.out
                    obtain rfl := Option.some.inj hF
                    clear hF HF h4 h9 h5
                    go_wp2
                    go_meet
                    case rel => exact ⟨rfl, by rw [h6], Below.refl _ _⟩
                  · rw [if_neg h6] at hF
                    have h6' : (e.f0 == 6) = false := beq_eq_false_iff_ne.mpr h6
                    by_cases h7 : e.f0 = 7
                    · rw [if_pos h7] at hF
                      by_cases h1 : e.f1 = 0
                      · have h1' : (e.f1 == 0) = true := beq_iff_eq.mpr h1
                        rw [if_pos h1] at hF
                        have HN := Aside0.mk hF
                        clear hF HF h4 h9 h5 h6
                        go_wp2_with (go_at_call 49; (refine (utf_Name.calls k e.f2 b _ HN.out).mono ?_); rintro e w1 ⟨rfl, hb1⟩)
                        go_meet
                        case rel => exact ⟨rfl, by rw [h7], hb1.below⟩
                      · have h1' : (e.f1 == 0) = false := beq_eq_false_iff_ne.mpr h1
                        rw [if_neg h1] at hF
                        obtain rfl := Option.some.inj hF
                        clear hF HF h4 h9 h5 h6
                        go_wp2
                        go_meet
                        case rel => exact ⟨rfl, by rw [h7], Below.refl _ _⟩
                    · rw [if_neg h7] at hF
                      have h7' : (e.f0 == 7) = false := beq_eq_false_iff_ne.mpr h7
                      obtain rfl := Option.some.inj hF
                      clear hF HF h4 h9 h5 h6 h7
                      go_wp2
                      go_meet
                      case rel => exact ⟨rfl, rfl, Below.refl _ _⟩
          case rest =>
            obtain ⟨rfl, rfl, hbc1⟩ := hcut
            have HO4 := Aside0.mk (HO2.out.trans (Only.of_below hbc1))
            have HXN4 := Aside0.mk (HXN2.out.below hbc1 HXN2.out.lt)
            have HB4 := Aside0.mk (HB2.out.trans (hbc1.mono HB2.out.size))
            have HX4 := Aside0.mk (And.intro (HX3.out.1.below hbc1 HX3.out.1.lt) (And.intro (HX3.out.2.1.below hbc1 HX3.out.2.1.lt) (HX3.out.2.2.below hbc1 HX3.out.2.2.lt)))
            clear hbc1 HO2 HXN2 HB2 HX3 HF
            have z3 := pw_cell_below HB4.out HY.out.2.2.2
            go_wp2
            clear z3
            go_loopg [7, 151] e.f3.length (fun gf v7 v151 wx => ∃ (i : Nat) (b' : Bool) (cn : Int), v7 = .bool b' ∧ v151 = .int .i64 (i : Int) ∧ Aside0 (Only (· = bc) w wx) ∧ Aside0 (Box wx bc (.int .i64 cn)) ∧ Aside0 (Below w0.heap.size w0 wx) ∧ Aside0 (Box wx bm (.int .i64 m) ∧ Box wx br (.bool true) ∧ Box wx bf (.func (.func 45) #[] #[.pointer (some ⟨bc, 0, none⟩), .pointer (some ⟨bm, 0, none⟩), .pointer (some ⟨br, 0, none⟩), .pointer (some ⟨bf, 0, none⟩)])) ∧ Aside0 (kidsF (fun l c => formedF k l c m) (e.f3.drop i) b' cn = some (r, c')) ∧ Aside0 (i + gf = e.f3.length))
            case atStart => exact ⟨0, b, c1, rfl, rfl, HO4, HXN4, HB4, HX4, HE, ⟨Nat.zero_add _⟩⟩
            case round =>
              obtain ⟨i, b', cn, rfl, rfl, HOi, HNi, HBi, HXi, HA, HG⟩ := hrel
              by_cases hi : i < e.f3.length
              · have hi' : ((i : Int) < (e.f3.length : Int)) := cast_lt hi
                have hw := wrap_succ i _ hi (Kd.C_max HCZ.out)
                obtain ⟨g', rfl⟩ : ∃ g', gk = g' + 1 := gk_pos HG.out hi
                obtain ⟨ae, a, x, A7, c7, e1, ha, hd, f0, f1, fb, f7, lz, cy, hal, cz⟩ := nth35 HCZ.out i hi
                subst e1
                have hA := HA.out
                rw [hd] at hA
                have HCX := Aside0.mk cz
                clear f0 f1 fb f7 lz cy hal cz hd HA
                cases b' with
                | false =>
                  have HA2 := Aside0.mk (show kidsF (fun l c => formedF k l c m) (e.f3.drop (i + 1)) false cn = some (r, c') from hA)
                  clear hA
                  go_upto_region 21 with (fail)
                  go_region
                  go_wp2
                  go_roundg g'
                  case measure => exact Nat.lt_succ_self _
                  case rel => exact ⟨i + 1, false, cn, rfl, by rw [hw], ⟨HOi.out.drewN 1⟩, HNi, ⟨HBi.out.drew⟩, HXi, HA2, ⟨gk_next HG.out⟩⟩
                | true =>
                  obtain ⟨⟨b2, c2⟩, hg, hA3⟩ := Option.bind_eq_some_iff.mp (show (formedF k [x] cn m).bind _ = some (r, c') from hA)
                  have HG2 := Aside0.mk hg
                  have HA2 := Aside0.mk hA3
                  clear hA hg hA3
                  have q4 := HXi.out.2.2.cell
                  have z3 := pw_cell_below HBi.out HY.out.2.2.2
                  go_upto_region 21 with (fail)
                  go_region_held3 (fun w' => w'.cell? ⟨bf, 0, none⟩ = some (.func (.func 45) #[] #[.pointer (some ⟨bc, 0, none⟩), .pointer (some ⟨bm, 0, none⟩), .pointer (some ⟨br, 0, none⟩), .pointer (some ⟨bf, 0, none⟩)]) ∧ w'.cell? ⟨ad.block, ad.off + 3, none⟩ = some (.slice (some ae) e.f3.length c3)) (go_keep) ((go_at_call 45; (refine (IH.out _ [x] cn m c2 b2 bc bm br bf w0 _ HL.out HBi.out.drew HCX.out HBC.out.1 HBC.out.2 HNi.out HXi.out.1 HXi.out.2.1 HXi.out.2.2 HG2.out).mono ?_); rintro e9 w9 ⟨rfl, ho9, hx9⟩; (have s1 := (HXi.out.2.2.only (w := wr.drew) ho9 (fun e => HBC.out.2.2.2 e.symm)).cell); (have s2 := pw_cell_below (Only.below HBi.out.drew ho9 HBi.out.size (fun k hk => hk ▸ HBC.out.1)) HY.out.2.2.2)))
                  go_wp2
                  go_roundg g'
                  case measure => exact Nat.lt_succ_self _
                  case rel => exact ⟨i + 1, b2, c2, rfl, by rw [hw], ⟨(HOi.out.drewN 1).trans ho9⟩, ⟨hx9⟩, ⟨Only.below HBi.out.drew ho9 HBi.out.size (fun k hk => hk ▸ HBC.out.1)⟩, ⟨⟨HXi.out.1.only (w := wr.drew) ho9 (fun e => HBC.out.2.1 e.symm), HXi.out.2.1.only (w := wr.drew) ho9 (fun e => HBC.out.2.2.1 e.symm), HXi.out.2.2.only (w := wr.drew) ho9 (fun e => HBC.out.2.2.2 e.symm)⟩⟩, HA2, ⟨gk_next HG.out⟩⟩
              · have hnil : e.f3.drop i = [] := drop_end hi
                have hi' : ¬ ((i : Int) < (e.f3.length : Int)) := cast_nlt hi
                have hA := HA.out
                rw [hnil] at hA
                injection (show some (b', cn) = some (r, c') from hA) with hA
                injection hA with h1 h2
                subst h1 h2
                clear hnil HA
                go_wp2
                go_ret
                exact ⟨rfl, HOi.out, HNi.out⟩
      · have hk' : (kidsN e.f0 != (e.f3.length : Int)) = true := bne_iff_ne.mpr hk
        rw [if_neg hk] at hE
        injection hE with hE
        injection hE with hE1 hE2
        subst hE1 hE2
        clear hk
        go_region_held3 (fun w' => w'.cell? ⟨bc, 0, none⟩ = some (.int .i64 c1) ∧ w'.cell? ⟨bm, 0, none⟩ = some (.int .i64 m) ∧ w'.cell? ad = some (.int .i64 e.f0) ∧ w'.cell? ⟨ad.block, ad.off + 3, none⟩ = some (.slice A3 e.f3.length c3)) (go_keep) ((go_at_call 46; (refine (shape_kids.calls _ _).mono ?_); rintro e w' ⟨rfl, rfl⟩))
        go_wp2
        go_ret
        exact ⟨rfl, HO1.out.drewN _, HXN.out⟩
/-- shape.Expr at 'resolved'. -/
def shape_Expr.f (k : Nat) (l0 : List S35) (a1 : Int) (a2 : Bool) : Option Bool := if a2 = true then (formedF k l0 0 a1).bind fun z => some z.1 else none
set_option maxHeartbeats 4000000 in
theorem shape_Expr.calls (k : Nat) (A0 : Option Addr) (l0 : List S35) (a1 : Int) (a2 : Bool) (r : Bool) (w : World) (hL : LaidW w) (hr0 : Kd.C k35 w A0 l0.length l0) (h : shape_Expr.f k l0 a1 a2 = some r) :
    Calls Tryd.prog 41 #[.pointer A0, .int .i64 a1, .bool a2] w fun e w' => e = .returned (.bool r) ∧ Below w.heap.size w w' := by
  unfold shape_Expr.f at h
  cases a2 with
  | false => rw [if_neg (by simp)] at h; cases h
  | true =>
    rw [if_pos rfl] at h
    obtain ⟨⟨b, c⟩, hf, hb⟩ := Option.bind_eq_some_iff.mp h
    obtain rfl : b = r := Option.some.inj hb
    have HF := Aside0.mk hf
    have HR := Aside0.mk hr0
    have HL := Aside0.mk hL
    clear h hb hf hr0 hL
    go_enter Tryd.func41, Tryd.ntmps41
    go_upto_region 4 with (fail)
    have B0 := Aside0.mk (Below.alloc' (Below.alloc' ((Below.refl w.heap.size w).alloc (Nat.le_refl _) (.cells #[.int .i64 a1] 3)) (Nat.le_refl _) (.cells #[.bool true] 4)) (Nat.le_refl _) (.cells #[.int .i64 0] 3))
    have M0 := Aside0.mk (((Box.new w (.int .i64 a1) 3).alloc (.cells #[.bool true] 4)).alloc (.cells #[.int .i64 0] 3))
    have R0 := Aside0.mk ((Box.new (w.alloc (.cells #[.int .i64 a1] 3)) (.bool true) 4).alloc (.cells #[.int .i64 0] 3))
    have C0 := Aside0.mk (Box.new ((w.alloc (.cells #[.int .i64 a1] 3)).alloc (.cells #[.bool true] 4)) (.int .i64 0) 3)
    have S0 := Aside0.mk (show (((w.alloc (.cells #[.int .i64 a1] 3)).alloc (.cells #[.bool true] 4)).alloc (.cells #[.int .i64 0] 3)).heap.size = w.heap.size + 1 + 1 + 1 from by simp)
    generalize ((w.alloc (.cells #[.int .i64 a1] 3)).alloc (.cells #[.bool true] 4)).alloc (.cells #[.int .i64 0] 3) = W3 at B0 M0 R0 C0 S0 ⊢
    have R1 := Aside0.mk (show Box W3 (w.heap.size + 1) (.bool true) from by have h := R0.out; simpa using h)
    have C1 := Aside0.mk (show Box W3 (w.heap.size + 1 + 1) (.int .i64 0) from by have h := C0.out; simpa using h)
    have F1 := Aside0.mk (show Box (W3.alloc (.cells #[(.func (.func 45) #[] #[.pointer (some ⟨w.heap.size + 1 + 1, 0, none⟩), .pointer (some ⟨w.heap.size, 0, none⟩), .pointer (some ⟨w.heap.size + 1, 0, none⟩), .pointer (some ⟨w.heap.size + 1 + 1 + 1, 0, none⟩)])] 78)) (w.heap.size + 1 + 1 + 1) (.func (.func 45) #[] #[.pointer (some ⟨w.heap.size + 1 + 1, 0, none⟩), .pointer (some ⟨w.heap.size, 0, none⟩), .pointer (some ⟨w.heap.size + 1, 0, none⟩), .pointer (some ⟨w.heap.size + 1 + 1 + 1, 0, none⟩)]) from by have h := Box.new W3 (.func (.func 45) #[] #[.pointer (some ⟨w.heap.size + 1 + 1, 0, none⟩), .pointer (some ⟨w.heap.size, 0, none⟩), .pointer (some ⟨w.heap.size + 1, 0, none⟩), .pointer (some ⟨w.heap.size + 1 + 1 + 1, 0, none⟩)]) 78; rw [S0.out] at h; exact h)
    have B1 := Aside0.mk (Below.alloc' B0.out (Nat.le_refl _) (.cells #[(.func (.func 45) #[] #[.pointer (some ⟨w.heap.size + 1 + 1, 0, none⟩), .pointer (some ⟨w.heap.size, 0, none⟩), .pointer (some ⟨w.heap.size + 1, 0, none⟩), .pointer (some ⟨w.heap.size + 1 + 1 + 1, 0, none⟩)])] 78))
    have M1 := Aside0.mk (M0.out.alloc (.cells #[(.func (.func 45) #[] #[.pointer (some ⟨w.heap.size + 1 + 1, 0, none⟩), .pointer (some ⟨w.heap.size, 0, none⟩), .pointer (some ⟨w.heap.size + 1, 0, none⟩), .pointer (some ⟨w.heap.size + 1 + 1 + 1, 0, none⟩)])] 78))
    have R2 := Aside0.mk (R1.out.alloc (.cells #[(.func (.func 45) #[] #[.pointer (some ⟨w.heap.size + 1 + 1, 0, none⟩), .pointer (some ⟨w.heap.size, 0, none⟩), .pointer (some ⟨w.heap.size + 1, 0, none⟩), .pointer (some ⟨w.heap.size + 1 + 1 + 1, 0, none⟩)])] 78))
    have C2 := Aside0.mk (C1.out.alloc (.cells #[(.func (.func 45) #[] #[.pointer (some ⟨w.heap.size + 1 + 1, 0, none⟩), .pointer (some ⟨w.heap.size, 0, none⟩), .pointer (some ⟨w.heap.size + 1, 0, none⟩), .pointer (some ⟨w.heap.size + 1 + 1 + 1, 0, none⟩)])] 78))
    generalize W3.alloc (.cells #[(.func (.func 45) #[] #[.pointer (some ⟨w.heap.size + 1 + 1, 0, none⟩), .pointer (some ⟨w.heap.size, 0, none⟩), .pointer (some ⟨w.heap.size + 1, 0, none⟩), .pointer (some ⟨w.heap.size + 1 + 1 + 1, 0, none⟩)])] 78) = W4 at F1 B1 M1 R2 C2 ⊢
    clear B0 M0 R0 C0 S0 R1 C1
    have f1 := F1.out.cell
    go_wp2_with (go_at_call 45; (refine (expr_formed.calls k A0 l0 0 a1 c b (w.heap.size + 1 + 1) w.heap.size (w.heap.size + 1) (w.heap.size + 1 + 1 + 1) w W4 HL.out B1.out HR.out (by omega) ⟨by omega, by omega, by omega⟩ C2.out M1.out R2.out F1.out HF.out).mono ?_); rintro e w1 ⟨rfl, ho1, hx1⟩)
    go_ret
    exact ⟨rfl, Only.below B1.out ho1 B1.out.size (fun k hk => hk ▸ (by omega))⟩

-- NOT PRINTED: function 32 (core_may)

/-! ### core_placed: function 33 -/
mutual
def core_placed.j0 : Nat → List (S35) → Int → Bool → Option (Bool)
  | 0, _, _, _ => none
  | k + 1, x0, x1, x25 => if x25 = true then (some false) else (if 0 < (x0.length : Int) then (core_placed.l0 k x0 x1 (((rd_T35 x0 0).f3).length : Int) 0) else (none))
def core_placed.l0 : Nat → List (S35) → Int → Int → Int → Option (Bool)
  | 0, _, _, _, _ => none
  | k + 1, x0, x1, x30, x31 => if x31 < x30 then (if 0 < (x0.length : Int) then (if 0 ≤ x31 then (if x31 < (((rd_T35 x0 0).f3).length : Int) then ((core_placed.f k [rd_T35 ((rd_T35 x0 0).f3) x31] x1).bind fun t130 => (if t130 = true then (core_placed.l0 k x0 x1 x30 (wrap64 (x31 + 1))) else (some false))) else (none)) else (none)) else (none)) else (some true)
def core_placed.f : Nat → List (S35) → Int → Option (Bool)
  | 0, _, _ => none
  | k + 1, l0, a1 => if 0 < (l0.length : Int) then (if ((rd_T35 l0 0).f0) = 6 then (if ((rd_T35 l0 0).f1) < 0 then (core_placed.j0 k l0 a1 true) else (core_placed.j0 k l0 a1 (decide (((rd_T35 l0 0).f1) ≥ a1)))) else (core_placed.j0 k l0 a1 false)) else (none)
end
theorem core_placed.mono_l : ∀ k, (∀ y0 y1, LeO (core_placed.f k y0 y1) (core_placed.f (k + 1) y0 y1)) ∧ (∀ y0 y1 y2, LeO (core_placed.j0 k y0 y1 y2) (core_placed.j0 (k + 1) y0 y1 y2)) ∧ (∀ y0 y1 y2 y3, LeO (core_placed.l0 k y0 y1 y2 y3) (core_placed.l0 (k + 1) y0 y1 y2 y3))
  | 0 => ⟨fun _ _ r h => by simp [core_placed.f] at h, fun _ _ _ r h => by simp [core_placed.j0] at h, fun _ _ _ _ r h => by simp [core_placed.l0] at h⟩
  | k + 1 => by
    obtain ⟨ih0, ih1, ih2⟩ := core_placed.mono_l k
    refine ⟨?_, ?_, ?_⟩
    · intro y0 y1
      unfold core_placed.f
      repeat' first
      | (with_reducible exact ih0 _ _)
      | (with_reducible exact ih1 _ _ _)
      | (with_reducible exact ih2 _ _ _ _)
      | (with_reducible exact LeO.refl _)
      | (with_reducible exact LeO.none _)
      | (with_reducible refine LeO.ite ?_ ?_)
      | (with_reducible refine LeO.bind ?_ (fun _ => ?_))
      | exact ih0 _ _
      | exact ih1 _ _ _
      | exact ih2 _ _ _ _
      | exact LeO.none _
      | refine LeO.ite ?_ ?_
      | refine LeO.bind ?_ (fun _ => ?_)
    · intro y0 y1 y2
      unfold core_placed.j0
      repeat' first
      | (with_reducible exact ih0 _ _)
      | (with_reducible exact ih1 _ _ _)
      | (with_reducible exact ih2 _ _ _ _)
      | (with_reducible exact LeO.refl _)
      | (with_reducible exact LeO.none _)
      | (with_reducible refine LeO.ite ?_ ?_)
      | (with_reducible refine LeO.bind ?_ (fun _ => ?_))
      | exact ih0 _ _
      | exact ih1 _ _ _
      | exact ih2 _ _ _ _
      | exact LeO.none _
      | refine LeO.ite ?_ ?_
      | refine LeO.bind ?_ (fun _ => ?_)
    · intro y0 y1 y2 y3
      unfold core_placed.l0
      repeat' first
      | (with_reducible exact ih0 _ _)
      | (with_reducible exact ih1 _ _ _)
      | (with_reducible exact ih2 _ _ _ _)
      | (with_reducible exact LeO.refl _)
      | (with_reducible exact LeO.none _)
      | (with_reducible refine LeO.ite ?_ ?_)
      | (with_reducible refine LeO.bind ?_ (fun _ => ?_))
      | exact ih0 _ _
      | exact ih1 _ _ _
      | exact ih2 _ _ _ _
      | exact LeO.none _
      | refine LeO.ite ?_ ?_
      | refine LeO.bind ?_ (fun _ => ?_)
theorem core_placed.mono : ∀ a0 a1 k, LeO (core_placed.f k a0 a1) (core_placed.f (k + 1) a0 a1) := by
  intro a0 a1 k
  obtain ⟨ih0, ih1, ih2⟩ := core_placed.mono_l k
  exact ih0 a0 a1
set_option maxHeartbeats 8000000 in
set_option maxRecDepth 100000 in
theorem core_placed.calls (k : Nat) : ∀ (A0 : Option Addr) (l0 : List (S35)) (a1 : Int) (r : Bool) (w : World) (hr0 : Kd.C k35 w A0 l0.length l0) (h : core_placed.f k l0 a1 = some r),
    Calls Tryd.prog 33 #[.pointer A0, .int .i64 a1] w fun e w' => e = .returned (.bool r) ∧ Drawn0 w w' := by
  induction k using Nat.strongRecOn with
  | _ k ih =>
  intro A0 l0 a1 r w hr0 h
  cases k with
  | zero => exact absurd h (by simp [core_placed.f])
  | succ k =>
  simp only [core_placed.f] at h
  have HR0 := Aside0.mk hr0
  clear hr0
  have H : (if 0 < (l0.length : Int) then (if ((rd_T35 l0 0).f0) = 6 then (if ((rd_T35 l0 0).f1) < 0 then (core_placed.j0 k l0 a1 true) else (core_placed.j0 k l0 a1 (decide (((rd_T35 l0 0).f1) ≥ a1)))) else (core_placed.j0 k l0 a1 false)) else (none)) = some r := h
  clear h
  have HC3 := Aside0.mk H
  clear H
  go_enter Tryd.func33, Tryd.ntmps33
  go_upto_region 1 with (fail)
  go_cut [25] (fun v25 wc => ∃ (kq : Nat) (x25_2 : Bool), v25 = .bool x25_2 ∧ Aside0 (core_placed.j0 kq l0 a1 x25_2 = some r) ∧ Aside0 (kq ≤ k) ∧ Drawn0 w wc)
  case first =>
    have H := HC3.out
    clear HC3
    by_cases c4 : 0 < (l0.length : Int)
    · rw [if_pos c4] at H
      have c4b0 : decide (0 < (l0.length : Int)) = true := decide_eq_true c4
      have c4b1 : decide (0 < l0.length) = true := decide_eq_true (by omega)
      clear c4
      (first | rw [c4b0] | (simp only [i64_w, i32_w]; rw [c4b0]) | skip)
      by_cases c5 : ((rd_T35 l0 0).f0) = 6
      · rw [if_pos c5] at H
        have c5b0 : (((rd_T35 l0 0).f0) == 6) = true := beq_iff_eq.mpr c5
        have c5b1 : (((rd_T35 l0 0).f0) != 6) = false := bne_eq_false_iff_eq.mpr c5
        clear c5
        by_cases c6 : ((rd_T35 l0 0).f1) < 0
        · rw [if_pos c6] at H
          have c6b0 : decide (((rd_T35 l0 0).f1) < 0) = true := decide_eq_true c6
          clear c6
          have H' := Aside0.mk H
          clear H
          have p125 : 0 ≤ (0 : Int) := (by omega)
          have q125 : 0 < (l0.length : Int) := of_decide_eq_true (by first | (with_reducible assumption) | assumption)
          obtain ⟨ad125, A125_3, c125_3, e125, hx125_0, hx125_1, hx125_2, hx125_3, hl125_3, hi125_3⟩ := at_T35 HR0.out 0 p125 q125
          cases e125
          have HXR125_3 := Aside0.mk hx125_3
          have qi125 : (0 < l0.length) = True := eq_true (by omega)
          (try rw [show ((0 : Int)).toNat = 0 from rfl] at hx125_0)
          (try rw [show 0 * 4 = 0 from rfl] at hx125_0)
          (try rw [Addr.add_zero'] at hx125_0)
          (try rw [show ((0 : Int)).toNat = 0 from rfl] at hx125_1)
          (try rw [show 0 * 4 = 0 from rfl] at hx125_1)
          (try rw [Addr.add_zero'] at hx125_1)
          (try rw [show ((0 : Int)).toNat = 0 from rfl] at hx125_2)
          (try rw [show 0 * 4 = 0 from rfl] at hx125_2)
          (try rw [Addr.add_zero'] at hx125_2)
          (try rw [show ((0 : Int)).toNat = 0 from rfl] at hx125_3)
          (try rw [show 0 * 4 = 0 from rfl] at hx125_3)
          (try rw [Addr.add_zero'] at hx125_3)
          have HR125_3 := Aside0.mk hi125_3
          have HC125_3 := Aside0.mk hl125_3
          clear hi125_3 hl125_3
          replace p125 := eq_true p125
          replace q125 := eq_true q125
          go_wp2
          go_meet
          case rel => exact ⟨_, (true), (by first | rfl | (simp; done) | (simp [*]; done)), H', ⟨by first | omega | exact Nat.le_refl _⟩, by repeat (first | exact Drawn0.refl _ | apply Drawn0.step)⟩
        · rw [if_neg c6] at H
          have c6b0 : decide (((rd_T35 l0 0).f1) < 0) = false := decide_eq_false c6
          clear c6
          have H' := Aside0.mk H
          clear H
          have p125 : 0 ≤ (0 : Int) := (by omega)
          have q125 : 0 < (l0.length : Int) := of_decide_eq_true (by first | (with_reducible assumption) | assumption)
          obtain ⟨ad125, A125_3, c125_3, e125, hx125_0, hx125_1, hx125_2, hx125_3, hl125_3, hi125_3⟩ := at_T35 HR0.out 0 p125 q125
          cases e125
          have HXR125_3 := Aside0.mk hx125_3
          have qi125 : (0 < l0.length) = True := eq_true (by omega)
          (try rw [show ((0 : Int)).toNat = 0 from rfl] at hx125_0)
          (try rw [show 0 * 4 = 0 from rfl] at hx125_0)
          (try rw [Addr.add_zero'] at hx125_0)
          (try rw [show ((0 : Int)).toNat = 0 from rfl] at hx125_1)
          (try rw [show 0 * 4 = 0 from rfl] at hx125_1)
          (try rw [Addr.add_zero'] at hx125_1)
          (try rw [show ((0 : Int)).toNat = 0 from rfl] at hx125_2)
          (try rw [show 0 * 4 = 0 from rfl] at hx125_2)
          (try rw [Addr.add_zero'] at hx125_2)
          (try rw [show ((0 : Int)).toNat = 0 from rfl] at hx125_3)
          (try rw [show 0 * 4 = 0 from rfl] at hx125_3)
          (try rw [Addr.add_zero'] at hx125_3)
          have HR125_3 := Aside0.mk hi125_3
          have HC125_3 := Aside0.mk hl125_3
          clear hi125_3 hl125_3
          replace p125 := eq_true p125
          replace q125 := eq_true q125
          go_wp2
          go_meet
          case rel => exact ⟨_, (decide (((rd_T35 l0 0).f1) ≥ a1)), (by first | rfl | (simp; done) | (simp [*]; done)), H', ⟨by first | omega | exact Nat.le_refl _⟩, by repeat (first | exact Drawn0.refl _ | apply Drawn0.step)⟩
      · rw [if_neg c5] at H
        have c5b0 : (((rd_T35 l0 0).f0) == 6) = false := beq_eq_false_iff_ne.mpr c5
        have c5b1 : (((rd_T35 l0 0).f0) != 6) = true := bne_iff_ne.mpr c5
        have H' := Aside0.mk H
        clear H
        have p125 : 0 ≤ (0 : Int) := (by omega)
        have q125 : 0 < (l0.length : Int) := of_decide_eq_true (by first | (with_reducible assumption) | assumption)
        obtain ⟨ad125, A125_3, c125_3, e125, hx125_0, hx125_1, hx125_2, hx125_3, hl125_3, hi125_3⟩ := at_T35 HR0.out 0 p125 q125
        cases e125
        have HXR125_3 := Aside0.mk hx125_3
        have qi125 : (0 < l0.length) = True := eq_true (by omega)
        (try rw [show ((0 : Int)).toNat = 0 from rfl] at hx125_0)
        (try rw [show 0 * 4 = 0 from rfl] at hx125_0)
        (try rw [Addr.add_zero'] at hx125_0)
        (try rw [show ((0 : Int)).toNat = 0 from rfl] at hx125_1)
        (try rw [show 0 * 4 = 0 from rfl] at hx125_1)
        (try rw [Addr.add_zero'] at hx125_1)
        (try rw [show ((0 : Int)).toNat = 0 from rfl] at hx125_2)
        (try rw [show 0 * 4 = 0 from rfl] at hx125_2)
        (try rw [Addr.add_zero'] at hx125_2)
        (try rw [show ((0 : Int)).toNat = 0 from rfl] at hx125_3)
        (try rw [show 0 * 4 = 0 from rfl] at hx125_3)
        (try rw [Addr.add_zero'] at hx125_3)
        have HR125_3 := Aside0.mk hi125_3
        have HC125_3 := Aside0.mk hl125_3
        clear hi125_3 hl125_3
        replace p125 := eq_true p125
        replace q125 := eq_true q125
        go_wp2
        go_meet
        case rel => exact ⟨_, (false), (by first | rfl | (simp; done) | (simp [*]; done)), H', ⟨by first | omega | exact Nat.le_refl _⟩, by repeat (first | exact Drawn0.refl _ | apply Drawn0.step)⟩
    · rw [if_neg c4] at H
      exact absurd H (by simp)
  case rest =>
    clear HC3
    try clear c1
    try clear p1
    try clear q1
    try clear hx1
    try clear qi1
    try clear p2
    try clear c3
    try clear c4
    try clear c4b0
    try clear c4b1
    try clear c5
    try clear c5b0
    try clear c5b1
    try clear c6
    try clear c6b0
    try clear hx125_0
    try clear hx125_1
    try clear hx125_2
    try clear hx125_3
    try clear p125
    try clear q125
    obtain ⟨kq, x25_2, rfl, HA, HJ2, ⟨mc2, rfl⟩⟩ := hcut
    cases kq with
    | zero => exact absurd HA.out (by simp [core_placed.j0])
    | succ kj2 =>
      have H := HA.out
      clear HA
      simp only [core_placed.j0] at H
      by_cases c7 : x25_2 = true
      · subst c7
        have H1 : (some false) = some r := by rw [if_pos rfl] at H; exact H
        clear H
        have H := H1
        clear H1
        obtain rfl := Option.some.inj H
        go_wp2
        go_ret
        exact ⟨by first | rfl | (simp; done) | (simp [*]; done), by repeat (first | exact Drawn0.refl _ | apply Drawn0.step)⟩
      · replace c7 := Bool.eq_false_iff.mpr c7
        subst c7
        have H1 : (if 0 < (l0.length : Int) then (core_placed.l0 kj2 l0 a1 (((rd_T35 l0 0).f3).length : Int) 0) else (none)) = some r := by rw [if_neg (show ¬ (false = true) by decide)] at H; exact H
        clear H
        have H := H1
        clear H1
        by_cases c8 : 0 < (l0.length : Int)
        · rw [if_pos c8] at H
          have c8b0 : decide (0 < (l0.length : Int)) = true := decide_eq_true c8
          have c8b1 : decide (0 < l0.length) = true := decide_eq_true (by omega)
          clear c8
          have H' := Aside0.mk H
          clear H
          have p126 : 0 ≤ (0 : Int) := (by omega)
          have q126 : 0 < (l0.length : Int) := of_decide_eq_true (by first | (with_reducible assumption) | assumption)
          obtain ⟨ad126, A126_3, c126_3, e126, hx126_0, hx126_1, hx126_2, hx126_3, hl126_3, hi126_3⟩ := at_T35 HR0.out 0 p126 q126
          cases e126
          have HXR126_3 := Aside0.mk hx126_3
          have qi126 : (0 < l0.length) = True := eq_true (by omega)
          (try rw [show ((0 : Int)).toNat = 0 from rfl] at hx126_0)
          (try rw [show 0 * 4 = 0 from rfl] at hx126_0)
          (try rw [Addr.add_zero'] at hx126_0)
          (try rw [show ((0 : Int)).toNat = 0 from rfl] at hx126_1)
          (try rw [show 0 * 4 = 0 from rfl] at hx126_1)
          (try rw [Addr.add_zero'] at hx126_1)
          (try rw [show ((0 : Int)).toNat = 0 from rfl] at hx126_2)
          (try rw [show 0 * 4 = 0 from rfl] at hx126_2)
          (try rw [Addr.add_zero'] at hx126_2)
          (try rw [show ((0 : Int)).toNat = 0 from rfl] at hx126_3)
          (try rw [show 0 * 4 = 0 from rfl] at hx126_3)
          (try rw [Addr.add_zero'] at hx126_3)
          have HR126_3 := Aside0.mk hi126_3
          have HC126_3 := Aside0.mk hl126_3
          clear hi126_3 hl126_3
          replace p126 := eq_true p126
          replace q126 := eq_true q126
          go_wp2
          go_loopg [31] kj2 (fun kq v31 w' => ∃ (x31_2 : Int), v31 = .int .i64 x31_2 ∧ Aside0 (core_placed.l0 kq l0 a1 (((rd_T35 l0 0).f3).length : Int) x31_2 = some r) ∧ Aside0 (kq ≤ kj2) ∧ Drawn0 w w')
          case atStart => exact ⟨(0), (by first | rfl | (simp; done) | (simp [*]; done)), H', ⟨Nat.le_refl _⟩, by repeat (first | exact Drawn0.refl _ | apply Drawn0.step)⟩
          case round =>
            clear H'
            try clear c1
            try clear p1
            try clear q1
            try clear hx1
            try clear qi1
            try clear c2
            try clear p2
            try clear c3
            try clear c4
            try clear c4b0
            try clear c4b1
            try clear c5
            try clear c5b0
            try clear c5b1
            try clear c6
            try clear c6b0
            try clear c7
            try clear c8
            try clear c8b0
            try clear c8b1
            try clear hx125_0
            try clear hx125_1
            try clear hx125_2
            try clear hx125_3
            try clear hx126_0
            try clear hx126_1
            try clear hx126_2
            try clear hx126_3
            try clear p1
            try clear p125
            try clear p126
            try clear p2
            try clear q1
            try clear q125
            try clear q126
            obtain ⟨x31_2, rfl, HA, HK2, ⟨m2, rfl⟩⟩ := hrel
            cases gk with
            | zero => exact absurd HA.out (by simp [core_placed.l0])
            | succ k2 =>
              have H := HA.out
              clear HA
              simp only [core_placed.l0] at H
              by_cases c9 : x31_2 < (((rd_T35 l0 0).f3).length : Int)
              · rw [if_pos c9] at H
                have c9b0 : decide (x31_2 < (((rd_T35 l0 0).f3).length : Int)) = true := decide_eq_true c9
                clear c9
                by_cases c10 : 0 < (l0.length : Int)
                · rw [if_pos c10] at H
                  have c10b0 : decide (0 < (l0.length : Int)) = true := decide_eq_true c10
                  have c10b1 : decide (0 < l0.length) = true := decide_eq_true (by omega)
                  clear c10
                  by_cases c11 : 0 ≤ x31_2
                  · rw [if_pos c11] at H
                    have c11b0 : decide (0 ≤ x31_2) = true := decide_eq_true c11
                    clear c11
                    by_cases c12 : x31_2 < (((rd_T35 l0 0).f3).length : Int)
                    · rw [if_pos c12] at H
                      have c12b0 : decide (x31_2 < (((rd_T35 l0 0).f3).length : Int)) = true := decide_eq_true c12
                      clear c12
                      replace H := Option.bind_eq_some_iff.mp H
                      obtain ⟨t130, A130, H⟩ := H
                      replace H : (if t130 = true then (core_placed.l0 k2 l0 a1 (((rd_T35 l0 0).f3).length : Int) (wrap64 (x31_2 + 1))) else (some false)) = some r := H
                      have A13 := Aside0.mk A130
                      clear A130
                      by_cases c14 : t130 = true
                      · subst c14
                        have H1 : (core_placed.l0 k2 l0 a1 (((rd_T35 l0 0).f3).length : Int) (wrap64 (x31_2 + 1))) = some r := by rw [if_pos rfl] at H; exact H
                        clear H
                        have H := H1
                        clear H1
                        have H' := Aside0.mk H
                        clear H
                        have p127 : 0 ≤ (0 : Int) := (by omega)
                        have q127 : 0 < (l0.length : Int) := of_decide_eq_true (by first | (with_reducible assumption) | assumption)
                        obtain ⟨ad127, A127_3, c127_3, e127, hx127_0, hx127_1, hx127_2, hx127_3, hl127_3, hi127_3⟩ := at_T35 HR0.out 0 p127 q127
                        obtain rfl : ad126 = ad127 := (by injection e127)
                        have HXR127_3 := Aside0.mk hx127_3
                        (try (have ea_ := Option.some.inj (HXR126_3.out.symm.trans hx127_3); injection ea_ with ea_ en_ ec_; subst ea_; subst ec_; clear en_))
                        have qi127 : (0 < l0.length) = True := eq_true (by omega)
                        (try rw [show ((0 : Int)).toNat = 0 from rfl] at hx127_0)
                        (try rw [show 0 * 4 = 0 from rfl] at hx127_0)
                        (try rw [Addr.add_zero'] at hx127_0)
                        (try rw [show ((0 : Int)).toNat = 0 from rfl] at hx127_1)
                        (try rw [show 0 * 4 = 0 from rfl] at hx127_1)
                        (try rw [Addr.add_zero'] at hx127_1)
                        (try rw [show ((0 : Int)).toNat = 0 from rfl] at hx127_2)
                        (try rw [show 0 * 4 = 0 from rfl] at hx127_2)
                        (try rw [Addr.add_zero'] at hx127_2)
                        (try rw [show ((0 : Int)).toNat = 0 from rfl] at hx127_3)
                        (try rw [show 0 * 4 = 0 from rfl] at hx127_3)
                        (try rw [Addr.add_zero'] at hx127_3)
                        have HR127_3 := Aside0.mk hi127_3
                        have HC127_3 := Aside0.mk hl127_3
                        clear hi127_3 hl127_3
                        replace p127 := eq_true p127
                        replace q127 := eq_true q127
                        have p128 : 0 ≤ (x31_2 : Int) := of_decide_eq_true (by first | (with_reducible assumption) | assumption)
                        have q128 : x31_2 < (((rd_T35 l0 0).f3).length : Int) := of_decide_eq_true (by first | (with_reducible assumption) | assumption)
                        obtain ⟨ad128, A128_3, c128_3, e128, hx128_0, hx128_1, hx128_2, hx128_3, hl128_3, hi128_3⟩ := at_T35 HR127_3.out x31_2 p128 q128
                        cases e128
                        have HXR128_3 := Aside0.mk hx128_3
                        have HR128_3 := Aside0.mk hi128_3
                        have HC128_3 := Aside0.mk hl128_3
                        clear hi128_3 hl128_3
                        replace p128 := eq_true p128
                        replace q128 := eq_true q128
                        have p129 : 0 ≤ (x31_2 : Int) := of_decide_eq_true (by first | (with_reducible assumption) | assumption)
                        have q129 : x31_2 < (((rd_T35 l0 0).f3).length : Int) := of_decide_eq_true (by first | (with_reducible assumption) | assumption)
                        obtain ⟨ad129, A129_3, c129_3, e129, hx129_0, hx129_1, hx129_2, hx129_3, hl129_3, hi129_3⟩ := at_T35 HR127_3.out x31_2 p129 q129
                        cases e129
                        have HXR129_3 := Aside0.mk hx129_3
                        (try (have ea_ := Option.some.inj (HXR128_3.out.symm.trans hx129_3); injection ea_ with ea_ en_ ec_; subst ea_; subst ec_; clear en_))
                        have HR129_3 := Aside0.mk hi129_3
                        have HC129_3 := Aside0.mk hl129_3
                        clear hi129_3 hl129_3
                        replace p129 := eq_true p129
                        replace q129 := eq_true q129
                        go_wp2_with (first | (go_at_call 33; (with_reducible refine (ih k2 (by have := HJ2.out; have := HK2.out; omega) _ [rd_T35 ((rd_T35 l0 0).f3) x31_2] a1 true _ ?side1 A13.out).mono ?_); (case side1 => repeat (first | (with_reducible exact one35 (x := rd_T35 ((rd_T35 l0 0).f3) x31_2) hx129_0 hx129_1 hx129_2 hx129_3 HC129_3.out HR129_3.out) | (with_reducible refine Kd.C_alloc ?_ _) | (with_reducible refine Kd.C_drewN ?_ _) | (with_reducible refine Kd.C_drew ?_) | exact one35 (x := rd_T35 ((rd_T35 l0 0).f3) x31_2) hx129_0 hx129_1 hx129_2 hx129_3 HC129_3.out HR129_3.out)); rintro e w' ⟨rfl, ⟨nd, rfl⟩⟩))
                        go_roundg k2
                        case measure => have := HJ2.out; have := HK2.out; omega
                        case rel => exact ⟨(wrap64 (x31_2 + 1)), (by first | rfl | (simp; done) | (simp [*]; done)), H', ⟨by have := HJ2.out; have := HK2.out; omega⟩, by repeat (first | exact Drawn0.refl _ | apply Drawn0.step)⟩
                      · replace c14 := Bool.eq_false_iff.mpr c14
                        subst c14
                        have H1 : (some false) = some r := by rw [if_neg (show ¬ (false = true) by decide)] at H; exact H
                        clear H
                        have H := H1
                        clear H1
                        obtain rfl := Option.some.inj H
                        have p127 : 0 ≤ (0 : Int) := (by omega)
                        have q127 : 0 < (l0.length : Int) := of_decide_eq_true (by first | (with_reducible assumption) | assumption)
                        obtain ⟨ad127, A127_3, c127_3, e127, hx127_0, hx127_1, hx127_2, hx127_3, hl127_3, hi127_3⟩ := at_T35 HR0.out 0 p127 q127
                        obtain rfl : ad126 = ad127 := (by injection e127)
                        have HXR127_3 := Aside0.mk hx127_3
                        (try (have ea_ := Option.some.inj (HXR126_3.out.symm.trans hx127_3); injection ea_ with ea_ en_ ec_; subst ea_; subst ec_; clear en_))
                        have qi127 : (0 < l0.length) = True := eq_true (by omega)
                        (try rw [show ((0 : Int)).toNat = 0 from rfl] at hx127_0)
                        (try rw [show 0 * 4 = 0 from rfl] at hx127_0)
                        (try rw [Addr.add_zero'] at hx127_0)
                        (try rw [show ((0 : Int)).toNat = 0 from rfl] at hx127_1)
                        (try rw [show 0 * 4 = 0 from rfl] at hx127_1)
                        (try rw [Addr.add_zero'] at hx127_1)
                        (try rw [show ((0 : Int)).toNat = 0 from rfl] at hx127_2)
                        (try rw [show 0 * 4 = 0 from rfl] at hx127_2)
                        (try rw [Addr.add_zero'] at hx127_2)
                        (try rw [show ((0 : Int)).toNat = 0 from rfl] at hx127_3)
                        (try rw [show 0 * 4 = 0 from rfl] at hx127_3)
                        (try rw [Addr.add_zero'] at hx127_3)
                        have HR127_3 := Aside0.mk hi127_3
                        have HC127_3 := Aside0.mk hl127_3
                        clear hi127_3 hl127_3
                        replace p127 := eq_true p127
                        replace q127 := eq_true q127
                        have p128 : 0 ≤ (x31_2 : Int) := of_decide_eq_true (by first | (with_reducible assumption) | assumption)
                        have q128 : x31_2 < (((rd_T35 l0 0).f3).length : Int) := of_decide_eq_true (by first | (with_reducible assumption) | assumption)
                        obtain ⟨ad128, A128_3, c128_3, e128, hx128_0, hx128_1, hx128_2, hx128_3, hl128_3, hi128_3⟩ := at_T35 HR127_3.out x31_2 p128 q128
                        cases e128
                        have HXR128_3 := Aside0.mk hx128_3
                        (try (have ea_ := Option.some.inj (HXR129_3.out.symm.trans hx128_3); injection ea_ with ea_ en_ ec_; subst ea_; subst ec_; clear en_))
                        have HR128_3 := Aside0.mk hi128_3
                        have HC128_3 := Aside0.mk hl128_3
                        clear hi128_3 hl128_3
                        replace p128 := eq_true p128
                        replace q128 := eq_true q128
                        have p129 : 0 ≤ (x31_2 : Int) := of_decide_eq_true (by first | (with_reducible assumption) | assumption)
                        have q129 : x31_2 < (((rd_T35 l0 0).f3).length : Int) := of_decide_eq_true (by first | (with_reducible assumption) | assumption)
                        obtain ⟨ad129, A129_3, c129_3, e129, hx129_0, hx129_1, hx129_2, hx129_3, hl129_3, hi129_3⟩ := at_T35 HR127_3.out x31_2 p129 q129
                        cases e129
                        have HXR129_3 := Aside0.mk hx129_3
                        (try (have ea_ := Option.some.inj (HXR128_3.out.symm.trans hx129_3); injection ea_ with ea_ en_ ec_; subst ea_; subst ec_; clear en_))
                        have HR129_3 := Aside0.mk hi129_3
                        have HC129_3 := Aside0.mk hl129_3
                        clear hi129_3 hl129_3
                        replace p129 := eq_true p129
                        replace q129 := eq_true q129
                        go_wp2_with (first | (go_at_call 33; (with_reducible refine (ih k2 (by have := HJ2.out; have := HK2.out; omega) _ [rd_T35 ((rd_T35 l0 0).f3) x31_2] a1 false _ ?side1 A13.out).mono ?_); (case side1 => repeat (first | (with_reducible exact one35 (x := rd_T35 ((rd_T35 l0 0).f3) x31_2) hx129_0 hx129_1 hx129_2 hx129_3 HC129_3.out HR129_3.out) | (with_reducible refine Kd.C_alloc ?_ _) | (with_reducible refine Kd.C_drewN ?_ _) | (with_reducible refine Kd.C_drew ?_) | exact one35 (x := rd_T35 ((rd_T35 l0 0).f3) x31_2) hx129_0 hx129_1 hx129_2 hx129_3 HC129_3.out HR129_3.out)); rintro e w' ⟨rfl, ⟨nd, rfl⟩⟩))
                        go_ret
                        exact ⟨by first | rfl | (simp; done) | (simp [*]; done), by repeat (first | exact Drawn0.refl _ | apply Drawn0.step)⟩
                    · rw [if_neg c12] at H
                      exact absurd H (by simp)
                  · rw [if_neg c11] at H
                    exact absurd H (by simp)
                · rw [if_neg c10] at H
                  exact absurd H (by simp)
              · rw [if_neg c9] at H
                have c9b0 : decide (x31_2 < (((rd_T35 l0 0).f3).length : Int)) = false := decide_eq_false c9
                clear c9
                obtain rfl := Option.some.inj H
                go_wp2
                go_ret
                exact ⟨by first | rfl | (simp; done) | (simp [*]; done), by repeat (first | exact Drawn0.refl _ | apply Drawn0.step)⟩
        · rw [if_neg c8] at H
          exact absurd H (by simp)

-- NOT PRINTED: function 23 (core_looker_nodes)

-- NOT PRINTED: function 16 (core_looked)

end Go.Proofs.YtncpknhmoakjmaaDoor.PCorePlaces
