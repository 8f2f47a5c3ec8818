-- Written by wip/tools/print2.py (a program of this session's, over the kit's print) out of the translation. Not trusted: Lean checks it.
import Derived.Test.YtncpknhmoakjmaaDoorPCorePlacesx0
import Derived.Test.YtncpknhmoakjmaaDoorPCorePlacesx1
import Derived.Test.YtncpknhmoakjmaaDoorPCorePlacesx3
import Derived.Test.YtncpknhmoakjmaaDoorPCorePlacesx4
import Derived.Test.YtncpknhmoakjmaaDoorPCorePlacesx5
import Derived.Test.YtncpknhmoakjmaaDoorPCorePlacesx6
import Derived.Test.YtncpknhmoakjmaaDoorPCorePlacesx7
namespace Go.Proofs.YtncpknhmoakjmaaDoor.PCorePlaces
open Go.RowKit Go.Proofs.YtncpknhmoakjmaaDoorW.PrintWords Go.Proofs.YtncpknhmoakjmaaDoorW.PrintLast Go.Proofs.YtncpknhmoakjmaaDoorW.PrintMore
attribute [local go_sem] max2_int min2_int max_two min_two max_three min_three max_four min_four   -- for this text's walks alone
set_option linter.unusedVariables false
set_option linter.unusedSimpArgs false

/-! ### core_Check: function 8: not printed -/
def core_may.f (k : Nat) (l0 : List S35) (a1 : Int) : Option Bool := shape_Expr.f k l0 1024 true
set_option maxHeartbeats 2000000 in
theorem core_may.calls (k : Nat) (A0 : Option Addr) (l0 : List S35) (a1 : Int) (r : Bool) (w : World) (hL : LaidW w) (hr0 : Kd.C k35 w A0 l0.length l0) (h : core_may.f k l0 a1 = some r) :
    Calls Tryd.prog 32 #[.pointer A0, .int .i64 a1] w fun e w' => e = .returned (.bool r) ∧ Below w.heap.size w w' := by
  unfold core_may.f at h
  have HE := Aside0.mk h
  have HR := Aside0.mk hr0
  have HL := Aside0.mk hL
  clear h hr0 hL
  go_enter Tryd.func32, Tryd.ntmps32
  go_wp2_with (go_at_call 41; (refine (shape_Expr.calls k A0 l0 1024 true r _ HL.out HR.out HE.out).mono ?_); rintro e w1 ⟨rfl, hb1⟩)
  go_ret
  exact ⟨rfl, hb1⟩
/-- One after the other, as long as it is true. -/
def andO (x y : Option Bool) : Option Bool := x.bind fun b => if b = true then y else some false
def allF (g : List S35 → Int → Option Bool) (s : Int) : List S35 → Option Bool
  | [] => some true
  | x :: xs => (g [x] s).bind fun b => if b = true then allF g s xs else some false
def exF (g : List S35 → Int → Option Bool) (kind s : Int) : Nat → List S35 → Option Bool
  | _, [] => some true
  | i, x :: xs => (g [x] (wrap64 (s + (if kind = 4 ∧ i = 1 then 2 else 0)))).bind fun b => if b = true then exF g kind s (i + 1) xs else some false
def exprsF (g : List S35 → Int → Option Bool) (l0 : List S41) (s : Int) : Option Bool :=
  match l0 with
  | [c] => andO (allF g s (boundF c.f2)) (andO (allF g s (boundP c.f3)) (exF g c.f0 s 0 c.f4))
  | _ => none
theorem allF_step {g : List S35 → Int → Option Bool} {s : Int} {x : S35} {xs : List S35} {R : Option Bool} {r : Bool} (h : andO (allF g s (x :: xs)) R = some r) :
    ∃ b, g [x] s = some b ∧ (b = true → andO (allF g s xs) R = some r) ∧ (b = false → r = false) := by
  unfold andO allF at h
  cases hb : g [x] s with
  | none => rw [hb] at h; simp at h
  | some b =>
    rw [hb] at h
    cases b with
    | true => exact ⟨true, rfl, fun _ => by simpa [andO] using h, fun h => by simp at h⟩
    | false => exact ⟨false, rfl, fun h => by simp at h, fun _ => by simpa using h.symm⟩
theorem exF_step {g : List S35 → Int → Option Bool} {kind s : Int} {i : Nat} {x : S35} {xs : List S35} {r : Bool} (h : exF g kind s i (x :: xs) = some r) :
    ∃ b, g [x] (wrap64 (s + (if kind = 4 ∧ i = 1 then 2 else 0))) = some b ∧ (b = true → exF g kind s (i + 1) xs = some r) ∧ (b = false → r = false) := by
  unfold exF at h
  cases hb : g [x] (wrap64 (s + (if kind = 4 ∧ i = 1 then 2 else 0))) with
  | none => rw [hb] at h; simp at h
  | some b =>
    rw [hb] at h
    cases b with
    | true => exact ⟨true, rfl, fun _ => by simpa using h, fun h => by simp at h⟩
    | false => exact ⟨false, rfl, fun h => by simp at h, fun _ => by simpa using h.symm⟩
theorem andO_nil {g : List S35 → Int → Option Bool} {s : Int} {R : Option Bool} {r : Bool} (h : andO (allF g s []) R = some r) : R = some r := by simpa [andO, allF] using h
theorem andO_mono {a a' b b' : Option Bool} (h1 : LeO a a') (h2 : LeO b b') : LeO (andO a b) (andO a' b') := LeO.bind h1 (fun _ => LeO.ite h2 (LeO.refl _))
theorem allF_mono {g g' : List S35 → Int → Option Bool} (s : Int) (h : ∀ l s, LeO (g l s) (g' l s)) : ∀ xs, LeO (allF g s xs) (allF g' s xs)
  | [] => LeO.refl _
  | x :: xs => LeO.bind (h _ _) (fun _ => LeO.ite (allF_mono s h xs) (LeO.refl _))
theorem exF_mono {g g' : List S35 → Int → Option Bool} (kind s : Int) (h : ∀ l s, LeO (g l s) (g' l s)) : ∀ xs i, LeO (exF g kind s i xs) (exF g' kind s i xs)
  | [], _ => LeO.refl _
  | x :: xs, i => LeO.bind (h _ _) (fun _ => LeO.ite (exF_mono kind s h xs (i + 1)) (LeO.refl _))
theorem exprsF_mono {g g' : List S35 → Int → Option Bool} (h : ∀ l s, LeO (g l s) (g' l s)) (l0 : List S41) (s : Int) : LeO (exprsF g l0 s) (exprsF g' l0 s) := by
  unfold exprsF; split
  · exact andO_mono (allF_mono s h _) (andO_mono (allF_mono s h _) (exF_mono _ s h _ 0))
  · exact LeO.refl _

def core_exprs_placed.f (k : Nat) (l0 : List S41) (a1 : Int) : Option Bool := exprsF (core_placed.f k) l0 a1
theorem core_exprs_placed.mono (a0 : List S41) (a1 : Int) (k : Nat) : LeO (core_exprs_placed.f k a0 a1) (core_exprs_placed.f (k + 1) a0 a1) := exprsF_mono (fun l s => core_placed.mono _ _ k) a0 a1
set_option maxHeartbeats 4000000 in
theorem core_exprs_placed.calls (k : Nat) (A0 : Option Addr) (l0 : List S41) (a1 : Int) (r : Bool) (w : World) (hr0 : Kd.C k41 w A0 l0.length l0) (h : core_exprs_placed.f k l0 a1 = some r) :
    Calls Tryd.prog 31 #[.pointer A0, .int .i64 a1, .func (.func 33) #[] #[]] w fun e w' => e = .returned (.bool r) ∧ Below w.heap.size w w' := by
  unfold core_exprs_placed.f at h
  obtain ⟨c, rfl⟩ : ∃ c, l0 = [c] := by
    unfold exprsF at h; split at h
    · exact ⟨_, rfl⟩
    · exact absurd h (by simp)
  simp only [exprsF] at h
  have HE := Aside0.mk h
  obtain ⟨ad, A2, c2, A3, c3, A4, c4, A5, c5, A6, c6, rfl, x0, x1, x2, x3, x4, x5, x6, l2, C2, l3, C3, l4, C4, l5, C5, l6, C6⟩ := at_T41 hr0 0 (by omega) (by simp)
  have hz : (ad.add ((0 : Int).toNat * 7)) = ad := by rw [show (0 : Int).toNat * 7 = 0 from rfl, Addr.add_zero']
  rw [hz] at x0 x1 x2 x3 x4 x5 x6
  have hc0 : rd_T41 [c] 0 = c := rfl
  rw [hc0] at x0 x1 x2 x3 x4 x5 x6 l2 l3 l4 C2 C3 C4
  clear h hr0 hz hc0 C5 C6 l5 l6
  have HC2 := Aside0.mk C2
  have HC3 := Aside0.mk C3
  have HC4 := Aside0.mk C4
  have HX := Aside0.mk (And.intro x2 (And.intro x3 x4))
  have HX0 := Aside0.mk x0
  have HL := Aside0.mk (And.intro l2 (And.intro l3 l4))
  clear C2 C3 C4 l2 l3 l4 x0 x1 x3 x4 x5 x6
  go_enter Tryd.func31, Tryd.ntmps31
  go_wp2
  clear x2
  go_loopg [16] c.f2.length (fun gf vv wx => ∃ (i : Nat), vv = .int .i64 (i : Int) ∧ Aside0 (Below w.heap.size w wx) ∧ Aside0 (andO (allF (core_placed.f k) a1 (boundF (c.f2.drop i))) (andO (allF (core_placed.f k) a1 (boundP c.f3)) (exF (core_placed.f k) c.f0 a1 0 c.f4)) = some r) ∧ Aside0 (i + gf = c.f2.length))
  case atStart => exact ⟨0, rfl, ⟨Below.refl _ _⟩, HE, ⟨Nat.zero_add _⟩⟩
  case round =>
    obtain ⟨i, rfl, HB, HA, HG⟩ := hrel
    have y2 := pw_cell_below HB.out HX.out.1
    by_cases hi : i < c.f2.length
    · obtain ⟨ae, a, x, e1, ha, hd, f0, f1, fb, f7, hal, cz⟩ := nth37 (Kd.C_below HC2.out HB.out) i hi
      subst e1
      have hA := HA.out
      have hi' : ((i : Int) < (c.f2.length : Int)) := cast_lt hi
      have hw := wrap_succ i _ hi (Kd.C_max HC2.out)
      obtain ⟨g', rfl⟩ : ∃ g', gk = g' + 1 := gk_pos HG.out hi
      rw [hd, boundF_cons] at hA
      by_cases hbd : x.f2 = true
      · rw [hbd] at fb
        rw [if_pos hbd] at hA
        obtain ⟨b, hb, hT, hF⟩ := allF_step hA
        have HA' := Aside0.mk hb
        have HT := Aside0.mk hT
        have HF := Aside0.mk hF
        have HCZ := Aside0.mk cz
        clear hA hb hT hF cz hd HA
        cases b with
        | true =>
          have HT' := Aside0.mk (HT.out rfl)
          clear HT HF
          go_wp2_with (go_at_call 33; (refine (core_placed.calls k _ [x.f3] a1 true _ HCZ.out HA'.out).mono ?_); rintro e w1 ⟨rfl, hb1⟩)
          go_roundg g'
          case measure => exact Nat.lt_succ_self _
          case rel => exact ⟨i + 1, by rw [hw], ⟨HB.out.trans (hb1.below.mono HB.out.size)⟩, HT', ⟨gk_next HG.out⟩⟩
        | false =>
          obtain rfl : r = false := HF.out rfl
          clear HT HF
          go_wp2_with (go_at_call 33; (refine (core_placed.calls k _ [x.f3] a1 false _ HCZ.out HA'.out).mono ?_); rintro e w1 ⟨rfl, hb1⟩)
          go_ret
          exact ⟨rfl, HB.out.trans (hb1.below.mono HB.out.size)⟩
      · rw [if_neg hbd] at hA
        have hbf : x.f2 = false := by simpa using hbd
        rw [hbf] at fb
        have HA3 := Aside0.mk hA
        clear hA hd HA cz
        go_wp2
        go_roundg g'
        case measure => exact Nat.lt_succ_self _
        case rel => exact ⟨i + 1, by rw [hw], HB, HA3, ⟨gk_next HG.out⟩⟩
    · have hnil : c.f2.drop i = [] := drop_end hi
      have hi' : ¬ ((i : Int) < (c.f2.length : Int)) := cast_nlt hi
      have hA := HA.out
      rw [hnil] at hA
      have HA2 := Aside0.mk hA
      clear hA hnil HA
      have y3 := pw_cell_below HB.out HX.out.2.1
      clear y2
      go_wp2
      clear y3
      go_loopg [46] c.f3.length (fun gf vv wx => ∃ (i : Nat), vv = .int .i64 (i : Int) ∧ Aside0 (Below w.heap.size w wx) ∧ Aside0 (andO (allF (core_placed.f k) a1 (boundP (c.f3.drop i))) (exF (core_placed.f k) c.f0 a1 0 c.f4) = some r) ∧ Aside0 (i + gf = c.f3.length))
      case atStart => exact ⟨0, rfl, HB, ⟨andO_nil HA2.out⟩, ⟨Nat.zero_add _⟩⟩
      case round =>
        obtain ⟨i, rfl, HB, HA, HG⟩ := hrel
        have y2 := pw_cell_below HB.out HX.out.2.1
        by_cases hi : i < c.f3.length
        · obtain ⟨ae, a, x, e1, ha, hd, f0, fb, hal, cz⟩ := nth44 (Kd.C_below HC3.out HB.out) i hi
          subst e1
          have hA := HA.out
          have hi' : ((i : Int) < (c.f3.length : Int)) := cast_lt hi
          have hw := wrap_succ i _ hi (Kd.C_max HC3.out)
          obtain ⟨g', rfl⟩ : ∃ g', gk = g' + 1 := gk_pos HG.out hi
          rw [hd, boundP_cons] at hA
          by_cases hbd : x.f1 = true
          · rw [hbd] at fb
            rw [if_pos hbd] at hA
            obtain ⟨b, hb, hT, hF⟩ := allF_step hA
            have HA' := Aside0.mk hb
            have HT := Aside0.mk hT
            have HF := Aside0.mk hF
            have HCZ := Aside0.mk cz
            clear hA hb hT hF cz hd HA
            cases b with
            | true =>
              have HT' := Aside0.mk (HT.out rfl)
              clear HT HF
              go_wp2_with (go_at_call 33; (refine (core_placed.calls k _ [x.f2] a1 true _ HCZ.out HA'.out).mono ?_); rintro e w1 ⟨rfl, hb1⟩)
              go_roundg g'
              case measure => exact Nat.lt_succ_self _
              case rel => exact ⟨i + 1, by rw [hw], ⟨HB.out.trans (hb1.below.mono HB.out.size)⟩, HT', ⟨gk_next HG.out⟩⟩
            | false =>
              obtain rfl : r = false := HF.out rfl
              clear HT HF
              go_wp2_with (go_at_call 33; (refine (core_placed.calls k _ [x.f2] a1 false _ HCZ.out HA'.out).mono ?_); rintro e w1 ⟨rfl, hb1⟩)
              go_ret
              exact ⟨rfl, HB.out.trans (hb1.below.mono HB.out.size)⟩
          · rw [if_neg hbd] at hA
            have hbf : x.f1 = false := by simpa using hbd
            rw [hbf] at fb
            have HA3 := Aside0.mk hA
            clear hA hd HA cz
            go_wp2
            go_roundg g'
            case measure => exact Nat.lt_succ_self _
            case rel => exact ⟨i + 1, by rw [hw], HB, HA3, ⟨gk_next HG.out⟩⟩
        · have hnil : c.f3.drop i = [] := drop_end hi
          have hi' : ¬ ((i : Int) < (c.f3.length : Int)) := cast_nlt hi
          have hA := HA.out
          rw [hnil] at hA
          have HA2 := Aside0.mk hA
          clear hA hnil HA
          have y3 := pw_cell_below HB.out HX.out.2.2
          clear y2
          go_wp2
          clear y3
          go_loopg [76] c.f4.length (fun gf vv wx => ∃ (i : Nat), vv = .int .i64 (i : Int) ∧ Aside0 (Below w.heap.size w wx) ∧ Aside0 (exF (core_placed.f k) c.f0 a1 i (c.f4.drop i) = some r) ∧ Aside0 (i + gf = c.f4.length))
          case atStart => exact ⟨0, rfl, HB, ⟨andO_nil HA2.out⟩, ⟨Nat.zero_add _⟩⟩
          case round =>
            obtain ⟨i, rfl, HB, HA, HG⟩ := hrel
            have y2 := pw_cell_below HB.out HX.out.2.2
            by_cases hi : i < c.f4.length
            · obtain ⟨ae, a, x, A7, c7, e1, ha, hd, f0, f1, fb, f7, lz, cy, hal, cz⟩ := nth35 (Kd.C_below HC4.out HB.out) i hi
              subst e1
              have hA := HA.out
              have hi' : ((i : Int) < (c.f4.length : Int)) := cast_lt hi
              have hw := wrap_succ i _ hi (Kd.C_max HC4.out)
              obtain ⟨g', rfl⟩ : ∃ g', gk = g' + 1 := gk_pos HG.out hi
              rw [hd] at hA
              have hx0 := pw_cell_below HB.out HX0.out
              clear f0 f1 fb f7 lz cy hal
              by_cases hk4 : c.f0 = 4
              · by_cases hi1 : i = 1
                · have hst : (if c.f0 = 4 ∧ i = 1 then (2 : Int) else 0) = 2 := if_pos ⟨hk4, hi1⟩
                  have hi1' : ((i : Int) == 1) = true := by rw [hi1]; rfl
                  rw [hk4] at hx0
                  have hst2 := exF_step hA
                  rw [hst] at hst2
                  clear hst hk4 hi1 hA
                  have hA := hst2
                  clear hst2
                  obtain ⟨b, hb, hT, hF⟩ := hA
                  have HA' := Aside0.mk hb
                  have HT := Aside0.mk hT
                  have HF := Aside0.mk hF
                  have HCZ := Aside0.mk cz
                  clear hb hT hF cz hd HA
                  cases b with
                  | true =>
                    have HT' := Aside0.mk (HT.out rfl)
                    clear HT HF
                    go_wp2_with (go_at_call 33; (refine (core_placed.calls k _ [x] (wrap64 (a1 + 2)) true _ HCZ.out HA'.out).mono ?_); rintro e w1 ⟨rfl, hb1⟩)
                    go_roundg g'
                    case measure => exact Nat.lt_succ_self _
                    case rel => exact ⟨i + 1, by rw [hw], ⟨HB.out.trans (hb1.below.mono HB.out.size)⟩, HT', ⟨gk_next HG.out⟩⟩
                  | false =>
                    obtain rfl : r = false := HF.out rfl
                    clear HT HF
                    go_wp2_with (go_at_call 33; (refine (core_placed.calls k _ [x] (wrap64 (a1 + 2)) false _ HCZ.out HA'.out).mono ?_); rintro e w1 ⟨rfl, hb1⟩)
                    go_ret
                    exact ⟨rfl, HB.out.trans (hb1.below.mono HB.out.size)⟩
                · have hst : (if c.f0 = 4 ∧ i = 1 then (2 : Int) else 0) = 0 := if_neg (fun h => hi1 h.2)
                  have hi1' : ((i : Int) == 1) = false := by rw [beq_eq_false_iff_ne]; intro h; exact hi1 (by omega)
                  rw [hk4] at hx0
                  have hst2 := exF_step hA
                  rw [hst] at hst2
                  clear hst hk4 hi1 hA
                  have hA := hst2
                  clear hst2
                  rw [Int.add_zero] at hA
                  obtain ⟨b, hb, hT, hF⟩ := hA
                  have HA' := Aside0.mk hb
                  have HT := Aside0.mk hT
                  have HF := Aside0.mk hF
                  have HCZ := Aside0.mk cz
                  clear hb hT hF cz hd HA
                  cases b with
                  | true =>
                    have HT' := Aside0.mk (HT.out rfl)
                    clear HT HF
                    go_wp2_with (go_at_call 33; (refine (core_placed.calls k _ [x] (wrap64 a1) true _ HCZ.out HA'.out).mono ?_); rintro e w1 ⟨rfl, hb1⟩)
                    go_roundg g'
                    case measure => exact Nat.lt_succ_self _
                    case rel => exact ⟨i + 1, by rw [hw], ⟨HB.out.trans (hb1.below.mono HB.out.size)⟩, HT', ⟨gk_next HG.out⟩⟩
                  | false =>
                    obtain rfl : r = false := HF.out rfl
                    clear HT HF
                    go_wp2_with (go_at_call 33; (refine (core_placed.calls k _ [x] (wrap64 a1) false _ HCZ.out HA'.out).mono ?_); rintro e w1 ⟨rfl, hb1⟩)
                    go_ret
                    exact ⟨rfl, HB.out.trans (hb1.below.mono HB.out.size)⟩
              · have hst : (if c.f0 = 4 ∧ i = 1 then (2 : Int) else 0) = 0 := if_neg (fun h => hk4 h.1)
                have hk4' : (c.f0 == 4) = false := by rw [beq_eq_false_iff_ne]; exact hk4
                have hst2 := exF_step hA
                rw [hst] at hst2
                clear hst hk4 hA
                have hA := hst2
                clear hst2
                rw [Int.add_zero] at hA
                obtain ⟨b, hb, hT, hF⟩ := hA
                have HA' := Aside0.mk hb
                have HT := Aside0.mk hT
                have HF := Aside0.mk hF
                have HCZ := Aside0.mk cz
                clear hb hT hF cz hd HA
                cases b with
                | true =>
                  have HT' := Aside0.mk (HT.out rfl)
                  clear HT HF
                  go_wp2_with (go_at_call 33; (refine (core_placed.calls k _ [x] (wrap64 a1) true _ HCZ.out HA'.out).mono ?_); rintro e w1 ⟨rfl, hb1⟩)
                  go_roundg g'
                  case measure => exact Nat.lt_succ_self _
                  case rel => exact ⟨i + 1, by rw [hw], ⟨HB.out.trans (hb1.below.mono HB.out.size)⟩, HT', ⟨gk_next HG.out⟩⟩
                | false =>
                  obtain rfl : r = false := HF.out rfl
                  clear HT HF
                  go_wp2_with (go_at_call 33; (refine (core_placed.calls k _ [x] (wrap64 a1) false _ HCZ.out HA'.out).mono ?_); rintro e w1 ⟨rfl, hb1⟩)
                  go_ret
                  exact ⟨rfl, HB.out.trans (hb1.below.mono HB.out.size)⟩
            · have hnil : c.f4.drop i = [] := drop_end hi
              have hi' : ¬ ((i : Int) < (c.f4.length : Int)) := cast_nlt hi
              have hA := HA.out
              rw [hnil] at hA
              have HA2 := Aside0.mk hA
              clear hA hnil HA
              obtain rfl : true = r := Option.some.inj HA2.out
              go_wp2
              go_ret
              exact ⟨rfl, HB.out⟩
def core_exprs_may.f (k : Nat) (l0 : List S41) (a1 : Int) : Option Bool := exprsF (core_may.f k) l0 a1
set_option maxHeartbeats 4000000 in
theorem core_exprs_may.calls (k : Nat) (A0 : Option Addr) (l0 : List S41) (a1 : Int) (r : Bool) (w : World) (hL : LaidW w) (hr0 : Kd.C k41 w A0 l0.length l0) (h : core_exprs_may.f k l0 a1 = some r) :
    Calls Tryd.prog 31 #[.pointer A0, .int .i64 a1, .func (.func 32) #[] #[]] w fun e w' => e = .returned (.bool r) ∧ Below w.heap.size w w' := by
  unfold core_exprs_may.f at h
  obtain ⟨c, rfl⟩ : ∃ c, l0 = [c] := by
    unfold exprsF at h; split at h
    · exact ⟨_, rfl⟩
    · exact absurd h (by simp)
  simp only [exprsF] at h
  have HE := Aside0.mk h
  obtain ⟨ad, A2, c2, A3, c3, A4, c4, A5, c5, A6, c6, rfl, x0, x1, x2, x3, x4, x5, x6, l2, C2, l3, C3, l4, C4, l5, C5, l6, C6⟩ := at_T41 hr0 0 (by omega) (by simp)
  have hz : (ad.add ((0 : Int).toNat * 7)) = ad := by rw [show (0 : Int).toNat * 7 = 0 from rfl, Addr.add_zero']
  rw [hz] at x0 x1 x2 x3 x4 x5 x6
  have hc0 : rd_T41 [c] 0 = c := rfl
  rw [hc0] at x0 x1 x2 x3 x4 x5 x6 l2 l3 l4 C2 C3 C4
  clear h hr0 hz hc0 C5 C6 l5 l6
  have HC2 := Aside0.mk C2
  have HC3 := Aside0.mk C3
  have HC4 := Aside0.mk C4
  have HX := Aside0.mk (And.intro x2 (And.intro x3 x4))
  have HX0 := Aside0.mk x0
  have HL := Aside0.mk (And.intro l2 (And.intro l3 l4))
  have HLD := Aside0.mk hL
  clear hL
  clear C2 C3 C4 l2 l3 l4 x0 x1 x3 x4 x5 x6
  go_enter Tryd.func31, Tryd.ntmps31
  go_wp2
  clear x2
  go_loopg [16] c.f2.length (fun gf vv wx => ∃ (i : Nat), vv = .int .i64 (i : Int) ∧ Aside0 (Below w.heap.size w wx) ∧ Aside0 (andO (allF (core_may.f k) a1 (boundF (c.f2.drop i))) (andO (allF (core_may.f k) a1 (boundP c.f3)) (exF (core_may.f k) c.f0 a1 0 c.f4)) = some r) ∧ Aside0 (i + gf = c.f2.length))
  case atStart => exact ⟨0, rfl, ⟨Below.refl _ _⟩, HE, ⟨Nat.zero_add _⟩⟩
  case round =>
    obtain ⟨i, rfl, HB, HA, HG⟩ := hrel
    have y2 := pw_cell_below HB.out HX.out.1
    by_cases hi : i < c.f2.length
    · obtain ⟨ae, a, x, e1, ha, hd, f0, f1, fb, f7, hal, cz⟩ := nth37 (Kd.C_below HC2.out HB.out) i hi
      subst e1
      have hA := HA.out
      have hi' : ((i : Int) < (c.f2.length : Int)) := cast_lt hi
      have hw := wrap_succ i _ hi (Kd.C_max HC2.out)
      obtain ⟨g', rfl⟩ : ∃ g', gk = g' + 1 := gk_pos HG.out hi
      rw [hd, boundF_cons] at hA
      by_cases hbd : x.f2 = true
      · rw [hbd] at fb
        rw [if_pos hbd] at hA
        obtain ⟨b, hb, hT, hF⟩ := allF_step hA
        have HA' := Aside0.mk hb
        have HT := Aside0.mk hT
        have HF := Aside0.mk hF
        have HCZ := Aside0.mk cz
        have HLZ := Aside0.mk (HLD.out.below HB.out)
        clear hA hb hT hF cz hd HA
        cases b with
        | true =>
          have HT' := Aside0.mk (HT.out rfl)
          clear HT HF
          go_wp2_with (go_at_call 32; (refine (core_may.calls k _ [x.f3] a1 true _ HLZ.out HCZ.out HA'.out).mono ?_); rintro e w1 ⟨rfl, hb1⟩)
          go_roundg g'
          case measure => exact Nat.lt_succ_self _
          case rel => exact ⟨i + 1, by rw [hw], ⟨HB.out.trans (hb1.mono HB.out.size)⟩, HT', ⟨gk_next HG.out⟩⟩
        | false =>
          obtain rfl : r = false := HF.out rfl
          clear HT HF
          go_wp2_with (go_at_call 32; (refine (core_may.calls k _ [x.f3] a1 false _ HLZ.out HCZ.out HA'.out).mono ?_); rintro e w1 ⟨rfl, hb1⟩)
          go_ret
          exact ⟨rfl, HB.out.trans (hb1.mono HB.out.size)⟩
      · rw [if_neg hbd] at hA
        have hbf : x.f2 = false := by simpa using hbd
        rw [hbf] at fb
        have HA3 := Aside0.mk hA
        clear hA hd HA cz
        go_wp2
        go_roundg g'
        case measure => exact Nat.lt_succ_self _
        case rel => exact ⟨i + 1, by rw [hw], HB, HA3, ⟨gk_next HG.out⟩⟩
    · have hnil : c.f2.drop i = [] := drop_end hi
      have hi' : ¬ ((i : Int) < (c.f2.length : Int)) := cast_nlt hi
      have hA := HA.out
      rw [hnil] at hA
      have HA2 := Aside0.mk hA
      clear hA hnil HA
      have y3 := pw_cell_below HB.out HX.out.2.1
      clear y2
      go_wp2
      clear y3
      go_loopg [46] c.f3.length (fun gf vv wx => ∃ (i : Nat), vv = .int .i64 (i : Int) ∧ Aside0 (Below w.heap.size w wx) ∧ Aside0 (andO (allF (core_may.f k) a1 (boundP (c.f3.drop i))) (exF (core_may.f k) c.f0 a1 0 c.f4) = some r) ∧ Aside0 (i + gf = c.f3.length))
      case atStart => exact ⟨0, rfl, HB, ⟨andO_nil HA2.out⟩, ⟨Nat.zero_add _⟩⟩
      case round =>
        obtain ⟨i, rfl, HB, HA, HG⟩ := hrel
        have y2 := pw_cell_below HB.out HX.out.2.1
        by_cases hi : i < c.f3.length
        · obtain ⟨ae, a, x, e1, ha, hd, f0, fb, hal, cz⟩ := nth44 (Kd.C_below HC3.out HB.out) i hi
          subst e1
          have hA := HA.out
          have hi' : ((i : Int) < (c.f3.length : Int)) := cast_lt hi
          have hw := wrap_succ i _ hi (Kd.C_max HC3.out)
          obtain ⟨g', rfl⟩ : ∃ g', gk = g' + 1 := gk_pos HG.out hi
          rw [hd, boundP_cons] at hA
          by_cases hbd : x.f1 = true
          · rw [hbd] at fb
            rw [if_pos hbd] at hA
            obtain ⟨b, hb, hT, hF⟩ := allF_step hA
            have HA' := Aside0.mk hb
            have HT := Aside0.mk hT
            have HF := Aside0.mk hF
            have HCZ := Aside0.mk cz
            have HLZ := Aside0.mk (HLD.out.below HB.out)
            clear hA hb hT hF cz hd HA
            cases b with
            | true =>
              have HT' := Aside0.mk (HT.out rfl)
              clear HT HF
              go_wp2_with (go_at_call 32; (refine (core_may.calls k _ [x.f2] a1 true _ HLZ.out HCZ.out HA'.out).mono ?_); rintro e w1 ⟨rfl, hb1⟩)
              go_roundg g'
              case measure => exact Nat.lt_succ_self _
              case rel => exact ⟨i + 1, by rw [hw], ⟨HB.out.trans (hb1.mono HB.out.size)⟩, HT', ⟨gk_next HG.out⟩⟩
            | false =>
              obtain rfl : r = false := HF.out rfl
              clear HT HF
              go_wp2_with (go_at_call 32; (refine (core_may.calls k _ [x.f2] a1 false _ HLZ.out HCZ.out HA'.out).mono ?_); rintro e w1 ⟨rfl, hb1⟩)
              go_ret
              exact ⟨rfl, HB.out.trans (hb1.mono HB.out.size)⟩
          · rw [if_neg hbd] at hA
            have hbf : x.f1 = false := by simpa using hbd
            rw [hbf] at fb
            have HA3 := Aside0.mk hA
            clear hA hd HA cz
            go_wp2
            go_roundg g'
            case measure => exact Nat.lt_succ_self _
            case rel => exact ⟨i + 1, by rw [hw], HB, HA3, ⟨gk_next HG.out⟩⟩
        · have hnil : c.f3.drop i = [] := drop_end hi
          have hi' : ¬ ((i : Int) < (c.f3.length : Int)) := cast_nlt hi
          have hA := HA.out
          rw [hnil] at hA
          have HA2 := Aside0.mk hA
          clear hA hnil HA
          have y3 := pw_cell_below HB.out HX.out.2.2
          clear y2
          go_wp2
          clear y3
          go_loopg [76] c.f4.length (fun gf vv wx => ∃ (i : Nat), vv = .int .i64 (i : Int) ∧ Aside0 (Below w.heap.size w wx) ∧ Aside0 (exF (core_may.f k) c.f0 a1 i (c.f4.drop i) = some r) ∧ Aside0 (i + gf = c.f4.length))
          case atStart => exact ⟨0, rfl, HB, ⟨andO_nil HA2.out⟩, ⟨Nat.zero_add _⟩⟩
          case round =>
            obtain ⟨i, rfl, HB, HA, HG⟩ := hrel
            have y2 := pw_cell_below HB.out HX.out.2.2
            by_cases hi : i < c.f4.length
            · obtain ⟨ae, a, x, A7, c7, e1, ha, hd, f0, f1, fb, f7, lz, cy, hal, cz⟩ := nth35 (Kd.C_below HC4.out HB.out) i hi
              subst e1
              have hA := HA.out
              have hi' : ((i : Int) < (c.f4.length : Int)) := cast_lt hi
              have hw := wrap_succ i _ hi (Kd.C_max HC4.out)
              obtain ⟨g', rfl⟩ : ∃ g', gk = g' + 1 := gk_pos HG.out hi
              rw [hd] at hA
              have hx0 := pw_cell_below HB.out HX0.out
              clear f0 f1 fb f7 lz cy hal
              by_cases hk4 : c.f0 = 4
              · by_cases hi1 : i = 1
                · have hst : (if c.f0 = 4 ∧ i = 1 then (2 : Int) else 0) = 2 := if_pos ⟨hk4, hi1⟩
                  have hi1' : ((i : Int) == 1) = true := by rw [hi1]; rfl
                  rw [hk4] at hx0
                  have hst2 := exF_step hA
                  rw [hst] at hst2
                  clear hst hk4 hi1 hA
                  have hA := hst2
                  clear hst2
                  obtain ⟨b, hb, hT, hF⟩ := hA
                  have HA' := Aside0.mk hb
                  have HT := Aside0.mk hT
                  have HF := Aside0.mk hF
                  have HCZ := Aside0.mk cz
                  have HLZ := Aside0.mk (HLD.out.below HB.out)
                  clear hb hT hF cz hd HA
                  cases b with
                  | true =>
                    have HT' := Aside0.mk (HT.out rfl)
                    clear HT HF
                    go_wp2_with (go_at_call 32; (refine (core_may.calls k _ [x] (wrap64 (a1 + 2)) true _ HLZ.out HCZ.out HA'.out).mono ?_); rintro e w1 ⟨rfl, hb1⟩)
                    go_roundg g'
                    case measure => exact Nat.lt_succ_self _
                    case rel => exact ⟨i + 1, by rw [hw], ⟨HB.out.trans (hb1.mono HB.out.size)⟩, HT', ⟨gk_next HG.out⟩⟩
                  | false =>
                    obtain rfl : r = false := HF.out rfl
                    clear HT HF
                    go_wp2_with (go_at_call 32; (refine (core_may.calls k _ [x] (wrap64 (a1 + 2)) false _ HLZ.out HCZ.out HA'.out).mono ?_); rintro e w1 ⟨rfl, hb1⟩)
                    go_ret
                    exact ⟨rfl, HB.out.trans (hb1.mono HB.out.size)⟩
                · have hst : (if c.f0 = 4 ∧ i = 1 then (2 : Int) else 0) = 0 := if_neg (fun h => hi1 h.2)
                  have hi1' : ((i : Int) == 1) = false := by rw [beq_eq_false_iff_ne]; intro h; exact hi1 (by omega)
                  rw [hk4] at hx0
                  have hst2 := exF_step hA
                  rw [hst] at hst2
                  clear hst hk4 hi1 hA
                  have hA := hst2
                  clear hst2
                  rw [Int.add_zero] at hA
                  obtain ⟨b, hb, hT, hF⟩ := hA
                  have HA' := Aside0.mk hb
                  have HT := Aside0.mk hT
                  have HF := Aside0.mk hF
                  have HCZ := Aside0.mk cz
                  have HLZ := Aside0.mk (HLD.out.below HB.out)
                  clear hb hT hF cz hd HA
                  cases b with
                  | true =>
                    have HT' := Aside0.mk (HT.out rfl)
                    clear HT HF
                    go_wp2_with (go_at_call 32; (refine (core_may.calls k _ [x] (wrap64 a1) true _ HLZ.out HCZ.out HA'.out).mono ?_); rintro e w1 ⟨rfl, hb1⟩)
                    go_roundg g'
                    case measure => exact Nat.lt_succ_self _
                    case rel => exact ⟨i + 1, by rw [hw], ⟨HB.out.trans (hb1.mono HB.out.size)⟩, HT', ⟨gk_next HG.out⟩⟩
                  | false =>
                    obtain rfl : r = false := HF.out rfl
                    clear HT HF
                    go_wp2_with (go_at_call 32; (refine (core_may.calls k _ [x] (wrap64 a1) false _ HLZ.out HCZ.out HA'.out).mono ?_); rintro e w1 ⟨rfl, hb1⟩)
                    go_ret
                    exact ⟨rfl, HB.out.trans (hb1.mono HB.out.size)⟩
              · have hst : (if c.f0 = 4 ∧ i = 1 then (2 : Int) else 0) = 0 := if_neg (fun h => hk4 h.1)
                have hk4' : (c.f0 == 4) = false := by rw [beq_eq_false_iff_ne]; exact hk4
                have hst2 := exF_step hA
                rw [hst] at hst2
                clear hst hk4 hA
                have hA := hst2
                clear hst2
                rw [Int.add_zero] at hA
                obtain ⟨b, hb, hT, hF⟩ := hA
                have HA' := Aside0.mk hb
                have HT := Aside0.mk hT
                have HF := Aside0.mk hF
                have HCZ := Aside0.mk cz
                have HLZ := Aside0.mk (HLD.out.below HB.out)
                clear hb hT hF cz hd HA
                cases b with
                | true =>
                  have HT' := Aside0.mk (HT.out rfl)
                  clear HT HF
                  go_wp2_with (go_at_call 32; (refine (core_may.calls k _ [x] (wrap64 a1) true _ HLZ.out HCZ.out HA'.out).mono ?_); rintro e w1 ⟨rfl, hb1⟩)
                  go_roundg g'
                  case measure => exact Nat.lt_succ_self _
                  case rel => exact ⟨i + 1, by rw [hw], ⟨HB.out.trans (hb1.mono HB.out.size)⟩, HT', ⟨gk_next HG.out⟩⟩
                | false =>
                  obtain rfl : r = false := HF.out rfl
                  clear HT HF
                  go_wp2_with (go_at_call 32; (refine (core_may.calls k _ [x] (wrap64 a1) false _ HLZ.out HCZ.out HA'.out).mono ?_); rintro e w1 ⟨rfl, hb1⟩)
                  go_ret
                  exact ⟨rfl, HB.out.trans (hb1.mono HB.out.size)⟩
            · have hnil : c.f4.drop i = [] := drop_end hi
              have hi' : ¬ ((i : Int) < (c.f4.length : Int)) := cast_nlt hi
              have hA := HA.out
              rw [hnil] at hA
              have HA2 := Aside0.mk hA
              clear hA hnil HA
              obtain rfl : true = r := Option.some.inj HA2.out
              go_wp2
              go_ret
              exact ⟨rfl, HB.out⟩
theorem nth41 {w : World} {A : Option Addr} {xs : List S41} (h : Kd.C k41 w A xs.length xs) (i : Nat) (hi : i < xs.length) : ∃ ae a x A5 c5 A6 c6, A = some ae ∧ ae.add (i * 7) = a ∧ xs.drop i = x :: xs.drop (i + 1) ∧
    w.cell? a = some (.int .i64 x.f0) ∧ w.cell? ⟨a.block, a.off + 5, none⟩ = some (.slice A5 x.f5.length c5) ∧ w.cell? ⟨a.block, a.off + 6, none⟩ = some (.slice A6 x.f6.length c6) ∧
    x.f5.length ≤ c5 ∧ Kd.C k41 w A5 x.f5.length x.f5 ∧ x.f6.length ≤ c6 ∧ Kd.C k41 w A6 x.f6.length x.f6 ∧ a.block < w.heap.size ∧ Kd.C k41 w (some a) 1 [x] := by
  obtain ⟨ae, A2, c2, A3, c3, A4, c4, A5, c5, A6, c6, e1, f0, f1, f2, f3, f4, f5, f6, l2, g2, l3, g3, l4, g4, l5, g5, l6, g6⟩ := at_T41 h (i : Int) (by omega) (by omega)
  rw [Int.toNat_natCast] at f0 f1 f2 f3 f4 f5 f6
  exact ⟨ae, _, rd_T41 xs i, A5, c5, A6, c6, e1, rfl, drop_getD _ _ _ hi, f0, f5, f6, l5, g5, l6, g6, World.block_lt_of_cell? _ _ f0, one41 f0 f1 f2 f3 f4 f5 f6 l2 g2 l3 g3 l4 g4 l5 g5 l6 g6⟩
/-- What lies around a node. -/
structure Ar where
  st : Int
  ne : Int
  lo : Int
/-- What was counted. -/
structure LSt where
  cnt : Int
  pcs : Int
  most : Int
  code : Int
def arCells (a : Ar) : Array Value := #[.int .i64 a.st, .int .i64 a.ne, .int .i64 a.lo]
def lkCells (s : LSt) : Array Value := #[.int .i64 s.cnt, .int .i64 s.pcs, .int .i64 s.most, .int .i64 s.code]
def ArAt (w : World) (b : Nat) (a : Ar) : Prop := w.heap[b]? = some (.cells (arCells a) 60 (0, 0))
def LkAt (w : World) (g : Nat) (s : LSt) : Prop := w.heap[g]? = some (.cells (lkCells s) 49 (0, 0))
theorem ArAt.c0 {w : World} {b : Nat} {a : Ar} (h : ArAt w b a) : w.cell? ⟨b, 0, none⟩ = some (.int .i64 a.st) := (blk_cell h 0).trans rfl
theorem ArAt.c1 {w : World} {b : Nat} {a : Ar} (h : ArAt w b a) : w.cell? ⟨b, 1, none⟩ = some (.int .i64 a.ne) := (blk_cell h 1).trans rfl
theorem ArAt.c2 {w : World} {b : Nat} {a : Ar} (h : ArAt w b a) : w.cell? ⟨b, 2, none⟩ = some (.int .i64 a.lo) := (blk_cell h 2).trans rfl
theorem LkAt.c0 {w : World} {b : Nat} {a : LSt} (h : LkAt w b a) : w.cell? ⟨b, 0, none⟩ = some (.int .i64 a.cnt) := (blk_cell h 0).trans rfl
theorem LkAt.c1 {w : World} {b : Nat} {a : LSt} (h : LkAt w b a) : w.cell? ⟨b, 1, none⟩ = some (.int .i64 a.pcs) := (blk_cell h 1).trans rfl
theorem LkAt.c2 {w : World} {b : Nat} {a : LSt} (h : LkAt w b a) : w.cell? ⟨b, 2, none⟩ = some (.int .i64 a.most) := (blk_cell h 2).trans rfl
theorem LkAt.c3 {w : World} {b : Nat} {a : LSt} (h : LkAt w b a) : w.cell? ⟨b, 3, none⟩ = some (.int .i64 a.code) := (blk_cell h 3).trans rfl
theorem LkAt.fr {w : World} {b : Nat} {a : LSt} (h : LkAt w b a) (i : Nat) : w.frozen? ⟨b, i, none⟩ = false := blk_frozen h i
theorem LkAt.s0 {w : World} {b : Nat} {a : LSt} (h : LkAt w b a) (v : Int) : LkAt (w.setCell ⟨b, 0, none⟩ (.int .i64 v)) b { a with cnt := v } := blk_put h 0 _ rfl
theorem LkAt.s1 {w : World} {b : Nat} {a : LSt} (h : LkAt w b a) (v : Int) : LkAt (w.setCell ⟨b, 1, none⟩ (.int .i64 v)) b { a with pcs := v } := blk_put h 1 _ rfl
theorem LkAt.s2 {w : World} {b : Nat} {a : LSt} (h : LkAt w b a) (v : Int) : LkAt (w.setCell ⟨b, 2, none⟩ (.int .i64 v)) b { a with most := v } := blk_put h 2 _ rfl
theorem LkAt.s3 {w : World} {b : Nat} {a : LSt} (h : LkAt w b a) (v : Int) : LkAt (w.setCell ⟨b, 3, none⟩ (.int .i64 v)) b { a with code := v } := blk_put h 3 _ rfl
theorem LkAt.below {B : Nat} {w w' : World} {g : Nat} {s : LSt} (h : LkAt w g s) (ho : Below B w w') (hs : g < B) : LkAt w' g s := (ho.block _ hs).trans h
theorem LkAt.lt {w : World} {g : Nat} {s : LSt} (h : LkAt w g s) : g < w.heap.size := blk_lt h
theorem LkAt.grow {w w' : World} {g : Nat} {s : LSt} (h : LkAt w g s) (ho : Below w.heap.size w w') : LkAt w' g s := (ho.block _ h.lt).trans h
theorem ArAt.lt {w : World} {g : Nat} {s : Ar} (h : ArAt w g s) : g < w.heap.size := blk_lt h
theorem ArAt.only {S : Nat → Prop} {w w' : World} {b : Nat} {a : Ar} (h : ArAt w b a) (ho : Only S w w') (hs : ¬ S b) : ArAt w' b a := (ho.block _ h.lt hs).trans h
theorem ArAt.new (w : World) (a : Ar) : ArAt (w.alloc (.cells (arCells a) 60)) w.heap.size a := blk_new _ _
/-- A node's fault by itself: none; or its code. -/
def faultOf (k : Nat) (c : S41) (a b : Ar) (p : Int) : Option (Option Int) :=
  if p > 4096 then some (some 1504) else if b.st > 64 ∨ b.ne > 63 ∨ b.lo > 8 then some (some 1503) else
  (core_formed.f k [c]).bind fun x => if x = true then (core_exprs_may.f k [c] a.st).bind fun y => if y = true then (core_exprs_placed.f k [c] a.st).bind fun z => if z = true then some none
    else some (some 1502) else some (some 1501) else some (some 1500)
def behindF (a : Ar) (c : S41) : Option Ar := (core_around_behind.f a.st a.ne a.lo [c]).map fun z => ⟨z.1, z.2.1, z.2.2⟩
def codeOf (f : Option Int) (d : Int) : Int := match f with
  | some x => x
  | none => d
def maxI (a b : Int) : Int := if a < b then b else a
def oneNode (k : Nat) (g : List S41 → Ar → LSt → Option (Bool × LSt)) (c : S41) (a : Ar) (s : LSt) : Option (Bool × LSt) :=
  (behindF a c).bind fun b => (shape_Pieces.f k [c] 4096).bind fun p => (faultOf k c a b (wrap64 (s.pcs + p))).bind fun f =>
    if codeOf f s.code = 0 then (g c.f5 b ⟨wrap64 (s.cnt + 1), wrap64 (s.pcs + p), maxI s.most b.lo, codeOf f s.code⟩).bind fun z => if z.1 = true then g c.f6 b z.2 else some (false, z.2)
    else some (false, ⟨wrap64 (s.cnt + 1), wrap64 (s.pcs + p), maxI s.most b.lo, codeOf f s.code⟩)
def nodesL (k : Nat) (g : List S41 → Ar → LSt → Option (Bool × LSt)) : List S41 → Ar → LSt → Option (Bool × LSt)
  | [], _, s => some (true, s)
  | c :: cs, a, s => (oneNode k g c a s).bind fun z => if z.1 = true then nodesL k g cs a z.2 else some (false, z.2)
def nodesF : Nat → List S41 → Ar → LSt → Option (Bool × LSt)
  | 0, _, _, _ => none
  | k + 1, l, a, s => nodesL k (nodesF k) l a s
theorem nodesF_some {k : Nat} {l : List S41} {a : Ar} {s : LSt} {z : Bool × LSt} (h : nodesF k l a s = some z) : ∃ k', k = k' + 1 ∧ nodesL k' (nodesF k') l a s = some z := by
  cases k with
  | zero => simp [nodesF] at h
  | succ k => exact ⟨k, rfl, h⟩
/-- What stands in a round: the looker, what lies around the kids, what lies around the node; what came in is as it was. -/
structure Five (w0 w : World) (g ba bi : Nat) (a b : Ar) (s : LSt) (wx : World) : Prop where
  lk : LkAt wx g s
  inn : ArAt wx bi b
  out : ArAt wx ba a
  only : Only (· = g) w wx
  below : Below w0.heap.size w0 wx
theorem Five.grow {w0 w wx wy : World} {g ba bi : Nat} {a b : Ar} {s : LSt} (h : Five w0 w g ba bi a b s wx) (hn : ba ≠ g ∧ bi ≠ g) (hb : Below wx.heap.size wx wy) : Five w0 w g ba bi a b s wy :=
  ⟨h.lk.grow hb, h.inn.only (Only.of_below (S := (· = g)) hb) hn.2, h.out.only (Only.of_below (S := (· = g)) hb) hn.1, h.only.trans (Only.of_below hb), h.below.trans (hb.mono h.below.size)⟩
theorem Five.put {w0 w wx : World} {g ba bi : Nat} {a b : Ar} {s s' : LSt} (h : Five w0 w g ba bi a b s wx) (hn : ba ≠ g ∧ bi ≠ g) (hg : w0.heap.size ≤ g) {i : Nat} {u : Value} (hs : LkAt (wx.setCell ⟨g, i, none⟩ u) g s') : Five w0 w g ba bi a b s' (wx.setCell ⟨g, i, none⟩ u) :=
  ⟨hs, h.inn.only ((Only.refl (· = g) wx).setCell (p := ⟨g, i, none⟩) rfl u) hn.2, h.out.only ((Only.refl (· = g) wx).setCell (p := ⟨g, i, none⟩) rfl u) hn.1, h.only.setCell (p := ⟨g, i, none⟩) rfl u, h.below.setCell hg u⟩
theorem Five.only' {w0 w wx wy : World} {g ba bi : Nat} {a b : Ar} {s s' : LSt} (h : Five w0 w g ba bi a b s wx) (hn : ba ≠ g ∧ bi ≠ g) (hg : w0.heap.size ≤ g) (ho : Only (· = g) wx wy) (hs : LkAt wy g s') : Five w0 w g ba bi a b s' wy :=
  ⟨hs, h.inn.only ho hn.2, h.out.only ho hn.1, h.only.trans ho, Only.below h.below ho h.below.size (fun k hk => hk ▸ hg)⟩
theorem Five.drew {w0 w wx : World} {g ba bi : Nat} {a b : Ar} {s : LSt} (h : Five w0 w g ba bi a b s wx) : Five w0 w g ba bi a b s wx.drew := ⟨h.lk, h.inn, h.out, h.only.drewN 1, h.below.drew⟩
set_option maxHeartbeats 8000000 in
set_option maxRecDepth 1000000 in
theorem core_nodes.calls (k : Nat) : ∀ (A0 : Option Addr) (c0 : Nat) (l0 : List S41) (a : Ar) (s t : LSt) (r : Bool) (g : Nat) (w0 w : World) (hL : LaidW w0) (hb : Below w0.heap.size w0 w) (hr0 : Kd.C k41 w0 A0 l0.length l0) (hc0 : l0.length ≤ c0)
    (hg : w0.heap.size ≤ g) (X : LkAt w g s) (h : nodesF k l0 a s = some (r, t)),
    Calls Tryd.prog 23 #[.pointer (some ⟨g, 0, none⟩), .slice A0 l0.length c0, .agg #[.int .i64 a.st, .int .i64 a.ne, .int .i64 a.lo]] w fun e w' => e = .returned (.bool r) ∧ Only (· = g) w w' ∧ LkAt w' g t := by
  induction k with
  | zero => intro A0 c0 l0 a s t r g w0 w hL hb hr0 hc0 hg X h; simp [nodesF] at h
  | succ k ih =>
    intro A0 c0 l0 a s t r g w0 w hL hb hr0 hc0 hg X h
    have HE := Aside0.mk (show nodesL k (nodesF k) l0 a s = some (r, t) from h)
    have IH := Aside0.mk ih
    have HL := Aside0.mk hL
    have HB0 := Aside0.mk hb
    have HR := Aside0.mk hr0
    have HC0 := Aside0.mk hc0
    have HGE := Aside0.mk hg
    have HX := Aside0.mk X
    clear h ih hL hb hr0 hc0 hg X
    go_enter Tryd.func23, Tryd.ntmps23
    go_wp2
    have A1 := Aside0.mk (ArAt.new w a)
    have B1 := Aside0.mk (Below.alloc (Below.refl w.heap.size w) (Nat.le_refl _) (.cells (arCells a) 60))
    have O1 := Aside0.mk (Only.of_below (S := (· = g)) B1.out)
    have X1 := Aside0.mk (HX.out.grow B1.out)
    have N1 := Aside0.mk (show w.heap.size ≠ g from fun e => by have := HX.out.lt; omega)
    have S1 := Aside0.mk (HB0.out.trans (B1.out.mono HB0.out.size))
    clear B1
    change Code.wp _ _ _ _ (w.alloc (.cells (arCells a) 60))
    generalize w.alloc (.cells (arCells a) 60) = W1 at A1 O1 X1 S1 ⊢
    generalize w.heap.size = ba at A1 N1 ⊢
    go_loopg [12] l0.length (fun gf vv wx => ∃ (i : Nat) (s' : LSt), vv = .int .i64 (i : Int) ∧ Aside0 (Only (· = g) w wx) ∧ Aside0 (LkAt wx g s') ∧ Aside0 (ArAt wx ba a) ∧ Aside0 (Below w0.heap.size w0 wx) ∧ Aside0 (nodesL k (nodesF k) (l0.drop i) a s' = some (r, t)) ∧ Aside0 (i + gf = l0.length))
    case atStart => exact ⟨0, s, rfl, O1, X1, A1, S1, HE, ⟨Nat.zero_add _⟩⟩
    case round =>
      obtain ⟨i, s', rfl, HO, HX, HA, HB, HN, HG⟩ := hrel
      by_cases hi : i < l0.length
      · obtain ⟨ae, ad, x, A5, c5, A6, c6, e1, ha, hd, f0, f5, f6, l5, C5, l6, C6, hal, cz⟩ := nth41 HR.out i hi
        subst e1
        have hN := HN.out
        have hi' : ((i : Int) < (l0.length : Int)) := cast_lt hi
        have hw := wrap_succ i _ hi (Kd.C_max HR.out)
        obtain ⟨g', rfl⟩ : ∃ g', gk = g' + 1 := gk_pos HG.out hi
        rw [hd] at hN
        obtain ⟨⟨b1, s1⟩, hone0, hN2⟩ := Option.bind_eq_some_iff.mp (show (oneNode k (nodesF k) x a s').bind _ = some (r, t) from hN)
        have HN2 := Aside0.mk hN2
        obtain ⟨b, hbh0, hone1⟩ := Option.bind_eq_some_iff.mp (show (behindF a x).bind _ = some (b1, s1) from hone0)
        obtain ⟨p, hp, hone2⟩ := Option.bind_eq_some_iff.mp hone1
        obtain ⟨f, hf, hone⟩ := Option.bind_eq_some_iff.mp hone2
        have HONE := Aside0.mk hone
        have HP := Aside0.mk hp
        have HF := Aside0.mk hf
        obtain ⟨zz, hbh, hzz⟩ := Option.map_eq_some_iff.mp hbh0
        have HBH := Aside0.mk (show core_around_behind.f a.st a.ne a.lo [x] = some (b.st, b.ne, b.lo) from by rw [hbh, ← hzz])
        have CZ0 := Aside0.mk cz
        have HCZ := Aside0.mk (Kd.C_below CZ0.out HB.out)
        have H5 := Aside0.mk (And.intro f5 (And.intro l5 C5))
        have H6 := Aside0.mk (And.intro f6 (And.intro l6 C6))
        have HAL := Aside0.mk hal
        have a0 := HA.out.c0
        have a1 := HA.out.c1
        have a2 := HA.out.c2
        clear hN hd hN2 hone0 hone1 hone2 hbh0 hone hp hf hbh hzz cz f0 f5 f6 l5 C5 l6 C6 HN hal
        go_upto_region 6 with (go_at_call 28; (refine (core_around_behind.calls a.st a.ne a.lo (some ad) [x] b.st b.ne b.lo _ HCZ.out HBH.out).mono ?_); rintro e w1 ⟨rfl, hb1⟩)
        have B2 := Aside0.mk (Below.alloc' hb1 (Nat.le_refl _) (.cells (arCells b) 60))
        have I2 := Aside0.mk (ArAt.new w1 b)
        have NI := Aside0.mk (show w1.heap.size ≠ g from fun e => by have := HX.out.lt; have := hb1.size; omega)
        change Code.wp _ _ _ _ (w1.alloc (.cells (arCells b) 60))
        generalize w1.alloc (.cells (arCells b) 60) = W2 at B2 I2 ⊢
        generalize w1.heap.size = bi at I2 NI ⊢
        have F2 := Aside0.mk (show Five w0 w g ba bi a b s' W2 from ⟨HX.out.grow B2.out, I2.out, HA.out.only (Only.of_below (S := (· = g)) B2.out) N1.out, HO.out.trans (Only.of_below B2.out), HB.out.trans (B2.out.mono HB.out.size)⟩)
        have NN := Aside0.mk (And.intro N1.out NI.out)
        clear hb1 B2 I2 HO HX HA HB a0 a1 a2
        have x0 := F2.out.lk.c0
        have x0f := F2.out.lk.fr 0
        go_upto_region 7 with (fail)
        have F3 := Aside0.mk (F2.out.put NN.out HGE.out (F2.out.lk.s0 (wrap64 (s'.cnt + 1))))
        generalize W2.setCell ⟨g, 0, none⟩ (.int .i64 (wrap64 (s'.cnt + 1))) = W3 at F3 ⊢
        clear F2 x0 x0f
        have HCW := Aside0.mk (Kd.C_below CZ0.out F3.out.below)
        clear HCZ
        have x1 := F3.out.lk.c1
        have x1f := F3.out.lk.fr 1
        go_cut [37] (fun v wx => Aside0 (Five w0 w g ba bi a b ⟨wrap64 (s'.cnt + 1), wrap64 (s'.pcs + p), s'.most, s'.code⟩ wx))
        case first =>
          go_region_with ((go_at_call 29; (refine (shape_Pieces.calls k (some ad) [x] 4096 p _ (Kd.C_below HCW.out (by first | exact below_drew (Below.refl _ _) | exact Below.refl _ _)) HP.out).mono ?_); rintro e w9 ⟨rfl, hb9⟩; (have x9 := pw_cell_below hb9 x1); (have y9 := (F3.out.lk.grow (w' := w9) (Below.trans (below_drew (Below.refl _ _)) hb9)).fr 1)))
          all_goals
            have F9 := Aside0.mk (F3.out.grow NN.out (show Below W3.heap.size W3 w9 from Below.trans (below_drew (Below.refl _ _)) (by assumption)))
            clear x9 y9
            go_wp2
            go_meet
            case rel =>
              (try rw [i64w])
              exact ⟨F9.out.put NN.out HGE.out (F9.out.lk.s1 _)⟩
        case rest =>
          clear F3 HCW x1 x1f
          have HCW := Aside0.mk (Kd.C_below CZ0.out hcut.out.below)
          generalize wrap64 (s'.cnt + 1) = nc at hcut HONE ⊢
          generalize wrap64 (s'.pcs + p) = np at hcut HONE HF ⊢
          go_upto_block 2 with (fail)
          have x1 := hcut.out.lk.c1
          have x3f := hcut.out.lk.fr 3
          have x3 := hcut.out.lk.c3
          have b0 := hcut.out.inn.c0
          have b1c := hcut.out.inn.c1
          have b2c := hcut.out.inn.c2
          have F4 := hcut
          clear hcut
          go_cut [37] (fun v wx => Aside0 (Five w0 w g ba bi a b ⟨nc, np, s'.most, codeOf f s'.code⟩ wx))
          case first =>
            have hf := HF.out
            unfold faultOf at hf
            clear HF
            by_cases q1 : np > 4096
            · obtain rfl : some 1504 = f := by rw [if_pos q1] at hf; exact Option.some.inj hf
              have q1' : decide (np > 4096) = true := decide_eq_true q1
              clear hf q1
              go_wp2
              go_meet
              case rel => exact ⟨F4.out.put NN.out HGE.out (F4.out.lk.s3 _)⟩
            · rw [if_neg q1] at hf
              have q1' : decide (np > 4096) = false := decide_eq_false q1
              clear q1
              by_cases q2 : b.st > 64
              · obtain rfl : some 1503 = f := by rw [if_pos (Or.inl q2)] at hf; exact Option.some.inj hf
                have q2' : decide (b.st > 64) = true := decide_eq_true q2
                clear hf q2
                go_wp2
                go_meet
                case rel => exact ⟨F4.out.put NN.out HGE.out (F4.out.lk.s3 _)⟩
              · by_cases q3 : b.ne > 63
                · obtain rfl : some 1503 = f := by rw [if_pos (Or.inr (Or.inl q3))] at hf; exact Option.some.inj hf
                  have q2' : decide (b.st > 64) = false := decide_eq_false q2
                  have q3' : decide (b.ne > 63) = true := decide_eq_true q3
                  clear hf q2 q3
                  go_wp2
                  go_meet
                  case rel => exact ⟨F4.out.put NN.out HGE.out (F4.out.lk.s3 _)⟩
                · by_cases q4 : b.lo > 8
                  · obtain rfl : some 1503 = f := by rw [if_pos (Or.inr (Or.inr q4))] at hf; exact Option.some.inj hf
                    have q2' : decide (b.st > 64) = false := decide_eq_false q2
                    have q3' : decide (b.ne > 63) = false := decide_eq_false q3
                    have q4' : decide (b.lo > 8) = true := decide_eq_true q4
                    clear hf q2 q3 q4
                    go_wp2
                    go_meet
                    case rel => exact ⟨F4.out.put NN.out HGE.out (F4.out.lk.s3 _)⟩
                  · rw [if_neg (fun h => h.elim q2 (fun h => h.elim q3 q4))] at hf
                    have q2' : decide (b.st > 64) = false := decide_eq_false q2
                    have q3' : decide (b.ne > 63) = false := decide_eq_false q3
                    have q4' : decide (b.lo > 8) = false := decide_eq_false q4
                    clear q2 q3 q4
                    obtain ⟨y1, hy1, hf1⟩ := Option.bind_eq_some_iff.mp hf
                    have HY1 := Aside0.mk hy1
                    have HLW := Aside0.mk (HL.out.below F4.out.below)
                    clear hf hy1
                    cases y1 with
                    | false =>
                      obtain rfl : some 1500 = f := Option.some.inj hf1
                      clear hf1
                      go_wp2_with (go_at_call 30; (refine (core_formed.calls k (some ad) [x] false _ HLW.out HCW.out HY1.out).mono ?_); rintro e w5 ⟨rfl, hb5⟩; (have F5 := Aside0.mk (F4.out.grow NN.out hb5)); (have z5 := F5.out.lk.fr 3); (have z6 := F5.out.lk.c3))
                      go_meet
                      case rel => exact ⟨F5.out.put NN.out HGE.out (F5.out.lk.s3 _)⟩
                    | true =>
                      obtain ⟨y2, hy2, hf2⟩ := Option.bind_eq_some_iff.mp (show (core_exprs_may.f k [x] a.st).bind _ = some f from hf1)
                      have HY2 := Aside0.mk hy2
                      have a0 := F4.out.out.c0
                      clear hf1 hy2
                      cases y2 with
                      | false =>
                        obtain rfl : some 1501 = f := Option.some.inj hf2
                        clear hf2
                        go_wp2_with (first | (go_at_call 30; (refine (core_formed.calls k (some ad) [x] true _ HLW.out HCW.out HY1.out).mono ?_); rintro e w5 ⟨rfl, hb5⟩; (have F5 := Aside0.mk (F4.out.grow NN.out hb5)); (have a5 := F5.out.out.c0)) | (go_at_call 31; (refine (core_exprs_may.calls k (some ad) [x] a.st false _ (HLW.out.below hb5) (Kd.C_below HCW.out hb5) HY2.out).mono ?_); rintro e w6 ⟨rfl, hb6⟩; (have F6 := Aside0.mk (F5.out.grow NN.out hb6)); (have z5 := F6.out.lk.fr 3); (have z6 := F6.out.lk.c3)))
                        go_meet
                        case rel => exact ⟨F6.out.put NN.out HGE.out (F6.out.lk.s3 _)⟩
                      | true =>
                        obtain ⟨y3, hy3, hf3⟩ := Option.bind_eq_some_iff.mp (show (core_exprs_placed.f k [x] a.st).bind _ = some f from hf2)
                        have HY3 := Aside0.mk hy3
                        clear hf2 hy3
                        cases y3 with
                        | false =>
                          obtain rfl : some 1502 = f := Option.some.inj hf3
                          clear hf3
                          go_wp2_with (go_at_call 30; (refine (core_formed.calls k (some ad) [x] true _ HLW.out HCW.out HY1.out).mono ?_); rintro e w5 ⟨rfl, hb5⟩; (have F5 := Aside0.mk (F4.out.grow NN.out hb5)); (have a5 := F5.out.out.c0))
                          refine (core_exprs_may.calls k (some ad) [x] a.st true _ (HLW.out.below hb5) (Kd.C_below HCW.out hb5) HY2.out).mono ?_
                          rintro e w6 ⟨rfl, hb6⟩
                          have F6 := Aside0.mk (F5.out.grow NN.out hb6)
                          have a6 := F6.out.out.c0
                          go_wp2_with (fail)
                          refine (core_exprs_placed.calls k (some ad) [x] a.st false _ (Kd.C_below (Kd.C_below HCW.out hb5) hb6) HY3.out).mono ?_
                          rintro e w7 ⟨rfl, hb7⟩
                          have F7 := Aside0.mk (F6.out.grow NN.out hb7)
                          have z5 := F7.out.lk.fr 3
                          have z6 := F7.out.lk.c3
                          go_wp2
                          go_meet
                          case rel => exact ⟨F7.out.put NN.out HGE.out (F7.out.lk.s3 _)⟩
                        | true =>
                          obtain rfl : none = f := Option.some.inj hf3
                          clear hf3
                          go_wp2_with (go_at_call 30; (refine (core_formed.calls k (some ad) [x] true _ HLW.out HCW.out HY1.out).mono ?_); rintro e w5 ⟨rfl, hb5⟩; (have F5 := Aside0.mk (F4.out.grow NN.out hb5)); (have a5 := F5.out.out.c0))
                          refine (core_exprs_may.calls k (some ad) [x] a.st true _ (HLW.out.below hb5) (Kd.C_below HCW.out hb5) HY2.out).mono ?_
                          rintro e w6 ⟨rfl, hb6⟩
                          have F6 := Aside0.mk (F5.out.grow NN.out hb6)
                          have a6 := F6.out.out.c0
                          go_wp2_with (fail)
                          refine (core_exprs_placed.calls k (some ad) [x] a.st true _ (Kd.C_below (Kd.C_below HCW.out hb5) hb6) HY3.out).mono ?_
                          rintro e w7 ⟨rfl, hb7⟩
                          have F7 := Aside0.mk (F6.out.grow NN.out hb7)
                          go_wp2
                          go_meet
                          case rel => exact F7
          case rest =>
            clear HCW x1 x3f x3 b0 b1c b2c F4 HF
            have HCW := Aside0.mk (Kd.C_below CZ0.out hcut.out.below)
            generalize codeOf f s'.code = nf at hcut HONE ⊢
            have x2 := hcut.out.lk.c2
            have x2f := hcut.out.lk.fr 2
            have b2 := hcut.out.inn.c2
            have F4 := hcut
            clear hcut
            go_upto_region 18 with (fail)
            go_region
            have F5 := Aside0.mk ((F4.out.put NN.out HGE.out (F4.out.lk.s2 (if s'.most < b.lo then b.lo else s'.most))).drew)
            have HONE := Aside0.mk (show (if nf = 0 then (nodesF k x.f5 b ⟨nc, np, (if s'.most < b.lo then b.lo else s'.most), nf⟩).bind fun z => if z.1 = true then nodesF k x.f6 b z.2 else some (false, z.2)
              else some (false, ⟨nc, np, (if s'.most < b.lo then b.lo else s'.most), nf⟩)) = some (b1, s1) from HONE.out)
            generalize (if s'.most < b.lo then b.lo else s'.most) = nm at F5 HONE ⊢
            generalize (wc.setCell ⟨g, 2, none⟩ (.int .i64 nm)).drew = W5 at F5 ⊢
            clear F4 HCW x2 x2f b2 CZ0
            have x3 := F5.out.lk.c3
            go_upto_region 19 with (fail)
            have f5 := pw_cell_below F5.out.below H5.out.1
            have j0 := F5.out.inn.c0
            have j1 := F5.out.inn.c1
            have j2 := F5.out.inn.c2
            have F6 := Aside0.mk (F5.out.drew)
            by_cases hz : nf = 0
            · subst hz
              have hON := HONE.out
              rw [if_pos rfl] at hON
              obtain ⟨⟨bb, st⟩, hn1, hON2⟩ := Option.bind_eq_some_iff.mp hON
              have HN1 := Aside0.mk hn1
              clear hON hn1 HONE
              cases bb with
              | false =>
                injection (show some (false, st) = some (b1, s1) from hON2) with hON3
                injection hON3 with h1 h2
                subst h1 h2
                clear hON2
                refine start_ (n := 25) (S := fun w' => w'.cell? ⟨ad.block, ad.off + 5, none⟩ = some (.slice A5 x.f5.length c5) ∧ w'.cell? ⟨ad.block, ad.off + 6, none⟩ = some (.slice A6 x.f6.length c6) ∧ w'.cell? ⟨bi, 0, none⟩ = some (.int .i64 b.st) ∧ w'.cell? ⟨bi, 1, none⟩ = some (.int .i64 b.ne) ∧ w'.cell? ⟨bi, 2, none⟩ = some (.int .i64 b.lo)) (ds := []) #[false, false, false, false, false, false, false, false, false, false, false, false, false, false, false, false, false, false, false, false, false, false, false, false, false] (by kernel_rfl) rfl rfl ⟨(pw_cell_below F6.out.below H5.out.1), (pw_cell_below F6.out.below H6.out.1), F6.out.inn.c0, F6.out.inn.c1, F6.out.inn.c2⟩ (fun hHeld => ?_)
                refine pure_ (i := 0) (N := some 98) (v := ?_) (a' := ?_) #[true, false, false, false, false, false, false, false, false, false, false, false, false, false, false, false, false, false, false, false, false, false, false, false, false] rfl rfl (by kernel_rfl) (fun _ _ _ h => h) (Or.inl ⟨by rfl, ?_⟩) ?_ ?_
                rotate_left
                · intro w'
                  go_simp
                  with_reducible rfl
                rotate_left
                · simp only [Act.put, List.setIfInBounds_toArray, List.set_cons_zero, List.set_cons_succ, i64_w, i32_w]
                  rfl
                refine pure_ (i := 1) (N := some 99) (v := ?_) (a' := ?_) #[true, true, false, false, false, false, false, false, false, false, false, false, false, false, false, false, false, false, false, false, false, false, false, false, false] rfl rfl (by kernel_rfl) (fun _ _ _ h => h) (Or.inl ⟨by rfl, ?_⟩) ?_ ?_
                rotate_left
                · intro w'
                  go_simp
                  with_reducible rfl
                rotate_left
                · simp only [Act.put, List.setIfInBounds_toArray, List.set_cons_zero, List.set_cons_succ, i64_w, i32_w]
                  rfl
                refine pure_ (i := 2) (N := some 100) (v := ?_) (a' := ?_) #[true, true, true, false, false, false, false, false, false, false, false, false, false, false, false, false, false, false, false, false, false, false, false, false, false] rfl rfl (by kernel_rfl) (fun _ _ _ h => h) (Or.inl ⟨by rfl, ?_⟩) ?_ ?_
                rotate_left
                · intro w'
                  go_simp
                  with_reducible rfl
                rotate_left
                · simp only [Act.put, List.setIfInBounds_toArray, List.set_cons_zero, List.set_cons_succ, i64_w, i32_w]
                  rfl
                refine one_ (i := 3) (N := some 101) #[true, true, true, true, false, false, false, false, false, false, false, false, false, false, false, false, false, false, false, false, false, false, false, false, false] rfl rfl (by kernel_rfl) (by decide) (fun K hK => ?_)
                refine value_ (w1 := ?_) (v := ?_) (by rfl) rfl ?_ ?_
                rotate_left 2
                · go_simp
                  constructor
                  · rfl
                  · rfl
                refine hK.out _ _ ⟨(pw_cell_below F6.out.below H5.out.1), (pw_cell_below F6.out.below H6.out.1), F6.out.inn.c0, F6.out.inn.c1, F6.out.inn.c2⟩ (fun hHeld => ?_)
                clear hK K
                refine norm_ (a' := ?_) ?_ ?_
                rotate_left
                · show Act.put _ (some 101) _ = _
                  simp only [Act.put, List.setIfInBounds_toArray, List.set_cons_zero, List.set_cons_succ, i64_w, i32_w]
                  rfl
                refine pure_ (i := 4) (N := some 102) (v := ?_) (a' := ?_) #[true, true, true, true, true, false, false, false, false, false, false, false, false, false, false, false, false, false, false, false, false, false, false, false, false] rfl rfl (by kernel_rfl) (fun _ _ _ h => h) (Or.inl ⟨by rfl, ?_⟩) ?_ ?_
                rotate_left
                · intro w'
                  go_simp
                  with_reducible rfl
                rotate_left
                · simp only [Act.put, List.setIfInBounds_toArray, List.set_cons_zero, List.set_cons_succ, i64_w, i32_w]
                  rfl
                refine pure_ (i := 5) (N := some 103) (v := ?_) (a' := ?_) #[true, true, true, true, true, true, false, false, false, false, false, false, false, false, false, false, false, false, false, false, false, false, false, false, false] rfl rfl (by kernel_rfl) (fun _ _ _ h => h) (Or.inl ⟨by rfl, ?_⟩) ?_ ?_
                rotate_left
                · intro w'
                  go_simp
                  with_reducible rfl
                rotate_left
                · simp only [Act.put, List.setIfInBounds_toArray, List.set_cons_zero, List.set_cons_succ, i64_w, i32_w]
                  rfl
                refine pure_ (i := 6) (N := some 104) (v := ?_) (a' := ?_) #[true, true, true, true, true, true, true, false, false, false, false, false, false, false, false, false, false, false, false, false, false, false, false, false, false] rfl rfl (by kernel_rfl) (fun _ _ _ h => h) (Or.inl ⟨by rfl, ?_⟩) ?_ ?_
                rotate_left
                · intro w'
                  go_simp
                  with_reducible rfl
                rotate_left
                · simp only [Act.put, List.setIfInBounds_toArray, List.set_cons_zero, List.set_cons_succ, i64_w, i32_w]
                  rfl
                refine pure_ (i := 7) (N := some 105) (v := ?_) (a' := ?_) #[true, true, true, true, true, true, true, true, false, false, false, false, false, false, false, false, false, false, false, false, false, false, false, false, false] rfl rfl (by kernel_rfl) (fun _ _ _ h => h) (Or.inl ⟨by rfl, ?_⟩) ?_ ?_
                rotate_left
                · intro w'
                  go_simp
                  with_reducible rfl
                rotate_left
                · simp only [Act.put, List.setIfInBounds_toArray, List.set_cons_zero, List.set_cons_succ, i64_w, i32_w]
                  rfl
                refine pure_ (i := 8) (N := some 106) (v := ?_) (a' := ?_) #[true, true, true, true, true, true, true, true, true, false, false, false, false, false, false, false, false, false, false, false, false, false, false, false, false] rfl rfl (by kernel_rfl) (fun _ _ _ h => h) (Or.inl ⟨by rfl, ?_⟩) ?_ ?_
                rotate_left
                · intro w'
                  go_simp
                  with_reducible rfl
                rotate_left
                · simp only [Act.put, List.setIfInBounds_toArray, List.set_cons_zero, List.set_cons_succ, i64_w, i32_w]
                  rfl
                refine pure_ (i := 9) (N := some 107) (v := ?_) (a' := ?_) #[true, true, true, true, true, true, true, true, true, true, false, false, false, false, false, false, false, false, false, false, false, false, false, false, false] rfl rfl (by kernel_rfl) (fun _ _ _ h => h) (Or.inl ⟨by rfl, ?_⟩) ?_ ?_
                rotate_left
                · intro w'
                  go_simp
                  with_reducible rfl
                rotate_left
                · simp only [Act.put, List.setIfInBounds_toArray, List.set_cons_zero, List.set_cons_succ, i64_w, i32_w]
                  rfl
                refine take_ (i := 10) (N := some 108) (v := ?_) (a' := ?_) #[true, true, true, true, true, true, true, true, true, true, true, false, false, false, false, false, false, false, false, false, false, false, false, false, false] rfl rfl (by kernel_rfl) (fun _ _ _ h => h) (Or.inl ⟨by rfl, ?_⟩) hHeld ?_ ?_
                rotate_left
                · rintro w' ⟨s0, s1, s2, s3, s4⟩
                  go_simp
                  with_reducible rfl
                rotate_left
                · simp only [Act.put, List.setIfInBounds_toArray, List.set_cons_zero, List.set_cons_succ, i64_w, i32_w]
                  rfl
                refine take_ (i := 11) (N := some 109) (v := ?_) (a' := ?_) #[true, true, true, true, true, true, true, true, true, true, true, true, false, false, false, false, false, false, false, false, false, false, false, false, false] rfl rfl (by kernel_rfl) (fun _ _ _ h => h) (Or.inl ⟨by rfl, ?_⟩) hHeld ?_ ?_
                rotate_left
                · rintro w' ⟨s0, s1, s2, s3, s4⟩
                  go_simp
                  with_reducible rfl
                rotate_left
                · simp only [Act.put, List.setIfInBounds_toArray, List.set_cons_zero, List.set_cons_succ, i64_w, i32_w]
                  rfl
                refine one_ (i := 12) (N := some 110) #[true, true, true, true, true, true, true, true, true, true, true, true, true, false, false, false, false, false, false, false, false, false, false, false, false] rfl rfl (by kernel_rfl) (by decide) (fun K hK => ?_)
                refine goes_ Tryd.func23 (by kernel_rfl) rfl #[.pointer (some ⟨g, 0, none⟩), .slice A5 x.f5.length c5, .agg #[.int .i64 b.st, .int .i64 b.ne, .int .i64 b.lo]] (by rfl) rfl rfl (by simp only [List.map_toArray, List.map_cons, List.map_nil]; rfl) ?_
                with_reducible refine (IH.out A5 c5 x.f5 b _ st false g w0 _ HL.out F6.out.below H5.out.2.2 H5.out.2.1 HGE.out F6.out.lk HN1.out).mono ?_
                rintro e w_F7 ⟨rfl, ho_, hx_⟩
                refine ⟨_, rfl, ?_⟩
                have F7 := Aside0.mk (F6.out.only' NN.out HGE.out ho_ hx_)
                clear ho_ hx_
                refine hK.out _ _ ⟨(pw_cell_below F7.out.below H5.out.1), (pw_cell_below F7.out.below H6.out.1), F7.out.inn.c0, F7.out.inn.c1, F7.out.inn.c2⟩ (fun hHeld => ?_)
                clear hK K
                refine norm_ (a' := ?_) ?_ ?_
                rotate_left
                · show Act.put _ (some 110) _ = _
                  simp only [Act.put, List.setIfInBounds_toArray, List.set_cons_zero, List.set_cons_succ, i64_w, i32_w]
                  rfl
                refine pure_ (i := 13) (N := some 111) (v := ?_) (a' := ?_) #[true, true, true, true, true, true, true, true, true, true, true, true, true, true, false, false, false, false, false, false, false, false, false, false, false] rfl rfl (by kernel_rfl) (fun _ _ _ h => h) (Or.inl ⟨by rfl, ?_⟩) ?_ ?_
                rotate_left
                · intro w'
                  go_simp
                  with_reducible rfl
                rotate_left
                · simp only [Act.put, List.setIfInBounds_toArray, List.set_cons_zero, List.set_cons_succ, i64_w, i32_w]
                  rfl
                refine pure_ (i := 14) (N := some 112) (v := ?_) (a' := ?_) #[true, true, true, true, true, true, true, true, true, true, true, true, true, true, true, false, false, false, false, false, false, false, false, false, false] rfl rfl (by kernel_rfl) (fun _ _ _ h => h) (Or.inl ⟨by rfl, ?_⟩) ?_ ?_
                rotate_left
                · intro w'
                  go_simp
                  with_reducible rfl
                rotate_left
                · simp only [Act.put, List.setIfInBounds_toArray, List.set_cons_zero, List.set_cons_succ, i64_w, i32_w]
                  rfl
                refine pure_ (i := 15) (N := some 113) (v := ?_) (a' := ?_) #[true, true, true, true, true, true, true, true, true, true, true, true, true, true, true, true, false, false, false, false, false, false, false, false, false] rfl rfl (by kernel_rfl) (fun _ _ _ h => h) (Or.inl ⟨by rfl, ?_⟩) ?_ ?_
                rotate_left
                · intro w'
                  go_simp
                  with_reducible rfl
                rotate_left
                · simp only [Act.put, List.setIfInBounds_toArray, List.set_cons_zero, List.set_cons_succ, i64_w, i32_w]
                  rfl
                refine pure_ (i := 16) (N := some 114) (v := undef) (a' := ?_) #[true, true, true, true, true, true, true, true, true, true, true, true, true, true, true, true, true, false, false, false, false, false, false, false, false] rfl rfl (by kernel_rfl) (fun _ _ _ h => h) (Or.inr ⟨by rfl, rfl⟩) ?_ ?_
                rotate_left
                · simp only [Act.put, List.setIfInBounds_toArray, List.set_cons_zero, List.set_cons_succ, i64_w, i32_w]
                  rfl
                refine pure_ (i := 17) (N := some 115) (v := undef) (a' := ?_) #[true, true, true, true, true, true, true, true, true, true, true, true, true, true, true, true, true, true, false, false, false, false, false, false, false] rfl rfl (by kernel_rfl) (fun _ _ _ h => h) (Or.inr ⟨by rfl, rfl⟩) ?_ ?_
                rotate_left
                · simp only [Act.put, List.setIfInBounds_toArray, List.set_cons_zero, List.set_cons_succ, i64_w, i32_w]
                  rfl
                refine pure_ (i := 18) (N := some 116) (v := undef) (a' := ?_) #[true, true, true, true, true, true, true, true, true, true, true, true, true, true, true, true, true, true, true, false, false, false, false, false, false] rfl rfl (by kernel_rfl) (fun _ _ _ h => h) (Or.inr ⟨by rfl, rfl⟩) ?_ ?_
                rotate_left
                · simp only [Act.put, List.setIfInBounds_toArray, List.set_cons_zero, List.set_cons_succ, i64_w, i32_w]
                  rfl
                refine pure_ (i := 19) (N := some 117) (v := undef) (a' := ?_) #[true, true, true, true, true, true, true, true, true, true, true, true, true, true, true, true, true, true, true, true, false, false, false, false, false] rfl rfl (by kernel_rfl) (fun _ _ _ h => h) (Or.inr ⟨by rfl, rfl⟩) ?_ ?_
                rotate_left
                · simp only [Act.put, List.setIfInBounds_toArray, List.set_cons_zero, List.set_cons_succ, i64_w, i32_w]
                  rfl
                refine pure_ (i := 20) (N := some 118) (v := undef) (a' := ?_) #[true, true, true, true, true, true, true, true, true, true, true, true, true, true, true, true, true, true, true, true, true, false, false, false, false] rfl rfl (by kernel_rfl) (fun _ _ _ h => h) (Or.inr ⟨by rfl, rfl⟩) ?_ ?_
                rotate_left
                · simp only [Act.put, List.setIfInBounds_toArray, List.set_cons_zero, List.set_cons_succ, i64_w, i32_w]
                  rfl
                refine pure_ (i := 21) (N := some 119) (v := undef) (a' := ?_) #[true, true, true, true, true, true, true, true, true, true, true, true, true, true, true, true, true, true, true, true, true, true, false, false, false] rfl rfl (by kernel_rfl) (fun _ _ _ h => h) (Or.inr ⟨by rfl, rfl⟩) ?_ ?_
                rotate_left
                · simp only [Act.put, List.setIfInBounds_toArray, List.set_cons_zero, List.set_cons_succ, i64_w, i32_w]
                  rfl
                refine pure_ (i := 22) (N := some 120) (v := undef) (a' := ?_) #[true, true, true, true, true, true, true, true, true, true, true, true, true, true, true, true, true, true, true, true, true, true, true, false, false] rfl rfl (by kernel_rfl) (fun _ _ _ h => h) (Or.inr ⟨by rfl, rfl⟩) ?_ ?_
                rotate_left
                · simp only [Act.put, List.setIfInBounds_toArray, List.set_cons_zero, List.set_cons_succ, i64_w, i32_w]
                  rfl
                refine pure_ (i := 23) (N := some 121) (v := undef) (a' := ?_) #[true, true, true, true, true, true, true, true, true, true, true, true, true, true, true, true, true, true, true, true, true, true, true, true, false] rfl rfl (by kernel_rfl) (fun _ _ _ h => h) (Or.inr ⟨by rfl, rfl⟩) ?_ ?_
                rotate_left
                · simp only [Act.put, List.setIfInBounds_toArray, List.set_cons_zero, List.set_cons_succ, i64_w, i32_w]
                  rfl
                refine pure_ (i := 24) (N := some 122) (v := ?_) (a' := ?_) #[true, true, true, true, true, true, true, true, true, true, true, true, true, true, true, true, true, true, true, true, true, true, true, true, true] rfl rfl (by kernel_rfl) (fun _ _ _ h => h) (Or.inl ⟨by rfl, ?_⟩) ?_ ?_
                rotate_left
                · intro w'
                  go_simp
                  with_reducible rfl
                rotate_left
                · simp only [Act.put, List.setIfInBounds_toArray, List.set_cons_zero, List.set_cons_succ, i64_w, i32_w]
                  rfl
                refine done_ (by kernel_rfl) ?_
                have hR := HN2.out
                rw [if_neg (by decide)] at hR
                injection hR with hR
                injection hR with h1 h2
                subst h1 h2
                clear HN2
                go_wp2
                go_ret
                exact ⟨rfl, F7.out.only, F7.out.lk⟩
              | true =>
                have HN3 := Aside0.mk (show nodesF k x.f6 b st = some (b1, s1) from hON2)
                clear hON2
                refine start_ (n := 25) (S := fun w' => w'.cell? ⟨ad.block, ad.off + 5, none⟩ = some (.slice A5 x.f5.length c5) ∧ w'.cell? ⟨ad.block, ad.off + 6, none⟩ = some (.slice A6 x.f6.length c6) ∧ w'.cell? ⟨bi, 0, none⟩ = some (.int .i64 b.st) ∧ w'.cell? ⟨bi, 1, none⟩ = some (.int .i64 b.ne) ∧ w'.cell? ⟨bi, 2, none⟩ = some (.int .i64 b.lo)) (ds := []) #[false, false, false, false, false, false, false, false, false, false, false, false, false, false, false, false, false, false, false, false, false, false, false, false, false] (by kernel_rfl) rfl rfl ⟨(pw_cell_below F6.out.below H5.out.1), (pw_cell_below F6.out.below H6.out.1), F6.out.inn.c0, F6.out.inn.c1, F6.out.inn.c2⟩ (fun hHeld => ?_)
                refine pure_ (i := 0) (N := some 98) (v := ?_) (a' := ?_) #[true, false, false, false, false, false, false, false, false, false, false, false, false, false, false, false, false, false, false, false, false, false, false, false, false] rfl rfl (by kernel_rfl) (fun _ _ _ h => h) (Or.inl ⟨by rfl, ?_⟩) ?_ ?_
                rotate_left
                · intro w'
                  go_simp
                  with_reducible rfl
                rotate_left
                · simp only [Act.put, List.setIfInBounds_toArray, List.set_cons_zero, List.set_cons_succ, i64_w, i32_w]
                  rfl
                refine pure_ (i := 1) (N := some 99) (v := ?_) (a' := ?_) #[true, true, false, false, false, false, false, false, false, false, false, false, false, false, false, false, false, false, false, false, false, false, false, false, false] rfl rfl (by kernel_rfl) (fun _ _ _ h => h) (Or.inl ⟨by rfl, ?_⟩) ?_ ?_
                rotate_left
                · intro w'
                  go_simp
                  with_reducible rfl
                rotate_left
                · simp only [Act.put, List.setIfInBounds_toArray, List.set_cons_zero, List.set_cons_succ, i64_w, i32_w]
                  rfl
                refine pure_ (i := 2) (N := some 100) (v := ?_) (a' := ?_) #[true, true, true, false, false, false, false, false, false, false, false, false, false, false, false, false, false, false, false, false, false, false, false, false, false] rfl rfl (by kernel_rfl) (fun _ _ _ h => h) (Or.inl ⟨by rfl, ?_⟩) ?_ ?_
                rotate_left
                · intro w'
                  go_simp
                  with_reducible rfl
                rotate_left
                · simp only [Act.put, List.setIfInBounds_toArray, List.set_cons_zero, List.set_cons_succ, i64_w, i32_w]
                  rfl
                refine one_ (i := 3) (N := some 101) #[true, true, true, true, false, false, false, false, false, false, false, false, false, false, false, false, false, false, false, false, false, false, false, false, false] rfl rfl (by kernel_rfl) (by decide) (fun K hK => ?_)
                refine value_ (w1 := ?_) (v := ?_) (by rfl) rfl ?_ ?_
                rotate_left 2
                · go_simp
                  constructor
                  · rfl
                  · rfl
                refine hK.out _ _ ⟨(pw_cell_below F6.out.below H5.out.1), (pw_cell_below F6.out.below H6.out.1), F6.out.inn.c0, F6.out.inn.c1, F6.out.inn.c2⟩ (fun hHeld => ?_)
                clear hK K
                refine norm_ (a' := ?_) ?_ ?_
                rotate_left
                · show Act.put _ (some 101) _ = _
                  simp only [Act.put, List.setIfInBounds_toArray, List.set_cons_zero, List.set_cons_succ, i64_w, i32_w]
                  rfl
                refine pure_ (i := 4) (N := some 102) (v := ?_) (a' := ?_) #[true, true, true, true, true, false, false, false, false, false, false, false, false, false, false, false, false, false, false, false, false, false, false, false, false] rfl rfl (by kernel_rfl) (fun _ _ _ h => h) (Or.inl ⟨by rfl, ?_⟩) ?_ ?_
                rotate_left
                · intro w'
                  go_simp
                  with_reducible rfl
                rotate_left
                · simp only [Act.put, List.setIfInBounds_toArray, List.set_cons_zero, List.set_cons_succ, i64_w, i32_w]
                  rfl
                refine pure_ (i := 5) (N := some 103) (v := ?_) (a' := ?_) #[true, true, true, true, true, true, false, false, false, false, false, false, false, false, false, false, false, false, false, false, false, false, false, false, false] rfl rfl (by kernel_rfl) (fun _ _ _ h => h) (Or.inl ⟨by rfl, ?_⟩) ?_ ?_
                rotate_left
                · intro w'
                  go_simp
                  with_reducible rfl
                rotate_left
                · simp only [Act.put, List.setIfInBounds_toArray, List.set_cons_zero, List.set_cons_succ, i64_w, i32_w]
                  rfl
                refine pure_ (i := 6) (N := some 104) (v := ?_) (a' := ?_) #[true, true, true, true, true, true, true, false, false, false, false, false, false, false, false, false, false, false, false, false, false, false, false, false, false] rfl rfl (by kernel_rfl) (fun _ _ _ h => h) (Or.inl ⟨by rfl, ?_⟩) ?_ ?_
                rotate_left
                · intro w'
                  go_simp
                  with_reducible rfl
                rotate_left
                · simp only [Act.put, List.setIfInBounds_toArray, List.set_cons_zero, List.set_cons_succ, i64_w, i32_w]
                  rfl
                refine pure_ (i := 7) (N := some 105) (v := ?_) (a' := ?_) #[true, true, true, true, true, true, true, true, false, false, false, false, false, false, false, false, false, false, false, false, false, false, false, false, false] rfl rfl (by kernel_rfl) (fun _ _ _ h => h) (Or.inl ⟨by rfl, ?_⟩) ?_ ?_
                rotate_left
                · intro w'
                  go_simp
                  with_reducible rfl
                rotate_left
                · simp only [Act.put, List.setIfInBounds_toArray, List.set_cons_zero, List.set_cons_succ, i64_w, i32_w]
                  rfl
                refine pure_ (i := 8) (N := some 106) (v := ?_) (a' := ?_) #[true, true, true, true, true, true, true, true, true, false, false, false, false, false, false, false, false, false, false, false, false, false, false, false, false] rfl rfl (by kernel_rfl) (fun _ _ _ h => h) (Or.inl ⟨by rfl, ?_⟩) ?_ ?_
                rotate_left
                · intro w'
                  go_simp
                  with_reducible rfl
                rotate_left
                · simp only [Act.put, List.setIfInBounds_toArray, List.set_cons_zero, List.set_cons_succ, i64_w, i32_w]
                  rfl
                refine pure_ (i := 9) (N := some 107) (v := ?_) (a' := ?_) #[true, true, true, true, true, true, true, true, true, true, false, false, false, false, false, false, false, false, false, false, false, false, false, false, false] rfl rfl (by kernel_rfl) (fun _ _ _ h => h) (Or.inl ⟨by rfl, ?_⟩) ?_ ?_
                rotate_left
                · intro w'
                  go_simp
                  with_reducible rfl
                rotate_left
                · simp only [Act.put, List.setIfInBounds_toArray, List.set_cons_zero, List.set_cons_succ, i64_w, i32_w]
                  rfl
                refine take_ (i := 10) (N := some 108) (v := ?_) (a' := ?_) #[true, true, true, true, true, true, true, true, true, true, true, false, false, false, false, false, false, false, false, false, false, false, false, false, false] rfl rfl (by kernel_rfl) (fun _ _ _ h => h) (Or.inl ⟨by rfl, ?_⟩) hHeld ?_ ?_
                rotate_left
                · rintro w' ⟨s0, s1, s2, s3, s4⟩
                  go_simp
                  with_reducible rfl
                rotate_left
                · simp only [Act.put, List.setIfInBounds_toArray, List.set_cons_zero, List.set_cons_succ, i64_w, i32_w]
                  rfl
                refine take_ (i := 11) (N := some 109) (v := ?_) (a' := ?_) #[true, true, true, true, true, true, true, true, true, true, true, true, false, false, false, false, false, false, false, false, false, false, false, false, false] rfl rfl (by kernel_rfl) (fun _ _ _ h => h) (Or.inl ⟨by rfl, ?_⟩) hHeld ?_ ?_
                rotate_left
                · rintro w' ⟨s0, s1, s2, s3, s4⟩
                  go_simp
                  with_reducible rfl
                rotate_left
                · simp only [Act.put, List.setIfInBounds_toArray, List.set_cons_zero, List.set_cons_succ, i64_w, i32_w]
                  rfl
                refine one_ (i := 12) (N := some 110) #[true, true, true, true, true, true, true, true, true, true, true, true, true, false, false, false, false, false, false, false, false, false, false, false, false] rfl rfl (by kernel_rfl) (by decide) (fun K hK => ?_)
                refine goes_ Tryd.func23 (by kernel_rfl) rfl #[.pointer (some ⟨g, 0, none⟩), .slice A5 x.f5.length c5, .agg #[.int .i64 b.st, .int .i64 b.ne, .int .i64 b.lo]] (by rfl) rfl rfl (by simp only [List.map_toArray, List.map_cons, List.map_nil]; rfl) ?_
                with_reducible refine (IH.out A5 c5 x.f5 b _ st true g w0 _ HL.out F6.out.below H5.out.2.2 H5.out.2.1 HGE.out F6.out.lk HN1.out).mono ?_
                rintro e w_F7 ⟨rfl, ho_, hx_⟩
                refine ⟨_, rfl, ?_⟩
                have F7 := Aside0.mk (F6.out.only' NN.out HGE.out ho_ hx_)
                clear ho_ hx_
                refine hK.out _ _ ⟨(pw_cell_below F7.out.below H5.out.1), (pw_cell_below F7.out.below H6.out.1), F7.out.inn.c0, F7.out.inn.c1, F7.out.inn.c2⟩ (fun hHeld => ?_)
                clear hK K
                refine norm_ (a' := ?_) ?_ ?_
                rotate_left
                · show Act.put _ (some 110) _ = _
                  simp only [Act.put, List.setIfInBounds_toArray, List.set_cons_zero, List.set_cons_succ, i64_w, i32_w]
                  rfl
                refine pure_ (i := 13) (N := some 111) (v := ?_) (a' := ?_) #[true, true, true, true, true, true, true, true, true, true, true, true, true, true, false, false, false, false, false, false, false, false, false, false, false] rfl rfl (by kernel_rfl) (fun _ _ _ h => h) (Or.inl ⟨by rfl, ?_⟩) ?_ ?_
                rotate_left
                · intro w'
                  go_simp
                  with_reducible rfl
                rotate_left
                · simp only [Act.put, List.setIfInBounds_toArray, List.set_cons_zero, List.set_cons_succ, i64_w, i32_w]
                  rfl
                refine pure_ (i := 14) (N := some 112) (v := ?_) (a' := ?_) #[true, true, true, true, true, true, true, true, true, true, true, true, true, true, true, false, false, false, false, false, false, false, false, false, false] rfl rfl (by kernel_rfl) (fun _ _ _ h => h) (Or.inl ⟨by rfl, ?_⟩) ?_ ?_
                rotate_left
                · intro w'
                  go_simp
                  with_reducible rfl
                rotate_left
                · simp only [Act.put, List.setIfInBounds_toArray, List.set_cons_zero, List.set_cons_succ, i64_w, i32_w]
                  rfl
                refine pure_ (i := 15) (N := some 113) (v := ?_) (a' := ?_) #[true, true, true, true, true, true, true, true, true, true, true, true, true, true, true, true, false, false, false, false, false, false, false, false, false] rfl rfl (by kernel_rfl) (fun _ _ _ h => h) (Or.inl ⟨by rfl, ?_⟩) ?_ ?_
                rotate_left
                · intro w'
                  go_simp
                  with_reducible rfl
                rotate_left
                · simp only [Act.put, List.setIfInBounds_toArray, List.set_cons_zero, List.set_cons_succ, i64_w, i32_w]
                  rfl
                refine pure_ (i := 16) (N := some 114) (v := ?_) (a' := ?_) #[true, true, true, true, true, true, true, true, true, true, true, true, true, true, true, true, true, false, false, false, false, false, false, false, false] rfl rfl (by kernel_rfl) (fun _ _ _ h => h) (Or.inl ⟨by rfl, ?_⟩) ?_ ?_
                rotate_left
                · intro w'
                  go_simp
                  with_reducible rfl
                rotate_left
                · simp only [Act.put, List.setIfInBounds_toArray, List.set_cons_zero, List.set_cons_succ, i64_w, i32_w]
                  rfl
                refine pure_ (i := 17) (N := some 115) (v := ?_) (a' := ?_) #[true, true, true, true, true, true, true, true, true, true, true, true, true, true, true, true, true, true, false, false, false, false, false, false, false] rfl rfl (by kernel_rfl) (fun _ _ _ h => h) (Or.inl ⟨by rfl, ?_⟩) ?_ ?_
                rotate_left
                · intro w'
                  go_simp
                  with_reducible rfl
                rotate_left
                · simp only [Act.put, List.setIfInBounds_toArray, List.set_cons_zero, List.set_cons_succ, i64_w, i32_w]
                  rfl
                refine pure_ (i := 18) (N := some 116) (v := ?_) (a' := ?_) #[true, true, true, true, true, true, true, true, true, true, true, true, true, true, true, true, true, true, true, false, false, false, false, false, false] rfl rfl (by kernel_rfl) (fun _ _ _ h => h) (Or.inl ⟨by rfl, ?_⟩) ?_ ?_
                rotate_left
                · intro w'
                  go_simp
                  with_reducible rfl
                rotate_left
                · simp only [Act.put, List.setIfInBounds_toArray, List.set_cons_zero, List.set_cons_succ, i64_w, i32_w]
                  rfl
                refine pure_ (i := 19) (N := some 117) (v := ?_) (a' := ?_) #[true, true, true, true, true, true, true, true, true, true, true, true, true, true, true, true, true, true, true, true, false, false, false, false, false] rfl rfl (by kernel_rfl) (fun _ _ _ h => h) (Or.inl ⟨by rfl, ?_⟩) ?_ ?_
                rotate_left
                · intro w'
                  go_simp
                  with_reducible rfl
                rotate_left
                · simp only [Act.put, List.setIfInBounds_toArray, List.set_cons_zero, List.set_cons_succ, i64_w, i32_w]
                  rfl
                refine take_ (i := 20) (N := some 118) (v := ?_) (a' := ?_) #[true, true, true, true, true, true, true, true, true, true, true, true, true, true, true, true, true, true, true, true, true, false, false, false, false] rfl rfl (by kernel_rfl) (fun _ _ _ h => h) (Or.inl ⟨by rfl, ?_⟩) hHeld ?_ ?_
                rotate_left
                · rintro w' ⟨s0, s1, s2, s3, s4⟩
                  go_simp
                  with_reducible rfl
                rotate_left
                · simp only [Act.put, List.setIfInBounds_toArray, List.set_cons_zero, List.set_cons_succ, i64_w, i32_w]
                  rfl
                refine take_ (i := 21) (N := some 119) (v := ?_) (a' := ?_) #[true, true, true, true, true, true, true, true, true, true, true, true, true, true, true, true, true, true, true, true, true, true, false, false, false] rfl rfl (by kernel_rfl) (fun _ _ _ h => h) (Or.inl ⟨by rfl, ?_⟩) hHeld ?_ ?_
                rotate_left
                · rintro w' ⟨s0, s1, s2, s3, s4⟩
                  go_simp
                  with_reducible rfl
                rotate_left
                · simp only [Act.put, List.setIfInBounds_toArray, List.set_cons_zero, List.set_cons_succ, i64_w, i32_w]
                  rfl
                refine one_ (i := 22) (N := some 120) #[true, true, true, true, true, true, true, true, true, true, true, true, true, true, true, true, true, true, true, true, true, true, true, false, false] rfl rfl (by kernel_rfl) (by decide) (fun K hK => ?_)
                refine goes_ Tryd.func23 (by kernel_rfl) rfl #[.pointer (some ⟨g, 0, none⟩), .slice A6 x.f6.length c6, .agg #[.int .i64 b.st, .int .i64 b.ne, .int .i64 b.lo]] (by rfl) rfl rfl (by simp only [List.map_toArray, List.map_cons, List.map_nil]; rfl) ?_
                with_reducible refine (IH.out A6 c6 x.f6 b _ s1 b1 g w0 _ HL.out F7.out.below H6.out.2.2 H6.out.2.1 HGE.out F7.out.lk HN3.out).mono ?_
                rintro e w_F8 ⟨rfl, ho_, hx_⟩
                refine ⟨_, rfl, ?_⟩
                have F8 := Aside0.mk (F7.out.only' NN.out HGE.out ho_ hx_)
                clear ho_ hx_
                refine hK.out _ _ ⟨(pw_cell_below F8.out.below H5.out.1), (pw_cell_below F8.out.below H6.out.1), F8.out.inn.c0, F8.out.inn.c1, F8.out.inn.c2⟩ (fun hHeld => ?_)
                clear hK K
                refine norm_ (a' := ?_) ?_ ?_
                rotate_left
                · show Act.put _ (some 120) _ = _
                  simp only [Act.put, List.setIfInBounds_toArray, List.set_cons_zero, List.set_cons_succ, i64_w, i32_w]
                  rfl
                refine pure_ (i := 23) (N := some 121) (v := ?_) (a' := ?_) #[true, true, true, true, true, true, true, true, true, true, true, true, true, true, true, true, true, true, true, true, true, true, true, true, false] rfl rfl (by kernel_rfl) (fun _ _ _ h => h) (Or.inl ⟨by rfl, ?_⟩) ?_ ?_
                rotate_left
                · intro w'
                  go_simp
                  with_reducible rfl
                rotate_left
                · simp only [Act.put, List.setIfInBounds_toArray, List.set_cons_zero, List.set_cons_succ, i64_w, i32_w]
                  rfl
                refine pure_ (i := 24) (N := some 122) (v := ?_) (a' := ?_) #[true, true, true, true, true, true, true, true, true, true, true, true, true, true, true, true, true, true, true, true, true, true, true, true, true] rfl rfl (by kernel_rfl) (fun _ _ _ h => h) (Or.inl ⟨by rfl, ?_⟩) ?_ ?_
                rotate_left
                · intro w'
                  go_simp
                  with_reducible rfl
                rotate_left
                · simp only [Act.put, List.setIfInBounds_toArray, List.set_cons_zero, List.set_cons_succ, i64_w, i32_w]
                  rfl
                refine done_ (by kernel_rfl) ?_
                cases b1 with
                | false =>
                  have hR := HN2.out
                  rw [if_neg (by decide)] at hR
                  injection hR with hR
                  injection hR with h1 h2
                  subst h1 h2
                  clear HN2
                  go_wp2
                  go_ret
                  exact ⟨rfl, F8.out.only, F8.out.lk⟩
                | true =>
                  have HN4 := Aside0.mk (show nodesL k (nodesF k) (l0.drop (i + 1)) a s1 = some (r, t) from HN2.out)
                  clear HN2
                  go_wp2
                  go_roundg g'
                  case measure => exact Nat.lt_succ_self _
                  case rel => exact ⟨i + 1, s1, by first | rw [hw] | rfl, ⟨F8.out.only⟩, ⟨F8.out.lk⟩, ⟨F8.out.out⟩, ⟨F8.out.below⟩, HN4, ⟨gk_next HG.out⟩⟩
            · have hz' : (nf != 0) = true := bne_iff_ne.mpr hz
              have hON := HONE.out
              rw [if_neg hz] at hON
              injection hON with hON3
              injection hON3 with h1 h2
              subst h1 h2
              clear hz HONE
              refine start_ (n := 25) (S := fun w' => w'.cell? ⟨ad.block, ad.off + 5, none⟩ = some (.slice A5 x.f5.length c5) ∧ w'.cell? ⟨ad.block, ad.off + 6, none⟩ = some (.slice A6 x.f6.length c6) ∧ w'.cell? ⟨bi, 0, none⟩ = some (.int .i64 b.st) ∧ w'.cell? ⟨bi, 1, none⟩ = some (.int .i64 b.ne) ∧ w'.cell? ⟨bi, 2, none⟩ = some (.int .i64 b.lo)) (ds := []) #[false, false, false, false, false, false, false, false, false, false, false, false, false, false, false, false, false, false, false, false, false, false, false, false, false] (by kernel_rfl) rfl rfl ⟨(pw_cell_below F6.out.below H5.out.1), (pw_cell_below F6.out.below H6.out.1), F6.out.inn.c0, F6.out.inn.c1, F6.out.inn.c2⟩ (fun hHeld => ?_)
              refine pure_ (i := 0) (N := some 98) (v := ?_) (a' := ?_) #[true, false, false, false, false, false, false, false, false, false, false, false, false, false, false, false, false, false, false, false, false, false, false, false, false] rfl rfl (by kernel_rfl) (fun _ _ _ h => h) (Or.inl ⟨by rfl, ?_⟩) ?_ ?_
              rotate_left
              · intro w'
                go_simp
                with_reducible rfl
              rotate_left
              · simp only [Act.put, List.setIfInBounds_toArray, List.set_cons_zero, List.set_cons_succ, i64_w, i32_w]
                rfl
              refine pure_ (i := 1) (N := some 99) (v := ?_) (a' := ?_) #[true, true, false, false, false, false, false, false, false, false, false, false, false, false, false, false, false, false, false, false, false, false, false, false, false] rfl rfl (by kernel_rfl) (fun _ _ _ h => h) (Or.inl ⟨by rfl, ?_⟩) ?_ ?_
              rotate_left
              · intro w'
                go_simp
                with_reducible rfl
              rotate_left
              · simp only [Act.put, List.setIfInBounds_toArray, List.set_cons_zero, List.set_cons_succ, i64_w, i32_w]
                rfl
              refine pure_ (i := 2) (N := some 100) (v := ?_) (a' := ?_) #[true, true, true, false, false, false, false, false, false, false, false, false, false, false, false, false, false, false, false, false, false, false, false, false, false] rfl rfl (by kernel_rfl) (fun _ _ _ h => h) (Or.inl ⟨by rfl, ?_⟩) ?_ ?_
              rotate_left
              · intro w'
                go_simp
                with_reducible rfl
              rotate_left
              · simp only [Act.put, List.setIfInBounds_toArray, List.set_cons_zero, List.set_cons_succ, i64_w, i32_w]
                rfl
              refine one_ (i := 3) (N := some 101) #[true, true, true, true, false, false, false, false, false, false, false, false, false, false, false, false, false, false, false, false, false, false, false, false, false] rfl rfl (by kernel_rfl) (by decide) (fun K hK => ?_)
              refine value_ (w1 := ?_) (v := ?_) (by rfl) rfl ?_ ?_
              rotate_left 2
              · go_simp
                constructor
                · rfl
                · rfl
              refine hK.out _ _ ⟨(pw_cell_below F6.out.below H5.out.1), (pw_cell_below F6.out.below H6.out.1), F6.out.inn.c0, F6.out.inn.c1, F6.out.inn.c2⟩ (fun hHeld => ?_)
              clear hK K
              refine norm_ (a' := ?_) ?_ ?_
              rotate_left
              · show Act.put _ (some 101) _ = _
                simp only [Act.put, List.setIfInBounds_toArray, List.set_cons_zero, List.set_cons_succ, i64_w, i32_w]
                rfl
              refine pure_ (i := 4) (N := some 102) (v := ?_) (a' := ?_) #[true, true, true, true, true, false, false, false, false, false, false, false, false, false, false, false, false, false, false, false, false, false, false, false, false] rfl rfl (by kernel_rfl) (fun _ _ _ h => h) (Or.inl ⟨by rfl, ?_⟩) ?_ ?_
              rotate_left
              · intro w'
                go_simp
                with_reducible rfl
              rotate_left
              · simp only [Act.put, List.setIfInBounds_toArray, List.set_cons_zero, List.set_cons_succ, i64_w, i32_w]
                rfl
              refine pure_ (i := 5) (N := some 103) (v := ?_) (a' := ?_) #[true, true, true, true, true, true, false, false, false, false, false, false, false, false, false, false, false, false, false, false, false, false, false, false, false] rfl rfl (by kernel_rfl) (fun _ _ _ h => h) (Or.inl ⟨by rfl, ?_⟩) ?_ ?_
              rotate_left
              · intro w'
                go_simp
                with_reducible rfl
              rotate_left
              · simp only [Act.put, List.setIfInBounds_toArray, List.set_cons_zero, List.set_cons_succ, i64_w, i32_w]
                rfl
              refine pure_ (i := 6) (N := some 104) (v := undef) (a' := ?_) #[true, true, true, true, true, true, true, false, false, false, false, false, false, false, false, false, false, false, false, false, false, false, false, false, false] rfl rfl (by kernel_rfl) (fun _ _ _ h => h) (Or.inr ⟨by rfl, rfl⟩) ?_ ?_
              rotate_left
              · simp only [Act.put, List.setIfInBounds_toArray, List.set_cons_zero, List.set_cons_succ, i64_w, i32_w]
                rfl
              refine pure_ (i := 7) (N := some 105) (v := undef) (a' := ?_) #[true, true, true, true, true, true, true, true, false, false, false, false, false, false, false, false, false, false, false, false, false, false, false, false, false] rfl rfl (by kernel_rfl) (fun _ _ _ h => h) (Or.inr ⟨by rfl, rfl⟩) ?_ ?_
              rotate_left
              · simp only [Act.put, List.setIfInBounds_toArray, List.set_cons_zero, List.set_cons_succ, i64_w, i32_w]
                rfl
              refine pure_ (i := 8) (N := some 106) (v := undef) (a' := ?_) #[true, true, true, true, true, true, true, true, true, false, false, false, false, false, false, false, false, false, false, false, false, false, false, false, false] rfl rfl (by kernel_rfl) (fun _ _ _ h => h) (Or.inr ⟨by rfl, rfl⟩) ?_ ?_
              rotate_left
              · simp only [Act.put, List.setIfInBounds_toArray, List.set_cons_zero, List.set_cons_succ, i64_w, i32_w]
                rfl
              refine pure_ (i := 9) (N := some 107) (v := undef) (a' := ?_) #[true, true, true, true, true, true, true, true, true, true, false, false, false, false, false, false, false, false, false, false, false, false, false, false, false] rfl rfl (by kernel_rfl) (fun _ _ _ h => h) (Or.inr ⟨by rfl, rfl⟩) ?_ ?_
              rotate_left
              · simp only [Act.put, List.setIfInBounds_toArray, List.set_cons_zero, List.set_cons_succ, i64_w, i32_w]
                rfl
              refine pure_ (i := 10) (N := some 108) (v := undef) (a' := ?_) #[true, true, true, true, true, true, true, true, true, true, true, false, false, false, false, false, false, false, false, false, false, false, false, false, false] rfl rfl (by kernel_rfl) (fun _ _ _ h => h) (Or.inr ⟨by rfl, rfl⟩) ?_ ?_
              rotate_left
              · simp only [Act.put, List.setIfInBounds_toArray, List.set_cons_zero, List.set_cons_succ, i64_w, i32_w]
                rfl
              refine pure_ (i := 11) (N := some 109) (v := undef) (a' := ?_) #[true, true, true, true, true, true, true, true, true, true, true, true, false, false, false, false, false, false, false, false, false, false, false, false, false] rfl rfl (by kernel_rfl) (fun _ _ _ h => h) (Or.inr ⟨by rfl, rfl⟩) ?_ ?_
              rotate_left
              · simp only [Act.put, List.setIfInBounds_toArray, List.set_cons_zero, List.set_cons_succ, i64_w, i32_w]
                rfl
              refine pure_ (i := 12) (N := some 110) (v := undef) (a' := ?_) #[true, true, true, true, true, true, true, true, true, true, true, true, true, false, false, false, false, false, false, false, false, false, false, false, false] rfl rfl (by kernel_rfl) (fun _ _ _ h => h) (Or.inr ⟨by rfl, rfl⟩) ?_ ?_
              rotate_left
              · simp only [Act.put, List.setIfInBounds_toArray, List.set_cons_zero, List.set_cons_succ, i64_w, i32_w]
                rfl
              refine pure_ (i := 13) (N := some 111) (v := undef) (a' := ?_) #[true, true, true, true, true, true, true, true, true, true, true, true, true, true, false, false, false, false, false, false, false, false, false, false, false] rfl rfl (by kernel_rfl) (fun _ _ _ h => h) (Or.inr ⟨by rfl, rfl⟩) ?_ ?_
              rotate_left
              · simp only [Act.put, List.setIfInBounds_toArray, List.set_cons_zero, List.set_cons_succ, i64_w, i32_w]
                rfl
              refine pure_ (i := 14) (N := some 112) (v := ?_) (a' := ?_) #[true, true, true, true, true, true, true, true, true, true, true, true, true, true, true, false, false, false, false, false, false, false, false, false, false] rfl rfl (by kernel_rfl) (fun _ _ _ h => h) (Or.inl ⟨by rfl, ?_⟩) ?_ ?_
              rotate_left
              · intro w'
                go_simp
                with_reducible rfl
              rotate_left
              · simp only [Act.put, List.setIfInBounds_toArray, List.set_cons_zero, List.set_cons_succ, i64_w, i32_w]
                rfl
              refine pure_ (i := 15) (N := some 113) (v := ?_) (a' := ?_) #[true, true, true, true, true, true, true, true, true, true, true, true, true, true, true, true, false, false, false, false, false, false, false, false, false] rfl rfl (by kernel_rfl) (fun _ _ _ h => h) (Or.inl ⟨by rfl, ?_⟩) ?_ ?_
              rotate_left
              · intro w'
                go_simp
                with_reducible rfl
              rotate_left
              · simp only [Act.put, List.setIfInBounds_toArray, List.set_cons_zero, List.set_cons_succ, i64_w, i32_w]
                rfl
              refine pure_ (i := 16) (N := some 114) (v := undef) (a' := ?_) #[true, true, true, true, true, true, true, true, true, true, true, true, true, true, true, true, true, false, false, false, false, false, false, false, false] rfl rfl (by kernel_rfl) (fun _ _ _ h => h) (Or.inr ⟨by rfl, rfl⟩) ?_ ?_
              rotate_left
              · simp only [Act.put, List.setIfInBounds_toArray, List.set_cons_zero, List.set_cons_succ, i64_w, i32_w]
                rfl
              refine pure_ (i := 17) (N := some 115) (v := undef) (a' := ?_) #[true, true, true, true, true, true, true, true, true, true, true, true, true, true, true, true, true, true, false, false, false, false, false, false, false] rfl rfl (by kernel_rfl) (fun _ _ _ h => h) (Or.inr ⟨by rfl, rfl⟩) ?_ ?_
              rotate_left
              · simp only [Act.put, List.setIfInBounds_toArray, List.set_cons_zero, List.set_cons_succ, i64_w, i32_w]
                rfl
              refine pure_ (i := 18) (N := some 116) (v := undef) (a' := ?_) #[true, true, true, true, true, true, true, true, true, true, true, true, true, true, true, true, true, true, true, false, false, false, false, false, false] rfl rfl (by kernel_rfl) (fun _ _ _ h => h) (Or.inr ⟨by rfl, rfl⟩) ?_ ?_
              rotate_left
              · simp only [Act.put, List.setIfInBounds_toArray, List.set_cons_zero, List.set_cons_succ, i64_w, i32_w]
                rfl
              refine pure_ (i := 19) (N := some 117) (v := undef) (a' := ?_) #[true, true, true, true, true, true, true, true, true, true, true, true, true, true, true, true, true, true, true, true, false, false, false, false, false] rfl rfl (by kernel_rfl) (fun _ _ _ h => h) (Or.inr ⟨by rfl, rfl⟩) ?_ ?_
              rotate_left
              · simp only [Act.put, List.setIfInBounds_toArray, List.set_cons_zero, List.set_cons_succ, i64_w, i32_w]
                rfl
              refine pure_ (i := 20) (N := some 118) (v := undef) (a' := ?_) #[true, true, true, true, true, true, true, true, true, true, true, true, true, true, true, true, true, true, true, true, true, false, false, false, false] rfl rfl (by kernel_rfl) (fun _ _ _ h => h) (Or.inr ⟨by rfl, rfl⟩) ?_ ?_
              rotate_left
              · simp only [Act.put, List.setIfInBounds_toArray, List.set_cons_zero, List.set_cons_succ, i64_w, i32_w]
                rfl
              refine pure_ (i := 21) (N := some 119) (v := undef) (a' := ?_) #[true, true, true, true, true, true, true, true, true, true, true, true, true, true, true, true, true, true, true, true, true, true, false, false, false] rfl rfl (by kernel_rfl) (fun _ _ _ h => h) (Or.inr ⟨by rfl, rfl⟩) ?_ ?_
              rotate_left
              · simp only [Act.put, List.setIfInBounds_toArray, List.set_cons_zero, List.set_cons_succ, i64_w, i32_w]
                rfl
              refine pure_ (i := 22) (N := some 120) (v := undef) (a' := ?_) #[true, true, true, true, true, true, true, true, true, true, true, true, true, true, true, true, true, true, true, true, true, true, true, false, false] rfl rfl (by kernel_rfl) (fun _ _ _ h => h) (Or.inr ⟨by rfl, rfl⟩) ?_ ?_
              rotate_left
              · simp only [Act.put, List.setIfInBounds_toArray, List.set_cons_zero, List.set_cons_succ, i64_w, i32_w]
                rfl
              refine pure_ (i := 23) (N := some 121) (v := undef) (a' := ?_) #[true, true, true, true, true, true, true, true, true, true, true, true, true, true, true, true, true, true, true, true, true, true, true, true, false] rfl rfl (by kernel_rfl) (fun _ _ _ h => h) (Or.inr ⟨by rfl, rfl⟩) ?_ ?_
              rotate_left
              · simp only [Act.put, List.setIfInBounds_toArray, List.set_cons_zero, List.set_cons_succ, i64_w, i32_w]
                rfl
              refine pure_ (i := 24) (N := some 122) (v := ?_) (a' := ?_) #[true, true, true, true, true, true, true, true, true, true, true, true, true, true, true, true, true, true, true, true, true, true, true, true, true] rfl rfl (by kernel_rfl) (fun _ _ _ h => h) (Or.inl ⟨by rfl, ?_⟩) ?_ ?_
              rotate_left
              · intro w'
                go_simp
                with_reducible rfl
              rotate_left
              · simp only [Act.put, List.setIfInBounds_toArray, List.set_cons_zero, List.set_cons_succ, i64_w, i32_w]
                rfl
              refine done_ (by kernel_rfl) ?_
              have hR := HN2.out
              rw [if_neg (by decide)] at hR
              injection hR with hR
              injection hR with h1 h2
              subst h1 h2
              clear HN2
              go_wp2
              go_ret
              exact ⟨rfl, F6.out.only, F6.out.lk⟩
      · have hnil : l0.drop i = [] := drop_end hi
        have hi' : ¬ ((i : Int) < (l0.length : Int)) := cast_nlt hi
        have hN := HN.out
        rw [hnil] at hN
        injection (show some (true, s') = some (r, t) from hN) with hN
        injection hN with h1 h2
        subst h1 h2
        clear hnil HN
        go_wp2
        go_ret
        exact ⟨rfl, HO.out, HX.out⟩
theorem below_cellB {B : Nat} {a w : World} (h : Below B a w) {b : Nat} (hb : B ≤ b) (i : Nat) (u : Value) : Below B a (w.setCell ⟨b, i, none⟩ u) := h.setCell hb u
def lookedF (k : Nat) (l : List S41) : Option LSt := (nodesF k l ⟨1, 0, 0⟩ ⟨0, 0, 0, 0⟩).bind fun z => if z.1 = true then some z.2 else some ⟨0, 0, 0, z.2.code⟩
set_option maxHeartbeats 4000000 in
set_option maxRecDepth 1000000 in
theorem core_looked.calls (k : Nat) (A0 : Option Addr) (c0 : Nat) (l0 : List S41) (z : LSt) (w : World) (hL : LaidW w) (hr0 : Kd.C k41 w A0 l0.length l0) (hc0 : l0.length ≤ c0) (h : lookedF k l0 = some z) :
    Calls Tryd.prog 16 #[.slice A0 l0.length c0] w fun e w' => e = .returned (.agg #[.int .i64 z.cnt, .int .i64 z.pcs, .int .i64 z.most, .int .i64 z.code]) ∧ Below w.heap.size w w' := by
  obtain ⟨⟨b, t⟩, hn, hz⟩ := Option.bind_eq_some_iff.mp (show (nodesF k l0 ⟨1, 0, 0⟩ ⟨0, 0, 0, 0⟩).bind _ = some z from h)
  have HN := Aside0.mk hn
  have HZ := Aside0.mk (show (if b = true then some t else some (⟨0, 0, 0, t.code⟩ : LSt)) = some z from hz)
  have HL := Aside0.mk hL
  have HR := Aside0.mk hr0
  have HC := Aside0.mk hc0
  clear h hn hz hL hr0 hc0
  go_enter Tryd.func16, Tryd.ntmps16
  go_upto_region 2 with (fail)
  have B1 := Aside0.mk (Below.alloc' ((Below.refl w.heap.size w).alloc (Nat.le_refl _) (.cells (lkCells ⟨0, 0, 0, 0⟩) 49)) (Nat.le_refl _) (.cells (lkCells ⟨0, 0, 0, 0⟩) 49))
  have X0 := Aside0.mk (show LkAt ((w.alloc (.cells (lkCells ⟨0, 0, 0, 0⟩) 49)).alloc (.cells (lkCells ⟨0, 0, 0, 0⟩) 49)) w.heap.size ⟨0, 0, 0, 0⟩ from blk_alloc (blk_new _ _) _)
  have X1 := Aside0.mk (show LkAt ((w.alloc (.cells (lkCells ⟨0, 0, 0, 0⟩) 49)).alloc (.cells (lkCells ⟨0, 0, 0, 0⟩) 49)) (w.heap.size + 1) ⟨0, 0, 0, 0⟩ from by
    have h : LkAt ((w.alloc (.cells (lkCells ⟨0, 0, 0, 0⟩) 49)).alloc (.cells (lkCells ⟨0, 0, 0, 0⟩) 49)) (w.alloc (.cells (lkCells ⟨0, 0, 0, 0⟩) 49)).heap.size ⟨0, 0, 0, 0⟩ := blk_new _ _
    simpa using h)
  change Code.wp _ _ _ _ ((w.alloc (.cells (lkCells ⟨0, 0, 0, 0⟩) 49)).alloc (.cells (lkCells ⟨0, 0, 0, 0⟩) 49))
  generalize (w.alloc (.cells (lkCells ⟨0, 0, 0, 0⟩) 49)).alloc (.cells (lkCells ⟨0, 0, 0, 0⟩) 49) = W1 at B1 X0 X1 ⊢
  have RT := Aside0.mk (fun (w1 : World) (ho : Only (· = w.heap.size + 1) W1 w1) => (show LkAt w1 w.heap.size ⟨0, 0, 0, 0⟩ from (ho.block _ X0.out.lt (by omega)).trans X0.out))
  cases b with
  | true =>
    obtain rfl := Option.some.inj (show some t = some z from HZ.out)
    go_wp2_with (go_at_call 23; (refine (core_nodes.calls k A0 c0 l0 ⟨1, 0, 0⟩ ⟨0, 0, 0, 0⟩ t true (w.heap.size + 1) w W1 HL.out B1.out HR.out HC.out (by omega) X1.out HN.out).mono ?_); rintro e w1 ⟨rfl, ho, hx⟩; (have q0 := hx.c0); (have q1 := hx.c1); (have q2 := hx.c2); (have q3 := hx.c3); (have r0 := (RT.out w1 ho).c0); (have r1 := (RT.out w1 ho).c1); (have r2 := (RT.out w1 ho).c2); (have r3 := (RT.out w1 ho).c3); (have s0 := (RT.out w1 ho).fr 0); (have s1 := (RT.out w1 ho).fr 1); (have s2 := (RT.out w1 ho).fr 2); (have s3 := (RT.out w1 ho).fr 3); (have L1 := Aside0.mk (RT.out w1 ho)); (have HO := Aside0.mk (Only.below B1.out ho B1.out.size (fun k hk => hk ▸ (by omega)))); clear ho hx)
    have L4 := Aside0.mk ((((L1.out.s0 t.cnt).s1 t.pcs).s2 t.most).s3 t.code)
    have G4 := Aside0.mk (below_cellB (below_cellB (below_cellB (below_cellB HO.out (Nat.le_refl _) 0 (.int .i64 t.cnt)) (Nat.le_refl _) 1 (.int .i64 t.pcs)) (Nat.le_refl _) 2 (.int .i64 t.most)) (Nat.le_refl _) 3 (.int .i64 t.code))
    generalize (((w1.setCell ⟨w.heap.size, 0, none⟩ (.int .i64 t.cnt)).setCell ⟨w.heap.size, 1, none⟩ (.int .i64 t.pcs)).setCell ⟨w.heap.size, 2, none⟩ (.int .i64 t.most)).setCell ⟨w.heap.size, 3, none⟩ (.int .i64 t.code) = W9 at L4 G4 ⊢
    clear q0 q1 q2 q3 r0 r1 r2 r3 s0 s1 s2 s3
    have q0 := L4.out.c0
    have q1 := L4.out.c1
    have q2 := L4.out.c2
    have q3 := L4.out.c3
    exact bodyPost_ret (v := .agg #[.int .i64 t.cnt, .int .i64 t.pcs, .int .i64 t.most, .int .i64 t.code]) (by simp [results, Tryd.results16, go_sem, q0, q1, q2, q3]) rfl ⟨rfl, G4.out⟩
  | false =>
    obtain rfl := Option.some.inj (show some (⟨0, 0, 0, t.code⟩ : LSt) = some z from HZ.out)
    go_wp2_with (go_at_call 23; (refine (core_nodes.calls k A0 c0 l0 ⟨1, 0, 0⟩ ⟨0, 0, 0, 0⟩ t false (w.heap.size + 1) w W1 HL.out B1.out HR.out HC.out (by omega) X1.out HN.out).mono ?_); rintro e w1 ⟨rfl, ho, hx⟩; (have q0 := hx.c0); (have q1 := hx.c1); (have q2 := hx.c2); (have q3 := hx.c3); (have r0 := (RT.out w1 ho).c0); (have r1 := (RT.out w1 ho).c1); (have r2 := (RT.out w1 ho).c2); (have r3 := (RT.out w1 ho).c3); (have s0 := (RT.out w1 ho).fr 0); (have s1 := (RT.out w1 ho).fr 1); (have s2 := (RT.out w1 ho).fr 2); (have s3 := (RT.out w1 ho).fr 3); (have L1 := Aside0.mk (RT.out w1 ho)); (have HO := Aside0.mk (Only.below B1.out ho B1.out.size (fun k hk => hk ▸ (by omega)))); clear ho hx)
    have L4 := Aside0.mk ((((L1.out.s0 0).s1 0).s2 0).s3 t.code)
    have G4 := Aside0.mk (below_cellB (below_cellB (below_cellB (below_cellB HO.out (Nat.le_refl _) 0 (.int .i64 0)) (Nat.le_refl _) 1 (.int .i64 0)) (Nat.le_refl _) 2 (.int .i64 0)) (Nat.le_refl _) 3 (.int .i64 t.code))
    generalize (((w1.setCell ⟨w.heap.size, 0, none⟩ (.int .i64 0)).setCell ⟨w.heap.size, 1, none⟩ (.int .i64 0)).setCell ⟨w.heap.size, 2, none⟩ (.int .i64 0)).setCell ⟨w.heap.size, 3, none⟩ (.int .i64 t.code) = W9 at L4 G4 ⊢
    clear q0 q1 q2 q3 r0 r1 r2 r3 s0 s1 s2 s3
    have q0 := L4.out.c0
    have q1 := L4.out.c1
    have q2 := L4.out.c2
    have q3 := L4.out.c3
    exact bodyPost_ret (v := .agg #[.int .i64 0, .int .i64 0, .int .i64 0, .int .i64 t.code]) (by simp [results, Tryd.results16, go_sem, q0, q1, q2, q3]) rfl ⟨rfl, G4.out⟩
def core_Check.f (k : Nat) (l0 : List S41) : Option Int := (lookedF k l0).bind fun z => some z.code
set_option maxHeartbeats 4000000 in
set_option maxRecDepth 1000000 in
theorem core_Check.calls (k : Nat) (A0 : Option Addr) (c0 : Nat) (l0 : List S41) (r : Int) (w : World) (hL : LaidW w) (hr0 : Kd.C k41 w A0 l0.length l0) (hc0 : l0.length ≤ c0) (h : core_Check.f k l0 = some r) :
    Calls Tryd.prog 8 #[.slice A0 l0.length c0] w fun e w' => e = .returned (.int .i64 r) ∧ Below w.heap.size w w' := by
  obtain ⟨z, hz, hr⟩ := Option.bind_eq_some_iff.mp (show (lookedF k l0).bind _ = some r from h)
  obtain rfl : z.code = r := Option.some.inj hr
  have HZ := Aside0.mk hz
  have HL := Aside0.mk hL
  have HR := Aside0.mk hr0
  have HC := Aside0.mk hc0
  clear h hz hr hL hr0 hc0
  have hf49 : ∀ w : World, (Instr.field 49 (.agg #[.int .i64 z.cnt, .int .i64 z.pcs, .int .i64 z.most, .int .i64 z.code]) 3).run Tryd.prog w = .ok (.int .i64 z.code) w := fun w => by kernel_rfl
  go_enter Tryd.func8, Tryd.ntmps8
  go_wp2_with (go_at_call 16; (refine (core_looked.calls k A0 c0 l0 z _ HL.out HR.out HC.out HZ.out).mono ?_); rintro e w1 ⟨rfl, hb1⟩)
  go_ret
  exact ⟨rfl, hb1⟩
theorem addF_mono (k : Nat) (l : List S35) (c m : Int) : LeO (addF k l c m) (addF (k + 1) l c m) := LeO.ite (shape_nodes.mono _ _ _ k) (LeO.refl _)
theorem addAll_mono (k : Nat) (m : Int) : ∀ l c, LeO (addAll k m l c) (addAll (k + 1) m l c)
  | [], _ => LeO.refl _
  | x :: xs, c => LeO.bind (addF_mono k _ _ _) (fun _ => addAll_mono k m xs _)
theorem shape_Pieces.mono (l0 : List S41) (m : Int) (k : Nat) : LeO (shape_Pieces.f k l0 m) (shape_Pieces.f (k + 1) l0 m) := by
  unfold shape_Pieces.f; split
  · exact addAll_mono k m _ _
  · exact LeO.refl _
theorem fineOf_mono (k : Nat) (e : S35) : LeO (fineOf k e) (fineOf (k + 1) e) := by
  unfold fineOf
  repeat' first
    | exact LeO.refl _
    | exact utf_Name.mono _ k
    | refine LeO.ite ?_ ?_
theorem kidsF_mono {g g' : List S35 → Int → Option (Bool × Int)} (h : ∀ l c, LeO (g l c) (g' l c)) : ∀ l b c, LeO (kidsF g l b c) (kidsF g' l b c)
  | [], _, _ => LeO.refl _
  | x :: xs, b, c => LeO.ite (LeO.bind (h _ _) (fun _ => kidsF_mono h xs _ _)) (kidsF_mono h xs _ _)
theorem formedF_mono : ∀ (k : Nat) (l : List S35) (c m : Int), LeO (formedF k l c m) (formedF (k + 1) l c m)
  | 0, _, _, _ => LeO.none _
  | k + 1, l, c, m => by
    unfold formedF; split
    · exact LeO.ite (LeO.refl _) (LeO.ite (LeO.bind (fineOf_mono k _) (fun _ => kidsF_mono (fun l c => formedF_mono k l c m) _ _ _)) (LeO.refl _))
    · exact LeO.refl _
theorem shape_Expr.mono (l : List S35) (a1 : Int) (a2 : Bool) (k : Nat) : LeO (shape_Expr.f k l a1 a2) (shape_Expr.f (k + 1) l a1 a2) := LeO.ite (LeO.bind (formedF_mono k _ _ _) (fun _ => LeO.refl _)) (LeO.refl _)
theorem core_may.mono (l : List S35) (a1 : Int) (k : Nat) : LeO (core_may.f k l a1) (core_may.f (k + 1) l a1) := shape_Expr.mono _ _ _ k
theorem core_exprs_may.mono (a0 : List S41) (a1 : Int) (k : Nat) : LeO (core_exprs_may.f k a0 a1) (core_exprs_may.f (k + 1) a0 a1) := exprsF_mono (fun l s => core_may.mono _ _ k) a0 a1
theorem badField_mono (k : Nat) (p : Option ByteArray) (x : S37) : LeO (badField k p x) (badField (k + 1) p x) := LeO.ite (LeO.bind (utf_Tag.mono _ k) (fun _ => LeO.refl _)) (LeO.refl _)
theorem elemL_mono (k : Nat) : ∀ p l, LeO (elemL k p l) (elemL (k + 1) p l)
  | _, [] => LeO.refl _
  | _, x :: xs => LeO.bind (badField_mono k _ _) (fun _ => LeO.ite (LeO.refl _) (elemL_mono k _ xs))
theorem core_elem.mono (l : List S41) (k : Nat) : LeO (core_elem.f k l) (core_elem.f (k + 1) l) := by
  unfold core_elem.f; split
  · exact LeO.bind (elemL_mono k _ _) (fun _ => LeO.ite (LeO.bind (utf_Tag.mono _ k) (fun _ => LeO.refl _)) (LeO.refl _))
  · exact LeO.refl _
theorem core_formed.mono (l : List S41) (k : Nat) : LeO (core_formed.f k l) (core_formed.f (k + 1) l) := by
  unfold core_formed.f; split
  · exact LeO.ite (LeO.refl _) (LeO.ite (LeO.refl _) (LeO.ite (core_elem.mono _ k) (LeO.refl _)))
  · exact LeO.refl _
theorem faultOf_mono (k : Nat) (c : S41) (a b : Ar) (p : Int) : LeO (faultOf k c a b p) (faultOf (k + 1) c a b p) :=
  LeO.ite (LeO.refl _) (LeO.ite (LeO.refl _) (LeO.bind (core_formed.mono _ k) (fun _ => LeO.ite (LeO.bind (core_exprs_may.mono _ _ k) (fun _ => LeO.ite (LeO.bind (core_exprs_placed.mono _ _ k) (fun _ => LeO.refl _)) (LeO.refl _))) (LeO.refl _))))
theorem oneNode_mono (k : Nat) {g g' : List S41 → Ar → LSt → Option (Bool × LSt)} (h : ∀ l a s, LeO (g l a s) (g' l a s)) (c : S41) (a : Ar) (s : LSt) : LeO (oneNode k g c a s) (oneNode (k + 1) g' c a s) :=
  LeO.bind (LeO.refl _) (fun _ => LeO.bind (shape_Pieces.mono _ _ k) (fun _ => LeO.bind (faultOf_mono k _ _ _ _) (fun _ => LeO.ite (LeO.bind (h _ _ _) (fun _ => LeO.ite (h _ _ _) (LeO.refl _))) (LeO.refl _))))
theorem nodesL_mono (k : Nat) {g g' : List S41 → Ar → LSt → Option (Bool × LSt)} (h : ∀ l a s, LeO (g l a s) (g' l a s)) : ∀ l a s, LeO (nodesL k g l a s) (nodesL (k + 1) g' l a s)
  | [], _, _ => LeO.refl _
  | c :: cs, a, s => LeO.bind (oneNode_mono k h c a s) (fun _ => LeO.ite (nodesL_mono k h cs a _) (LeO.refl _))
theorem nodesF_mono : ∀ (k : Nat) (l : List S41) (a : Ar) (s : LSt), LeO (nodesF k l a s) (nodesF (k + 1) l a s)
  | 0, _, _, _ => LeO.none _
  | k + 1, l, a, s => nodesL_mono k (nodesF_mono k) l a s
theorem lookedF_mono (k : Nat) (l : List S41) : LeO (lookedF k l) (lookedF (k + 1) l) := LeO.bind (nodesF_mono k _ _ _) (fun _ => LeO.refl _)
theorem core_Check.mono (l : List S41) (k : Nat) : LeO (core_Check.f k l) (core_Check.f (k + 1) l) := LeO.bind (lookedF_mono k _) (fun _ => LeO.refl _)

end Go.Proofs.YtncpknhmoakjmaaDoor.PCorePlaces
