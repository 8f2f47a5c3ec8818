-- Written by wip/tools/print2.py (a program of this session's, over the kit's print) out of the translation. Not trusted: Lean checks it.
import Derived.Test.YtncpknhmoakjmaaDoorPCorePlacesx0
import Derived.Test.YtncpknhmoakjmaaDoorPCorePlacesx3
import Derived.Test.YtncpknhmoakjmaaDoorPCorePlacesx4
namespace Go.Proofs.YtncpknhmoakjmaaDoor.PCorePlaces
open Go.RowKit Go.Proofs.YtncpknhmoakjmaaDoorW.PrintWords Go.Proofs.YtncpknhmoakjmaaDoorW.PrintLast Go.Proofs.YtncpknhmoakjmaaDoorW.PrintMore
attribute [local go_sem] max2_int min2_int max_two min_two max_three min_three max_four min_four   -- for this text's walks alone
set_option linter.unusedVariables false
set_option linter.unusedSimpArgs false

/-! ### core_elem: function 37: not printed -/
/-- A world that has grown out of w: what was there is as it was. -/
structure Gr (w : World) where
  world : World
  below : Below w.heap.size w world
instance grInhabited (w : World) : Inhabited (Gr w) := ⟨⟨w, Below.refl _ _⟩⟩
/-- A region that draws its order, whose operations read what is there and whose callees only make new memory: one walk in the order of the text. -/
theorem wp_region_grow {P : Program} {id : Nat} {Q : Exit → Act → World → Prop} {a : Act} {w : World} {l : List Oper} (hm : P.follows .mixedOrders = true) (hB : Region.lexB .any l.toArray = true)
    (h : wpQuiet P l.toArray (fun w' => ∃ g : Gr w, w' = g.world) (fun a' => ∀ w', (∃ g : Gr w, w' = g.world) → Q .normal a' w') l a) : (Code.region id l.toArray true).wp P Q a w :=
  wp_region_quiet (C := fun w' => ∃ g : Gr w, w' = g.world) hm hB ⟨⟨w.drew, below_drew (Below.refl _ _)⟩, rfl⟩ (by simpa using h)
theorem Gr.quiet {P : Program} {f : FuncId} {args : Array Value} {w : World} {v : Value} (g : Gr w) (h : Calls P f args g.world fun e w' => e = .returned v ∧ Drawn0 g.world w') :
    Calls P f args g.world fun e w'' => e = .returned v ∧ ∃ g' : Gr w, w'' = g'.world :=
  h.mono fun _ w' ⟨he, hd⟩ => ⟨he, ⟨w', g.below.trans (hd.below.mono g.below.size)⟩, rfl⟩
theorem Gr.grow {P : Program} {f : FuncId} {args : Array Value} {w : World} {v : Value} (g : Gr w) (h : Calls P f args g.world fun e w' => e = .returned v ∧ Below g.world.heap.size g.world w') :
    Calls P f args g.world fun e w'' => e = .returned v ∧ ∃ g' : Gr w, w'' = g'.world :=
  h.mono fun _ w' ⟨he, hd⟩ => ⟨he, ⟨w', g.below.trans (hd.mono g.below.size)⟩, rfl⟩
theorem Gr.cell {w : World} {p : Addr} {v : Value} (h : w.cell? p = some v) (g : Gr w) : g.world.cell? p = some v := pw_cell_below g.below h
theorem Gr.unfrozen {w : World} {p : Addr} {v : Value} (h : w.cell? p = some v) (hf : w.frozen? p = false) (g : Gr w) : g.world.frozen? p = false := by
  have := g.below.frozen (p := p) (World.block_lt_of_cell? _ _ h); rw [this]; exact hf
/-- Does a name not stand behind its elder's? -/
def orderBad : Option ByteArray → ByteArray → Bool
  | none, _ => false
  | some p, a => !(Op.bytesLess p.toList a.toList)
/-- May a field not be? prev: its elder's name. -/
def badField (k : Nat) (prev : Option ByteArray) (x : S37) : Option Bool :=
  if x.f4 = 0 then (utf_Tag.f k x.f0).bind fun t => if t = true then
    (if orderBad prev x.f0 = true then some true else if x.f2 = true then some (x.f1.toList != []) else
      (shape_Valid.f x.f1).bind fun v => if v = true then (shape_Zero.f [x.f3]).bind fun z => some (!z) else some true)
    else some true
  else some true
def elemL (k : Nat) : Option ByteArray → List S37 → Option Bool
  | _, [] => some true
  | prev, x :: xs => (badField k prev x).bind fun b => if b = true then some false else elemL k (some x.f0) xs
def core_elem.f (k : Nat) (l0 : List S41) : Option Bool :=
  match l0 with
  | [c] => (elemL k none c.f2).bind fun b => if b = true then (utf_Tag.f k c.f1).bind fun t => some (t && decide (c.f4.length = 0)) else some false
  | _ => none
theorem badE {α : Type} {b : α} {r : Bool} {x : Option α} {y : α → Option Bool} (h1 : (if True then some b else x) = some b) (h2 : y b = some r) : y b = some r := h2
def prevN (c : S41) (i : Nat) : Option ByteArray := if i = 0 then none else some (rd_T37 c.f2 ((i - 1 : Nat) : Int)).f0
theorem rd_of_drop37 {xs : List S37} {i : Nat} {x : S37} {ys : List S37} (h : xs.drop i = x :: ys) : rd_T37 xs (i : Int) = x := by
  have h2 : xs[i]? = some x := by rw [← List.head?_drop, h]; rfl
  simp [rd_T37, List.getD, h2]
theorem prevN_succ {c : S41} {i : Nat} {x : S37} {ys : List S37} (h : c.f2.drop i = x :: ys) : prevN c (i + 1) = some x.f0 := by
  unfold prevN; rw [if_neg (by omega), Nat.add_sub_cancel, rd_of_drop37 h]
set_option maxHeartbeats 8000000 in
set_option maxRecDepth 1000000 in
theorem core_elem.calls (k : Nat) (A0 : Option Addr) (l0 : List S41) (r : Bool) (w : World) (hL : LaidW w) (hr0 : Kd.C k41 w A0 l0.length l0) (h : core_elem.f k l0 = some r) :
    Calls Tryd.prog 37 #[.pointer A0] w fun e w' => e = .returned (.bool r) ∧ Below w.heap.size w w' := by
  obtain ⟨c, rfl⟩ : ∃ c, l0 = [c] := by
    unfold core_elem.f at h; split at h
    · exact ⟨_, rfl⟩
    · exact absurd h (by simp)
  have HE := Aside0.mk h
  obtain ⟨ad, A2, c2, A3, c3, A4, c4, A5, c5, A6, c6, rfl, x0, x1, x2, x3, x4, x5, x6, l2, C2, l3, C3, l4, C4, l5, C5, l6, C6⟩ := at_T41 hr0 0 (by omega) (by simp)
  have hz : (ad.add ((0 : Int).toNat * 7)) = ad := by rw [show (0 : Int).toNat * 7 = 0 from rfl, Addr.add_zero']
  rw [hz] at x0 x1 x2 x3 x4 x5 x6
  have hc0 : rd_T41 [c] 0 = c := rfl
  rw [hc0] at x0 x1 x2 x3 x4 x5 x6 l2 C2
  clear h hr0 hz hc0 C3 C4 C5 C6 l3 l4 l5 l6
  have HC2 := Aside0.mk C2
  have HX := Aside0.mk (And.intro x1 (And.intro x2 x4))
  have HLD := Aside0.mk hL
  have HL2 := Aside0.mk l2
  clear hL C2 l2 x0 x1 x3 x4 x5 x6
  obtain ⟨b, hb, hbr⟩ := Option.bind_eq_some_iff.mp (show (elemL k none c.f2).bind _ = some r from HE.out)
  have HT := Aside0.mk hb
  have HBR := Aside0.mk hbr
  clear hb hbr HE
  go_enter Tryd.func37, Tryd.ntmps37
  go_wp2
  clear x2
  go_loopg [10] c.f2.length (fun gf vv wx => ∃ (i : Nat), vv = .int .i64 (i : Int) ∧ Aside0 (Below w.heap.size w wx) ∧ Aside0 (elemL k (prevN c i) (c.f2.drop i) = some b) ∧ Aside0 (i + gf = c.f2.length))
  case atStart => exact ⟨0, rfl, ⟨Below.refl _ _⟩, HT, ⟨Nat.zero_add _⟩⟩
  case round =>
    obtain ⟨i, rfl, HB, HA, HG⟩ := hrel
    have y2 := pw_cell_below HB.out HX.out.2.1
    by_cases hi : i < c.f2.length
    · obtain ⟨ae, a, x, e1, ha, hd, f0, f1, fb, f7, hal, cz⟩ := nth37 (Kd.C_below HC2.out HB.out) i hi
      subst e1
      have hA := HA.out
      have hi' : ((i : Int) < (c.f2.length : Int)) := cast_lt hi
      have hw := wrap_succ i _ hi (Kd.C_max HC2.out)
      obtain ⟨g', rfl⟩ : ∃ g', gk = g' + 1 := gk_pos HG.out hi
      have HP := Aside0.mk (prevN_succ hd)
      rw [hd] at hA
      obtain ⟨bad, hbad, hA2⟩ := Option.bind_eq_some_iff.mp (show (badField k (prevN c i) x).bind _ = some b from hA)
      have HA2 := Aside0.mk hA2
      have HCZ := Aside0.mk cz
      have HLZ := Aside0.mk (HLD.out.below HB.out)
      unfold badField at hbad
      clear hA hA2 cz hd HA hal
      go_upto_region 5 with (fail)
      dsimp only [List.append]
      by_cases h4 : x.f4 = 0
      · have h4' : (x.f4 != 0) = false := bne_eq_false_iff_eq.mpr h4
        rw [if_pos h4] at hbad
        obtain ⟨t, ht, hbad1⟩ := Option.bind_eq_some_iff.mp hbad
        have HTG := Aside0.mk ht
        clear hbad ht h4
        cases t with
        | false =>
          obtain rfl : true = bad := Option.some.inj hbad1
          clear hbad1
          have k0_ := Gr.cell f0
          have k1_ := Gr.cell f1
          have k2_ := Gr.cell fb
          have k3_ := Gr.cell f7
          refine wp_region_grow (by kernel_rfl) (by kernel_rfl) ?_
          repeat (go_big_quiet_step ((go_at_call 44; exact Gr.quiet _ (utf_Tag.calls k x.f0 false _ HTG.out))))
          refine wpQuiet_nil ?_
          rintro _ ⟨g_, rfl⟩
          have HG_ := Aside0.mk g_.below
          generalize g_.world = wz at HG_ ⊢
          clear k0_ k1_ k2_ k3_
          obtain rfl : false = b := Option.some.inj (show some false = some b from HA2.out)
          go_wp2
          go_ret
          obtain rfl : false = r := Option.some.inj (show some false = some r from HBR.out)
          exact ⟨rfl, HB.out.trans (HG_.out.mono HB.out.size)⟩
        | true =>
          replace hbad1 : (if orderBad (prevN c i) x.f0 = true then some true else if x.f2 = true then some (x.f1.toList != []) else (shape_Valid.f x.f1).bind fun v => if v = true then (shape_Zero.f [x.f3]).bind fun z => some (!z) else some true) = some bad := hbad1
          cases i with
          | zero =>
            have hbad : (if x.f2 = true then some (x.f1.toList != []) else (shape_Valid.f x.f1).bind fun v => if v = true then (shape_Zero.f [x.f3]).bind fun z => some (!z) else some true) = some bad := hbad1
            clear hbad1
            by_cases hbd : x.f2 = true
            · rw [hbd] at fb
              rw [if_pos hbd] at hbad
              by_cases hpl : x.f1.toList = []
              · have hp1 : (x.f1.toList == ([] : List UInt8)) = true := beq_iff_eq.mpr hpl
                have hp2 : (x.f1.toList != ([] : List UInt8)) = false := bne_eq_false_iff_eq.mpr hpl
                obtain rfl : false = bad := by rw [hp2] at hbad; exact Option.some.inj hbad
                clear hbad hpl
                have k0_ := Gr.cell f0
                have k1_ := Gr.cell f1
                have k2_ := Gr.cell fb
                have k3_ := Gr.cell f7
                refine wp_region_grow (by kernel_rfl) (by kernel_rfl) ?_
                repeat (go_big_quiet_step ((go_at_call 44; exact Gr.quiet _ (utf_Tag.calls k x.f0 true _ HTG.out))))
                refine wpQuiet_nil ?_
                rintro _ ⟨g_, rfl⟩
                have HG_ := Aside0.mk g_.below
                generalize g_.world = wz at HG_ ⊢
                clear k0_ k1_ k2_ k3_
                go_wp2
                go_roundg g'
                case measure => exact Nat.lt_succ_self _
                case rel => exact ⟨0 + 1, by first | rfl | rw [hw] | (rw [← hw]; rfl), ⟨HB.out.trans (HG_.out.mono HB.out.size)⟩, ⟨by rw [HP.out]; exact HA2.out⟩, ⟨gk_next HG.out⟩⟩
              · have hp1 : (x.f1.toList == ([] : List UInt8)) = false := beq_eq_false_iff_ne.mpr hpl
                have hp2 : (x.f1.toList != ([] : List UInt8)) = true := bne_iff_ne.mpr hpl
                obtain rfl : true = bad := by rw [hp2] at hbad; exact Option.some.inj hbad
                clear hbad hpl
                have k0_ := Gr.cell f0
                have k1_ := Gr.cell f1
                have k2_ := Gr.cell fb
                have k3_ := Gr.cell f7
                refine wp_region_grow (by kernel_rfl) (by kernel_rfl) ?_
                repeat (go_big_quiet_step ((go_at_call 44; exact Gr.quiet _ (utf_Tag.calls k x.f0 true _ HTG.out))))
                refine wpQuiet_nil ?_
                rintro _ ⟨g_, rfl⟩
                have HG_ := Aside0.mk g_.below
                generalize g_.world = wz at HG_ ⊢
                clear k0_ k1_ k2_ k3_
                obtain rfl : false = b := Option.some.inj (show some false = some b from HA2.out)
                go_wp2
                go_ret
                obtain rfl : false = r := Option.some.inj (show some false = some r from HBR.out)
                exact ⟨rfl, HB.out.trans (HG_.out.mono HB.out.size)⟩
            · have hbf : x.f2 = false := by simpa using hbd
              rw [hbf] at fb
              rw [if_neg hbd] at hbad
              obtain ⟨v, hv, hbad2⟩ := Option.bind_eq_some_iff.mp hbad
              have HV := Aside0.mk hv
              clear hbad hv hbd
              cases v with
              | false =>
                obtain rfl : true = bad := Option.some.inj hbad2
                clear hbad2
                have k0_ := Gr.cell f0
                have k1_ := Gr.cell f1
                have k2_ := Gr.cell fb
                have k3_ := Gr.cell f7
                refine wp_region_grow (by kernel_rfl) (by kernel_rfl) ?_
                repeat (go_big_quiet_step ((first | (go_at_call 44; exact Gr.quiet _ (utf_Tag.calls k x.f0 true _ HTG.out)) | (go_at_call 42; exact Gr.grow _ (shape_Valid.calls x.f1 false _ (HLZ.out.below (by first | exact Gr.below _)) HV.out)))))
                refine wpQuiet_nil ?_
                rintro _ ⟨g_, rfl⟩
                have HG_ := Aside0.mk g_.below
                generalize g_.world = wz at HG_ ⊢
                clear k0_ k1_ k2_ k3_
                obtain rfl : false = b := Option.some.inj (show some false = some b from HA2.out)
                go_wp2
                go_ret
                obtain rfl : false = r := Option.some.inj (show some false = some r from HBR.out)
                exact ⟨rfl, HB.out.trans (HG_.out.mono HB.out.size)⟩
              | true =>
                obtain ⟨z, hz, hbad3⟩ := Option.bind_eq_some_iff.mp (show (shape_Zero.f [x.f3]).bind _ = some bad from hbad2)
                have HZ := Aside0.mk hz
                clear hbad2 hz
                cases z with
                | false =>
                  obtain rfl : true = bad := Option.some.inj hbad3
                  clear hbad3
                  have k0_ := Gr.cell f0
                  have k1_ := Gr.cell f1
                  have k2_ := Gr.cell fb
                  have k3_ := Gr.cell f7
                  refine wp_region_grow (by kernel_rfl) (by kernel_rfl) ?_
                  repeat (go_big_quiet_step ((first | (go_at_call 44; exact Gr.quiet _ (utf_Tag.calls k x.f0 true _ HTG.out)) | (go_at_call 42; exact Gr.grow _ (shape_Valid.calls x.f1 true _ (HLZ.out.below (by first | exact Gr.below _)) HV.out)) | (go_at_call 43; exact Gr.quiet _ (shape_Zero.calls _ [x.f3] false _ (Kd.C_below HCZ.out (by first | exact Gr.below _)) HZ.out)))))
                  refine wpQuiet_nil ?_
                  rintro _ ⟨g_, rfl⟩
                  have HG_ := Aside0.mk g_.below
                  generalize g_.world = wz at HG_ ⊢
                  clear k0_ k1_ k2_ k3_
                  obtain rfl : false = b := Option.some.inj (show some false = some b from HA2.out)
                  go_wp2
                  go_ret
                  obtain rfl : false = r := Option.some.inj (show some false = some r from HBR.out)
                  exact ⟨rfl, HB.out.trans (HG_.out.mono HB.out.size)⟩
                | true =>
                  obtain rfl : false = bad := Option.some.inj hbad3
                  clear hbad3
                  have k0_ := Gr.cell f0
                  have k1_ := Gr.cell f1
                  have k2_ := Gr.cell fb
                  have k3_ := Gr.cell f7
                  refine wp_region_grow (by kernel_rfl) (by kernel_rfl) ?_
                  repeat (go_big_quiet_step ((first | (go_at_call 44; exact Gr.quiet _ (utf_Tag.calls k x.f0 true _ HTG.out)) | (go_at_call 42; exact Gr.grow _ (shape_Valid.calls x.f1 true _ (HLZ.out.below (by first | exact Gr.below _)) HV.out)) | (go_at_call 43; exact Gr.quiet _ (shape_Zero.calls _ [x.f3] true _ (Kd.C_below HCZ.out (by first | exact Gr.below _)) HZ.out)))))
                  refine wpQuiet_nil ?_
                  rintro _ ⟨g_, rfl⟩
                  have HG_ := Aside0.mk g_.below
                  generalize g_.world = wz at HG_ ⊢
                  clear k0_ k1_ k2_ k3_
                  go_wp2
                  go_roundg g'
                  case measure => exact Nat.lt_succ_self _
                  case rel => exact ⟨0 + 1, by first | rfl | rw [hw] | (rw [← hw]; rfl), ⟨HB.out.trans (HG_.out.mono HB.out.size)⟩, ⟨by rw [HP.out]; exact HA2.out⟩, ⟨gk_next HG.out⟩⟩
          | succ j =>
            have hj1 := wrap_nat j _ hi (Kd.C_max HC2.out)
            have hj2 : decide (((j + 1 : Nat) : Int) > 0) = true := decide_eq_true (by omega)
            have hj3 : (j : Int) < (c.f2.length : Int) := cast_lt (Nat.lt_of_succ_lt hi)
            obtain ⟨ae2, a2, x2, e2, ha2, hd2, f20, f21, f2b, f27, hal2, cz2⟩ := nth37 (Kd.C_below HC2.out HB.out) j (Nat.lt_of_succ_lt hi)
            obtain rfl : ae = ae2 := Option.some.inj e2
            have hpv : prevN c (j + 1) = some x2.f0 := prevN_succ hd2
            rw [hpv] at hbad1
            clear hpv e2 hd2 f21 f2b f27 hal2 cz2
            by_cases hob : Op.bytesLess x2.f0.toList x.f0.toList = true
            · have hbad : (if x.f2 = true then some (x.f1.toList != []) else (shape_Valid.f x.f1).bind fun v => if v = true then (shape_Zero.f [x.f3]).bind fun z => some (!z) else some true) = some bad := by
                rw [show orderBad (some x2.f0) x.f0 = false from by simp [orderBad, hob]] at hbad1; exact hbad1
              clear hbad1
              by_cases hbd : x.f2 = true
              · rw [hbd] at fb
                rw [if_pos hbd] at hbad
                by_cases hpl : x.f1.toList = []
                · have hp1 : (x.f1.toList == ([] : List UInt8)) = true := beq_iff_eq.mpr hpl
                  have hp2 : (x.f1.toList != ([] : List UInt8)) = false := bne_eq_false_iff_eq.mpr hpl
                  obtain rfl : false = bad := by rw [hp2] at hbad; exact Option.some.inj hbad
                  clear hbad hpl
                  have k0_ := Gr.cell f0
                  have k1_ := Gr.cell f1
                  have k2_ := Gr.cell fb
                  have k3_ := Gr.cell f7
                  have k4_ := Gr.cell y2
                  have k5_ := Gr.cell f20
                  refine wp_region_grow (by kernel_rfl) (by kernel_rfl) ?_
                  repeat (go_big_quiet_step ((go_at_call 44; exact Gr.quiet _ (utf_Tag.calls k x.f0 true _ HTG.out))))
                  refine wpQuiet_nil ?_
                  rintro _ ⟨g_, rfl⟩
                  have HG_ := Aside0.mk g_.below
                  generalize g_.world = wz at HG_ ⊢
                  clear k0_ k1_ k2_ k3_ k4_ k5_
                  go_wp2
                  go_roundg g'
                  case measure => exact Nat.lt_succ_self _
                  case rel => exact ⟨j + 1 + 1, by first | rfl | rw [hw] | (rw [← hw]; rfl), ⟨HB.out.trans (HG_.out.mono HB.out.size)⟩, ⟨by rw [HP.out]; exact HA2.out⟩, ⟨gk_next HG.out⟩⟩
                · have hp1 : (x.f1.toList == ([] : List UInt8)) = false := beq_eq_false_iff_ne.mpr hpl
                  have hp2 : (x.f1.toList != ([] : List UInt8)) = true := bne_iff_ne.mpr hpl
                  obtain rfl : true = bad := by rw [hp2] at hbad; exact Option.some.inj hbad
                  clear hbad hpl
                  have k0_ := Gr.cell f0
                  have k1_ := Gr.cell f1
                  have k2_ := Gr.cell fb
                  have k3_ := Gr.cell f7
                  have k4_ := Gr.cell y2
                  have k5_ := Gr.cell f20
                  refine wp_region_grow (by kernel_rfl) (by kernel_rfl) ?_
                  repeat (go_big_quiet_step ((go_at_call 44; exact Gr.quiet _ (utf_Tag.calls k x.f0 true _ HTG.out))))
                  refine wpQuiet_nil ?_
                  rintro _ ⟨g_, rfl⟩
                  have HG_ := Aside0.mk g_.below
                  generalize g_.world = wz at HG_ ⊢
                  clear k0_ k1_ k2_ k3_ k4_ k5_
                  obtain rfl : false = b := Option.some.inj (show some false = some b from HA2.out)
                  go_wp2
                  go_ret
                  obtain rfl : false = r := Option.some.inj (show some false = some r from HBR.out)
                  exact ⟨rfl, HB.out.trans (HG_.out.mono HB.out.size)⟩
              · have hbf : x.f2 = false := by simpa using hbd
                rw [hbf] at fb
                rw [if_neg hbd] at hbad
                obtain ⟨v, hv, hbad2⟩ := Option.bind_eq_some_iff.mp hbad
                have HV := Aside0.mk hv
                clear hbad hv hbd
                cases v with
                | false =>
                  obtain rfl : true = bad := Option.some.inj hbad2
                  clear hbad2
                  have k0_ := Gr.cell f0
                  have k1_ := Gr.cell f1
                  have k2_ := Gr.cell fb
                  have k3_ := Gr.cell f7
                  have k4_ := Gr.cell y2
                  have k5_ := Gr.cell f20
                  refine wp_region_grow (by kernel_rfl) (by kernel_rfl) ?_
                  repeat (go_big_quiet_step ((first | (go_at_call 44; exact Gr.quiet _ (utf_Tag.calls k x.f0 true _ HTG.out)) | (go_at_call 42; exact Gr.grow _ (shape_Valid.calls x.f1 false _ (HLZ.out.below (by first | exact Gr.below _)) HV.out)))))
                  refine wpQuiet_nil ?_
                  rintro _ ⟨g_, rfl⟩
                  have HG_ := Aside0.mk g_.below
                  generalize g_.world = wz at HG_ ⊢
                  clear k0_ k1_ k2_ k3_ k4_ k5_
                  obtain rfl : false = b := Option.some.inj (show some false = some b from HA2.out)
                  go_wp2
                  go_ret
                  obtain rfl : false = r := Option.some.inj (show some false = some r from HBR.out)
                  exact ⟨rfl, HB.out.trans (HG_.out.mono HB.out.size)⟩
                | true =>
                  obtain ⟨z, hz, hbad3⟩ := Option.bind_eq_some_iff.mp (show (shape_Zero.f [x.f3]).bind _ = some bad from hbad2)
                  have HZ := Aside0.mk hz
                  clear hbad2 hz
                  cases z with
                  | false =>
                    obtain rfl : true = bad := Option.some.inj hbad3
                    clear hbad3
                    have k0_ := Gr.cell f0
                    have k1_ := Gr.cell f1
                    have k2_ := Gr.cell fb
                    have k3_ := Gr.cell f7
                    have k4_ := Gr.cell y2
                    have k5_ := Gr.cell f20
                    refine wp_region_grow (by kernel_rfl) (by kernel_rfl) ?_
                    repeat (go_big_quiet_step ((first | (go_at_call 44; exact Gr.quiet _ (utf_Tag.calls k x.f0 true _ HTG.out)) | (go_at_call 42; exact Gr.grow _ (shape_Valid.calls x.f1 true _ (HLZ.out.below (by first | exact Gr.below _)) HV.out)) | (go_at_call 43; exact Gr.quiet _ (shape_Zero.calls _ [x.f3] false _ (Kd.C_below HCZ.out (by first | exact Gr.below _)) HZ.out)))))
                    refine wpQuiet_nil ?_
                    rintro _ ⟨g_, rfl⟩
                    have HG_ := Aside0.mk g_.below
                    generalize g_.world = wz at HG_ ⊢
                    clear k0_ k1_ k2_ k3_ k4_ k5_
                    obtain rfl : false = b := Option.some.inj (show some false = some b from HA2.out)
                    go_wp2
                    go_ret
                    obtain rfl : false = r := Option.some.inj (show some false = some r from HBR.out)
                    exact ⟨rfl, HB.out.trans (HG_.out.mono HB.out.size)⟩
                  | true =>
                    obtain rfl : false = bad := Option.some.inj hbad3
                    clear hbad3
                    have k0_ := Gr.cell f0
                    have k1_ := Gr.cell f1
                    have k2_ := Gr.cell fb
                    have k3_ := Gr.cell f7
                    have k4_ := Gr.cell y2
                    have k5_ := Gr.cell f20
                    refine wp_region_grow (by kernel_rfl) (by kernel_rfl) ?_
                    repeat (go_big_quiet_step ((first | (go_at_call 44; exact Gr.quiet _ (utf_Tag.calls k x.f0 true _ HTG.out)) | (go_at_call 42; exact Gr.grow _ (shape_Valid.calls x.f1 true _ (HLZ.out.below (by first | exact Gr.below _)) HV.out)) | (go_at_call 43; exact Gr.quiet _ (shape_Zero.calls _ [x.f3] true _ (Kd.C_below HCZ.out (by first | exact Gr.below _)) HZ.out)))))
                    refine wpQuiet_nil ?_
                    rintro _ ⟨g_, rfl⟩
                    have HG_ := Aside0.mk g_.below
                    generalize g_.world = wz at HG_ ⊢
                    clear k0_ k1_ k2_ k3_ k4_ k5_
                    go_wp2
                    go_roundg g'
                    case measure => exact Nat.lt_succ_self _
                    case rel => exact ⟨j + 1 + 1, by first | rfl | rw [hw] | (rw [← hw]; rfl), ⟨HB.out.trans (HG_.out.mono HB.out.size)⟩, ⟨by rw [HP.out]; exact HA2.out⟩, ⟨gk_next HG.out⟩⟩
            · replace hob : Op.bytesLess x2.f0.toList x.f0.toList = false := by simpa using hob
              obtain rfl : true = bad := by rw [show orderBad (some x2.f0) x.f0 = true from by simp [orderBad, hob]] at hbad1; exact Option.some.inj hbad1
              clear hbad1
              have k0_ := Gr.cell f0
              have k1_ := Gr.cell f1
              have k2_ := Gr.cell fb
              have k3_ := Gr.cell f7
              have k4_ := Gr.cell y2
              have k5_ := Gr.cell f20
              refine wp_region_grow (by kernel_rfl) (by kernel_rfl) ?_
              repeat (go_big_quiet_step ((go_at_call 44; exact Gr.quiet _ (utf_Tag.calls k x.f0 true _ HTG.out))))
              refine wpQuiet_nil ?_
              rintro _ ⟨g_, rfl⟩
              have HG_ := Aside0.mk g_.below
              generalize g_.world = wz at HG_ ⊢
              clear k0_ k1_ k2_ k3_ k4_ k5_
              obtain rfl : false = b := Option.some.inj (show some false = some b from HA2.out)
              go_wp2
              go_ret
              obtain rfl : false = r := Option.some.inj (show some false = some r from HBR.out)
              exact ⟨rfl, HB.out.trans (HG_.out.mono HB.out.size)⟩
      · have h4' : (x.f4 != 0) = true := bne_iff_ne.mpr h4
        obtain rfl : true = bad := by rw [if_neg h4] at hbad; exact Option.some.inj hbad
        clear hbad h4
        have k0_ := Gr.cell f0
        have k1_ := Gr.cell f1
        have k2_ := Gr.cell fb
        have k3_ := Gr.cell f7
        refine wp_region_grow (by kernel_rfl) (by kernel_rfl) ?_
        repeat (go_big_quiet_step (fail))
        refine wpQuiet_nil ?_
        rintro _ ⟨g_, rfl⟩
        have HG_ := Aside0.mk g_.below
        generalize g_.world = wz at HG_ ⊢
        clear k0_ k1_ k2_ k3_
        obtain rfl : false = b := Option.some.inj (show some false = some b from HA2.out)
        go_wp2
        go_ret
        obtain rfl : false = r := Option.some.inj (show some false = some r from HBR.out)
        exact ⟨rfl, HB.out.trans (HG_.out.mono HB.out.size)⟩
    · have hnil : c.f2.drop i = [] := drop_end hi
      have hi' : ¬ ((i : Int) < (c.f2.length : Int)) := cast_nlt hi
      have hA := HA.out
      rw [hnil] at hA
      obtain rfl : true = b := Option.some.inj hA
      obtain ⟨t, ht, hr⟩ := Option.bind_eq_some_iff.mp (show (utf_Tag.f k c.f1).bind _ = some r from HBR.out)
      have y1 := pw_cell_below HB.out HX.out.1
      have y4 := pw_cell_below HB.out HX.out.2.2
      have HTG := Aside0.mk ht
      have HR := Aside0.mk (show some (t && decide (c.f4.length = 0)) = some r from hr)
      have g4' : ((c.f4.length : Int) == 0) = decide (c.f4.length = 0) := by rw [Bool.eq_iff_iff]; simp
      have Y4 := Aside0.mk y4
      clear ht hr hnil HA hA y4
      cases t with
      | true =>
        go_wp2_with (go_at_call 44; (refine (utf_Tag.calls k c.f1 true _ HTG.out).mono ?_); rintro e w1 ⟨rfl, ⟨nd, rfl⟩⟩; (have y4 := Y4.out))
        go_ret
        refine ⟨congrArg (fun z => Ending.returned (Value.bool z)) (Eq.trans ?_ (Option.some.inj HR.out)), pw_below_drewN HB.out _⟩
        simp
      | false =>
        go_wp2_with (go_at_call 44; (refine (utf_Tag.calls k c.f1 false _ HTG.out).mono ?_); rintro e w1 ⟨rfl, ⟨nd, rfl⟩⟩)
        go_ret
        refine ⟨congrArg (fun z => Ending.returned (Value.bool z)) (Eq.trans ?_ (Option.some.inj HR.out)), pw_below_drewN HB.out _⟩
        simp

end Go.Proofs.YtncpknhmoakjmaaDoor.PCorePlaces
