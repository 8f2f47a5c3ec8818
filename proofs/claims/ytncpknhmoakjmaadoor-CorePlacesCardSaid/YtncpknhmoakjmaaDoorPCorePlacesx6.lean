-- Written by wip/tools/print2.py (a program of this session's, over the kit's print) out of the translation. Not trusted: Lean checks it.
import Derived.Test.YtncpknhmoakjmaaDoorPCorePlacesx0
import Derived.Test.YtncpknhmoakjmaaDoorPCorePlacesx4
import Derived.Test.YtncpknhmoakjmaaDoorPCorePlacesx5
namespace Go.Proofs.YtncpknhmoakjmaaDoor.PCorePlaces
open Go.RowKit Go.Proofs.YtncpknhmoakjmaaDoorW.PrintWords Go.Proofs.YtncpknhmoakjmaaDoorW.PrintLast Go.Proofs.YtncpknhmoakjmaaDoorW.PrintMore
attribute [local go_sem] max2_int min2_int max_two min_two max_three min_three max_four min_four   -- for this text's walks alone
set_option linter.unusedVariables false
set_option linter.unusedSimpArgs false

/-! ### core_formed: function 30: not printed -/
def oneElem (l : List S41) : Bool := decide (l.length = 1) && decide ((rd_T41 l 0).f0 = 2)
theorem eq_dec (n m : Nat) : ((n : Int) == (m : Int)) = decide (n = m) := by rw [Bool.eq_iff_iff, beq_iff_eq, decide_eq_true_eq]; omega
set_option maxHeartbeats 2000000 in
theorem core_formed1.calls (ad : Option Addr) (c : S41) (w : World) (hr0 : Kd.C k41 w ad [c].length [c]) : Calls Tryd.prog 38 #[.pointer ad] w fun e w' => e = .returned (.bool (decide (c.f4.length = 1))) ∧ w' = w := by
  obtain ⟨ad, A2, c2, A3, c3, A4, c4, A5, c5, A6, c6, rfl, x0, x1, x2, x3, x4, x5, x6, l2, C2, l3, C3, l4, C4, l5, C5, l6, C6⟩ := at_T41 hr0 0 (by omega) (by simp)
  have hz : (ad.add ((0 : Int).toNat * 7)) = ad := by rw [show (0 : Int).toNat * 7 = 0 from rfl, Addr.add_zero']
  have hc0 : rd_T41 [c] 0 = c := rfl
  rw [hz] at x4
  rw [hc0] at x4
  have hE := eq_dec c.f4.length 1
  clear hr0 hz hc0 C2 C3 C4 C5 C6 l2 l3 l4 l5 l6 x0 x1 x2 x3 x5 x6
  go_enter Tryd.func38, Tryd.ntmps38
  go_wp2
  go_ret
  exact ⟨congrArg (fun z => Ending.returned (Value.bool z)) hE, rfl⟩
set_option maxHeartbeats 2000000 in
theorem core_formed3.calls (ad : Option Addr) (w : World) : Calls Tryd.prog 40 #[.pointer ad] w fun e w' => e = .returned (.bool true) ∧ w' = w := by
  go_enter Tryd.func40, Tryd.ntmps40
  go_wp2
  go_ret
  exact ⟨rfl, rfl⟩
set_option maxHeartbeats 2000000 in
theorem core_formed2.calls (ad : Option Addr) (c : S41) (w : World) (hr0 : Kd.C k41 w ad [c].length [c]) : Calls Tryd.prog 39 #[.pointer ad] w fun e w' => e = .returned (.bool (decide (c.f4.length = 2) && oneElem c.f5)) ∧ w' = w := by
  obtain ⟨ad, A2, c2, A3, c3, A4, c4, A5, c5, A6, c6, rfl, x0, x1, x2, x3, x4, x5, x6, l2, C2, l3, C3, l4, C4, l5, C5, l6, C6⟩ := at_T41 hr0 0 (by omega) (by simp)
  have hz : (ad.add ((0 : Int).toNat * 7)) = ad := by rw [show (0 : Int).toNat * 7 = 0 from rfl, Addr.add_zero']
  have hc0 : rd_T41 [c] 0 = c := rfl
  rw [hz] at x4 x5
  rw [hc0] at x4 x5 C5
  have HC5 := Aside0.mk C5
  clear hr0 hz hc0 C2 C3 C4 C5 C6 l2 l3 l4 l5 l6 x0 x1 x2 x3 x6
  by_cases h4 : c.f4.length = 2
  · have h4a : ((c.f4.length : Int) == 2) = true := by rw [beq_iff_eq]; omega
    by_cases h5 : c.f5.length = 1
    · have h5a : ((c.f5.length : Int) == 1) = true := by rw [beq_iff_eq]; omega
      obtain ⟨a5, B2, d2, B3, d3, B4, d4, B5, d5, B6, d6, e5, y0, y1, y2, y3, y4, y5, y6, m2, D2, m3, D3, m4, D4, m5, D5, m6, D6⟩ := at_T41 HC5.out 0 (by omega) (by omega)
      have hz : (a5.add ((0 : Int).toNat * 7)) = a5 := by rw [show (0 : Int).toNat * 7 = 0 from rfl, Addr.add_zero']
      rw [hz] at y0
      subst e5
      have H4 := Aside0.mk h4
      have H5 := Aside0.mk h5
      have h50 : (0 : Int) < (c.f5.length : Int) := by omega
      clear D2 D3 D4 D5 D6 m2 m3 m4 m5 m6 y1 y2 y3 y4 y5 y6 hz h4 h5
      go_enter Tryd.func39, Tryd.ntmps39
      go_wp2
      go_ret
      refine ⟨congrArg (fun z => Ending.returned (Value.bool z)) ?_, rfl⟩
      simp [oneElem, H4.out, H5.out]
      rw [Bool.eq_iff_iff]; simp
    · have h5a : ((c.f5.length : Int) == 1) = false := by rw [beq_eq_false_iff_ne]; omega
      have H4 := Aside0.mk h4
      have H5 := Aside0.mk h5
      clear h4 h5
      go_enter Tryd.func39, Tryd.ntmps39
      go_wp2
      go_ret
      refine ⟨congrArg (fun z => Ending.returned (Value.bool z)) ?_, rfl⟩
      simp [oneElem, H5.out]
  · have h4a : ((c.f4.length : Int) == 2) = false := by rw [beq_eq_false_iff_ne]; omega
    have H4 := Aside0.mk h4
    clear h4
    go_enter Tryd.func39, Tryd.ntmps39
    go_wp2
    go_ret
    refine ⟨congrArg (fun z => Ending.returned (Value.bool z)) ?_, rfl⟩
    simp [H4.out]
/-- An entry is put behind the others of a map with integer keys. -/
theorem run_put_int {P : Program} {w : World} {mty kt et : TypeId} {ik : IntKind} {r clock : Nat} {es : Array MapEntry} {n : Int} {val : Value} (hm : P.underlying mty = some (.map kt et)) (hk : P.underlying kt = some (.int ik))
    (hb : w.heap[r]? = some (.map es clock)) (hf : Instr.findNow (.int ik) (.int ik n) es.toList 0 = some none) :
    (Instr.mapUpdate mty (.map (some r)) (.int ik n) val).run P w = .ok () { w with heap := w.heap.setIfInBounds r (.map (es.push { key := .int ik n, val := val, born := clock }) (clock + 1)) } := by
  have hc : (Instr.checkKey false 10000 kt (.int ik n)).run P w = .ok () w := MapKept.run_checkKey (k := .int ik n) hk (by simp [MapKept.IsKey]) false 9999
  simp [Instr.mapUpdate, run_underlying hm, MapKept.run_getObj_map hb, hc, MapKept.run_findKey hk hf, MapKept.run_setObj_map _ hb, Result.andThen]
theorem alloc_last (w : World) (o : Obj) : (w.alloc o).heap[w.heap.size]? = some o := by show (w.heap.push o)[_]? = _; simp
theorem alloc_over (w : World) (o o' : Obj) : ({ (w.alloc o) with heap := (w.alloc o).heap.setIfInBounds w.heap.size o' } : World) = w.alloc o' := by
  show ({ w with heap := (w.heap.push o).setIfInBounds w.heap.size o' } : World) = { w with heap := w.heap.push o' }
  congr 1
  apply Array.ext'
  simp
theorem run_put_new {P : Program} {w : World} {mty kt et : TypeId} {ik : IntKind} {clock : Nat} {es : Array MapEntry} {n : Int} {val : Value} (hm : P.underlying mty = some (.map kt et)) (hk : P.underlying kt = some (.int ik))
    (hf : Instr.findNow (.int ik) (.int ik n) es.toList 0 = some none) :
    (Instr.mapUpdate mty (.map (some w.heap.size)) (.int ik n) val).run P (w.alloc (.map es clock)) = .ok () (w.alloc (.map (es.push { key := .int ik n, val := val, born := clock }) (clock + 1))) := by
  rw [run_put_int hm hk (alloc_last _ _) hf, alloc_over]
theorem run_look_int {P : Program} {w : World} {mty kt et : TypeId} {ik : IntKind} {r clock : Nat} {es : Array MapEntry} {n : Int} {i : Nat} {v : Value} (hm : P.underlying mty = some (.map kt et)) (hk : P.underlying kt = some (.int ik))
    (hb : w.heap[r]? = some (.map es clock)) (hf : Instr.findNow (.int ik) (.int ik n) es.toList 0 = some (some (i, v))) :
    (Instr.lookup mty (.map (some r)) (.int ik n) true).run P w = .ok (.tuple #[v, .bool true]) w := by
  have hc : (Instr.checkKey es.isEmpty 10000 kt (.int ik n)).run P w = .ok () w := MapKept.run_checkKey (k := .int ik n) hk (by simp [MapKept.IsKey]) _ 9999
  simp [Instr.lookup, run_underlying hm, MapKept.run_getObj_map hb, hc, MapKept.run_findKey hk hf, Result.andThen]
theorem run_look_none {P : Program} {w : World} {mty kt et : TypeId} {ik : IntKind} {r clock : Nat} {es : Array MapEntry} {n : Int} {v : Value} (hm : P.underlying mty = some (.map kt et)) (hk : P.underlying kt = some (.int ik))
    (hb : w.heap[r]? = some (.map es clock)) (hf : Instr.findNow (.int ik) (.int ik n) es.toList 0 = some none) (hz : (zeroValue et).run P w = .ok v w) :
    (Instr.lookup mty (.map (some r)) (.int ik n) true).run P w = .ok (.tuple #[v, .bool false]) w := by
  have hc : (Instr.checkKey es.isEmpty 10000 kt (.int ik n)).run P w = .ok () w := MapKept.run_checkKey (k := .int ik n) hk (by simp [MapKept.IsKey]) _ 9999
  simp [Instr.lookup, run_underlying hm, MapKept.run_getObj_map hb, hc, MapKept.run_findKey hk hf, Result.andThen, hz]
/-- The map of core.formed. -/
def formMap : Array MapEntry := #[⟨.int .i64 1, .func (.func 36) #[] #[], 0⟩, ⟨.int .i64 2, .func (.func 37) #[] #[], 1⟩, ⟨.int .i64 3, .func (.func 38) #[] #[], 2⟩, ⟨.int .i64 4, .func (.func 39) #[] #[], 3⟩, ⟨.int .i64 5, .func (.func 40) #[] #[], 4⟩]
theorem form1 (w : World) : (Instr.mapUpdate 73 (.map (some w.heap.size)) (.int .i64 1) (.func (.func 36) #[] #[])).run Tryd.prog (w.alloc (.map #[] 0)) = .ok () (w.alloc (.map #[⟨.int .i64 1, .func (.func 36) #[] #[], 0⟩] 1)) := run_put_new Tryd.underlying73 Tryd.underlying3 rfl
theorem form2 (w : World) : (Instr.mapUpdate 73 (.map (some w.heap.size)) (.int .i64 2) (.func (.func 37) #[] #[])).run Tryd.prog (w.alloc (.map #[⟨.int .i64 1, .func (.func 36) #[] #[], 0⟩] 1)) = .ok () (w.alloc (.map #[⟨.int .i64 1, .func (.func 36) #[] #[], 0⟩, ⟨.int .i64 2, .func (.func 37) #[] #[], 1⟩] 2)) := run_put_new Tryd.underlying73 Tryd.underlying3 rfl
theorem form3 (w : World) : (Instr.mapUpdate 73 (.map (some w.heap.size)) (.int .i64 3) (.func (.func 38) #[] #[])).run Tryd.prog (w.alloc (.map #[⟨.int .i64 1, .func (.func 36) #[] #[], 0⟩, ⟨.int .i64 2, .func (.func 37) #[] #[], 1⟩] 2)) = .ok () (w.alloc (.map #[⟨.int .i64 1, .func (.func 36) #[] #[], 0⟩, ⟨.int .i64 2, .func (.func 37) #[] #[], 1⟩, ⟨.int .i64 3, .func (.func 38) #[] #[], 2⟩] 3)) := run_put_new Tryd.underlying73 Tryd.underlying3 rfl
theorem form4 (w : World) : (Instr.mapUpdate 73 (.map (some w.heap.size)) (.int .i64 4) (.func (.func 39) #[] #[])).run Tryd.prog (w.alloc (.map #[⟨.int .i64 1, .func (.func 36) #[] #[], 0⟩, ⟨.int .i64 2, .func (.func 37) #[] #[], 1⟩, ⟨.int .i64 3, .func (.func 38) #[] #[], 2⟩] 3)) = .ok () (w.alloc (.map #[⟨.int .i64 1, .func (.func 36) #[] #[], 0⟩, ⟨.int .i64 2, .func (.func 37) #[] #[], 1⟩, ⟨.int .i64 3, .func (.func 38) #[] #[], 2⟩, ⟨.int .i64 4, .func (.func 39) #[] #[], 3⟩] 4)) := run_put_new Tryd.underlying73 Tryd.underlying3 rfl
theorem form5 (w : World) : (Instr.mapUpdate 73 (.map (some w.heap.size)) (.int .i64 5) (.func (.func 40) #[] #[])).run Tryd.prog (w.alloc (.map #[⟨.int .i64 1, .func (.func 36) #[] #[], 0⟩, ⟨.int .i64 2, .func (.func 37) #[] #[], 1⟩, ⟨.int .i64 3, .func (.func 38) #[] #[], 2⟩, ⟨.int .i64 4, .func (.func 39) #[] #[], 3⟩] 4)) = .ok () (w.alloc (.map formMap 5)) := run_put_new Tryd.underlying73 Tryd.underlying3 rfl
theorem look1 (w : World) : (Instr.lookup 73 (.map (some w.heap.size)) (.int .i64 1) true).run Tryd.prog (w.alloc (.map formMap 5)) = .ok (.tuple #[.func (.func 36) #[] #[], .bool true]) (w.alloc (.map formMap 5)) := run_look_int (i := 0) Tryd.underlying73 Tryd.underlying3 (alloc_last _ _) rfl
theorem look2 (w : World) : (Instr.lookup 73 (.map (some w.heap.size)) (.int .i64 2) true).run Tryd.prog (w.alloc (.map formMap 5)) = .ok (.tuple #[.func (.func 37) #[] #[], .bool true]) (w.alloc (.map formMap 5)) := run_look_int (i := 1) Tryd.underlying73 Tryd.underlying3 (alloc_last _ _) rfl
theorem look3 (w : World) : (Instr.lookup 73 (.map (some w.heap.size)) (.int .i64 3) true).run Tryd.prog (w.alloc (.map formMap 5)) = .ok (.tuple #[.func (.func 38) #[] #[], .bool true]) (w.alloc (.map formMap 5)) := run_look_int (i := 2) Tryd.underlying73 Tryd.underlying3 (alloc_last _ _) rfl
theorem look4 (w : World) : (Instr.lookup 73 (.map (some w.heap.size)) (.int .i64 4) true).run Tryd.prog (w.alloc (.map formMap 5)) = .ok (.tuple #[.func (.func 39) #[] #[], .bool true]) (w.alloc (.map formMap 5)) := run_look_int (i := 3) Tryd.underlying73 Tryd.underlying3 (alloc_last _ _) rfl
theorem look5 (w : World) : (Instr.lookup 73 (.map (some w.heap.size)) (.int .i64 5) true).run Tryd.prog (w.alloc (.map formMap 5)) = .ok (.tuple #[.func (.func 40) #[] #[], .bool true]) (w.alloc (.map formMap 5)) := run_look_int (i := 4) Tryd.underlying73 Tryd.underlying3 (alloc_last _ _) rfl
theorem look0 (w : World) (n : Int) (h1 : (n == 1) = false) (h2 : (n == 2) = false) (h3 : (n == 3) = false) (h4 : (n == 4) = false) (h5 : (n == 5) = false) : (Instr.lookup 73 (.map (some w.heap.size)) (.int .i64 n) true).run Tryd.prog (w.alloc (.map formMap 5)) = .ok (.tuple #[.nilFunc, .bool false]) (w.alloc (.map formMap 5)) :=
  run_look_none Tryd.underlying73 Tryd.underlying3 (alloc_last _ _) (by simp [formMap, Instr.findNow, Instr.sameNow, h1, h2, h3, h4, h5]) (by kernel_rfl)
/-- May a node not be, by what its kind lets it have? -/
def formedBad (c : S41) : Bool :=
  ((c.f0 != 2) && ((c.f1.toList != []) || decide (0 < c.f2.length))) || ((c.f0 != 1) && decide (0 < c.f3.length)) || ((c.f0 != 3) && decide (0 < c.f6.length))
def core_formed.f (k : Nat) (l0 : List S41) : Option Bool :=
  match l0 with
  | [c] => if formedBad c = true then some false else if c.f0 = 1 then core_text.f [c] else if c.f0 = 2 then core_elem.f k [c] else if c.f0 = 3 then some (decide (c.f4.length = 1))
    else if c.f0 = 4 then some (decide (c.f4.length = 2) && oneElem c.f5) else some (decide (c.f0 = 5))
  | _ => none
set_option maxHeartbeats 4000000 in
set_option maxRecDepth 1000000 in
theorem core_formed.calls (k : Nat) (A0 : Option Addr) (l0 : List S41) (r : Bool) (w : World) (hL : LaidW w) (hr0 : Kd.C k41 w A0 l0.length l0) (h : core_formed.f k l0 = some r) :
    Calls Tryd.prog 30 #[.pointer A0] w fun e w' => e = .returned (.bool r) ∧ Below w.heap.size w w' := by
  obtain ⟨c, rfl⟩ : ∃ c, l0 = [c] := by
    unfold core_formed.f at h; split at h
    · exact ⟨_, rfl⟩
    · exact absurd h (by simp)
  simp only [core_formed.f] at h
  obtain ⟨ad, A2, c2, A3, c3, A4, c4, A5, c5, A6, c6, rfl, x0, x1, x2, x3, x4, x5, x6, l2, C2, l3, C3, l4, C4, l5, C5, l6, C6⟩ := at_T41 hr0 0 (by omega) (by simp)
  have hz : (ad.add ((0 : Int).toNat * 7)) = ad := by rw [show (0 : Int).toNat * 7 = 0 from rfl, Addr.add_zero']
  rw [hz] at x0 x1 x2 x3 x4 x5 x6
  have hc0 : rd_T41 [c] 0 = c := rfl
  rw [hc0] at x0 x1 x2 x3 x4 x5 x6 l2 l3 l6 C2 C3 C5 C6
  have HR := Aside0.mk hr0
  have HE := Aside0.mk h
  clear h hr0 hz hc0 C2 C3 C4 C5 C6 l2 l3 l4 l5 l6
  have HLD := Aside0.mk hL
  clear hL
  by_cases hk : c.f0 = 1
  · rw [hk] at x0
    by_cases ht : c.f1.toList = []
    · have ht1 : (c.f1.toList == ([] : List UInt8)) = true := beq_iff_eq.mpr ht
      have ht2 : (c.f1.toList != ([] : List UInt8)) = false := bne_eq_false_iff_eq.mpr ht
      by_cases hf : 0 < c.f2.length
      · have hf1 : decide ((c.f2.length : Int) > 0) = true := decide_eq_true (by omega)
        have hf2 : (0 < c.f2.length) = True := eq_true hf
        obtain rfl : false = r := by
          have h := HE.out
          rw [if_pos (show formedBad c = true from by unfold formedBad; simp [hk, ht, hf])] at h
          exact Option.some.inj h
        clear HE
        clear hk
        clear ht
        clear hf
        go_enter Tryd.func30, Tryd.ntmps30
        go_wp2
        go_ret
        exact ⟨rfl, Below.refl _ _⟩
      · have hf1 : decide ((c.f2.length : Int) > 0) = false := decide_eq_false (by omega)
        have hf2 : (0 < c.f2.length) = False := eq_false hf
        by_cases he : 0 < c.f6.length
        · have he1 : decide ((c.f6.length : Int) > 0) = true := decide_eq_true (by omega)
          have he2 : (0 < c.f6.length) = True := eq_true he
          obtain rfl : false = r := by
            have h := HE.out
            rw [if_pos (show formedBad c = true from by unfold formedBad; simp [hk, ht, hf, he])] at h
            exact Option.some.inj h
          clear HE
          clear hk
          clear ht
          clear hf
          clear he
          go_enter Tryd.func30, Tryd.ntmps30
          go_wp2
          go_ret
          exact ⟨rfl, Below.refl _ _⟩
        · have he1 : decide ((c.f6.length : Int) > 0) = false := decide_eq_false (by omega)
          have he2 : (0 < c.f6.length) = False := eq_false he
          have hfb : formedBad c = false := by unfold formedBad; simp [hk, ht, hf, he]
          have h := HE.out
          rw [if_neg (by rw [hfb]; simp)] at h
          clear HE hfb
          clear ht
          clear hf
          clear he
          rw [if_pos hk] at h
          have HV := Aside0.mk h
          have hmk := run_makeMap_plain (P := Tryd.prog) w 73
          have hm1 := form1 w
          have hm2 := form2 w
          have hm3 := form3 w
          have hm4 := form4 w
          have hm5 := form5 w
          have hlk := look1 w
          have HB := Aside0.mk (Below.alloc (Below.refl w.heap.size w) (Nat.le_refl _) (.map formMap 5))
          have y0 := pw_cell_below HB.out x0
          clear h hk
          go_enter Tryd.func30, Tryd.ntmps30
          go_wp2_with (go_at_call 36; (refine (core_text.calls _ [c] r _ (HLD.out.below HB.out) (Kd.C_below HR.out HB.out) HV.out).mono ?_); rintro e w1 ⟨rfl, hb1⟩)
          go_ret
          exact ⟨rfl, HB.out.trans (hb1.mono HB.out.size)⟩
    · have ht1 : (c.f1.toList == ([] : List UInt8)) = false := beq_eq_false_iff_ne.mpr ht
      have ht2 : (c.f1.toList != ([] : List UInt8)) = true := bne_iff_ne.mpr ht
      obtain rfl : false = r := by
        have h := HE.out
        rw [if_pos (show formedBad c = true from by unfold formedBad; simp [hk, ht])] at h
        exact Option.some.inj h
      clear HE
      clear hk
      clear ht
      go_enter Tryd.func30, Tryd.ntmps30
      go_wp2
      go_ret
      exact ⟨rfl, Below.refl _ _⟩
  · have hk1 := hk
    clear hk
    by_cases hk : c.f0 = 2
    · rw [hk] at x0
      by_cases hp : 0 < c.f3.length
      · have hp1 : decide ((c.f3.length : Int) > 0) = true := decide_eq_true (by omega)
        have hp2 : (0 < c.f3.length) = True := eq_true hp
        obtain rfl : false = r := by
          have h := HE.out
          rw [if_pos (show formedBad c = true from by unfold formedBad; simp [hk, hp])] at h
          exact Option.some.inj h
        clear HE
        clear hk
        clear hp
        go_enter Tryd.func30, Tryd.ntmps30
        go_wp2
        go_ret
        exact ⟨rfl, Below.refl _ _⟩
      · have hp1 : decide ((c.f3.length : Int) > 0) = false := decide_eq_false (by omega)
        have hp2 : (0 < c.f3.length) = False := eq_false hp
        by_cases he : 0 < c.f6.length
        · have he1 : decide ((c.f6.length : Int) > 0) = true := decide_eq_true (by omega)
          have he2 : (0 < c.f6.length) = True := eq_true he
          obtain rfl : false = r := by
            have h := HE.out
            rw [if_pos (show formedBad c = true from by unfold formedBad; simp [hk, hp, he])] at h
            exact Option.some.inj h
          clear HE
          clear hk
          clear hp
          clear he
          go_enter Tryd.func30, Tryd.ntmps30
          go_wp2
          go_ret
          exact ⟨rfl, Below.refl _ _⟩
        · have he1 : decide ((c.f6.length : Int) > 0) = false := decide_eq_false (by omega)
          have he2 : (0 < c.f6.length) = False := eq_false he
          have hfb : formedBad c = false := by unfold formedBad; simp [hk, hp, he]
          have h := HE.out
          rw [if_neg (by rw [hfb]; simp)] at h
          clear HE hfb
          clear hp
          clear he
          rw [if_neg (by rw [hk]; decide)] at h
          rw [if_pos hk] at h
          have HV := Aside0.mk h
          have hmk := run_makeMap_plain (P := Tryd.prog) w 73
          have hm1 := form1 w
          have hm2 := form2 w
          have hm3 := form3 w
          have hm4 := form4 w
          have hm5 := form5 w
          have hlk := look2 w
          have HB := Aside0.mk (Below.alloc (Below.refl w.heap.size w) (Nat.le_refl _) (.map formMap 5))
          have y0 := pw_cell_below HB.out x0
          clear h hk
          go_enter Tryd.func30, Tryd.ntmps30
          go_wp2_with (go_at_call 37; (refine (core_elem.calls k _ [c] r _ (HLD.out.below HB.out) (Kd.C_below HR.out HB.out) HV.out).mono ?_); rintro e w1 ⟨rfl, hb1⟩)
          go_ret
          exact ⟨rfl, HB.out.trans (hb1.mono HB.out.size)⟩
    · have hk2 := hk
      clear hk
      by_cases hk : c.f0 = 3
      · rw [hk] at x0
        by_cases ht : c.f1.toList = []
        · have ht1 : (c.f1.toList == ([] : List UInt8)) = true := beq_iff_eq.mpr ht
          have ht2 : (c.f1.toList != ([] : List UInt8)) = false := bne_eq_false_iff_eq.mpr ht
          by_cases hf : 0 < c.f2.length
          · have hf1 : decide ((c.f2.length : Int) > 0) = true := decide_eq_true (by omega)
            have hf2 : (0 < c.f2.length) = True := eq_true hf
            obtain rfl : false = r := by
              have h := HE.out
              rw [if_pos (show formedBad c = true from by unfold formedBad; simp [hk, ht, hf])] at h
              exact Option.some.inj h
            clear HE
            clear hk
            clear ht
            clear hf
            go_enter Tryd.func30, Tryd.ntmps30
            go_wp2
            go_ret
            exact ⟨rfl, Below.refl _ _⟩
          · have hf1 : decide ((c.f2.length : Int) > 0) = false := decide_eq_false (by omega)
            have hf2 : (0 < c.f2.length) = False := eq_false hf
            by_cases hp : 0 < c.f3.length
            · have hp1 : decide ((c.f3.length : Int) > 0) = true := decide_eq_true (by omega)
              have hp2 : (0 < c.f3.length) = True := eq_true hp
              obtain rfl : false = r := by
                have h := HE.out
                rw [if_pos (show formedBad c = true from by unfold formedBad; simp [hk, ht, hf, hp])] at h
                exact Option.some.inj h
              clear HE
              clear hk
              clear ht
              clear hf
              clear hp
              go_enter Tryd.func30, Tryd.ntmps30
              go_wp2
              go_ret
              exact ⟨rfl, Below.refl _ _⟩
            · have hp1 : decide ((c.f3.length : Int) > 0) = false := decide_eq_false (by omega)
              have hp2 : (0 < c.f3.length) = False := eq_false hp
              have hfb : formedBad c = false := by unfold formedBad; simp [hk, ht, hf, hp]
              have h := HE.out
              rw [if_neg (by rw [hfb]; simp)] at h
              clear HE hfb
              clear ht
              clear hf
              clear hp
              rw [if_neg (by rw [hk]; decide)] at h
              rw [if_neg (by rw [hk]; decide)] at h
              rw [if_pos hk] at h
              have HV := Aside0.mk h
              have hmk := run_makeMap_plain (P := Tryd.prog) w 73
              have hm1 := form1 w
              have hm2 := form2 w
              have hm3 := form3 w
              have hm4 := form4 w
              have hm5 := form5 w
              have hlk := look3 w
              have HB := Aside0.mk (Below.alloc (Below.refl w.heap.size w) (Nat.le_refl _) (.map formMap 5))
              have y0 := pw_cell_below HB.out x0
              clear h hk
              go_enter Tryd.func30, Tryd.ntmps30
              obtain rfl := Option.some.inj HV.out
              go_wp2_with (go_at_call 38; (refine (core_formed1.calls _ c _ (Kd.C_below HR.out HB.out)).mono ?_); rintro e w1 ⟨rfl, rfl⟩)
              go_ret
              exact ⟨rfl, HB.out⟩
        · have ht1 : (c.f1.toList == ([] : List UInt8)) = false := beq_eq_false_iff_ne.mpr ht
          have ht2 : (c.f1.toList != ([] : List UInt8)) = true := bne_iff_ne.mpr ht
          obtain rfl : false = r := by
            have h := HE.out
            rw [if_pos (show formedBad c = true from by unfold formedBad; simp [hk, ht])] at h
            exact Option.some.inj h
          clear HE
          clear hk
          clear ht
          go_enter Tryd.func30, Tryd.ntmps30
          go_wp2
          go_ret
          exact ⟨rfl, Below.refl _ _⟩
      · have hk3 := hk
        clear hk
        by_cases hk : c.f0 = 4
        · rw [hk] at x0
          by_cases ht : c.f1.toList = []
          · have ht1 : (c.f1.toList == ([] : List UInt8)) = true := beq_iff_eq.mpr ht
            have ht2 : (c.f1.toList != ([] : List UInt8)) = false := bne_eq_false_iff_eq.mpr ht
            by_cases hf : 0 < c.f2.length
            · have hf1 : decide ((c.f2.length : Int) > 0) = true := decide_eq_true (by omega)
              have hf2 : (0 < c.f2.length) = True := eq_true hf
              obtain rfl : false = r := by
                have h := HE.out
                rw [if_pos (show formedBad c = true from by unfold formedBad; simp [hk, ht, hf])] at h
                exact Option.some.inj h
              clear HE
              clear hk
              clear ht
              clear hf
              go_enter Tryd.func30, Tryd.ntmps30
              go_wp2
              go_ret
              exact ⟨rfl, Below.refl _ _⟩
            · have hf1 : decide ((c.f2.length : Int) > 0) = false := decide_eq_false (by omega)
              have hf2 : (0 < c.f2.length) = False := eq_false hf
              by_cases hp : 0 < c.f3.length
              · have hp1 : decide ((c.f3.length : Int) > 0) = true := decide_eq_true (by omega)
                have hp2 : (0 < c.f3.length) = True := eq_true hp
                obtain rfl : false = r := by
                  have h := HE.out
                  rw [if_pos (show formedBad c = true from by unfold formedBad; simp [hk, ht, hf, hp])] at h
                  exact Option.some.inj h
                clear HE
                clear hk
                clear ht
                clear hf
                clear hp
                go_enter Tryd.func30, Tryd.ntmps30
                go_wp2
                go_ret
                exact ⟨rfl, Below.refl _ _⟩
              · have hp1 : decide ((c.f3.length : Int) > 0) = false := decide_eq_false (by omega)
                have hp2 : (0 < c.f3.length) = False := eq_false hp
                by_cases he : 0 < c.f6.length
                · have he1 : decide ((c.f6.length : Int) > 0) = true := decide_eq_true (by omega)
                  have he2 : (0 < c.f6.length) = True := eq_true he
                  obtain rfl : false = r := by
                    have h := HE.out
                    rw [if_pos (show formedBad c = true from by unfold formedBad; simp [hk, ht, hf, hp, he])] at h
                    exact Option.some.inj h
                  clear HE
                  clear hk
                  clear ht
                  clear hf
                  clear hp
                  clear he
                  go_enter Tryd.func30, Tryd.ntmps30
                  go_wp2
                  go_ret
                  exact ⟨rfl, Below.refl _ _⟩
                · have he1 : decide ((c.f6.length : Int) > 0) = false := decide_eq_false (by omega)
                  have he2 : (0 < c.f6.length) = False := eq_false he
                  have hfb : formedBad c = false := by unfold formedBad; simp [hk, ht, hf, hp, he]
                  have h := HE.out
                  rw [if_neg (by rw [hfb]; simp)] at h
                  clear HE hfb
                  clear ht
                  clear hf
                  clear hp
                  clear he
                  rw [if_neg (by rw [hk]; decide)] at h
                  rw [if_neg (by rw [hk]; decide)] at h
                  rw [if_neg (by rw [hk]; decide)] at h
                  rw [if_pos hk] at h
                  have HV := Aside0.mk h
                  have hmk := run_makeMap_plain (P := Tryd.prog) w 73
                  have hm1 := form1 w
                  have hm2 := form2 w
                  have hm3 := form3 w
                  have hm4 := form4 w
                  have hm5 := form5 w
                  have hlk := look4 w
                  have HB := Aside0.mk (Below.alloc (Below.refl w.heap.size w) (Nat.le_refl _) (.map formMap 5))
                  have y0 := pw_cell_below HB.out x0
                  clear h hk
                  go_enter Tryd.func30, Tryd.ntmps30
                  obtain rfl := Option.some.inj HV.out
                  go_wp2_with (go_at_call 39; (refine (core_formed2.calls _ c _ (Kd.C_below HR.out HB.out)).mono ?_); rintro e w1 ⟨rfl, rfl⟩)
                  go_ret
                  exact ⟨rfl, HB.out⟩
          · have ht1 : (c.f1.toList == ([] : List UInt8)) = false := beq_eq_false_iff_ne.mpr ht
            have ht2 : (c.f1.toList != ([] : List UInt8)) = true := bne_iff_ne.mpr ht
            obtain rfl : false = r := by
              have h := HE.out
              rw [if_pos (show formedBad c = true from by unfold formedBad; simp [hk, ht])] at h
              exact Option.some.inj h
            clear HE
            clear hk
            clear ht
            go_enter Tryd.func30, Tryd.ntmps30
            go_wp2
            go_ret
            exact ⟨rfl, Below.refl _ _⟩
        · have hk4 := hk
          clear hk
          by_cases hk : c.f0 = 5
          · rw [hk] at x0
            by_cases ht : c.f1.toList = []
            · have ht1 : (c.f1.toList == ([] : List UInt8)) = true := beq_iff_eq.mpr ht
              have ht2 : (c.f1.toList != ([] : List UInt8)) = false := bne_eq_false_iff_eq.mpr ht
              by_cases hf : 0 < c.f2.length
              · have hf1 : decide ((c.f2.length : Int) > 0) = true := decide_eq_true (by omega)
                have hf2 : (0 < c.f2.length) = True := eq_true hf
                obtain rfl : false = r := by
                  have h := HE.out
                  rw [if_pos (show formedBad c = true from by unfold formedBad; simp [hk, ht, hf])] at h
                  exact Option.some.inj h
                clear HE
                clear hk
                clear ht
                clear hf
                go_enter Tryd.func30, Tryd.ntmps30
                go_wp2
                go_ret
                exact ⟨rfl, Below.refl _ _⟩
              · have hf1 : decide ((c.f2.length : Int) > 0) = false := decide_eq_false (by omega)
                have hf2 : (0 < c.f2.length) = False := eq_false hf
                by_cases hp : 0 < c.f3.length
                · have hp1 : decide ((c.f3.length : Int) > 0) = true := decide_eq_true (by omega)
                  have hp2 : (0 < c.f3.length) = True := eq_true hp
                  obtain rfl : false = r := by
                    have h := HE.out
                    rw [if_pos (show formedBad c = true from by unfold formedBad; simp [hk, ht, hf, hp])] at h
                    exact Option.some.inj h
                  clear HE
                  clear hk
                  clear ht
                  clear hf
                  clear hp
                  go_enter Tryd.func30, Tryd.ntmps30
                  go_wp2
                  go_ret
                  exact ⟨rfl, Below.refl _ _⟩
                · have hp1 : decide ((c.f3.length : Int) > 0) = false := decide_eq_false (by omega)
                  have hp2 : (0 < c.f3.length) = False := eq_false hp
                  by_cases he : 0 < c.f6.length
                  · have he1 : decide ((c.f6.length : Int) > 0) = true := decide_eq_true (by omega)
                    have he2 : (0 < c.f6.length) = True := eq_true he
                    obtain rfl : false = r := by
                      have h := HE.out
                      rw [if_pos (show formedBad c = true from by unfold formedBad; simp [hk, ht, hf, hp, he])] at h
                      exact Option.some.inj h
                    clear HE
                    clear hk
                    clear ht
                    clear hf
                    clear hp
                    clear he
                    go_enter Tryd.func30, Tryd.ntmps30
                    go_wp2
                    go_ret
                    exact ⟨rfl, Below.refl _ _⟩
                  · have he1 : decide ((c.f6.length : Int) > 0) = false := decide_eq_false (by omega)
                    have he2 : (0 < c.f6.length) = False := eq_false he
                    have hfb : formedBad c = false := by unfold formedBad; simp [hk, ht, hf, hp, he]
                    have h := HE.out
                    rw [if_neg (by rw [hfb]; simp)] at h
                    clear HE hfb
                    clear ht
                    clear hf
                    clear hp
                    clear he
                    rw [if_neg (by rw [hk]; decide), if_neg (by rw [hk]; decide), if_neg (by rw [hk]; decide), if_neg (by rw [hk]; decide), show decide (c.f0 = 5) = true from decide_eq_true hk] at h
                    have HV := Aside0.mk h
                    have hmk := run_makeMap_plain (P := Tryd.prog) w 73
                    have hm1 := form1 w
                    have hm2 := form2 w
                    have hm3 := form3 w
                    have hm4 := form4 w
                    have hm5 := form5 w
                    have hlk := look5 w
                    have HB := Aside0.mk (Below.alloc (Below.refl w.heap.size w) (Nat.le_refl _) (.map formMap 5))
                    have y0 := pw_cell_below HB.out x0
                    clear h hk
                    go_enter Tryd.func30, Tryd.ntmps30
                    obtain rfl := Option.some.inj HV.out
                    go_wp2_with (go_at_call 40; (refine (core_formed3.calls _ _).mono ?_); rintro e w1 ⟨rfl, rfl⟩)
                    go_ret
                    exact ⟨rfl, HB.out⟩
            · have ht1 : (c.f1.toList == ([] : List UInt8)) = false := beq_eq_false_iff_ne.mpr ht
              have ht2 : (c.f1.toList != ([] : List UInt8)) = true := bne_iff_ne.mpr ht
              obtain rfl : false = r := by
                have h := HE.out
                rw [if_pos (show formedBad c = true from by unfold formedBad; simp [hk, ht])] at h
                exact Option.some.inj h
              clear HE
              clear hk
              clear ht
              go_enter Tryd.func30, Tryd.ntmps30
              go_wp2
              go_ret
              exact ⟨rfl, Below.refl _ _⟩
          · have hk5 := hk
            clear hk
            have hkA : (c.f0 == 1) = false := beq_eq_false_iff_ne.mpr hk1
            have hkB : (c.f0 == 2) = false := beq_eq_false_iff_ne.mpr hk2
            have hkC : (c.f0 == 3) = false := beq_eq_false_iff_ne.mpr hk3
            have hkD : (c.f0 == 4) = false := beq_eq_false_iff_ne.mpr hk4
            have hkE : (c.f0 == 5) = false := beq_eq_false_iff_ne.mpr hk5
            have hkF : (c.f0 != 1) = true := bne_iff_ne.mpr hk1
            have hkG : (c.f0 != 2) = true := bne_iff_ne.mpr hk2
            have hkH : (c.f0 != 3) = true := bne_iff_ne.mpr hk3
            by_cases ht : c.f1.toList = []
            · have ht1 : (c.f1.toList == ([] : List UInt8)) = true := beq_iff_eq.mpr ht
              have ht2 : (c.f1.toList != ([] : List UInt8)) = false := bne_eq_false_iff_eq.mpr ht
              by_cases hf : 0 < c.f2.length
              · have hf1 : decide ((c.f2.length : Int) > 0) = true := decide_eq_true (by omega)
                have hf2 : (0 < c.f2.length) = True := eq_true hf
                obtain rfl : false = r := by
                  have h := HE.out
                  rw [if_pos (show formedBad c = true from by unfold formedBad; simp [hkF, hkG, hkH, ht, hf])] at h
                  exact Option.some.inj h
                clear HE
                clear ht
                clear hf
                go_enter Tryd.func30, Tryd.ntmps30
                go_wp2
                go_ret
                exact ⟨rfl, Below.refl _ _⟩
              · have hf1 : decide ((c.f2.length : Int) > 0) = false := decide_eq_false (by omega)
                have hf2 : (0 < c.f2.length) = False := eq_false hf
                by_cases hp : 0 < c.f3.length
                · have hp1 : decide ((c.f3.length : Int) > 0) = true := decide_eq_true (by omega)
                  have hp2 : (0 < c.f3.length) = True := eq_true hp
                  obtain rfl : false = r := by
                    have h := HE.out
                    rw [if_pos (show formedBad c = true from by unfold formedBad; simp [hkF, hkG, hkH, ht, hf, hp])] at h
                    exact Option.some.inj h
                  clear HE
                  clear ht
                  clear hf
                  clear hp
                  go_enter Tryd.func30, Tryd.ntmps30
                  go_wp2
                  go_ret
                  exact ⟨rfl, Below.refl _ _⟩
                · have hp1 : decide ((c.f3.length : Int) > 0) = false := decide_eq_false (by omega)
                  have hp2 : (0 < c.f3.length) = False := eq_false hp
                  by_cases he : 0 < c.f6.length
                  · have he1 : decide ((c.f6.length : Int) > 0) = true := decide_eq_true (by omega)
                    have he2 : (0 < c.f6.length) = True := eq_true he
                    obtain rfl : false = r := by
                      have h := HE.out
                      rw [if_pos (show formedBad c = true from by unfold formedBad; simp [hkF, hkG, hkH, ht, hf, hp, he])] at h
                      exact Option.some.inj h
                    clear HE
                    clear ht
                    clear hf
                    clear hp
                    clear he
                    go_enter Tryd.func30, Tryd.ntmps30
                    go_wp2
                    go_ret
                    exact ⟨rfl, Below.refl _ _⟩
                  · have he1 : decide ((c.f6.length : Int) > 0) = false := decide_eq_false (by omega)
                    have he2 : (0 < c.f6.length) = False := eq_false he
                    have hfb : formedBad c = false := by unfold formedBad; simp [hkF, hkG, hkH, ht, hf, hp, he]
                    have h := HE.out
                    rw [if_neg (by rw [hfb]; simp)] at h
                    clear HE hfb
                    clear ht
                    clear hf
                    clear hp
                    clear he
                    rw [if_neg hk1, if_neg hk2, if_neg hk3, if_neg hk4, show decide (c.f0 = 5) = false from decide_eq_false hk5] at h
                    have HV := Aside0.mk h
                    have hmk := run_makeMap_plain (P := Tryd.prog) w 73
                    have hm1 := form1 w
                    have hm2 := form2 w
                    have hm3 := form3 w
                    have hm4 := form4 w
                    have hm5 := form5 w
                    have hlk := look0 w c.f0 hkA hkB hkC hkD hkE
                    have HB := Aside0.mk (Below.alloc (Below.refl w.heap.size w) (Nat.le_refl _) (.map formMap 5))
                    have y0 := pw_cell_below HB.out x0
                    clear h hk1 hk2 hk3 hk4 hk5
                    go_enter Tryd.func30, Tryd.ntmps30
                    obtain rfl := Option.some.inj HV.out
                    go_wp2
                    go_ret
                    exact ⟨rfl, HB.out⟩
            · have ht1 : (c.f1.toList == ([] : List UInt8)) = false := beq_eq_false_iff_ne.mpr ht
              have ht2 : (c.f1.toList != ([] : List UInt8)) = true := bne_iff_ne.mpr ht
              obtain rfl : false = r := by
                have h := HE.out
                rw [if_pos (show formedBad c = true from by unfold formedBad; simp [hkF, hkG, hkH, ht])] at h
                exact Option.some.inj h
              clear HE
              clear ht
              go_enter Tryd.func30, Tryd.ntmps30
              go_wp2
              go_ret
              exact ⟨rfl, Below.refl _ _⟩

-- NOT PRINTED: function 31 (core_exprs)

end Go.Proofs.YtncpknhmoakjmaaDoor.PCorePlaces
