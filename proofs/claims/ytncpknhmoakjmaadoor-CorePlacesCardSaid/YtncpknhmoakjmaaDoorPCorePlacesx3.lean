-- Written by wip/tools/print2.py (a program of this session's, over the kit's print) out of the translation. Not trusted: Lean checks it.
import Derived.Test.YtncpknhmoakjmaaDoorPCorePlacesx0
import Derived.Test.YtncpknhmoakjmaaDoorPCorePlacesx1
namespace Go.Proofs.YtncpknhmoakjmaaDoor.PCorePlaces
open Go.RowKit Go.Proofs.YtncpknhmoakjmaaDoorW.PrintWords Go.Proofs.YtncpknhmoakjmaaDoorW.PrintLast Go.Proofs.YtncpknhmoakjmaaDoorW.PrintMore
attribute [local go_sem] max2_int min2_int max_two min_two max_three min_three max_four min_four   -- for this text's walks alone
set_option linter.unusedVariables false
set_option linter.unusedSimpArgs false

-- NOT PRINTED: function 57 (utf8_decodeRuneInStringSlow)

-- NOT PRINTED: function 54 (utf8_DecodeRuneInString)

/-! ### utf_Valid: function 51: not printed -/
/-- The first place from 'pos' on where no whole character stands. -/
def utfFrom (s : ByteArray) : Nat → Nat → Option Nat
  | 0, _ => none
  | f + 1, pos => if pos < s.size then (if (Utf8.decode s pos).1 = 65533 ∧ (Utf8.decode s pos).2 = 1 then some pos else utfFrom s f (pos + (Utf8.decode s pos).2)) else none
theorem utfFrom_end (s : ByteArray) (f pos : Nat) (h : ¬ pos < s.size) : utfFrom s f pos = none := by cases f <;> simp [utfFrom, h]
theorem utfFrom_lt (s : ByteArray) : ∀ (f pos i : Nat), utfFrom s f pos = some i → i < s.size
  | 0, _, _, h => by cases h
  | f + 1, pos, i, h => by
    simp only [utfFrom] at h
    split at h
    · split at h
      · obtain rfl := Option.some.inj h; assumption
      · exact utfFrom_lt s f _ i h
    · cases h
def utfBad (s : ByteArray) : Option Nat := utfFrom s s.size 0
def utfEnd (s : ByteArray) : Int × Int := match utfBad s with | some i => ((i : Int), 300) | none => (0, 0)
def utf_Valid.f (a0 : ByteArray) : Option (Int × Int) := if a0.size ≤ 9223372036854775807 then some (utfEnd a0) else none
set_option maxHeartbeats 2000000 in
set_option maxRecDepth 1000000 in
theorem utf_Valid.calls (a0 : ByteArray) (r1 : Int) (r2 : Int) (w : World) (hL : LaidW w) (h : utf_Valid.f a0 = some (r1, r2)) :
    Calls Tryd.prog 51 #[.string a0] w fun e w' => e = .returned (.tuple #[.int .i64 r1, .int .i64 r2]) ∧ Below w.heap.size w w' := by
  unfold utf_Valid.f at h
  by_cases hs : a0.size ≤ 9223372036854775807
  · rw [if_pos hs] at h
    have h := Option.some.inj h
    have HE : Aside0 (utfEnd a0 = (r1, r2)) := ⟨h⟩
    have HU := Aside0.mk hL
    clear h hL
    go_enter Tryd.func51, Tryd.ntmps51
    go_wp2
    go_loopg [4, 5, 6, 7] a0.size (fun gf v4 v5 v6 v7 wx => ∃ pos : Nat, wx.heap[w.heap.size]? = some (.stringIter a0 pos) ∧ Below w.heap.size w wx ∧ Aside0 (utfFrom a0 gf pos = utfBad a0) ∧ a0.size ≤ pos + gf)
    case atStart => exact ⟨0, World.iter_heap w a0 0, (Below.refl _ w).alloc (Nat.le_refl _) _, ⟨rfl⟩, by omega⟩
    case round =>
      obtain ⟨pos, hit, hbw, HF, hfu⟩ := hrel
      by_cases hps : pos < a0.size
      · obtain ⟨g', rfl⟩ : ∃ g', gk = g' + 1 := ⟨gk - 1, by omega⟩
        have hnx : ∀ ty, (Instr.next (.pointer (some ⟨w.heap.size, 0, none⟩)) true ty).run Tryd.prog wr = _ := fun ty => Lib.run_next_any_at wr w.heap.size a0 pos ty hit hps
        have hwd := Lib.width_pos a0 pos
        have hde : Lib.decodeGo (a0.extract pos a0.size) = Utf8.decode a0 pos := by
          unfold Lib.decodeGo
          have hz : (a0.extract pos a0.size).size = a0.size - pos := by simp
          rw [if_neg (by omega), Lib.tail_decode, Nat.add_zero]
        have hrl := Lib.rune_le a0 pos
        obtain ⟨R, hR⟩ : ∃ R, (Utf8.decode a0 pos).1 = R := ⟨_, rfl⟩
        obtain ⟨K, hK⟩ : ∃ K, (Utf8.decode a0 pos).2 = K := ⟨_, rfl⟩
        have hleft := HF.out
        simp only [utfFrom, hps, if_true, hR, hK] at hleft
        rw [hR, hK] at hnx
        rw [hK] at hwd
        rw [hR] at hrl
        have HD : Aside0 (Lib.decodeGo (a0.extract pos a0.size) = (R, K)) := ⟨by rw [hde, ← hR, ← hK]⟩
        have hit2 := Lib.iterAt_heap wr w.heap.size a0 pos (pos + K) hit
        have hbw2 := Lib.below_iterAt hbw (k := w.heap.size) (Nat.le_refl _) a0 (pos + K)
        obtain ⟨W, hWd⟩ : ∃ W, wr.iterAt w.heap.size a0 (pos + K) = W := ⟨_, rfl⟩
        rw [hWd] at hnx hit2 hbw2
        have hltW : w.heap.size < W.heap.size := (Array.getElem?_eq_some_iff.1 hit2).1
        have HT := Aside0.mk (LaidW.below HU.out hbw2).utf
        clear hde hR hK hWd hit hbw HF
        by_cases hr : R = 65533
        · subst hr
          by_cases hk : K = 1
          · subst hk
            rw [if_pos ⟨rfl, rfl⟩] at hleft
            have hE := HE.out
            unfold utfEnd at hE
            rw [← hleft] at hE
            have e1 : (pos : Int) = r1 := congrArg Prod.fst hE
            have e2 : (300 : Int) = r2 := congrArg Prod.snd hE
            subst e1 e2
            clear hleft hE HE
            go_wp2_with (go_at_call 54; (refine (Tryd.utf8_DecodeRuneInString (a0.extract pos a0.size) _ HT.out).mono ?_); rw [HD.out]; rintro e w1 ⟨rfl, hb1⟩)
            go_ret2
            exact ⟨rfl, hbw2.trans (hb1.mono hbw2.size)⟩
          · have hk' : ((K : Int) == 1) = false := by rw [beq_eq_false_iff_ne]; omega
            rw [if_neg (by rintro ⟨-, h⟩; exact hk h)] at hleft
            have HF2 := Aside0.mk hleft
            clear hleft
            go_wp2_with (go_at_call 54; (refine (Tryd.utf8_DecodeRuneInString (a0.extract pos a0.size) _ HT.out).mono ?_); rw [HD.out]; rintro e w1 ⟨rfl, hb1⟩)
            go_roundg g'
            case measure => omega
            case rel => exact ⟨pos + K, (hb1.block _ hltW).trans hit2, hbw2.trans (hb1.mono hbw2.size), HF2, by omega⟩
        · have hr' : ((R : Int) == 65533) = false := by rw [beq_eq_false_iff_ne]; omega
          rw [if_neg (by rintro ⟨h, -⟩; exact hr h)] at hleft
          have HF2 := Aside0.mk hleft
          clear hleft
          go_wp2
          go_roundg g'
          case measure => omega
          case rel => exact ⟨pos + K, hit2, hbw2, HF2, by omega⟩
      · have hnx : ∀ ty, (Instr.next (.pointer (some ⟨w.heap.size, 0, none⟩)) true ty).run Tryd.prog wr = _ := fun ty => Lib.run_next_end_at wr w.heap.size a0 pos ty hit hps
        have hleft := HF.out
        rw [utfFrom_end a0 gk pos hps] at hleft
        have hE := HE.out
        unfold utfEnd at hE
        rw [← hleft] at hE
        have e1 : (0 : Int) = r1 := congrArg Prod.fst hE
        have e2 : (0 : Int) = r2 := congrArg Prod.snd hE
        subst e1 e2
        clear hleft hE HE HF
        go_wp2
        go_ret2
        exact ⟨rfl, hbw⟩
  · rw [if_neg hs] at h; cases h

/-! ### shape_Valid: function 42 -/
def shape_Valid.f (a0 : ByteArray) : Option (Bool) := (utf_Valid.f a0).bind fun bt116 => (if bt116.2 = 0 then (some (decide ((a0.size : Int) ≤ 4096))) else (some false))
set_option maxHeartbeats 8000000 in
set_option maxRecDepth 100000 in
theorem shape_Valid.calls (a0 : ByteArray) (r : Bool) (w : World) (hL : LaidW w) (h : shape_Valid.f a0 = some r) :
    Calls Tryd.prog 42 #[.string a0] w fun e w' => e = .returned (.bool r) ∧ Below w.heap.size w w' := by
  have HB := Aside0.mk (Below.refl w.heap.size w)
  have H : ((utf_Valid.f a0).bind fun bt116 => (if bt116.2 = 0 then (some (decide ((a0.size : Int) ≤ 4096))) else (some false))) = some r := h
  clear h
  replace H := Option.bind_eq_some_iff.mp H
  obtain ⟨⟨t116, t117⟩, A20, H⟩ := H
  replace H : (if t117 = 0 then (some (decide ((a0.size : Int) ≤ 4096))) else (some false)) = some r := H
  have A2 := Aside0.mk A20
  clear A20
  by_cases c3 : t117 = 0
  · rw [if_pos c3] at H
    have c3b0 : (t117 == 0) = true := beq_iff_eq.mpr c3
    have c3b1 : (t117 != 0) = false := bne_eq_false_iff_eq.mpr c3
    clear c3
    obtain rfl := Option.some.inj H
    go_enter Tryd.func42, Tryd.ntmps42
    go_wp2_with (first | ((with_reducible refine gate_callee (f := 51) rfl ?_); refine goesL_ (some 7) rfl rfl Tryd.func51 (by kernel_rfl) rfl #[.string a0] rfl (by (try simp only [List.map_toArray, List.map_cons, List.map_nil]); first | done | rfl | (simp only [List.length_drop, List.length_take]; rfl)) ?_; (with_reducible refine (utf_Valid.calls a0 t116 t117 _ ?side1 A2.out).mono ?_); (case side1 => exact LaidW.below hL (by repeat (first | (with_reducible first | exact HB.out | apply below_alloc | apply pw_below_drewN | apply below_drew1) | exact HB.out))); rintro e w4 ⟨rfl, hb⟩; refine ⟨_, rfl, ?_⟩; have n0_ := Aside0.mk (below_step (by repeat (first | (with_reducible first | exact HB.out | apply below_alloc | apply pw_below_drewN | apply below_drew1) | exact HB.out)) hb); clear HB; have HB := n0_; clear n0_; (try clear hb); (try clear hb2); (try clear hk); (try clear hi)))
    go_ret
    exact ⟨by first | rfl | (simp [errW_none, errW_some] <;> rfl) | (simp [*, errW_none, errW_some] <;> rfl), by repeat (first | (with_reducible first | exact HB.out | apply below_alloc | apply pw_below_drewN | apply below_drew1) | exact HB.out)⟩
  · rw [if_neg c3] at H
    have c3b0 : (t117 == 0) = false := beq_eq_false_iff_ne.mpr c3
    have c3b1 : (t117 != 0) = true := bne_iff_ne.mpr c3
    obtain rfl := Option.some.inj H
    go_enter Tryd.func42, Tryd.ntmps42
    go_wp2_with (first | ((with_reducible refine gate_callee (f := 51) rfl ?_); refine goesL_ (some 7) rfl rfl Tryd.func51 (by kernel_rfl) rfl #[.string a0] rfl (by (try simp only [List.map_toArray, List.map_cons, List.map_nil]); first | done | rfl | (simp only [List.length_drop, List.length_take]; rfl)) ?_; (with_reducible refine (utf_Valid.calls a0 t116 t117 _ ?side1 A2.out).mono ?_); (case side1 => exact LaidW.below hL (by repeat (first | (with_reducible first | exact HB.out | apply below_alloc | apply pw_below_drewN | apply below_drew1) | exact HB.out))); rintro e w5 ⟨rfl, hb⟩; refine ⟨_, rfl, ?_⟩; have n0_ := Aside0.mk (below_step (by repeat (first | (with_reducible first | exact HB.out | apply below_alloc | apply pw_below_drewN | apply below_drew1) | exact HB.out)) hb); clear HB; have HB := n0_; clear n0_; (try clear hb); (try clear hb2); (try clear hk); (try clear hi)))
    go_ret
    exact ⟨by first | rfl | (simp [errW_none, errW_some] <;> rfl) | (simp [*, errW_none, errW_some] <;> rfl), by repeat (first | (with_reducible first | exact HB.out | apply below_alloc | apply pw_below_drewN | apply below_drew1) | exact HB.out)⟩

/-! ### shape_said: function 48: not printed -/
/-- Is no character from 'pos' on below a blank, but LF? -/
def saidFrom (s : ByteArray) : Nat → Nat → Bool
  | 0, _ => true
  | f + 1, pos => if pos < s.size then (if (Utf8.decode s pos).1 < 32 ∧ (Utf8.decode s pos).1 ≠ 10 then false else saidFrom s f (pos + (Utf8.decode s pos).2)) else true
theorem saidFrom_end (s : ByteArray) (f pos : Nat) (h : ¬ pos < s.size) : saidFrom s f pos = true := by cases f <;> simp [saidFrom, h]
def saidB (s : ByteArray) : Bool := saidFrom s s.size 0
def shape_said.f (a0 : ByteArray) : Option (Bool) := if a0.size ≤ 9223372036854775807 then (if saidB a0 = true then shape_Valid.f a0 else some false) else none
set_option maxHeartbeats 2000000 in
set_option maxRecDepth 1000000 in
theorem shape_said.calls (a0 : ByteArray) (r : Bool) (w : World) (hL : LaidW w) (h : shape_said.f a0 = some r) :
    Calls Tryd.prog 48 #[.string a0] w fun e w' => e = .returned (.bool r) ∧ Below w.heap.size w w' := by
  unfold shape_said.f at h
  by_cases hs : a0.size ≤ 9223372036854775807
  · rw [if_pos hs] at h
    have HE := Aside0.mk h
    have HU := Aside0.mk hL
    clear h hL
    go_enter Tryd.func48, Tryd.ntmps48
    go_wp2
    go_loopg [4] a0.size (fun gf v4 wx => ∃ pos : Nat, wx.heap[w.heap.size]? = some (.stringIter a0 pos) ∧ Below w.heap.size w wx ∧ Aside0 (saidFrom a0 gf pos = saidB a0) ∧ a0.size ≤ pos + gf)
    case atStart => exact ⟨0, World.iter_heap w a0 0, (Below.refl _ w).alloc (Nat.le_refl _) _, ⟨rfl⟩, by omega⟩
    case round =>
      obtain ⟨pos, hit, hbw, HF, hfu⟩ := hrel
      by_cases hps : pos < a0.size
      · obtain ⟨g', rfl⟩ : ∃ g', gk = g' + 1 := ⟨gk - 1, by omega⟩
        have hnx : ∀ ty, (Instr.next (.pointer (some ⟨w.heap.size, 0, none⟩)) true ty).run Tryd.prog wr = _ := fun ty => Lib.run_next_any_at wr w.heap.size a0 pos ty hit hps
        have hwd := Lib.width_pos a0 pos
        have hrl := Lib.rune_le a0 pos
        obtain ⟨R, hR⟩ : ∃ R, (Utf8.decode a0 pos).1 = R := ⟨_, rfl⟩
        obtain ⟨K, hK⟩ : ∃ K, (Utf8.decode a0 pos).2 = K := ⟨_, rfl⟩
        have hleft := HF.out
        simp only [saidFrom, hps, if_true, hR, hK] at hleft
        rw [hR, hK] at hnx
        rw [hK] at hwd
        rw [hR] at hrl
        have hit2 := Lib.iterAt_heap wr w.heap.size a0 pos (pos + K) hit
        have hbw2 := Lib.below_iterAt hbw (k := w.heap.size) (Nat.le_refl _) a0 (pos + K)
        obtain ⟨W, hWd⟩ : ∃ W, wr.iterAt w.heap.size a0 (pos + K) = W := ⟨_, rfl⟩
        rw [hWd] at hnx hit2 hbw2
        clear hR hK hWd hit hbw HF
        by_cases hr : R < 32
        · have hr' : decide ((R : Int) < 32) = true := decide_eq_true (by omega)
          by_cases hk : R = 10
          · subst hk
            rw [if_neg (by rintro ⟨-, h⟩; exact h rfl)] at hleft
            have HF2 := Aside0.mk hleft
            clear hleft
            go_wp2
            go_roundg g'
            case measure => omega
            case rel => exact ⟨pos + K, hit2, hbw2, HF2, by omega⟩
          · have hk' : ((R : Int) != 10) = true := by rw [bne_iff_ne]; omega
            rw [if_pos ⟨hr, hk⟩] at hleft
            have hE := HE.out
            rw [← hleft, if_neg (by decide)] at hE
            obtain rfl := Option.some.inj hE
            clear hleft hE HE
            go_wp2
            go_ret
            exact ⟨rfl, hbw2⟩
        · have hr' : decide ((R : Int) < 32) = false := decide_eq_false (by omega)
          rw [if_neg (by rintro ⟨h, -⟩; exact hr h)] at hleft
          have HF2 := Aside0.mk hleft
          clear hleft
          go_wp2
          go_roundg g'
          case measure => omega
          case rel => exact ⟨pos + K, hit2, hbw2, HF2, by omega⟩
      · have hnx : ∀ ty, (Instr.next (.pointer (some ⟨w.heap.size, 0, none⟩)) true ty).run Tryd.prog wr = _ := fun ty => Lib.run_next_end_at wr w.heap.size a0 pos ty hit hps
        have hleft := HF.out
        rw [saidFrom_end a0 gk pos hps] at hleft
        have hE := HE.out
        rw [← hleft, if_pos rfl] at hE
        have HV := Aside0.mk hE
        have HT := Aside0.mk (LaidW.below HU.out hbw)
        clear hleft hE HE HF
        go_wp2_with (go_at_call 42; (refine (shape_Valid.calls a0 r _ HT.out HV.out).mono ?_); rintro e w1 ⟨rfl, hb1⟩)
        go_ret
        exact ⟨rfl, hbw.trans (hb1.mono hbw.size)⟩
  · rw [if_neg hs] at h; cases h

-- NOT PRINTED: function 55 (strings_FieldsFunc)

-- NOT PRINTED: function 59 (unicode_is16)

-- NOT PRINTED: function 60 (unicode_is32)

-- NOT PRINTED: function 58 (unicode_isExcludingLatin)

-- NOT PRINTED: function 56 (unicode_IsSpace)

-- NOT PRINTED: function 53 (strings_Fields)

/-! ### shape_Calls: function 47: not printed -/
def callWords : List ByteArray := [⟨#[108, 101, 110]⟩, ⟨#[115, 116, 114]⟩, ⟨#[105, 56]⟩, ⟨#[117, 56]⟩, ⟨#[105, 49, 54]⟩, ⟨#[117, 49, 54]⟩, ⟨#[105, 51, 50]⟩, ⟨#[117, 51, 50]⟩]
theorem callWords_eq : (Lib.fields [108, 101, 110, 32, 115, 116, 114, 32, 105, 56, 32, 117, 56, 32, 105, 49, 54, 32, 117, 49, 54, 32, 105, 51, 50, 32, 117, 51, 50]).map (fun l => (⟨l.toArray⟩ : ByteArray)) = callWords := by decide +kernel
theorem callWords_values : ((Lib.fields [108, 101, 110, 32, 115, 116, 114, 32, 105, 56, 32, 117, 56, 32, 105, 49, 54, 32, 117, 49, 54, 32, 105, 51, 50, 32, 117, 51, 50]).map fun l => Value.string ⟨l.toArray⟩) = callWords.map Value.string := by
  rw [← callWords_eq, List.map_map]; rfl
theorem callWords_len : (Lib.fields [108, 101, 110, 32, 115, 116, 114, 32, 105, 56, 32, 117, 56, 32, 105, 49, 54, 32, 117, 49, 54, 32, 105, 51, 50, 32, 117, 51, 50]).length = 8 := by decide +kernel
def shape_Calls.f  : Option (List ByteArray) := some callWords
theorem callWords_ascii : ∀ (j : Nat) b, (⟨#[108, 101, 110, 32, 115, 116, 114, 32, 105, 56, 32, 117, 56, 32, 105, 49, 54, 32, 117, 49, 54, 32, 105, 51, 50, 32, 117, 51, 50]⟩ : ByteArray).data.toList[j]? = some b → b.toNat < 128 := by
  intro j b h
  have hm := List.mem_of_getElem? h
  have : ∀ b ∈ ([108, 101, 110, 32, 115, 116, 114, 32, 105, 56, 32, 117, 56, 32, 105, 49, 54, 32, 117, 49, 54, 32, 105, 51, 50, 32, 117, 51, 50] : List UInt8), b.toNat < 128 := by decide
  exact this b hm
theorem callWords_own (w : World) : Kd.R Kd.string 9 (w.alloc (.cells (callWords.map Value.string).toArray 9)) w.heap.size (fun _ => True) (.slice (some ⟨w.heap.size, 0, none⟩) 8 8) callWords :=
  Kd.R_of_own ⟨rfl, .inr ⟨w.heap.size, 8, _, rfl, Nat.le_refl _, heap_alloc_new w _, by decide, by decide, rfl, rfl⟩⟩ (fun _ _ => trivial)
set_option maxHeartbeats 2000000 in
set_option maxRecDepth 100000 in
theorem shape_Calls.calls  (r : List ByteArray) (w : World) (hL : LaidW w) (h : shape_Calls.f  = some r) :
    Calls Tryd.prog 47 #[] w fun e w' => ∃ v0_ : Value, e = .returned (v0_) ∧ Kd.R Kd.string 9 w' w.heap.size (fun _ => True) v0_ r ∧ Below w.heap.size w w' := by
  obtain rfl := Option.some.inj h
  have HC := Aside0.mk (Tryd.strings_Fields (⟨#[108, 101, 110, 32, 115, 116, 114, 32, 105, 56, 32, 117, 56, 32, 105, 49, 54, 32, 117, 49, 54, 32, 105, 51, 50, 32, 117, 51, 50]⟩ : ByteArray) w (by decide) callWords_ascii hL.space)
  clear h hL
  go_enter Tryd.func47, Tryd.ntmps47
  go_wp2_with (go_at_call 53; (refine (HC.out).mono ?_); rintro e w1 ⟨rfl, rfl⟩)
  go_ret
  refine ⟨_, rfl, ?_, (Below.refl _ _).alloc (Nat.le_refl _) _⟩
  have h1 := callWords_own w
  rw [← callWords_values] at h1
  rw [← callWords_len] at h1
  exact h1

/-! ### utf_spelt: function 52 -/
def utf_spelt.l0 : Nat → ByteArray → Int → Int → Int → Option (Bool)
  | 0, _, _, _, _ => none
  | k + 1, x0, x1, x9, x10 => if x10 < x9 then (if 0 ≤ x10 then (if x10 < (x0.size : Int) then (if (bt x0 x10) ≥ 97 then (if ((bt x0 x10) ≤ 122) then (utf_spelt.l0 k x0 x1 x9 (wrap64 (x10 + 1))) else (if x10 = 0 then (some false) else (if (bt x0 x10) = x1 then (utf_spelt.l0 k x0 x1 x9 (wrap64 (x10 + 1))) else (if (bt x0 x10) < 48 then (some false) else (if (bt x0 x10) > 57 then (some false) else (utf_spelt.l0 k x0 x1 x9 (wrap64 (x10 + 1)))))))) else (if x10 = 0 then (some false) else (if (bt x0 x10) = x1 then (utf_spelt.l0 k x0 x1 x9 (wrap64 (x10 + 1))) else (if (bt x0 x10) < 48 then (some false) else (if (bt x0 x10) > 57 then (some false) else (utf_spelt.l0 k x0 x1 x9 (wrap64 (x10 + 1)))))))) else (none)) else (none)) else (if (x0.size : Int) > 0 then (some (decide ((x0.size : Int) ≤ 32))) else (some false))
def utf_spelt.f (k : Nat) (a0 : ByteArray) (a1 : Int) : Option (Bool) := utf_spelt.l0 k a0 a1 (a0.size : Int) 0
theorem utf_spelt.mono_l : ∀ k, (∀ y0 y1 y2 y3, LeO (utf_spelt.l0 k y0 y1 y2 y3) (utf_spelt.l0 (k + 1) y0 y1 y2 y3))
  | 0 => fun _ _ _ _ r h => by simp [utf_spelt.l0] at h
  | k + 1 => by
    have ih0 := utf_spelt.mono_l k
    · intro y0 y1 y2 y3
      unfold utf_spelt.l0
      repeat' first
      | (with_reducible exact ih0 _ _ _ _)
      | (with_reducible exact LeO.refl _)
      | (with_reducible exact LeO.none _)
      | (with_reducible refine LeO.ite ?_ ?_)
      | (with_reducible refine LeO.bind ?_ (fun _ => ?_))
      | exact ih0 _ _ _ _
      | exact LeO.none _
      | refine LeO.ite ?_ ?_
      | refine LeO.bind ?_ (fun _ => ?_)
theorem utf_spelt.mono : ∀ a0 a1 k, LeO (utf_spelt.f k a0 a1) (utf_spelt.f (k + 1) a0 a1) := by
  intro a0 a1 k
  have ih0 := utf_spelt.mono_l k
  unfold utf_spelt.f
  repeat' first
      | (with_reducible exact ih0 _ _ _ _)
      | (with_reducible exact LeO.refl _)
      | (with_reducible exact LeO.none _)
      | (with_reducible refine LeO.ite ?_ ?_)
      | (with_reducible refine LeO.bind ?_ (fun _ => ?_))
      | exact ih0 _ _ _ _
      | exact LeO.none _
      | refine LeO.ite ?_ ?_
      | refine LeO.bind ?_ (fun _ => ?_)
set_option maxHeartbeats 8000000 in
set_option maxRecDepth 100000 in
theorem utf_spelt.calls (k : Nat) (a0 : ByteArray) (a1 : Int) (r : Bool) (w : World) (h : utf_spelt.f k a0 a1 = some r) :
    Calls Tryd.prog 52 #[.string a0, .int .u8 a1] w fun e w' => e = .returned (.bool r) ∧ Drawn0 w w' := by
  have H : (utf_spelt.l0 k a0 a1 (a0.size : Int) 0) = some r := h
  clear h
  have H' := Aside0.mk H
  clear H
  go_enter Tryd.func52, Tryd.ntmps52
  go_wp2
  go_loopg [10] k (fun kq v10 w' => ∃ (x10_1 : Int), v10 = .int .i64 x10_1 ∧ Aside0 (utf_spelt.l0 kq a0 a1 (a0.size : Int) x10_1 = some r) ∧ Aside0 (kq ≤ k) ∧ Drawn0 w w')
  case atStart => exact ⟨(0), (by first | rfl | (simp; done) | (simp [*]; done)), H', ⟨Nat.le_refl _⟩, by repeat (first | exact Drawn0.refl _ | apply Drawn0.step)⟩
  case round =>
    clear H'
    try clear p2
    obtain ⟨x10_1, rfl, HA, HK1, ⟨m1, rfl⟩⟩ := hrel
    cases gk with
    | zero => exact absurd HA.out (by simp [utf_spelt.l0])
    | succ k1 =>
      have H := HA.out
      clear HA
      simp only [utf_spelt.l0] at H
      by_cases c3 : x10_1 < (a0.size : Int)
      · rw [if_pos c3] at H
        have c3b0 : decide (x10_1 < (a0.size : Int)) = true := decide_eq_true c3
        clear c3
        by_cases c4 : 0 ≤ x10_1
        · rw [if_pos c4] at H
          have c4b0 : decide (0 ≤ x10_1) = true := decide_eq_true c4
          clear c4
          by_cases c5 : x10_1 < (a0.size : Int)
          · rw [if_pos c5] at H
            have c5b0 : decide (x10_1 < (a0.size : Int)) = true := decide_eq_true c5
            clear c5
            by_cases c7 : (bt a0 x10_1) ≥ 97
            · rw [if_pos c7] at H
              have c7b0 : decide (97 ≤ (bt a0 x10_1)) = true := decide_eq_true c7
              clear c7
              by_cases c8 : ((bt a0 x10_1) ≤ 122)
              · rw [if_pos c8] at H
                have c8b0 : decide ((bt a0 x10_1) ≤ 122) = true := decide_eq_true c8
                clear c8
                have H' := Aside0.mk H
                clear H
                have p6 : 0 ≤ (x10_1 : Int) := of_decide_eq_true (by first | (with_reducible assumption) | assumption)
                have q6 : x10_1 < (a0.size : Int) := of_decide_eq_true (by first | (with_reducible assumption) | assumption)
                have hx6 := bt_at a0 x10_1
                replace p6 := eq_true p6
                replace q6 := eq_true q6
                go_wp2
                go_roundg k1
                case measure => have := HK1.out; omega
                case rel => exact ⟨(wrap64 (x10_1 + 1)), (by first | rfl | (simp; done) | (simp [*]; done)), H', ⟨by have := HK1.out; omega⟩, by repeat (first | exact Drawn0.refl _ | apply Drawn0.step)⟩
              · rw [if_neg c8] at H
                have c8b0 : decide ((bt a0 x10_1) ≤ 122) = false := decide_eq_false c8
                clear c8
                by_cases c9 : x10_1 = 0
                · rw [if_pos c9] at H
                  have c9b0 : (x10_1 == 0) = true := beq_iff_eq.mpr c9
                  have c9b1 : (x10_1 != 0) = false := bne_eq_false_iff_eq.mpr c9
                  clear c9
                  obtain rfl := Option.some.inj H
                  have p6 : 0 ≤ (x10_1 : Int) := of_decide_eq_true (by first | (with_reducible assumption) | assumption)
                  have q6 : x10_1 < (a0.size : Int) := of_decide_eq_true (by first | (with_reducible assumption) | assumption)
                  have hx6 := bt_at a0 x10_1
                  replace p6 := eq_true p6
                  replace q6 := eq_true q6
                  go_wp2
                  go_ret
                  exact ⟨by first | rfl | (simp; done) | (simp [*]; done), by repeat (first | exact Drawn0.refl _ | apply Drawn0.step)⟩
                · rw [if_neg c9] at H
                  have c9b0 : (x10_1 == 0) = false := beq_eq_false_iff_ne.mpr c9
                  have c9b1 : (x10_1 != 0) = true := bne_iff_ne.mpr c9
                  by_cases c10 : (bt a0 x10_1) = a1
                  · rw [if_pos c10] at H
                    have c10b0 : ((bt a0 x10_1) == a1) = true := beq_iff_eq.mpr c10
                    have c10b1 : ((bt a0 x10_1) != a1) = false := bne_eq_false_iff_eq.mpr c10
                    clear c10
                    have H' := Aside0.mk H
                    clear H
                    have p6 : 0 ≤ (x10_1 : Int) := of_decide_eq_true (by first | (with_reducible assumption) | assumption)
                    have q6 : x10_1 < (a0.size : Int) := of_decide_eq_true (by first | (with_reducible assumption) | assumption)
                    have hx6 := bt_at a0 x10_1
                    replace p6 := eq_true p6
                    replace q6 := eq_true q6
                    go_wp2
                    go_roundg k1
                    case measure => have := HK1.out; omega
                    case rel => exact ⟨(wrap64 (x10_1 + 1)), (by first | rfl | (simp; done) | (simp [*]; done)), H', ⟨by have := HK1.out; omega⟩, by repeat (first | exact Drawn0.refl _ | apply Drawn0.step)⟩
                  · rw [if_neg c10] at H
                    have c10b0 : ((bt a0 x10_1) == a1) = false := beq_eq_false_iff_ne.mpr c10
                    have c10b1 : ((bt a0 x10_1) != a1) = true := bne_iff_ne.mpr c10
                    by_cases c11 : (bt a0 x10_1) < 48
                    · rw [if_pos c11] at H
                      have c11b0 : decide ((bt a0 x10_1) < 48) = true := decide_eq_true c11
                      clear c11
                      obtain rfl := Option.some.inj H
                      have p6 : 0 ≤ (x10_1 : Int) := of_decide_eq_true (by first | (with_reducible assumption) | assumption)
                      have q6 : x10_1 < (a0.size : Int) := of_decide_eq_true (by first | (with_reducible assumption) | assumption)
                      have hx6 := bt_at a0 x10_1
                      replace p6 := eq_true p6
                      replace q6 := eq_true q6
                      go_wp2
                      go_ret
                      exact ⟨by first | rfl | (simp; done) | (simp [*]; done), by repeat (first | exact Drawn0.refl _ | apply Drawn0.step)⟩
                    · rw [if_neg c11] at H
                      have c11b0 : decide ((bt a0 x10_1) < 48) = false := decide_eq_false c11
                      clear c11
                      by_cases c12 : (bt a0 x10_1) > 57
                      · rw [if_pos c12] at H
                        have c12b0 : decide (57 < (bt a0 x10_1)) = true := decide_eq_true c12
                        clear c12
                        obtain rfl := Option.some.inj H
                        have p6 : 0 ≤ (x10_1 : Int) := of_decide_eq_true (by first | (with_reducible assumption) | assumption)
                        have q6 : x10_1 < (a0.size : Int) := of_decide_eq_true (by first | (with_reducible assumption) | assumption)
                        have hx6 := bt_at a0 x10_1
                        replace p6 := eq_true p6
                        replace q6 := eq_true q6
                        go_wp2
                        go_ret
                        exact ⟨by first | rfl | (simp; done) | (simp [*]; done), by repeat (first | exact Drawn0.refl _ | apply Drawn0.step)⟩
                      · rw [if_neg c12] at H
                        have c12b0 : decide (57 < (bt a0 x10_1)) = false := decide_eq_false c12
                        clear c12
                        have H' := Aside0.mk H
                        clear H
                        have p6 : 0 ≤ (x10_1 : Int) := of_decide_eq_true (by first | (with_reducible assumption) | assumption)
                        have q6 : x10_1 < (a0.size : Int) := of_decide_eq_true (by first | (with_reducible assumption) | assumption)
                        have hx6 := bt_at a0 x10_1
                        replace p6 := eq_true p6
                        replace q6 := eq_true q6
                        go_wp2
                        go_roundg k1
                        case measure => have := HK1.out; omega
                        case rel => exact ⟨(wrap64 (x10_1 + 1)), (by first | rfl | (simp; done) | (simp [*]; done)), H', ⟨by have := HK1.out; omega⟩, by repeat (first | exact Drawn0.refl _ | apply Drawn0.step)⟩
            · rw [if_neg c7] at H
              have c7b0 : decide (97 ≤ (bt a0 x10_1)) = false := decide_eq_false c7
              clear c7
              by_cases c13 : x10_1 = 0
              · rw [if_pos c13] at H
                have c13b0 : (x10_1 == 0) = true := beq_iff_eq.mpr c13
                have c13b1 : (x10_1 != 0) = false := bne_eq_false_iff_eq.mpr c13
                clear c13
                obtain rfl := Option.some.inj H
                have p6 : 0 ≤ (x10_1 : Int) := of_decide_eq_true (by first | (with_reducible assumption) | assumption)
                have q6 : x10_1 < (a0.size : Int) := of_decide_eq_true (by first | (with_reducible assumption) | assumption)
                have hx6 := bt_at a0 x10_1
                replace p6 := eq_true p6
                replace q6 := eq_true q6
                go_wp2
                go_ret
                exact ⟨by first | rfl | (simp; done) | (simp [*]; done), by repeat (first | exact Drawn0.refl _ | apply Drawn0.step)⟩
              · rw [if_neg c13] at H
                have c13b0 : (x10_1 == 0) = false := beq_eq_false_iff_ne.mpr c13
                have c13b1 : (x10_1 != 0) = true := bne_iff_ne.mpr c13
                by_cases c14 : (bt a0 x10_1) = a1
                · rw [if_pos c14] at H
                  have c14b0 : ((bt a0 x10_1) == a1) = true := beq_iff_eq.mpr c14
                  have c14b1 : ((bt a0 x10_1) != a1) = false := bne_eq_false_iff_eq.mpr c14
                  clear c14
                  have H' := Aside0.mk H
                  clear H
                  have p6 : 0 ≤ (x10_1 : Int) := of_decide_eq_true (by first | (with_reducible assumption) | assumption)
                  have q6 : x10_1 < (a0.size : Int) := of_decide_eq_true (by first | (with_reducible assumption) | assumption)
                  have hx6 := bt_at a0 x10_1
                  replace p6 := eq_true p6
                  replace q6 := eq_true q6
                  go_wp2
                  go_roundg k1
                  case measure => have := HK1.out; omega
                  case rel => exact ⟨(wrap64 (x10_1 + 1)), (by first | rfl | (simp; done) | (simp [*]; done)), H', ⟨by have := HK1.out; omega⟩, by repeat (first | exact Drawn0.refl _ | apply Drawn0.step)⟩
                · rw [if_neg c14] at H
                  have c14b0 : ((bt a0 x10_1) == a1) = false := beq_eq_false_iff_ne.mpr c14
                  have c14b1 : ((bt a0 x10_1) != a1) = true := bne_iff_ne.mpr c14
                  by_cases c15 : (bt a0 x10_1) < 48
                  · rw [if_pos c15] at H
                    have c15b0 : decide ((bt a0 x10_1) < 48) = true := decide_eq_true c15
                    clear c15
                    obtain rfl := Option.some.inj H
                    have p6 : 0 ≤ (x10_1 : Int) := of_decide_eq_true (by first | (with_reducible assumption) | assumption)
                    have q6 : x10_1 < (a0.size : Int) := of_decide_eq_true (by first | (with_reducible assumption) | assumption)
                    have hx6 := bt_at a0 x10_1
                    replace p6 := eq_true p6
                    replace q6 := eq_true q6
                    go_wp2
                    go_ret
                    exact ⟨by first | rfl | (simp; done) | (simp [*]; done), by repeat (first | exact Drawn0.refl _ | apply Drawn0.step)⟩
                  · rw [if_neg c15] at H
                    have c15b0 : decide ((bt a0 x10_1) < 48) = false := decide_eq_false c15
                    clear c15
                    by_cases c16 : (bt a0 x10_1) > 57
                    · rw [if_pos c16] at H
                      have c16b0 : decide (57 < (bt a0 x10_1)) = true := decide_eq_true c16
                      clear c16
                      obtain rfl := Option.some.inj H
                      have p6 : 0 ≤ (x10_1 : Int) := of_decide_eq_true (by first | (with_reducible assumption) | assumption)
                      have q6 : x10_1 < (a0.size : Int) := of_decide_eq_true (by first | (with_reducible assumption) | assumption)
                      have hx6 := bt_at a0 x10_1
                      replace p6 := eq_true p6
                      replace q6 := eq_true q6
                      go_wp2
                      go_ret
                      exact ⟨by first | rfl | (simp; done) | (simp [*]; done), by repeat (first | exact Drawn0.refl _ | apply Drawn0.step)⟩
                    · rw [if_neg c16] at H
                      have c16b0 : decide (57 < (bt a0 x10_1)) = false := decide_eq_false c16
                      clear c16
                      have H' := Aside0.mk H
                      clear H
                      have p6 : 0 ≤ (x10_1 : Int) := of_decide_eq_true (by first | (with_reducible assumption) | assumption)
                      have q6 : x10_1 < (a0.size : Int) := of_decide_eq_true (by first | (with_reducible assumption) | assumption)
                      have hx6 := bt_at a0 x10_1
                      replace p6 := eq_true p6
                      replace q6 := eq_true q6
                      go_wp2
                      go_roundg k1
                      case measure => have := HK1.out; omega
                      case rel => exact ⟨(wrap64 (x10_1 + 1)), (by first | rfl | (simp; done) | (simp [*]; done)), H', ⟨by have := HK1.out; omega⟩, by repeat (first | exact Drawn0.refl _ | apply Drawn0.step)⟩
          · rw [if_neg c5] at H
            exact absurd H (by simp)
        · rw [if_neg c4] at H
          exact absurd H (by simp)
      · rw [if_neg c3] at H
        have c3b0 : decide (x10_1 < (a0.size : Int)) = false := decide_eq_false c3
        clear c3
        by_cases c17 : (a0.size : Int) > 0
        · rw [if_pos c17] at H
          have c17b0 : decide (0 < (a0.size : Int)) = true := decide_eq_true c17
          have c17b1 : decide (0 < a0.size) = true := decide_eq_true (by omega)
          clear c17
          obtain rfl := Option.some.inj H
          go_wp2
          go_ret
          exact ⟨by first | rfl | (simp; done) | (simp [*]; done), by repeat (first | exact Drawn0.refl _ | apply Drawn0.step)⟩
        · rw [if_neg c17] at H
          have c17b0 : decide (0 < (a0.size : Int)) = false := decide_eq_false c17
          have c17b1 : decide (0 < a0.size) = false := decide_eq_false (by omega)
          clear c17
          obtain rfl := Option.some.inj H
          go_wp2
          go_ret
          exact ⟨by first | rfl | (simp; done) | (simp [*]; done), by repeat (first | exact Drawn0.refl _ | apply Drawn0.step)⟩

/-! ### utf_Name: function 49 -/
def utf_Name.f (k : Nat) (a0 : ByteArray) : Option (Bool) := (utf_spelt.f k a0 95).bind fun t118 => (some t118)
theorem utf_Name.mono : ∀ a0 k, LeO (utf_Name.f k a0) (utf_Name.f (k + 1) a0) := by
  intro a0 k
  unfold utf_Name.f
  repeat' first
      | (with_reducible exact utf_spelt.mono _ _ _)
      | (with_reducible exact LeO.refl _)
      | (with_reducible exact LeO.none _)
      | (with_reducible refine LeO.ite ?_ ?_)
      | (with_reducible refine LeO.bind ?_ (fun _ => ?_))
      | exact utf_spelt.mono _ _ _
      | exact LeO.none _
      | refine LeO.ite ?_ ?_
      | refine LeO.bind ?_ (fun _ => ?_)
set_option maxHeartbeats 8000000 in
set_option maxRecDepth 100000 in
theorem utf_Name.calls (k : Nat) (a0 : ByteArray) (r : Bool) (w : World) (h : utf_Name.f k a0 = some r) :
    Calls Tryd.prog 49 #[.string a0] w fun e w' => e = .returned (.bool r) ∧ Drawn0 w w' := by
  have H : ((utf_spelt.f k a0 95).bind fun t118 => (some t118)) = some r := h
  clear h
  replace H := Option.bind_eq_some_iff.mp H
  obtain ⟨t118, A20, H⟩ := H
  replace H : (some t118) = some r := H
  have A2 := Aside0.mk A20
  clear A20
  obtain rfl := Option.some.inj H
  go_enter Tryd.func49, Tryd.ntmps49
  go_wp2_with (first | ((with_reducible refine gate_callee (f := 52) rfl ?_); refine goesL_ (some 4) rfl rfl Tryd.func52 (by kernel_rfl) rfl #[.string a0, .int .u8 95] rfl (by (try simp only [List.map_toArray, List.map_cons, List.map_nil]); first | done | rfl | (simp only [List.length_drop, List.length_take]; rfl)) ?_; (with_reducible refine (utf_spelt.calls k a0 95 t118 _ A2.out).mono ?_); rintro e w' ⟨rfl, ⟨nd, rfl⟩⟩; refine ⟨_, rfl, ?_⟩))
  go_ret
  exact ⟨by first | rfl | (simp; done) | (simp [*]; done), by repeat (first | exact Drawn0.refl _ | apply Drawn0.step)⟩

/-! ### shape_Pieces: function 29: not printed -/
def addF (k : Nat) (l0 : List S35) (c m : Int) : Option Int := if c ≤ m then shape_nodes.f k l0 c m else some c

set_option maxHeartbeats 2000000 in
theorem pieces_add.calls (k : Nat) (A0 : Option Addr) (l0 : List S35) (c m r : Int) (bc bm : Nat) (w : World) (hr0 : Kd.C k35 w A0 l0.length l0)
    (hc : Box w bc (.int .i64 c)) (hm : Box w bm (.int .i64 m)) (h : addF k l0 c m = some r) :
    Calls Tryd.prog 34 #[.pointer A0, .pointer (some ⟨bc, 0, none⟩), .pointer (some ⟨bm, 0, none⟩)] w fun e w' => e = .returned (.tuple #[]) ∧ Only (· = bc) w w' ∧ Box w' bc (.int .i64 r) := by
  have HR := Aside0.mk hr0
  have HC := Aside0.mk hc
  have hc1 := hc.cell
  have hm1 := hm.cell
  have HE := h
  unfold addF at HE
  clear hr0 h hc hm
  by_cases hcm : c ≤ m
  · rw [if_pos hcm] at HE
    have HE' := Aside0.mk HE
    have hcm' : decide (c ≤ m) = true := decide_eq_true hcm
    clear HE hcm
    go_enter Tryd.func34, Tryd.ntmps34
    go_wp2_with (go_at_call 35; (refine (shape_nodes.calls k A0 l0 c m r _ ?hr HE'.out).mono ?_); (case hr => exact HR.out); rintro e w1 ⟨rfl, hb1⟩; (have hc2 := HC.out.below (hb1.below) HC.out.lt); (have hc3 := hc2.cell); (have hc4 := hc2.unfrozen))
    go_end0
    exact ⟨rfl, (Only.of_below (S := (· = bc)) hb1.below).setCell (p := ⟨bc, 0, none⟩) rfl _, hc2.set _⟩
  · rw [if_neg hcm] at HE
    obtain rfl := Option.some.inj HE
    have hcm' : decide (c ≤ m) = false := decide_eq_false hcm
    clear HE hcm
    go_enter Tryd.func34, Tryd.ntmps34
    go_wp2
    go_end0
    exact ⟨rfl, Only.refl _ _, HC.out⟩

def boundF (fs : List S37) : List S35 := fs.filterMap (fun x => if x.f2 = true then some x.f3 else none)
def boundP (ps : List S44) : List S35 := ps.filterMap (fun x => if x.f1 = true then some x.f2 else none)
def addAll (k : Nat) (m : Int) : List S35 → Int → Option Int
  | [], c => some c
  | x :: xs, c => (addF k [x] c m).bind (addAll k m xs)
def shape_Pieces.f (k : Nat) (l0 : List S41) (m : Int) : Option Int :=
  match l0 with
  | [c] => addAll k m (boundF c.f2 ++ (boundP c.f3 ++ c.f4)) (wrap64 (wrap64 (wrap64 (1 + (c.f2.length : Int)) + (c.f3.length : Int)) + (c.f4.length : Int)))
  | _ => none

theorem boundF_cons (x : S37) (xs : List S37) : boundF (x :: xs) = if x.f2 = true then x.f3 :: boundF xs else boundF xs := by by_cases h : x.f2 = true <;> simp [boundF, h]
theorem boundP_cons (x : S44) (xs : List S44) : boundP (x :: xs) = if x.f1 = true then x.f2 :: boundP xs else boundP xs := by by_cases h : x.f1 = true <;> simp [boundP, h]

set_option maxHeartbeats 4000000 in
theorem shape_Pieces.calls (k : Nat) (A0 : Option Addr) (l0 : List S41) (a1 : Int) (r : Int) (w : World) (hr0 : Kd.C k41 w A0 l0.length l0) (h : shape_Pieces.f k l0 a1 = some r) :
    Calls Tryd.prog 29 #[.pointer A0, .int .i64 a1] w fun e w' => e = .returned (.int .i64 r) ∧ Below w.heap.size w w' := by
  obtain ⟨c, rfl⟩ : ∃ c, l0 = [c] := by
    unfold shape_Pieces.f at h; split at h
    · exact ⟨_, rfl⟩
    · exact absurd h (by simp)
  simp only [shape_Pieces.f] at h
  have HE := Aside0.mk h
  obtain ⟨ad, A2, c2, A3, c3, A4, c4, A5, c5, A6, c6, rfl, x0, x1, x2, x3, x4, x5, x6, l2, C2, l3, C3, l4, C4, l5, C5, l6, C6⟩ := at_T41 hr0 0 (by omega) (by simp)
  have hz : (ad.add ((0 : Int).toNat * 7)) = ad := by rw [show (0 : Int).toNat * 7 = 0 from rfl, Addr.add_zero']
  rw [hz] at x0 x1 x2 x3 x4 x5 x6
  have hc0 : rd_T41 [c] 0 = c := rfl
  rw [hc0] at x0 x1 x2 x3 x4 x5 x6 l2 l3 l4 C2 C3 C4
  clear h hr0 hz hc0 C5 C6 l5 l6
  have HC2 := Aside0.mk C2
  have HC3 := Aside0.mk C3
  have HC4 := Aside0.mk C4
  have HX := Aside0.mk (And.intro x2 (And.intro x3 x4))
  have HL := Aside0.mk (And.intro l2 (And.intro l3 l4))
  clear C2 C3 C4 l2 l3 l4
  go_enter Tryd.func29, Tryd.ntmps29
  go_wp2
  have B1 := Aside0.mk (Below.alloc (Below.refl w.heap.size w) (Nat.le_refl _) (.cells #[.int .i64 a1] 3))
  have X1 := Aside0.mk (Box.new w (.int .i64 a1) 3)
  generalize w.alloc (.cells #[.int .i64 a1] 3) = W1 at B1 X1 ⊢
  have y2 := pw_cell_below B1.out x2
  have y3 := pw_cell_below B1.out x3
  have y4 := pw_cell_below B1.out x4
  have m2 := World.new_ne W1 _ y2
  have m3 := World.new_ne W1 _ y3
  have m4 := World.new_ne W1 _ y4
  clear x0 x1 x2 x3 x4 x5 x6
  go_region_held3 (fun w' => w'.cell? ⟨ad.block, ad.off + 2, none⟩ = some (.slice A2 c.f2.length c2) ∧ w'.cell? ⟨ad.block, ad.off + 3, none⟩ = some (.slice A3 c.f3.length c3) ∧ w'.cell? ⟨ad.block, ad.off + 4, none⟩ = some (.slice A4 c.f4.length c4)) (go_keep) (fail)
  rename_i hh
  generalize hN : IntKind.i64.wrap (IntKind.i64.wrap (IntKind.i64.wrap (1 + (c.f2.length : Int)) + (c.f3.length : Int)) + (c.f4.length : Int)) = N at hh ⊢
  rw [i64w, i64w, i64w] at hN
  have HE1 := HE.out
  rw [hN] at HE1
  have HE2 := Aside0.mk HE1
  clear HE1 hN HE
  have B2 := Aside0.mk ((Below.alloc' B1.out (Nat.le_refl _) (.cells #[.int .i64 N] 3)).drew)
  have X2 := Aside0.mk ((X1.out.alloc (.cells #[.int .i64 N] 3)).drew)
  have X3 := Aside0.mk ((Box.new W1 (.int .i64 N) 3).drew)
  have hne : W1.heap.size ≠ w.heap.size := fun e => by have := X1.out.lt; omega
  have HNE := Aside0.mk (And.intro hne B1.out.size)
  clear hne B1
  generalize (W1.alloc (.cells #[.int .i64 N] 3)).drew = W2 at hh B2 X2 X3 ⊢
  generalize W1.heap.size = bc at X3 HNE m2 m3 m4 ⊢
  obtain ⟨z2, z3, z4⟩ := hh
  clear X1 y2 y3 y4 m2 m3 m4
  clear z3 z4
  go_wp2
  clear z2
  go_loopg [34] c.f2.length (fun gf vv wx => ∃ (i : Nat) (cnt : Int), vv = .int .i64 (i : Int) ∧ Aside0 (Below w.heap.size w wx) ∧ Aside0 (Box wx w.heap.size (.int .i64 a1)) ∧ Aside0 (Box wx bc (.int .i64 cnt)) ∧ Aside0 (addAll k a1 (boundF (c.f2.drop i) ++ (boundP c.f3 ++ c.f4)) cnt = some r) ∧ Aside0 (i + gf = c.f2.length))
  case atStart => exact ⟨0, N, rfl, B2, X2, X3, HE2, ⟨Nat.zero_add _⟩⟩
  case round =>
    obtain ⟨i, cnt, rfl, HB, HM, HCnt, HA, HG⟩ := hrel
    have y2 := pw_cell_below HB.out HX.out.1
    by_cases hi : i < c.f2.length
    · obtain ⟨ae, a, x, e1, ha, hd, f0, f1, fb, f7, hal, cz⟩ := nth37 (Kd.C_below HC2.out HB.out) i hi
      subst e1
      have hA := HA.out
      have hi' : ((i : Int) < (c.f2.length : Int)) := cast_lt hi
      have hw := wrap_succ i _ hi (Kd.C_max HC2.out)
      obtain ⟨g', rfl⟩ : ∃ g', gk = g' + 1 := gk_pos HG.out hi
      rw [hd, boundF_cons] at hA
      by_cases hbd : x.f2 = true
      · rw [hbd] at fb
        rw [if_pos hbd] at hA
        have hA2 : ((addF k [x.f3] cnt a1).bind (addAll k a1 (boundF (c.f2.drop (i + 1)) ++ (boundP c.f3 ++ c.f4)))) = some r := hA
        obtain ⟨c', hc', hA3⟩ := Option.bind_eq_some_iff.mp hA2
        have HA' := Aside0.mk hc'
        have HA3 := Aside0.mk hA3
        have HCZ := Aside0.mk cz
        clear hA hA2 hc' hA3 cz hd HA
        go_wp2_with (go_at_call 34; (refine (pieces_add.calls k _ [x.f3] cnt a1 c' _ _ _ HCZ.out HCnt.out HM.out HA'.out).mono ?_); rintro e w1 ⟨rfl, ho1, hx1⟩)
        go_roundg g'
        case measure => exact Nat.lt_succ_self _
        case rel => exact ⟨i + 1, c', by rw [hw], ⟨Only.below HB.out ho1 HB.out.size (fun k hk => hk ▸ HNE.out.2)⟩, ⟨HM.out.only ho1 (fun e => HNE.out.1 e.symm)⟩, ⟨hx1⟩, ⟨HA3.out⟩, ⟨gk_next HG.out⟩⟩
      · rw [if_neg hbd] at hA
        have hbf : x.f2 = false := by simpa using hbd
        rw [hbf] at fb
        have HA3 := Aside0.mk hA
        clear hA hd HA cz
        go_wp2
        go_roundg g'
        case measure => exact Nat.lt_succ_self _
        case rel => exact ⟨i + 1, cnt, by rw [hw], HB, HM, HCnt, HA3, ⟨gk_next HG.out⟩⟩
    · have hnil : c.f2.drop i = [] := drop_end hi
      have hi' : ¬ ((i : Int) < (c.f2.length : Int)) := cast_nlt hi
      have hA := HA.out
      rw [hnil] at hA
      have HA2 := Aside0.mk hA
      clear hA hnil HA
      have y3 := pw_cell_below HB.out HX.out.2.1
      clear y2
      go_wp2
      clear y3
      go_loopg [60] c.f3.length (fun gf vv wx => ∃ (i : Nat) (cnt : Int), vv = .int .i64 (i : Int) ∧ Aside0 (Below w.heap.size w wx) ∧ Aside0 (Box wx w.heap.size (.int .i64 a1)) ∧ Aside0 (Box wx bc (.int .i64 cnt)) ∧ Aside0 (addAll k a1 (boundP (c.f3.drop i) ++ c.f4) cnt = some r) ∧ Aside0 (i + gf = c.f3.length))
      case atStart => exact ⟨0, cnt, rfl, HB, HM, HCnt, HA2, ⟨Nat.zero_add _⟩⟩
      case round =>
        obtain ⟨i, cnt, rfl, HB, HM, HCnt, HA, HG⟩ := hrel
        have y2 := pw_cell_below HB.out HX.out.2.1
        by_cases hi : i < c.f3.length
        · obtain ⟨ae, a, x, e1, ha, hd, f0, fb, hal, cz⟩ := nth44 (Kd.C_below HC3.out HB.out) i hi
          subst e1
          have hA := HA.out
          have hi' : ((i : Int) < (c.f3.length : Int)) := cast_lt hi
          have hw := wrap_succ i _ hi (Kd.C_max HC3.out)
          obtain ⟨g', rfl⟩ : ∃ g', gk = g' + 1 := gk_pos HG.out hi
          rw [hd, boundP_cons] at hA
          by_cases hbd : x.f1 = true
          · rw [hbd] at fb
            rw [if_pos hbd] at hA
            have hA2 : ((addF k [x.f2] cnt a1).bind (addAll k a1 (boundP (c.f3.drop (i + 1)) ++ c.f4))) = some r := hA
            obtain ⟨c', hc', hA3⟩ := Option.bind_eq_some_iff.mp hA2
            have HA' := Aside0.mk hc'
            have HA3 := Aside0.mk hA3
            have HCZ := Aside0.mk cz
            clear hA hA2 hc' hA3 cz hd HA
            go_wp2_with (go_at_call 34; (refine (pieces_add.calls k _ [x.f2] cnt a1 c' _ _ _ HCZ.out HCnt.out HM.out HA'.out).mono ?_); rintro e w1 ⟨rfl, ho1, hx1⟩)
            go_roundg g'
            case measure => exact Nat.lt_succ_self _
            case rel => exact ⟨i + 1, c', by rw [hw], ⟨Only.below HB.out ho1 HB.out.size (fun k hk => hk ▸ HNE.out.2)⟩, ⟨HM.out.only ho1 (fun e => HNE.out.1 e.symm)⟩, ⟨hx1⟩, ⟨HA3.out⟩, ⟨gk_next HG.out⟩⟩
          · rw [if_neg hbd] at hA
            have hbf : x.f1 = false := by simpa using hbd
            rw [hbf] at fb
            have HA3 := Aside0.mk hA
            clear hA hd HA cz
            go_wp2
            go_roundg g'
            case measure => exact Nat.lt_succ_self _
            case rel => exact ⟨i + 1, cnt, by rw [hw], HB, HM, HCnt, HA3, ⟨gk_next HG.out⟩⟩
        · have hnil : c.f3.drop i = [] := drop_end hi
          have hi' : ¬ ((i : Int) < (c.f3.length : Int)) := cast_nlt hi
          have hA := HA.out
          rw [hnil] at hA
          have HA2 := Aside0.mk hA
          clear hA hnil HA
          have y3 := pw_cell_below HB.out HX.out.2.2
          clear y2
          go_wp2
          clear y3
          go_loopg [86] c.f4.length (fun gf vv wx => ∃ (i : Nat) (cnt : Int), vv = .int .i64 (i : Int) ∧ Aside0 (Below w.heap.size w wx) ∧ Aside0 (Box wx w.heap.size (.int .i64 a1)) ∧ Aside0 (Box wx bc (.int .i64 cnt)) ∧ Aside0 (addAll k a1 (c.f4.drop i) cnt = some r) ∧ Aside0 (i + gf = c.f4.length))
          case atStart => exact ⟨0, cnt, rfl, HB, HM, HCnt, HA2, ⟨Nat.zero_add _⟩⟩
          case round =>
            obtain ⟨i, cnt, rfl, HB, HM, HCnt, HA, HG⟩ := hrel
            have y2 := pw_cell_below HB.out HX.out.2.2
            by_cases hi : i < c.f4.length
            · obtain ⟨ae, a, x, A7, c7, e1, ha, hd, f0, f1, fb, f7, lz, cy, hal, cz⟩ := nth35 (Kd.C_below HC4.out HB.out) i hi
              subst e1
              have hA := HA.out
              have hi' : ((i : Int) < (c.f4.length : Int)) := cast_lt hi
              have hw := wrap_succ i _ hi (Kd.C_max HC4.out)
              obtain ⟨g', rfl⟩ : ∃ g', gk = g' + 1 := gk_pos HG.out hi
              rw [hd] at hA
              clear f0 f1 fb f7 lz cy hal
              have hA2 : ((addF k [x] cnt a1).bind (addAll k a1 (c.f4.drop (i + 1)))) = some r := hA
              obtain ⟨c', hc', hA3⟩ := Option.bind_eq_some_iff.mp hA2
              have HA' := Aside0.mk hc'
              have HA3 := Aside0.mk hA3
              have HCZ := Aside0.mk cz
              clear hA hA2 hc' hA3 cz hd HA
              go_wp2_with (go_at_call 34; (refine (pieces_add.calls k _ [x] cnt a1 c' _ _ _ HCZ.out HCnt.out HM.out HA'.out).mono ?_); rintro e w1 ⟨rfl, ho1, hx1⟩)
              go_roundg g'
              case measure => exact Nat.lt_succ_self _
              case rel => exact ⟨i + 1, c', by rw [hw], ⟨Only.below HB.out ho1 HB.out.size (fun k hk => hk ▸ HNE.out.2)⟩, ⟨HM.out.only ho1 (fun e => HNE.out.1 e.symm)⟩, ⟨hx1⟩, ⟨HA3.out⟩, ⟨gk_next HG.out⟩⟩
            · have hnil : c.f4.drop i = [] := drop_end hi
              have hi' : ¬ ((i : Int) < (c.f4.length : Int)) := cast_nlt hi
              have hA := HA.out
              rw [hnil] at hA
              have HA2 := Aside0.mk hA
              clear hA hnil HA
              have hcc := HCnt.out.cell
              obtain rfl : cnt = r := Option.some.inj HA2.out
              go_wp2
              go_ret
              exact ⟨rfl, HB.out⟩


end Go.Proofs.YtncpknhmoakjmaaDoor.PCorePlaces
