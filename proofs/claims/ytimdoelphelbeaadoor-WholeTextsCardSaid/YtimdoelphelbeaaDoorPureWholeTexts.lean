/-
  Every text that strconv writes and reads as package whole uses it goes there and back as the document has it (stencillaw1.WholeTexts): at every int and every string, where the error variable and the table of powers are as their initialisers lay them. Here: the plain law over numbers and lists.
-/
import Derived.Test.YtimdoelphelbeaaDoorPWholeTextsx4
namespace Go.Proofs.YtimdoelphelbeaaDoor.Pure
open Go.RowKit Go.Proofs.YtimdoelphelbeaaDoor.PWholeTexts Go.Proofs.YtimdoelphelbeaaDoorW.PrintWords Go.Proofs.YtimdoelphelbeaaDoorW.PrintLast
open Go.Proofs
set_option linter.unusedVariables false
set_option linter.unusedSimpArgs false

/-- The document's own: back. -/
theorem back_f (below : Bool) (x : Nat) (hx : x < 18446744073709551616) (k : Nat) (hk : 2 < k) :
    stencilref1_back.f k below 0 (x : Int) = some (if below = true then (if x ≤ 9223372036854775808 then (-(x : Int), 0) else (0, 100)) else (if x ≤ 9223372036854775807 then ((x : Int), 0) else (0, 100))) := by
  obtain ⟨k, rfl⟩ : ∃ m, k = m + 1 := ⟨k - 1, by omega⟩
  have hff : ¬ (false = true) := by decide
  unfold stencilref1_back.f
  rw [if_neg (by omega)]
  by_cases h1 : (x : Int) > 9223372036854775808
  · have g1 : ¬ x ≤ 9223372036854775808 := by omega
    have g2 : ¬ x ≤ 9223372036854775807 := by omega
    rw [if_pos h1, stencilref1_back.j0, if_pos rfl, if_neg g1, if_neg g2]
    cases below <;> rfl
  · rw [if_neg h1]
    by_cases h2 : (x : Int) = 9223372036854775808
    · rw [if_pos h2, stencilref1_back.j0]
      obtain rfl : x = 9223372036854775808 := by omega
      cases below
      · decide +kernel
      · decide +kernel
    · have g1 : x ≤ 9223372036854775808 := by omega
      have g2 : x ≤ 9223372036854775807 := by omega
      rw [if_neg h2, stencilref1_back.j0, if_neg hff, if_pos g1, if_pos g2]
      cases below with
      | true =>
        rw [if_pos rfl, if_pos rfl]
        by_cases h3 : (x : Int) > 0
        · rw [if_pos h3, u64 (by omega) (by omega), w64 (x := (x : Int) - 1) (by omega) (by omega), w64 (x := -((x : Int) - 1)) (by omega) (by omega), w64 (by omega) (by omega), show -((x : Int) - 1) - 1 = -(x : Int) by omega]
        · rw [if_neg h3, w64 (by omega) (by omega), show -(x : Int) = (x : Int) by omega]
      | false =>
        rw [if_neg hff, if_neg hff, w64 (by omega) (by omega)]

/-- The document's own loop: over: the digits so far are too many for 64 bits, or nearly. -/
theorem parse_l0 (d : ByteArray) (hd : d.size ≤ 140737488351232) (below : Bool) (n : Nat) : ∀ (k i : Nat) (x : Nat) (over : Bool), i ≤ d.size → d.size - i = n → n + 3 < k → x < 18446744073709551616 →
    (over = false → WNum.val 0 (d.data.toList.take i) = x) → (over = true → 18446744073709551610 ≤ WNum.val 0 (d.data.toList.take i)) →
    stencilref1_Parse.l0 k d below (x : Int) over (i : Int) = some (if (d.data.toList.drop i).all WNum.isD = true then
      (let v := WNum.val 0 d.data.toList
       if below = true then (if v ≤ 9223372036854775808 then (-(v : Int), 0) else (0, 100)) else (if v ≤ 9223372036854775807 then ((v : Int), 0) else (0, 100))) else (0, 104)) := by
  induction n with
  | zero =>
    intro k i x over h1 hn hk hx hv ho
    obtain ⟨k, rfl⟩ : ∃ m, k = m + 1 := ⟨k - 1, by omega⟩
    have hi : d.data.toList.length ≤ i := by rw [len_size]; omega
    rw [List.take_of_length_le hi] at hv ho
    rw [stencilref1_Parse.l0]
    rw [if_neg (by omega), List.drop_eq_nil_of_le hi]
    have hall : ([] : List UInt8).all WNum.isD = true := rfl
    rw [if_pos hall]
    cases over with
    | true =>
      have := ho rfl
      have g1 : ¬ WNum.val 0 d.data.toList ≤ 9223372036854775808 := by omega
      have g2 : ¬ WNum.val 0 d.data.toList ≤ 9223372036854775807 := by omega
      rw [if_pos rfl]
      dsimp only
      rw [if_neg g1, if_neg g2]
      cases below <;> rfl
    | false =>
      have := hv rfl
      have hff : ¬ (false = true) := by decide
      rw [if_neg hff, back_f below x hx k (by omega), ← this]
      rfl
  | succ n ih =>
    intro k i x over h1 hn hk hx hv ho
    obtain ⟨k, rfl⟩ : ∃ m, k = m + 1 := ⟨k - 1, by omega⟩
    have hi : i < d.data.toList.length := by rw [len_size]; omega
    rw [stencilref1_Parse.l0]
    rw [if_pos (by omega), if_pos (by omega), bt_get d i hi, List.drop_eq_getElem_cons hi, List.all_cons]
    have htk : d.data.toList.take (i + 1) = d.data.toList.take i ++ [d.data.toList[i]] := List.take_succ_eq_append_getElem hi
    generalize hc : d.data.toList[i] = c at htk ⊢
    have hD := isD_iff c
    have hval : WNum.val 0 (d.data.toList.take (i + 1)) = WNum.val 0 (d.data.toList.take i) * 10 + (c.toNat - 48) := by
      rw [htk, WNum.val_append, WNum.val_cons, WNum.val_nil]
    by_cases h48 : (c.toNat : Int) < 48
    · rw [if_pos h48, show WNum.isD c = false by cases hq : WNum.isD c with
        | false => rfl
        | true => have := hD.1 hq; omega]
      rfl
    · rw [if_neg h48]
      by_cases h57 : (c.toNat : Int) > 57
      · rw [if_pos h57, show WNum.isD c = false by cases hq : WNum.isD c with
          | false => rfl
          | true => have := hD.1 hq; omega]
        rfl
      · rw [if_neg h57, hD.2 ⟨by omega, by omega⟩, Bool.true_and]
        have hm : ((c.toNat : Int) - 48) % 256 = ((c.toNat - 48 : Nat) : Int) := by omega
        rw [hm, w64 (x := (i : Int) + 1) (by omega) (by omega)]
        cases over with
        | true =>
          have := ho rfl
          rw [if_pos rfl]
          have hu : ∃ y : Nat, y < 18446744073709551616 ∧ IntKind.u64.wrap (IntKind.u64.wrap (10 * (x : Int)) + ((c.toNat - 48 : Nat) : Int)) = (y : Int) := by
            refine ⟨((10 * x) % 18446744073709551616 + (c.toNat - 48)) % 18446744073709551616, by omega, ?_⟩
            have e1 : ∀ z : Int, IntKind.u64.wrap z = z % 18446744073709551616 := fun _ => rfl
            rw [e1, e1]; omega
          obtain ⟨y, hy, he⟩ := hu
          rw [he]
          exact ih k (i + 1) y true (by omega) (by omega) (by omega) hy (by simp) (fun _ => by rw [hval]; omega)
        | false =>
          have hx' := hv rfl
          have hff : ¬ (false = true) := by decide
          rw [if_neg hff]
          by_cases hov : (x : Int) > 1844674407370955160
          · rw [decide_eq_true hov]
            have hu : ∃ y : Nat, y < 18446744073709551616 ∧ IntKind.u64.wrap (IntKind.u64.wrap (10 * (x : Int)) + ((c.toNat - 48 : Nat) : Int)) = (y : Int) := by
              refine ⟨((10 * x) % 18446744073709551616 + (c.toNat - 48)) % 18446744073709551616, by omega, ?_⟩
              have e1 : ∀ z : Int, IntKind.u64.wrap z = z % 18446744073709551616 := fun _ => rfl
              rw [e1, e1]; omega
            obtain ⟨y, hy, he⟩ := hu
            rw [he]
            exact ih k (i + 1) y true (by omega) (by omega) (by omega) hy (by simp) (fun _ => by rw [hval, hx']; omega)
          · rw [decide_eq_false hov, u64 (x := 10 * (x : Int)) (by omega) (by omega), u64 (by omega) (by omega)]
            have he : (10 * (x : Int) + ((c.toNat - 48 : Nat) : Int)) = ((x * 10 + (c.toNat - 48) : Nat) : Int) := by omega
            rw [he]
            exact ih k (i + 1) (x * 10 + (c.toNat - 48)) false (by omega) (by omega) (by omega) (by omega) (fun _ => by rw [hval, hx']) (by simp)

theorem parse_j1 (s d : ByteArray) (hd : d.size ≤ 140737488351232) (below : Bool) (k : Nat) (hk : d.size + 9 < k) (hne : ¬ (s.data.toList = [48]) ∨ d.data.toList = [48]) :
    stencilref1_Parse.j1 k s d below = some (if s.data.toList = [48] ∨ WNum.okD d.data.toList = true then
      (let v := WNum.val 0 d.data.toList
       if below = true then (if v ≤ 9223372036854775808 then (-(v : Int), 0) else (0, 100)) else (if v ≤ 9223372036854775807 then ((v : Int), 0) else (0, 100))) else (0, 104)) := by
  obtain ⟨k, rfl⟩ : ∃ m, k = m + 2 := ⟨k - 2, by omega⟩
  have hff : ¬ (false = true) := by decide
  have hl := parse_l0 d hd below d.size k 0 0 false (by omega) (by omega) (by omega) (by omega) (fun _ => rfl) (by simp)
  rw [List.drop_zero] at hl
  rw [show ((0 : Nat) : Int) = 0 from rfl] at hl
  rw [stencilref1_Parse.j1]
  cases hq : d.data.toList with
  | nil =>
    have hz : d.size = 0 := by rw [← len_size, hq]; rfl
    rw [if_pos (by omega), stencilref1_Parse.j2, if_pos rfl, if_neg]
    rintro (h | h)
    · rcases hne with h1 | h1
      · exact h1 h
      · rw [hq] at h1; cases h1
    · simp [WNum.okD] at h
  | cons x r =>
    have hsz : 0 < d.size := by rw [← len_size, hq]; simp
    have hb := bt_get d 0 (by rw [len_size]; omega)
    have hx : d.data.toList[0]'(by rw [len_size]; omega) = x := by simp [hq]
    rw [hx] at hb
    rw [if_neg (by omega), if_pos (by omega), show bt d 0 = (x.toNat : Int) from hb]
    rw [hq] at hl hne
    by_cases h48 : (x.toNat : Int) = 48
    · rw [if_pos h48, ByteArray.toList_eq]
      have hx48 : x = 48 := UInt8.toNat_inj.mp (by have : x.toNat = 48 := by omega
                                                   rw [this]; rfl)
      rw [stencilref1_Parse.j2]
      by_cases hs : s.data.toList = [48]
      · rw [if_neg (by simp [hs]), hl]
        have hr : (x :: r) = [48] := by rcases hne with h | h; · exact absurd hs h
                                        · exact h
        rw [hr, if_pos (by decide), if_pos (Or.inl hs)]
      · rw [if_pos (by simpa using hs), if_neg]
        rintro (h | h)
        · exact hs h
        · rw [hx48] at h; simp [WNum.okD] at h
    · rw [if_neg h48]
      rw [stencilref1_Parse.j2, if_neg hff, hl]
      have hx48 : x ≠ 48 := fun e => h48 (by rw [e]; rfl)
      have hs : ¬ s.data.toList = [48] := by
        rcases hne with h | h
        · exact h
        · exact absurd (by injection h) hx48
      have hok : WNum.okD (x :: r) = (x :: r).all WNum.isD := by
        unfold WNum.okD
        rw [show ((x :: r).isEmpty) = false from rfl, decide_eq_true (show (x :: r).head? ≠ some 48 from fun e => hx48 (by injection e))]
        simp
      rw [hok]
      by_cases ha : (x :: r).all WNum.isD = true
      · rw [if_pos ha, if_pos (Or.inr ha)]
      · rw [if_neg ha, if_neg (by rintro (h | h); · exact hs h
                                  · exact ha h)]

theorem parse_f (s : ByteArray) (hs : s.size ≤ 140737488351232) (k : Nat) (hk : s.size + 12 < k) :
    stencilref1_Parse.f k s = some (WNum.parse s.data.toList) := by
  obtain ⟨k, rfl⟩ : ∃ m, k = m + 1 := ⟨k - 1, by omega⟩
  have hff : ¬ (false = true) := by decide
  unfold stencilref1_Parse.f
  have hfm : ∀ l, (WNum.formed l = true) ↔ (l = [48] ∨ WNum.okD (WNum.body l) = true) := fun l => by unfold WNum.formed; simp
  unfold WNum.parse
  cases hl : s.data.toList with
  | nil =>
    have hz : s.size = 0 := by rw [← len_size, hl]; rfl
    rw [if_neg (by omega), stencilref1_Parse.j0, if_neg hff, parse_j1 s s hs false k (by omega) (.inl (by rw [hl]; simp)), hl]
    rfl
  | cons x r =>
    have hsz : 0 < s.size := by rw [← len_size, hl]; simp
    have hb := bt_get s 0 (by rw [len_size]; omega)
    have hx : s.data.toList[0]'(by rw [len_size]; omega) = x := by simp [hl]
    rw [hx] at hb
    rw [if_pos (by omega), if_pos (by omega), show bt s 0 = (x.toNat : Int) from hb]
    by_cases h45 : x.toNat = 45
    · rw [stencilref1_Parse.j0, show (((x.toNat : Int)) == 45) = true by rw [h45]; rfl, if_pos rfl, if_pos (by omega)]
      have he : (s.extract 1 s.size).data.toList = r := by rw [Lib.extract_to_end, hl]; rfl
      have hz : (s.extract 1 s.size).size = s.size - 1 := by rw [← len_size, he, ← len_size, hl]; simp
      have hn48 : ¬ (x :: r) = [48] := fun e => by injection e with e _; rw [e] at h45; exact absurd h45 (by decide)
      rw [parse_j1 s _ (by omega) true k (by omega) (.inl (by rw [hl]; exact hn48)), he, hl]
      have hbd : WNum.body (x :: r) = r := by simp [WNum.body, h45]
      have hng : WNum.neg (x :: r) = true := by simp [WNum.neg, h45]
      have hF := hfm (x :: r)
      rw [hbd] at hF
      rw [hbd, hng]
      by_cases hok : WNum.formed (x :: r) = true
      · rw [if_pos hok, if_pos (hF.1 hok)]
      · rw [if_neg hok, if_neg (fun h => hok (hF.2 h))]
    · rw [stencilref1_Parse.j0, show (((x.toNat : Int)) == 45) = false by rw [beq_eq_false_iff_ne]; omega, if_neg hff]
      have hbd : WNum.body (x :: r) = x :: r := by simp [WNum.body, h45]
      have hng : WNum.neg (x :: r) = false := by simp [WNum.neg, h45]
      have hor : ¬ (s.data.toList = [48]) ∨ s.data.toList = [48] := (Decidable.em (s.data.toList = [48])).symm
      rw [parse_j1 s s hs false k (by omega) hor, hl]
      have hF := hfm (x :: r)
      rw [hbd] at hF
      rw [hbd, hng]
      by_cases hok : WNum.formed (x :: r) = true
      · rw [if_pos hok, if_pos (hF.1 hok)]
      · rw [if_neg hok, if_neg (fun h => hok (hF.2 h))]

/-- The document's own text. -/
theorem size_f (a : Int) (h0 : -9223372036854775808 ≤ a) (h1 : a ≤ 9223372036854775807) : stencilref1_size.f a = some ((a.natAbs : Nat) : Int) := by
  unfold stencilref1_size.f
  by_cases h : a < 0
  · rw [if_pos h, w64 (x := a + 1) (by omega) (by omega), w64 (x := -(a + 1)) (by omega) (by omega), u64 (x := -(a + 1)) (by omega) (by omega), u64 (by omega) (by omega)]
    congr 1; omega
  · rw [if_neg h, u64 (by omega) (by omega)]
    congr 1; omega

def ints (l : List UInt8) : List Int := l.map fun c => (c.toNat : Int)
theorem strOf_ints (l : List UInt8) : strOfNums (ints l) = ⟨l.toArray⟩ := by
  unfold strOfNums ints
  rw [List.map_map]
  congr 1
  have : (List.map ((fun x : Int => UInt8.ofNat x.toNat) ∘ fun c : UInt8 => (c.toNat : Int)) l) = l := by
    conv => rhs; rw [← List.map_id l]
    refine List.map_congr_left fun c _ => ?_
    simp
  first | rw [this] | skip

/-- The digits so far, and those to come. -/
theorem text_l0 (a : Int) : ∀ (x : Nat) (k : Nat) (out : List UInt8), x < 18446744073709551616 → x + 3 < k → (out.length + Lib.nDigits x ≤ 40 ∨ (x = 0 ∧ out.length ≤ 40)) →
    stencilref1_Text.l0 k a (x : Int) (ints out) = some (if a < 0 then ⟨(45 :: (if x = 0 ∧ out ≠ [] then out else Lib.decDigits x ++ out)).toArray⟩ else ⟨(if x = 0 ∧ out ≠ [] then out else Lib.decDigits x ++ out).toArray⟩) := by
  intro x
  induction x using Nat.strongRecOn with
  | _ x ih =>
    intro k out hx hk hl
    obtain ⟨k, rfl⟩ : ∃ m, k = m + 1 := ⟨k - 1, by omega⟩
    have hnd := Lib.nDigits_pos x
    have hlen : (ints out).length = out.length := by unfold ints; simp
    have hle : (ints out).length ≤ 40 := by omega
    have hdig : ∀ d : Nat, d < 10 → IntKind.u64.wrap (48 + Int.tmod (d : Int) 10) % 256 = ((UInt8.ofNat (48 + d)).toNat : Int) := by
      intro d hd
      rw [WNum.toNat_ofNat (by omega), show Int.tmod (d : Int) 10 = (d : Int) by rw [Int.tmod_eq_emod_of_nonneg (by omega)]; omega, u64 (by omega) (by omega)]
      omega
    have hmod : Int.tmod (x : Int) 10 = ((x % 10 : Nat) : Int) := by rw [Int.tmod_eq_emod_of_nonneg (by omega)]; omega
    have hdiv : IntKind.u64.wrap (Int.tdiv (x : Int) 10) = ((x / 10 : Nat) : Int) := by
      rw [Int.tdiv_eq_ediv_of_nonneg (by omega), u64 (by omega) (by omega)]; omega
    have hone : IntKind.u64.wrap (48 + Int.tmod (x : Int) 10) % 256 = ((UInt8.ofNat (48 + x % 10)).toNat : Int) := by
      have := hdig (x % 10) (by omega)
      rw [show Int.tmod ((x % 10 : Nat) : Int) 10 = Int.tmod (x : Int) 10 by rw [hmod, Int.tmod_eq_emod_of_nonneg (by omega)]; omega] at this
      exact this
    have hcons : [((UInt8.ofNat (48 + x % 10)).toNat : Int)] ++ ints out = ints (UInt8.ofNat (48 + x % 10) :: out) := rfl
    have fin : ∀ l : List UInt8, l.length ≤ 40 → (if a < 0 then (some [(45 : Int)]).bind fun y151 => (if y151.length + (ints l).length < 140737488355328 then some (strOfNums (y151 ++ ints l)) else none) else some (strOfNums (ints l))) = some (if a < 0 then (⟨(45 :: l).toArray⟩ : ByteArray) else ⟨l.toArray⟩) := by
      intro l hl
      have h0 : (ints l).length = l.length := by unfold ints; simp
      by_cases h : a < 0
      · rw [if_pos h, if_pos h, Option.bind_some, if_pos (by rw [h0]; simp; omega), show [(45 : Int)] ++ ints l = ints (45 :: l) from rfl, strOf_ints]
      · rw [if_neg h, if_neg h, strOf_ints]
    rw [stencilref1_Text.l0]
    by_cases h0 : (x : Int) > 0
    · rw [if_pos h0, Option.bind_some, hone, if_pos (by rw [hlen]; simp; omega), hdiv, hcons]
      by_cases h10 : x < 10
      · have hz : x / 10 = 0 := by omega
        have hw := ih (x / 10) (by omega) k (UInt8.ofNat (48 + x % 10) :: out) (by omega) (by omega) (.inr ⟨hz, by rw [List.length_cons]; omega⟩)
        rw [hw, hz]
        have e1 : ((0 : Nat) = 0 ∧ UInt8.ofNat (48 + x % 10) :: out ≠ []) := ⟨rfl, by simp⟩
        have e2 : ¬ (x = 0 ∧ out ≠ []) := by omega
        rw [if_pos e1, if_neg e2, Lib.decDigits, dif_pos h10, Nat.mod_eq_of_lt h10]
        rfl
      · have hb := Lib.nDigits_big h10
        have hw := ih (x / 10) (by omega) k (UInt8.ofNat (48 + x % 10) :: out) (by omega) (by omega) (.inl (by rw [List.length_cons]; omega))
        rw [hw]
        have e1 : ¬ (x / 10 = 0 ∧ UInt8.ofNat (48 + x % 10) :: out ≠ []) := by omega
        have e2 : ¬ (x = 0 ∧ out ≠ []) := by omega
        have e3 : Lib.decDigits x = Lib.decDigits (x / 10) ++ [UInt8.ofNat (48 + x % 10)] := by rw [Lib.decDigits, dif_neg h10]
        rw [if_neg e1, if_neg e2, e3, List.append_assoc]
        rfl
    · have hx0 : x = 0 := by omega
      subst hx0
      rw [if_neg h0]
      by_cases ho : out = []
      · subst ho
        rw [if_pos (by rfl), Option.bind_some, hone, if_pos (by rw [hlen]; simp), hdiv, hcons]
        have e2 : ¬ ((0 : Nat) = 0 ∧ ([] : List UInt8) ≠ []) := by simp
        rw [if_neg e2]
        obtain ⟨k, rfl⟩ : ∃ m, k = m + 1 := ⟨k - 1, by omega⟩
        rw [stencilref1_Text.l0]
        rw [if_neg (by simp), if_neg (by unfold ints; simp)]
        have := fin [UInt8.ofNat (48 + 0 % 10)] (by simp)
        rw [Lib.decDigits, dif_pos (by omega)]
        exact this
      · have e1 : ((0 : Nat) = 0 ∧ out ≠ []) := ⟨rfl, ho⟩
        have hne : ¬ ((ints out).length : Int) = 0 := by
          rw [hlen]; cases out with
          | nil => exact absurd rfl ho
          | cons => simp; omega
        rw [if_neg hne, if_pos e1]
        exact fin out (by omega)

theorem nDigits_le (u : Nat) (h : u < 18446744073709551616) : Lib.nDigits u ≤ 20 := by
  by_cases hz : u < 10
  · rw [Lib.nDigits_small hz]; omega
  · rcases Nat.lt_or_ge 20 (Lib.nDigits u) with hq | hq
    · exfalso
      have key : ∀ (k u : Nat), k < Lib.nDigits u → 10 ^ k ≤ u ∨ k = 0 := by
        intro k
        induction k with
        | zero => intro u _; exact .inr rfl
        | succ k ih =>
          intro u hk
          left
          by_cases h10 : u < 10
          · rw [Lib.nDigits_small h10] at hk; omega
          · rw [Lib.nDigits_big h10] at hk
            have := ih (u / 10) (by omega)
            rw [Nat.pow_succ]
            rcases this with h | h
            · omega
            · subst h; omega
      have := key 20 u hq
      have h20 : (10 : Nat) ^ 20 = 100000000000000000000 := by decide
      omega
    · exact hq

theorem text_f (a : Int) (h0 : -9223372036854775808 ≤ a) (h1 : a ≤ 9223372036854775807) (k : Nat) (hk : a.natAbs + 3 < k) : stencilref1_Text.f k a = some ⟨(Lib.itoa a).toArray⟩ := by
  unfold stencilref1_Text.f
  rw [size_f a h0 h1, Option.bind_some]
  have hd := nDigits_le a.natAbs (by omega)
  have := text_l0 a a.natAbs k [] (by omega) hk (.inl (by simp; omega))
  rw [show (ints []) = ([] : List Int) from rfl] at this
  rw [this]
  have e2 : ¬ (a.natAbs = 0 ∧ ([] : List UInt8) ≠ []) := by simp
  rw [if_neg e2, List.append_nil]
  unfold Lib.itoa
  by_cases h : a < 0
  · rw [if_pos h, if_pos h]
  · rw [if_neg h, if_neg h, show a.natAbs = a.toNat by omega]

theorem add_23 : whole_Add.f 2 3 = some (5, 0) := by decide +kernel
theorem shl_162 : whole_Shl.f 1 62 = some (4611686018427387904, 0) := by decide +kernel
theorem div_10 : whole_Div.f 1 0 = some (0, 101) := by decide +kernel
theorem mul_m23 : whole_Mul.f (-2) 3 = some (-6, 0) := by
  unfold whole_Mul.f
  rw [if_pos (by omega), if_pos (by omega)]
  rfl
theorem to_300 (k : Nat) : whole_To.f (k + 6) 300 8 false = some (44, 0) := by
  unfold whole_To.f
  rw [if_pos rfl]
  simp only [whole_To.j0, whole_To.j1, whole_To.j2]
  decide
theorem parse_12 : whole_Parse.f (⟨#[45, 49, 50]⟩ : ByteArray) = some (-12, 0) := by
  unfold whole_Parse.f
  rw [if_pos (by decide)]
  decide
theorem text_7 : ∃ r, whole_Text.f (-7) = some r ∧ (r.toList == ([45, 55] : List UInt8)) = true := by
  refine ⟨⟨(Lib.itoa (-7)).toArray⟩, ?_, ?_⟩
  · unfold whole_Text.f
    rw [if_pos (by omega)]
  · rw [ByteArray.toList_eq]
    have : Lib.itoa (-7) = [45, 55] := by
      unfold Lib.itoa
      rw [if_pos (by omega), show (-7 : Int).natAbs = 7 from rfl, Lib.decDigits, dif_pos (by omega)]
      rfl
    rw [this]
    rfl
theorem awake_f (k : Nat) (hk : 10 < k) : stencillaw1_awake.f k = some true := by
  obtain ⟨k, rfl⟩ : ∃ m, k = m + 6 := ⟨k - 6, by omega⟩
  obtain ⟨r, h7, h8⟩ := text_7
  unfold stencillaw1_awake.f
  rw [add_23, Option.bind_some, mul_m23, Option.bind_some, shl_162, Option.bind_some, to_300, Option.bind_some, parse_12, Option.bind_some, div_10, Option.bind_some]
  simp only [stencillaw1_fine.f, stencillaw0_Num.f, Option.bind_some, if_true, h7, h8]
  decide

theorem WholeTexts : stencillaw1_WholeTexts.Pure := by
  intro a s ha hs
  have hb : -9223372036854775808 ≤ a ∧ a ≤ 9223372036854775807 := by
    have h2 : IntKind.i64.min = -9223372036854775808 := rfl
    have := ha
    simp [Lit.wf, h2] at this
    exact this
  have hT : whole_Text.f a = some ⟨(Lib.itoa a).toArray⟩ := by unfold whole_Text.f; rw [if_pos hb]
  have hR : ∀ k, a.natAbs + s.size + 99 < k → stencilref1_Text.f k a = some ⟨(Lib.itoa a).toArray⟩ := fun k hk => text_f a hb.1 hb.2 k (by omega)
  have hP : whole_Parse.f s = some (WNum.parse s.data.toList) := by unfold whole_Parse.f; rw [if_pos hs]
  have hQ : ∀ k, a.natAbs + s.size + 99 < k → stencilref1_Parse.f k s = some (WNum.parse s.data.toList) := fun k hk => parse_f s hs k (by omega)
  have hB : whole_Parse.f ⟨(Lib.itoa a).toArray⟩ = some (a, 0) := by
    unfold whole_Parse.f
    have hl : (⟨(Lib.itoa a).toArray⟩ : ByteArray).size ≤ 21 := by
      have e : (⟨(Lib.itoa a).toArray⟩ : ByteArray).size = (Lib.itoa a).length := by simp [ByteArray.size]
      rw [e]
      unfold Lib.itoa
      have h1 := nDigits_le a.natAbs (by omega)
      have h2 := nDigits_le a.toNat (by omega)
      by_cases h : a < 0
      · rw [if_pos h, List.length_cons, Lib.decDigits_length]; omega
      · rw [if_neg h, Lib.decDigits_length]; omega
    rw [if_pos (by omega)]
    have e : (⟨(Lib.itoa a).toArray⟩ : ByteArray).data.toList = Lib.itoa a := by simp
    rw [e, WNum.parse_itoa a hb.1 hb.2]
  refine ⟨a.natAbs + s.size + 100, ?_⟩
  unfold stencillaw1_WholeTexts.f
  rw [hP, Option.bind_some, hQ _ (by omega), Option.bind_some, hT, Option.bind_some, hB, Option.bind_some, Option.bind_some, hR _ (by omega), Option.bind_some, if_pos rfl]
  have fine_same : ∀ x y, stencillaw1_fine.f x y x y = some true := fun x y => by
    unfold stencillaw1_fine.f stencillaw0_Num.f
    rw [if_pos rfl, Option.bind_some]
    simp
  rw [fine_same, Option.bind_some, if_pos rfl, fine_same, Option.bind_some, if_pos rfl, awake_f _ (by omega), Option.bind_some, if_pos rfl]
  by_cases h0 : (WNum.parse s.data.toList).2 = 0
  · rw [if_pos h0]
    have hi := WNum.itoa_parse h0
    have hr : -9223372036854775808 ≤ (WNum.parse s.data.toList).1 ∧ (WNum.parse s.data.toList).1 ≤ 9223372036854775807 := by
      unfold WNum.parse at h0 ⊢
      split
      · dsimp only
        split
        · split
          · constructor <;> (dsimp only; omega)
          · constructor <;> (dsimp only; omega)
        · split
          · constructor <;> (dsimp only; omega)
          · constructor <;> (dsimp only; omega)
      · constructor <;> (dsimp only; omega)
    unfold whole_Text.f
    rw [if_pos hr, Option.bind_some, hi, ByteArray.toList_eq]
    simp
  · rw [if_neg h0]
end Go.Proofs.YtimdoelphelbeaaDoor.Pure
