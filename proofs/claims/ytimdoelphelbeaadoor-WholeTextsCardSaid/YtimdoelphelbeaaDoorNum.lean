import Derived.Lib.AtoiAll
import Derived.Lib.ItoaNum
namespace Go.Proofs.WNum
open Go.Lib

/-- A digit's byte. -/
def isD (c : UInt8) : Bool := decide (48 ≤ c.toNat ∧ c.toNat ≤ 57)
/-- What digits spell behind a number. -/
def val (acc : Nat) (l : List UInt8) : Nat := l.foldl (fun a c => a * 10 + (c.toNat - 48)) acc

theorem val_nil (acc : Nat) : val acc [] = acc := rfl
theorem val_cons (acc : Nat) (c : UInt8) (r : List UInt8) : val acc (c :: r) = val (acc * 10 + (c.toNat - 48)) r := by unfold val; rw [List.foldl_cons]
theorem val_ge : ∀ (l : List UInt8) (acc : Nat), acc ≤ val acc l
  | [], acc => Nat.le_refl _
  | c :: r, acc => by
    have := val_ge r (acc * 10 + (c.toNat - 48))
    rw [val_cons]
    omega

theorem val_append : ∀ (l m : List UInt8) (acc : Nat), val acc (l ++ m) = val (val acc l) m
  | [], _, _ => rfl
  | c :: r, m, acc => by rw [List.cons_append, val_cons, val_cons]; exact val_append r m _

theorem parse_val : ∀ (l : List UInt8) (acc : Nat), (∀ c ∈ l, isD c = true) → acc < 18446744073709551616 →
    parseUint10 acc l = if val acc l < 18446744073709551616 then .ok (val acc l) else .range
  | [], acc, _, h => by rw [val_nil, if_pos h]; rfl
  | c :: r, acc, hd, h => by
    have hc : 48 ≤ c.toNat ∧ c.toNat ≤ 57 := by have := hd c (List.mem_cons_self); simpa [isD] using this
    rw [val_cons]
    unfold parseUint10
    rw [if_pos hc]
    have hg := val_ge r (acc * 10 + (c.toNat - 48))
    by_cases h1 : 1844674407370955162 ≤ acc
    · rw [if_pos h1, if_neg (by omega)]
    · rw [if_neg h1]
      by_cases h2 : 18446744073709551616 ≤ acc * 10 + (c.toNat - 48)
      · rw [if_pos h2, if_neg (by omega)]
      · rw [if_neg h2]
        exact parse_val r _ (fun x hx => hd x (List.mem_cons_of_mem _ hx)) (by omega)

theorem toNat_ofNat {n : Nat} (h : n < 256) : (UInt8.ofNat n).toNat = n := by
  rw [UInt8.toNat_ofNat']; omega

/-- The digits of what digits spell are those digits. -/
theorem dec_val : ∀ (n : Nat) (l : List UInt8), l.length = n → l ≠ [] → (∀ c ∈ l, isD c = true) → (l.head? ≠ some 48 ∨ l.length = 1) → decDigits (val 0 l) = l ∧ (l.head? ≠ some 48 → 0 < val 0 l) := by
  intro n
  induction n with
  | zero => intro l hl h0; exact absurd (List.eq_nil_of_length_eq_zero hl) h0
  | succ n ih =>
    intro l hl h0 hd hh
    obtain ⟨m, c, rfl⟩ : ∃ m c, l = m ++ [c] := ⟨l.dropLast, l.getLast h0, (List.dropLast_concat_getLast h0).symm⟩
    have hc : 48 ≤ c.toNat ∧ c.toNat ≤ 57 := by have := hd c (by simp); simpa [isD] using this
    rw [val_append]
    have hv : val (val 0 m) [c] = val 0 m * 10 + (c.toNat - 48) := rfl
    rw [hv]
    have hcc : UInt8.ofNat (48 + (c.toNat - 48)) = c := by
      rw [show 48 + (c.toNat - 48) = c.toNat by omega]; exact UInt8.ofNat_toNat
    by_cases hm : m = []
    · subst hm
      have : val 0 ([] : List UInt8) = 0 := rfl
      rw [this, Nat.zero_mul, Nat.zero_add]
      refine ⟨?_, fun h => ?_⟩
      · rw [decDigits, dif_pos (by omega), hcc]; rfl
      · by_cases e : c.toNat = 48
        · exact absurd (show ([] ++ [c]).head? = some (48 : UInt8) by
            have : c = (48 : UInt8) := UInt8.toNat_inj.mp (by rw [e]; rfl)
            rw [this]; rfl) h
        · omega
    · have hmh : m.head? ≠ some 48 := by
        rcases hh with h | h
        · intro e; apply h; cases m with
          | nil => exact absurd rfl hm
          | cons x y => simpa using e
        · simp at h; exact absurd h hm
      obtain ⟨i1, i2⟩ := ih m (by simpa using hl) hm (fun x hx => hd x (by simp [hx])) (.inl hmh)
      have i3 := i2 hmh
      refine ⟨?_, fun _ => by omega⟩
      rw [decDigits, dif_neg (by omega), show (val 0 m * 10 + (c.toNat - 48)) / 10 = val 0 m by omega, show (val 0 m * 10 + (c.toNat - 48)) % 10 = c.toNat - 48 by omega, i1, hcc]

/-- A number's digits are digits, and spell it. -/
theorem dec_digits : ∀ (u : Nat), (∀ c ∈ decDigits u, isD c = true) ∧ val 0 (decDigits u) = u ∧ decDigits u ≠ [] ∧ ((decDigits u).head? = some 48 → u = 0) := by
  intro u
  induction u using Nat.strongRecOn with
  | _ u ih =>
    by_cases h : u < 10
    · rw [decDigits, dif_pos h]
      refine ⟨?_, ?_, by simp, ?_⟩
      · intro c hc
        have : c = UInt8.ofNat (48 + u) := by simpa using hc
        subst this
        unfold isD
        rw [toNat_ofNat (by omega)]
        exact decide_eq_true (by omega)
      · rw [val_cons, val_nil, toNat_ofNat (by omega)]; omega
      · intro e
        have e2 : UInt8.ofNat (48 + u) = 48 := by simpa using e
        have e3 : (UInt8.ofNat (48 + u)).toNat = 48 := by rw [e2]; rfl
        rw [toNat_ofNat (by omega)] at e3
        omega
    · obtain ⟨a, b, c, d⟩ := ih (u / 10) (by omega)
      rw [decDigits, dif_neg h]
      refine ⟨?_, ?_, by simp, ?_⟩
      · intro x hx
        rcases List.mem_append.1 hx with hx | hx
        · exact a x hx
        · have : x = UInt8.ofNat (48 + u % 10) := by simpa using hx
          subst this
          unfold isD
          rw [toNat_ofNat (by omega)]
          exact decide_eq_true (by omega)
      · rw [val_append, b, val_cons, val_nil, toNat_ofNat (by omega)]; omega
      · intro e
        have : (decDigits (u / 10)).head? = some 48 := by
          cases hq : decDigits (u / 10) with
          | nil => exact absurd hq c
          | cons x y => rw [hq] at e; simpa using e
        have := d this
        omega

/-- What stands behind a '-'. -/
def body : List UInt8 → List UInt8
  | [] => []
  | c :: r => if c.toNat = 45 then r else c :: r
def neg (l : List UInt8) : Bool := decide (l.head?.map (·.toNat) = some 45)
/-- Are these a number's digits? -/
def okD (d : List UInt8) : Bool := d.all isD && !d.isEmpty && decide (d.head? ≠ some 48)
def formed (l : List UInt8) : Bool := decide (l = [48]) || okD (body l)

/-- The number of digits and sign, or 100 (over), 104 (form). -/
def parse (l : List UInt8) : Int × Int :=
  if formed l = true then
    let v := val 0 (body l)
    if neg l = true then (if v ≤ 9223372036854775808 then (-(v : Int), 0) else (0, 100))
    else (if v ≤ 9223372036854775807 then ((v : Int), 0) else (0, 100))
  else (0, 104)

theorem okD_parts {d : List UInt8} (h : okD d = true) : (∀ c ∈ d, isD c = true) ∧ d ≠ [] ∧ d.head? ≠ some 48 := by
  unfold okD at h
  simp only [Bool.and_eq_true, decide_eq_true_eq] at h
  obtain ⟨⟨a, b⟩, c⟩ := h
  refine ⟨fun x hx => List.all_eq_true.1 a x hx, fun e => by subst e; simp at b, c⟩

theorem formed_parts {l : List UInt8} (h : formed l = true) : (∀ c ∈ body l, isD c = true) ∧ body l ≠ [] ∧ ((body l).head? ≠ some 48 ∨ (body l).length = 1) ∧ (l = [48] ∨ (body l).head? ≠ some 48) := by
  unfold formed at h
  rw [Bool.or_eq_true] at h
  rcases h with h | h
  · have : l = [48] := by simpa using h
    subst this
    refine ⟨by decide, by decide, .inr rfl, .inl rfl⟩
  · obtain ⟨a, b, c⟩ := okD_parts h
    exact ⟨a, b, .inl c, .inr c⟩

theorem isD_ne {c : UInt8} (h : isD c = true) : c.toNat ≠ 43 ∧ c.toNat ≠ 45 := by
  have : 48 ≤ c.toNat ∧ c.toNat ≤ 57 := by simpa [isD] using h
  omega

/-- strconv.Atoi of what is formed. -/
theorem atoi_formed {l : List UInt8} (h : formed l = true) :
    atoiAll l = if (parse l).2 = 0 then .ok (parse l).1 else .range := by
  obtain ⟨a, b, c, -⟩ := formed_parts h
  unfold parse
  rw [if_pos h]
  cases l with
  | nil => exact absurd rfl b
  | cons x r =>
    unfold atoiAll
    dsimp only
    by_cases hx : x.toNat = 45
    · have hb : body (x :: r) = r := by simp [body, hx]
      have hn : neg (x :: r) = true := by simp [neg, hx]
      rw [hb] at a b c ⊢
      rw [hn, if_pos (Or.inr hx), if_pos rfl]
      unfold parseMag
      rw [if_neg b, parse_val r 0 a (by omega)]
      by_cases hv : val 0 r < 18446744073709551616
      · rw [if_pos hv]
        dsimp only
        rw [if_neg (by omega)]
        by_cases hw : val 0 r ≤ 9223372036854775808
        · rw [if_neg (by omega), if_pos hx, if_pos hw, if_pos rfl]
        · rw [if_pos (by omega), if_neg hw, if_neg (by decide)]
      · rw [if_neg hv]
        have hw : ¬ val 0 r ≤ 9223372036854775808 := by omega
        rw [if_neg hw, if_neg (by decide)]
    · have hb : body (x :: r) = x :: r := by simp [body, hx]
      have hn : neg (x :: r) = false := by simp [neg, hx]
      rw [hb] at a b c ⊢
      have h43 := isD_ne (a x (List.mem_cons_self))
      rw [hn, if_neg (by omega)]
      have hff : ¬ (false = true) := by decide
      rw [if_neg hff]
      unfold parseMag
      rw [if_neg b, parse_val (x :: r) 0 a (by omega)]
      by_cases hw : val 0 (x :: r) ≤ 9223372036854775807
      · have hv : val 0 (x :: r) < 18446744073709551616 := by omega
        rw [if_pos hv, if_pos hw, if_pos rfl]
        dsimp only
        rw [if_neg (by omega), if_neg (by omega), if_neg hx]
      · have h100 : ¬ (100 : Int) = 0 := by decide
        rw [if_neg hw]
        dsimp only
        rw [if_neg h100]
        by_cases hv : val 0 (x :: r) < 18446744073709551616
        · rw [if_pos hv]
          dsimp only
          rw [if_pos (by omega)]
        · rw [if_neg hv]

/-- There and back: the text of a number is formed, and it is that number. -/
theorem parse_itoa (a : Int) (h0 : -9223372036854775808 ≤ a) (h1 : a ≤ 9223372036854775807) : parse (itoa a) = (a, 0) := by
  unfold itoa
  by_cases h : a < 0
  · rw [if_pos h]
    obtain ⟨p, q, r, s⟩ := dec_digits a.natAbs
    have hb : body (45 :: decDigits a.natAbs) = decDigits a.natAbs := by simp [body]
    have hf : formed (45 :: decDigits a.natAbs) = true := by
      unfold formed
      rw [Bool.or_eq_true]
      right
      rw [hb]
      unfold okD
      simp only [Bool.and_eq_true, decide_eq_true_eq]
      refine ⟨⟨List.all_eq_true.2 p, ?_⟩, fun e => by have := s e; omega⟩
      cases hq : decDigits a.natAbs with
      | nil => exact absurd hq r
      | cons => rfl
    unfold parse
    rw [if_pos hf, hb, q]
    dsimp only
    rw [if_pos (by simp [neg]), if_pos (by omega), show (-((a.natAbs : Nat) : Int)) = a by omega]
  · rw [if_neg h]
    obtain ⟨p, q, r, s⟩ := dec_digits a.toNat
    have hne : ∀ x y, decDigits a.toNat = x :: y → x.toNat ≠ 45 := fun x y e => (isD_ne (p x (by rw [e]; exact List.mem_cons_self))).2
    have hb : body (decDigits a.toNat) = decDigits a.toNat := by
      cases hq : decDigits a.toNat with
      | nil => rfl
      | cons x y => simp [body, hne x y hq]
    have hn : neg (decDigits a.toNat) = false := by
      cases hq : decDigits a.toNat with
      | nil => rfl
      | cons x y => simp [neg, hne x y hq]
    have hf : formed (decDigits a.toNat) = true := by
      unfold formed
      rw [Bool.or_eq_true]
      by_cases hz : a.toNat = 0
      · left; rw [hz, decDigits, dif_pos (by omega)]; decide
      · right
        rw [hb]
        unfold okD
        simp only [Bool.and_eq_true, decide_eq_true_eq]
        refine ⟨⟨List.all_eq_true.2 p, ?_⟩, fun e => by have := s e; omega⟩
        cases hq : decDigits a.toNat with
        | nil => exact absurd hq r
        | cons => rfl
    unfold parse
    rw [if_pos hf, hb, q, hn]
    dsimp only
    rw [if_neg (by decide), if_pos (by omega), show ((a.toNat : Nat) : Int) = a by omega]

/-- One form: what is a number is that number's text. -/
theorem itoa_parse {l : List UInt8} (h : (parse l).2 = 0) : itoa (parse l).1 = l := by
  by_cases hf : formed l = true
  · obtain ⟨a, b, c, e⟩ := formed_parts hf
    obtain ⟨d1, d2⟩ := dec_val _ (body l) rfl b a c
    unfold parse at h ⊢
    rw [if_pos hf] at h ⊢
    dsimp only at h ⊢
    by_cases hn : neg l = true
    · rw [if_pos hn] at h ⊢
      by_cases hv : val 0 (body l) ≤ 9223372036854775808
      · rw [if_pos hv]
        dsimp only
        have hl : ∃ r, l = 45 :: r := by
          cases l with
          | nil => simp [neg] at hn
          | cons x r =>
            have : x.toNat = 45 := by simpa [neg] using hn
            exact ⟨r, by rw [show x = 45 from UInt8.toNat_inj.mp (by rw [this]; rfl)]⟩
        obtain ⟨r, rfl⟩ := hl
        have hb : body (45 :: r) = r := by simp [body]
        rw [hb] at d1 d2 b e ⊢
        have hpos : 0 < val 0 r := d2 (by rcases e with e | e; · cases e
                                          · exact e)
        unfold itoa
        rw [if_pos (by omega), show (-((val 0 r : Nat) : Int)).natAbs = val 0 r by omega, d1]
      · rw [if_neg hv] at h; exact absurd h (by decide)
    · have hn : neg l = false := by simpa using hn
      rw [hn, if_neg (by decide)] at h ⊢
      by_cases hv : val 0 (body l) ≤ 9223372036854775807
      · rw [if_pos hv]
        dsimp only
        have hb : body l = l := by
          cases l with
          | nil => rfl
          | cons x r =>
            have : ¬ x.toNat = 45 := by simpa [neg] using hn
            simp [body, this]
        rw [hb] at d1 ⊢
        unfold itoa
        rw [if_neg (by omega), show ((val 0 l : Nat) : Int).toNat = val 0 l by omega, d1]
      · rw [if_neg hv] at h; exact absurd h (by decide)
  · unfold parse at h
    rw [if_neg hf] at h
    exact absurd h (by decide)

theorem parse_err (l : List UInt8) (h : (parse l).2 ≠ 0) : (parse l).1 = 0 := by
  unfold parse at h ⊢
  split
  · rename_i hf
    rw [if_pos hf] at h
    dsimp only at h ⊢
    split
    · rename_i hn
      rw [if_pos hn] at h
      split
      · rename_i hv; rw [if_pos hv] at h; exact absurd rfl h
      · rfl
    · rename_i hn
      rw [if_neg hn] at h
      split
      · rename_i hv; rw [if_pos hv] at h; exact absurd rfl h
      · rfl
  · rfl
end Go.Proofs.WNum
