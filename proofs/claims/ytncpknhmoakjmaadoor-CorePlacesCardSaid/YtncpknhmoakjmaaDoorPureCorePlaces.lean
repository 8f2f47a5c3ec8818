/-
  CorePlaces, the pure law: of a text that asks a place below so many CWiths the printed functions of the law answer true, at every place and every number.
-/
import Derived.Test.YtncpknhmoakjmaaDoorPCorePlacesx10
namespace Go.Proofs.YtncpknhmoakjmaaDoor.Pure
open Go.RowKit Go.Proofs.YtncpknhmoakjmaaDoor.PCorePlaces Go.Proofs.YtncpknhmoakjmaaDoorW.PrintWords Go.Proofs.YtncpknhmoakjmaaDoorW.PrintLast

theorem wr (n : Int) (h : 0 ≤ n ∧ n < 1000000) : wrap64 n = n := by unfold wrap64; omega
def E0 : S35 := ⟨1, 0, ⟨#[]⟩, []⟩
def EV (a : Int) : S35 := ⟨6, a, ⟨#[]⟩, []⟩
def tx (a : Int) : S41 := ⟨1, ⟨#[]⟩, [], [⟨⟨#[]⟩, true, EV a⟩], [], [], []⟩
def wt (c : S41) : S41 := ⟨5, ⟨#[]⟩, [], [], [E0], [c], []⟩
def chain (a : Int) : Nat → S41
  | 0 => tx a
  | n + 1 => wt (chain a n)
theorem nodes_flat (k : Nat) (e : S35) (c m : Int) (h : e.f3 = []) : shape_nodes.f (k + 2) [e] c m = some (wrap64 (c + 1)) := by
  have h1 : shape_nodes.f (k + 2) [e] c m = if (0 : Int) < (e.f3.length : Int) then (if wrap64 (c + 1) > m then (some (wrap64 (c + 1))) else (if 0 < (([e] : List S35).length : Int) then (if (0 : Int) ≤ 0 then (if 0 < (e.f3.length : Int) then ((shape_nodes.f k [rd_T35 (e.f3) 0] (wrap64 (c + 1)) m).bind fun t105 => (shape_nodes.l0 k [e] t105 m (e.f3.length : Int) (wrap64 (0 + 1)))) else (none)) else (none)) else (none))) else some (wrap64 (c + 1)) := rfl
  rw [h1, h]
  rfl
theorem pieces_wt (k : Nat) (c : S41) : shape_Pieces.f (k + 2) [wt c] 4096 = some 3 := by
  show addAll (k + 2) 4096 [E0] (wrap64 (wrap64 (wrap64 (1 + ((0 : Nat) : Int)) + ((0 : Nat) : Int)) + ((1 : Nat) : Int))) = _
  rw [wr (1 + ((0 : Nat) : Int)) (by decide), wr (1 + ((0 : Nat) : Int) + ((0 : Nat) : Int)) (by decide), wr _ (by decide)]
  unfold addAll addF
  rw [if_pos (by decide), nodes_flat _ _ _ _ rfl, wr _ (by decide)]
  rfl
theorem pieces_tx (k : Nat) (a : Int) : shape_Pieces.f (k + 2) [tx a] 4096 = some 3 := by
  show addAll (k + 2) 4096 [EV a] (wrap64 (wrap64 (wrap64 (1 + ((0 : Nat) : Int)) + ((1 : Nat) : Int)) + ((0 : Nat) : Int))) = _
  rw [wr (1 + ((0 : Nat) : Int)) (by decide), wr (1 + ((0 : Nat) : Int) + ((1 : Nat) : Int)) (by decide), wr _ (by decide)]
  unfold addAll addF
  rw [if_pos (by decide), nodes_flat _ _ _ _ rfl, wr _ (by decide)]
  rfl
theorem may_wt (k : Nat) (c : S41) (s : Int) : core_exprs_may.f (k + 1) [wt c] s = some true := by kernel_rfl
theorem may_tx (k : Nat) (a s : Int) : core_exprs_may.f (k + 1) [tx a] s = some true := by kernel_rfl
theorem placed_wt (k : Nat) (c : S41) (s : Int) : core_exprs_placed.f (k + 3) [wt c] s = some true := rfl
theorem placed_ev (k : Nat) (a s : Int) : core_placed.f (k + 3) [EV a] s = some (decide (0 ≤ a) && decide (a < s)) := by
  have h1 : core_placed.f (k + 3) [EV a] s = if a < 0 then some false else core_placed.j0 (k + 2) [EV a] s (decide (a ≥ s)) := rfl
  rw [h1]
  by_cases h : a < 0
  · rw [if_pos h]; have : ¬ 0 ≤ a := by omega
    simp [this]
  · rw [if_neg h]
    have h0 : 0 ≤ a := by omega
    by_cases h2 : a ≥ s
    · have h3 : ¬ a < s := by omega
      rw [show decide (a ≥ s) = true from decide_eq_true h2]
      simp [h3]; rfl
    · have h3 : a < s := by omega
      rw [show decide (a ≥ s) = false from decide_eq_false h2]
      simp [h0, h3]; rfl
theorem placed_tx (k : Nat) (a s : Int) : core_exprs_placed.f (k + 3) [tx a] s = some (decide (0 ≤ a) && decide (a < s)) := by
  show exprsF (core_placed.f (k + 3)) [tx a] s = _
  show andO (some true) (andO ((core_placed.f (k + 3) [EV a] s).bind fun b => if b = true then some true else some false) (some true)) = _
  rw [placed_ev]
  cases (decide (0 ≤ a) && decide (a < s)) <;> rfl
theorem formed_wt (k : Nat) (c : S41) : core_formed.f k [wt c] = some true := by kernel_rfl
theorem formed_tx (k : Nat) (a : Int) : core_formed.f k [tx a] = some true := by kernel_rfl
theorem lst_eq {a b c d a' b' : Int} (h1 : a = a') (h2 : b = b') : (⟨a, b, c, d⟩ : LSt) = ⟨a', b', c, d⟩ := by subst h1 h2; rfl
theorem behind_wt (st : Int) (c : S41) (h : 0 ≤ st ∧ st < 100) : behindF ⟨st, 0, 0⟩ (wt c) = some ⟨st + 1, 0, 0⟩ := by
  have h1 : behindF ⟨st, 0, 0⟩ (wt c) = some ⟨wrap64 (st + 1), 0, 0⟩ := rfl
  rw [h1, show wrap64 (st + 1) = st + 1 from by unfold wrap64; omega]
theorem behind_tx (st : Int) (a : Int) : behindF ⟨st, 0, 0⟩ (tx a) = some ⟨st, 0, 0⟩ := rfl
theorem fault_wt (k : Nat) (c : S41) (st p : Int) (h : st + 1 ≤ 64) (hp : p ≤ 4096) : faultOf (k + 3) (wt c) ⟨st, 0, 0⟩ ⟨st + 1, 0, 0⟩ p = some none := by
  unfold faultOf
  rw [if_neg (by omega), if_neg (by simp; omega), formed_wt, Option.bind_some, if_pos rfl]
  rw [show k + 3 = (k + 2) + 1 from rfl, may_wt, Option.bind_some, if_pos rfl]
  rw [show k + 2 + 1 = k + 3 from rfl, placed_wt, Option.bind_some, if_pos rfl]
theorem fault_tx (k : Nat) (a st p : Int) (h : st ≤ 64) (hp : p ≤ 4096) : faultOf (k + 3) (tx a) ⟨st, 0, 0⟩ ⟨st, 0, 0⟩ p = some (if 0 ≤ a ∧ a < st then none else some 1502) := by
  unfold faultOf
  rw [if_neg (by omega), if_neg (by simp; omega), formed_tx, Option.bind_some, if_pos rfl]
  rw [show k + 3 = (k + 2) + 1 from rfl, may_tx, Option.bind_some, if_pos rfl]
  rw [show k + 2 + 1 = k + 3 from rfl, placed_tx, Option.bind_some]
  by_cases h1 : 0 ≤ a <;> by_cases h2 : a < st <;> simp [h1, h2]
def chainR (a st cnt pcs : Int) (n : Nat) : Bool × LSt :=
  if 0 ≤ a ∧ a < st + n then (true, ⟨cnt + n + 1, pcs + 3 * (n + 1), 0, 0⟩) else (false, ⟨cnt + n + 1, pcs + 3 * (n + 1), 0, 1502⟩)
theorem nodes_one (k : Nat) (c : S41) (a : Ar) (s : LSt) : nodesF (k + 1) [c] a s = (oneNode k (nodesF k) c a s).bind fun z => some z := by
  show (oneNode k (nodesF k) c a s).bind (fun z => if z.1 = true then some (true, z.2) else some (false, z.2)) = _
  congr 1
  funext z
  cases z with
  | mk b s => cases b <;> rfl
theorem nodes_nil (k : Nat) (a : Ar) (s : LSt) : nodesF (k + 1) [] a s = some (true, s) := rfl
theorem chain_nodes (a : Int) : ∀ (n k : Nat) (st cnt pcs : Int), 0 ≤ st → st + n ≤ 64 → 0 ≤ cnt → cnt + n ≤ 100000 → 0 ≤ pcs → pcs + 3 * (n + 1) ≤ 4096 →
    nodesF (k + n + 5) [chain a n] ⟨st, 0, 0⟩ ⟨cnt, pcs, 0, 0⟩ = some (chainR a st cnt pcs n)
  | 0, k, st, cnt, pcs, h1, h2, h3, h4, h5, h6 => by
    rw [show k + 0 + 5 = (k + 4) + 1 from rfl, nodes_one]
    show (oneNode (k + 4) (nodesF (k + 4)) (tx a) ⟨st, 0, 0⟩ ⟨cnt, pcs, 0, 0⟩).bind _ = _
    unfold oneNode
    rw [behind_tx, Option.bind_some, show k + 4 = (k + 2) + 2 from rfl, pieces_tx, Option.bind_some]
    dsimp only
    rw [show k + 2 + 2 = (k + 1) + 3 from rfl, fault_tx _ _ _ _ (by simpa using h2) (by rw [wr _ (by omega)]; simpa using h6), Option.bind_some]
    rw [wr (cnt + 1) (by omega), wr (pcs + 3) (by omega)]
    unfold chainR
    by_cases hc : 0 ≤ a ∧ a < st
    · rw [if_pos hc, if_pos (show 0 ≤ a ∧ a < st + ((0 : Nat) : Int) from by simpa using hc)]
      show some (true, (⟨cnt + 1, pcs + 3, 0, 0⟩ : LSt)) = _
      rw [lst_eq (show cnt + 1 = cnt + ((0 : Nat) : Int) + 1 from by omega) (show pcs + 3 = pcs + 3 * (((0 : Nat) : Int) + 1) from by omega)]
    · rw [if_neg hc, if_neg (show ¬ (0 ≤ a ∧ a < st + ((0 : Nat) : Int)) from by simpa using hc)]
      show some (false, (⟨cnt + 1, pcs + 3, 0, 1502⟩ : LSt)) = _
      rw [lst_eq (show cnt + 1 = cnt + ((0 : Nat) : Int) + 1 from by omega) (show pcs + 3 = pcs + 3 * (((0 : Nat) : Int) + 1) from by omega)]
  | n + 1, k, st, cnt, pcs, h1, h2, h3, h4, h5, h6 => by
    rw [show k + (n + 1) + 5 = (k + n + 5) + 1 from by omega, nodes_one]
    show (oneNode (k + n + 5) (nodesF (k + n + 5)) (wt (chain a n)) ⟨st, 0, 0⟩ ⟨cnt, pcs, 0, 0⟩).bind _ = _
    unfold oneNode
    rw [behind_wt _ _ (by omega), Option.bind_some]
    rw [show shape_Pieces.f (k + n + 5) [wt (chain a n)] 4096 = some 3 from pieces_wt (k + n + 3) _, Option.bind_some]
    dsimp only
    rw [show faultOf (k + n + 5) (wt (chain a n)) ⟨st, 0, 0⟩ ⟨st + 1, 0, 0⟩ (wrap64 (pcs + 3)) = some none from fault_wt (k + n + 2) _ _ _ (by omega) (by rw [wr _ (by omega)]; omega), Option.bind_some]
    rw [wr (cnt + 1) (by omega), wr (pcs + 3) (by omega)]
    rw [if_pos (show codeOf none 0 = 0 from rfl)]
    show (((nodesF (k + n + 5) [chain a n] ⟨st + 1, 0, 0⟩ ⟨cnt + 1, pcs + 3, 0, 0⟩).bind fun z => if z.1 = true then nodesF (k + n + 5) [] ⟨st + 1, 0, 0⟩ z.2 else some (false, z.2)).bind fun z => some z) = _
    rw [chain_nodes a n k (st + 1) (cnt + 1) (pcs + 3) (by omega) (by omega) (by omega) (by omega) (by omega) (by omega), Option.bind_some]
    unfold chainR
    by_cases hc : 0 ≤ a ∧ a < st + 1 + n
    · rw [if_pos hc, if_pos (show 0 ≤ a ∧ a < st + ((n + 1 : Nat) : Int) from by omega)]
      show some (true, (⟨cnt + 1 + n + 1, pcs + 3 + 3 * (n + 1), 0, 0⟩ : LSt)) = _
      rw [lst_eq (show cnt + 1 + n + 1 = cnt + ((n + 1 : Nat) : Int) + 1 from by omega) (show pcs + 3 + 3 * ((n : Int) + 1) = pcs + 3 * (((n + 1 : Nat) : Int) + 1) from by omega)]
    · rw [if_neg hc, if_neg (show ¬ (0 ≤ a ∧ a < st + ((n + 1 : Nat) : Int)) from by omega)]
      show some (false, (⟨cnt + 1 + n + 1, pcs + 3 + 3 * (n + 1), 0, 1502⟩ : LSt)) = _
      rw [lst_eq (show cnt + 1 + n + 1 = cnt + ((n + 1 : Nat) : Int) + 1 from by omega) (show pcs + 3 + 3 * ((n : Int) + 1) = pcs + 3 * (((n + 1 : Nat) : Int) + 1) from by omega)]
theorem look_chain (a : Int) (n k : Nat) (hn : n ≤ 63) : lookedF (k + n + 5) [chain a n] = some (if 0 ≤ a ∧ a ≤ n then ⟨n + 1, 3 * (n + 1), 0, 0⟩ else ⟨0, 0, 0, 1502⟩) := by
  unfold lookedF
  rw [chain_nodes a n k 1 0 0 (by omega) (by omega) (by omega) (by omega) (by omega) (by omega), Option.bind_some]
  unfold chainR
  by_cases h : 0 ≤ a ∧ a ≤ n
  · rw [if_pos h, if_pos (show 0 ≤ a ∧ a < 1 + (n : Int) from by omega)]
    show some (⟨0 + n + 1, 0 + 3 * (n + 1), 0, 0⟩ : LSt) = _
    rw [lst_eq (show (0 : Int) + n + 1 = n + 1 from by omega) (show (0 : Int) + 3 * (n + 1) = 3 * (n + 1) from by omega)]
  · rw [if_neg h, if_neg (show ¬ (0 ≤ a ∧ a < 1 + (n : Int)) from by omega)]
    rfl
theorem awake_true : stencillaw15_awake.f 30 = some true := by kernel_rfl
theorem and63 (a : Int) : 0 ≤ Go.bits .and .i64 a 63 ∧ Go.bits .and .i64 a 63 ≤ 63 := by
  have h : (BitVec.ofInt 64 a &&& BitVec.ofInt 64 63).toNat ≤ 63 := by
    rw [BitVec.toNat_and]
    exact Nat.le_trans Nat.and_le_right (by decide)
  have e : Go.bits .and .i64 a 63 = IntKind.i64.wrap (((BitVec.ofInt 64 a &&& BitVec.ofInt 64 63).toNat : Nat) : Int) := rfl
  rw [e, i64w]
  generalize (BitVec.ofInt 64 a &&& BitVec.ofInt 64 63).toNat = n at h
  unfold wrap64
  omega
theorem check_chain (a : Int) (n k : Nat) (hn : n ≤ 63) : core_Check.f (k + n + 5) [chain a n] = some (if 0 ≤ a ∧ a ≤ n then 0 else 1502) := by
  unfold core_Check.f
  rw [look_chain a n k hn, Option.bind_some]
  by_cases h : 0 ≤ a ∧ a ≤ n
  · rw [if_pos h, if_pos h]
  · rw [if_neg h, if_neg h]
theorem count_chain (a : Int) (n k : Nat) (hn : n ≤ 63) : core_Count.f (k + n + 5) [chain a n] = some (if 0 ≤ a ∧ a ≤ n then (n : Int) + 1 else 0) := by
  unfold core_Count.f
  rw [look_chain a n k hn, Option.bind_some]
  by_cases h : 0 ≤ a ∧ a ≤ n
  · rw [if_pos h, if_pos h]
  · rw [if_neg h, if_neg h]
theorem j1_true (k : Nat) (x5 : Int) (x6 : List S41) : stencillaw15_CorePlaces.j1 (k + 1) x5 x6 0 true = (core_Count.f k x6).bind fun t149 => some (t149 == wrap64 (x5 + 1)) := rfl
theorem j1_false (k : Nat) (x5 : Int) (x6 : List S41) : stencillaw15_CorePlaces.j1 (k + 1) x5 x6 1502 false = (core_Count.f k x6).bind fun t151 => some (t151 == 0) := rfl
theorem l0_succ (k : Nat) (x0 x5 : Int) (x6 : List S41) (x7 : Int) : stencillaw15_CorePlaces.l0 (k + 1) x0 x5 x6 x7 = if x7 < x5 then (stencillaw15_CorePlaces.l0 k x0 x5 [⟨5, ⟨#[]⟩, [], [], [E0], x6, []⟩] (wrap64 (x7 + 1))) else ((core_Check.f k x6).bind fun t146 => (if x5 ≥ 64 then ((stencillaw0_Num.f t146).bind fun t147 => (some (t147 == 1503))) else (if x0 ≥ 0 then (stencillaw15_CorePlaces.j1 k x5 x6 t146 (decide (x0 ≤ x5))) else (stencillaw15_CorePlaces.j1 k x5 x6 t146 false)))) := rfl
theorem l0_end (a : Int) (n K : Nat) (hn : n ≤ 63) : stencillaw15_CorePlaces.l0 (K + n + 7) a n [chain a n] n = some true := by
  rw [show K + n + 7 = (K + n + 6) + 1 from rfl, l0_succ]
  rw [if_neg (by omega), show K + n + 6 = (K + 1) + n + 5 from by omega, check_chain a n (K + 1) hn, Option.bind_some, if_neg (by omega), show (K + 1) + n + 5 = (K + n + 5) + 1 from by omega]
  by_cases h0 : a ≥ 0
  · rw [if_pos h0]
    by_cases h1 : a ≤ n
    · rw [decide_eq_true h1, if_pos (show 0 ≤ a ∧ a ≤ (n : Int) from ⟨h0, h1⟩), j1_true, count_chain a n K hn, Option.bind_some, if_pos (show 0 ≤ a ∧ a ≤ (n : Int) from ⟨h0, h1⟩), wr _ (by omega)]
      simp
    · rw [decide_eq_false h1, if_neg (show ¬ (0 ≤ a ∧ a ≤ (n : Int)) from fun h => h1 h.2), j1_false, count_chain a n K hn, Option.bind_some, if_neg (show ¬ (0 ≤ a ∧ a ≤ (n : Int)) from fun h => h1 h.2)]
      rfl
  · rw [if_neg h0, if_neg (show ¬ (0 ≤ a ∧ a ≤ (n : Int)) from fun h => h0 h.1), j1_false, count_chain a n K hn, Option.bind_some, if_neg (show ¬ (0 ≤ a ∧ a ≤ (n : Int)) from fun h => h0 h.1)]
    rfl
theorem l0_at (a : Int) (n K : Nat) (hn : n ≤ 63) : ∀ (d i : Nat), i + d = n → stencillaw15_CorePlaces.l0 (K + n + 7 + d) a n [chain a i] i = some true
  | 0, i, h => by
    obtain rfl : i = n := by omega
    exact l0_end a i K hn
  | d + 1, i, h => by
    rw [show K + n + 7 + (d + 1) = (K + n + 7 + d) + 1 from by omega, l0_succ, if_pos (by omega)]
    show stencillaw15_CorePlaces.l0 (K + n + 7 + d) a n [chain a (i + 1)] (wrap64 ((i : Int) + 1)) = some true
    rw [wr _ (by omega), show ((i : Int) + 1) = ((i + 1 : Nat) : Int) from rfl]
    exact l0_at a n K hn d (i + 1) (by omega)
theorem places_true (a0 a1 : Int) : ∃ k, stencillaw15_CorePlaces.f k a0 a1 = some true := by
  obtain ⟨h1, h2⟩ := and63 a1
  obtain ⟨n, hn⟩ := Int.eq_ofNat_of_zero_le h1
  have hn63 : n ≤ 63 := by omega
  refine ⟨30 + n + 7 + n, ?_⟩
  unfold stencillaw15_CorePlaces.f
  rw [show stencillaw15_awake.f (30 + n + 7 + n) = some true from at_rounds stencillaw15_awake.mono (by omega) awake_true, Option.bind_some, if_pos rfl, hn]
  exact l0_at a0 n 30 hn63 n 0 (by omega)
theorem CorePlaces : stencillaw15_CorePlaces.Pure := fun a0 a1 _ _ => places_true a0 a1

end Go.Proofs.YtncpknhmoakjmaaDoor.Pure
