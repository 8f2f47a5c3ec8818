-- Written by wip/tools/print2.py (a program of this session's, over the kit's print) out of the translation. Not trusted: Lean checks it.
import Derived.Test.YtncpknhmoakjmaaDoorPCorePlacesx0
import Derived.Test.YtncpknhmoakjmaaDoorPCorePlacesx2
import Derived.Test.YtncpknhmoakjmaaDoorPCorePlacesx7
import Derived.Test.YtncpknhmoakjmaaDoorPCorePlacesx8
namespace Go.Proofs.YtncpknhmoakjmaaDoor.PCorePlaces
open Go.RowKit Go.Proofs.YtncpknhmoakjmaaDoorW.PrintWords Go.Proofs.YtncpknhmoakjmaaDoorW.PrintLast Go.Proofs.YtncpknhmoakjmaaDoorW.PrintMore
attribute [local go_sem] max2_int min2_int max_two min_two max_three min_three max_four min_four   -- for this text's walks alone
set_option linter.unusedVariables false
set_option linter.unusedSimpArgs false

/-! ### stencillaw0_Num: function 9 -/
def stencillaw0_Num.f (a0 : Int) : Option (Int) := some a0
set_option maxHeartbeats 8000000 in
set_option maxRecDepth 100000 in
theorem stencillaw0_Num.calls (a0 : Int) (r : Int) (w : World) (h : stencillaw0_Num.f a0 = some r) :
    Calls Tryd.prog 9 #[.int .i64 a0] w fun e w' => e = .returned (.int .i64 r) ∧ Drawn0 w w' := by
  have H : (some a0) = some r := h
  clear h
  obtain rfl := Option.some.inj H
  go_enter Tryd.func9, Tryd.ntmps9
  go_wp2
  go_ret
  exact ⟨by first | rfl | (simp; done) | (simp [*]; done), by repeat (first | exact Drawn0.refl _ | apply Drawn0.step)⟩

/-! ### core_Count: function 10: not printed -/
def core_Count.f (k : Nat) (l0 : List S41) : Option Int := (lookedF k l0).bind fun z => some z.cnt
set_option maxHeartbeats 4000000 in
set_option maxRecDepth 1000000 in
theorem core_Count.calls (k : Nat) (A0 : Option Addr) (c0 : Nat) (l0 : List S41) (r : Int) (w : World) (hL : LaidW w) (hr0 : Kd.C k41 w A0 l0.length l0) (hc0 : l0.length ≤ c0) (h : core_Count.f k l0 = some r) :
    Calls Tryd.prog 10 #[.slice A0 l0.length c0] w fun e w' => e = .returned (.int .i64 r) ∧ Below w.heap.size w w' := by
  obtain ⟨z, hz, hr⟩ := Option.bind_eq_some_iff.mp (show (lookedF k l0).bind _ = some r from h)
  obtain rfl : z.cnt = r := Option.some.inj hr
  have HZ := Aside0.mk hz
  have HL := Aside0.mk hL
  have HR := Aside0.mk hr0
  have HC := Aside0.mk hc0
  clear h hz hr hL hr0 hc0
  have hf49 : ∀ w : World, (Instr.field 49 (.agg #[.int .i64 z.cnt, .int .i64 z.pcs, .int .i64 z.most, .int .i64 z.code]) 0).run Tryd.prog w = .ok (.int .i64 z.cnt) w := fun w => by kernel_rfl
  go_enter Tryd.func10, Tryd.ntmps10
  go_wp2_with (go_at_call 16; (refine (core_looked.calls k A0 c0 l0 z _ HL.out HR.out HC.out HZ.out).mono ?_); rintro e w1 ⟨rfl, hb1⟩)
  go_ret
  exact ⟨rfl, hb1⟩
theorem core_Count.mono (l : List S41) (k : Nat) : LeO (core_Count.f k l) (core_Count.f (k + 1) l) := LeO.bind (lookedF_mono k _) (fun _ => LeO.refl _)

/-! ### core_Statics: function 11: not printed -/
/-- The walk's own variables: number, out, walk. -/
structure Sst (w0 : World) (B bn bo bf : Nat) (z : Int × List Int) (wx : World) : Prop where
  nb : Box wx bn (.int .i64 z.1)
  ob : ∃ v, Box wx bo v ∧ wx.ownsRow B 3 1 v z.2.length (z.2.map (Value.int .i64))
  fb : Box wx bf (.func (.func 17) #[] #[.pointer (some ⟨bn, 0, none⟩), .pointer (some ⟨bo, 0, none⟩), .pointer (some ⟨bf, 0, none⟩)])
  below : Below w0.heap.size w0 wx
  size : B ≤ wx.heap.size
structure SBl (w0 : World) (B bn bo bf : Nat) : Prop where
  n0 : w0.heap.size ≤ bn
  o0 : w0.heap.size ≤ bo
  nB : bn < B
  oB : bo < B
  fB : bf < B
  no : bn ≠ bo
  nf : bn ≠ bf
  of : bo ≠ bf
theorem own_block {w w' : World} {B : Nat} {v : Value} {n : Nat} {xs : List Value} (h : w.ownsRow B 3 1 v n xs) (hb : ∀ k, B ≤ k → k < w.heap.size → w'.heap[k]? = w.heap[k]?) : w'.ownsRow B 3 1 v n xs := by
  refine ⟨h.1, ?_⟩
  rcases h.2 with hn | ⟨g, cap, cur, e, hB, hg, rest⟩
  · exact .inl hn
  · exact .inr ⟨g, cap, cur, e, hB, by rw [hb g hB (blk_lt hg)]; exact hg, rest⟩
theorem Sst.grow {w0 wx wy : World} {B bn bo bf : Nat} {z : Int × List Int} (h : Sst w0 B bn bo bf z wx) (hb : Below wx.heap.size wx wy) : Sst w0 B bn bo bf z wy := by
  obtain ⟨v, h1, h2⟩ := h.ob
  exact ⟨h.nb.below hb h.nb.lt, ⟨v, h1.below hb h1.lt, own_block h2 (fun k _ hk => hb.block k hk)⟩, h.fb.below hb h.fb.lt, h.below.trans (hb.mono h.below.size), Nat.le_trans h.size hb.size⟩
theorem Sst.drew {w0 wx : World} {B bn bo bf : Nat} {z : Int × List Int} (h : Sst w0 B bn bo bf z wx) : Sst w0 B bn bo bf z wx.drew := h.grow (below_drew (Below.refl _ _))
theorem Sst.setN {w0 wx : World} {B bn bo bf : Nat} {z : Int × List Int} (h : Sst w0 B bn bo bf z wx) (hg : SBl w0 B bn bo bf) (n : Int) : Sst w0 B bn bo bf (n, z.2) (wx.setCell ⟨bn, 0, none⟩ (.int .i64 n)) := by
  obtain ⟨v, h1, h2⟩ := h.ob
  exact ⟨h.nb.set _, ⟨v, h1.setOther _ hg.no, own_block h2 (fun k hk _ => Below.heap_setCell _ _ _ _ (fun e => by have := hg.nB; have e' : k = bn := e; omega))⟩, h.fb.setOther _ hg.nf, below_cellA h.below hg.n0 _, by simpa [World.setCell] using h.size⟩
theorem Sst.app {w0 wx w1 : World} {B bn bo bf : Nat} {n : Int} {xs : List Int} (h : Sst w0 B bn bo bf (n, xs) wx) (hg : SBl w0 B bn bo bf) {v v' : Value} {u : Value} {ty : TypeId} (hv : Box wx bo v) (hr : wx.ownsRow B 3 1 v xs.length (xs.map (Value.int .i64)))
    (ho : w1.ownsRow B 3 1 v' (xs.length + 1) (xs.map (Value.int .i64) ++ [.int .i64 n])) (hgr : (wx.alloc (.cells #[u] ty)).grownBy w1 v.ownBlock) : Sst w0 B bn bo bf (n, xs ++ [n]) (w1.setCell ⟨bo, 0, none⟩ v') := by
  have hrow : ∀ k, v.ownBlock = some k → B ≤ k := fun k hk => (hr.lt k hk).1
  have hsz : (wx.alloc (.cells #[u] ty)).heap.size = wx.heap.size + 1 := by simp
  have hblk : ∀ k, k < wx.heap.size → some k ≠ v.ownBlock → w1.heap[k]? = wx.heap[k]? := fun k hk hne => (hgr.block k (by omega) hne).trans (Below.heap_alloc wx _ k hk)
  have hlow : ∀ k, k < B → some k ≠ v.ownBlock := fun k hk e => by have := hrow k e.symm; omega
  have hbel : Below w0.heap.size w0 w1 := by
    refine h.below.trans ⟨hgr.os, hgr.tape, hgr.output, by have := hgr.size; omega, fun k hk => hblk k (by have := h.below.size; omega) (hlow k (by have := hg.n0; have := hg.nB; omega))⟩
  have box : ∀ {b : Nat} {x : Value}, Box wx b x → b < B → Box w1 b x := fun hb hlt => by
    obtain ⟨ty, e⟩ := id hb
    exact ⟨ty, by rw [hblk _ hb.lt (hlow _ hlt)]; exact e⟩
  refine ⟨(box h.nb hg.nB).setOther _ (Ne.symm hg.no), ⟨v', (box hv hg.oB).set _, ?_⟩, (box h.fb hg.fB).setOther _ hg.of, below_cellA hbel hg.o0 _, ?_⟩
  · have := own_block (w' := w1.setCell ⟨bo, 0, none⟩ v') ho (fun k hk _ => Below.heap_setCell _ _ _ _ (fun e => by have := hg.oB; have e' : k = bo := e; omega))
    simpa using this
  · have := hgr.size; have := h.size; simp [World.setCell]; omega
theorem box_grown {w w1 : World} {b : Nat} {x u : Value} {ty : TypeId} {row : Option Nat} (h : Box w b x) (hgr : (w.alloc (.cells #[u] ty)).grownBy w1 row) (hne : some b ≠ row) : Box w1 b x := by
  obtain ⟨t, e⟩ := id h
  have hsz : (w.alloc (.cells #[u] ty)).heap.size = w.heap.size + 1 := by simp
  exact ⟨t, by rw [hgr.block _ (by have := h.lt; omega) hne, Below.heap_alloc w _ _ h.lt]; exact e⟩
def hereF (k : Nat) (c : S41) (told : Bool) : Option Bool := if told = true then some false else if c.f0 = 2 then core_static.f k [c] else some false
def putS (here : Bool) (z : Int × List Int) : Option (Int × List Int) := if here = true then (if z.2.length < 1048576 then some (z.1, z.2 ++ [z.1]) else none) else some z
def oneStat (k : Nat) (g : List S41 → Bool → Int × List Int → Option (Int × List Int)) (c : S41) (told : Bool) (z : Int × List Int) : Option (Int × List Int) :=
  (hereF k c told).bind fun h => (putS h (wrap64 (z.1 + 1), z.2)).bind fun z1 => (g c.f5 (told || h) z1).bind fun z2 => g c.f6 (told || h) z2
def statL (k : Nat) (g : List S41 → Bool → Int × List Int → Option (Int × List Int)) : List S41 → Bool → Int × List Int → Option (Int × List Int)
  | [], _, z => some z
  | c :: cs, told, z => (oneStat k g c told z).bind fun z1 => statL k g cs told z1
def statF : Nat → List S41 → Bool → Int × List Int → Option (Int × List Int)
  | 0, _, _, _ => none
  | k + 1, l, told, z => statL k (statF k) l told z
theorem infoI : (Tryd.prog.info? 3).map (fun i => (i.zero, i.size, i.bytes)) = some (some (.int .i64 0), 1, 8) := by kernel_rfl
set_option maxHeartbeats 8000000 in
set_option maxRecDepth 1000000 in
theorem core_stat.calls (k : Nat) : ∀ (A0 : Option Addr) (c0 : Nat) (l0 : List S41) (told : Bool) (n n' : Int) (xs xs' : List Int) (w0 w : World) (B bn bo bf : Nat) (hL : LaidW w0) (hr0 : Kd.C k41 w0 A0 l0.length l0) (hc0 : l0.length ≤ c0)
    (hg : SBl w0 B bn bo bf) (X : Sst w0 B bn bo bf (n, xs) w) (h : statF k l0 told (n, xs) = some (n', xs')),
    Calls Tryd.prog 17 #[.slice A0 l0.length c0, .bool told, .pointer (some ⟨bn, 0, none⟩), .pointer (some ⟨bo, 0, none⟩), .pointer (some ⟨bf, 0, none⟩)] w fun e w' => e = .returned (.tuple #[]) ∧ Sst w0 B bn bo bf (n', xs') w' := by
  induction k with
  | zero => intro A0 c0 l0 told n n' xs xs' w0 w B bn bo bf hL hr0 hc0 hg X h; simp [statF] at h
  | succ k ih =>
    intro A0 c0 l0 told n n' xs xs' w0 w B bn bo bf hL hr0 hc0 hg X h
    have HE := Aside0.mk (show statL k (statF k) l0 told (n, xs) = some (n', xs') from h)
    have IH := Aside0.mk ih
    have HL := Aside0.mk hL
    have HR := Aside0.mk hr0
    have HC0 := Aside0.mk hc0
    have HG := Aside0.mk hg
    have HX := Aside0.mk X
    clear h ih hL hr0 hc0 hg X
    go_enter Tryd.func17, Tryd.ntmps17
    go_wp2
    go_loopg [12] l0.length (fun gf vv wx => ∃ (i : Nat) (m : Int) (ys : List Int), vv = .int .i64 (i : Int) ∧ Aside0 (Sst w0 B bn bo bf (m, ys) wx) ∧ Aside0 (statL k (statF k) (l0.drop i) told (m, ys) = some (n', xs')) ∧ Aside0 (i + gf = l0.length))
    case atStart => exact ⟨0, n, xs, rfl, HX, HE, ⟨Nat.zero_add _⟩⟩
    case round =>
      obtain ⟨i, m, ys, rfl, HX, HN, HG'⟩ := hrel
      by_cases hi : i < l0.length
      · obtain ⟨ae, ad, x, A5, c5, A6, c6, e1, ha, hd, f0, f5, f6, l5, C5, l6, C6, hal, cz⟩ := nth41 HR.out i hi
        subst e1
        have hN := HN.out
        have hi' : ((i : Int) < (l0.length : Int)) := cast_lt hi
        have hw := wrap_succ i _ hi (Kd.C_max HR.out)
        obtain ⟨g', rfl⟩ : ∃ g', gk = g' + 1 := gk_pos HG'.out hi
        rw [hd] at hN
        obtain ⟨⟨m3, y3⟩, hone0, hN2⟩ := Option.bind_eq_some_iff.mp (show (oneStat k (statF k) x told (m, ys)).bind _ = some (n', xs') from hN)
        have HN2 := Aside0.mk hN2
        obtain ⟨here, hh, hone1⟩ := Option.bind_eq_some_iff.mp (show (hereF k x told).bind _ = some (m3, y3) from hone0)
        obtain ⟨⟨m1, y1⟩, hp, hone2⟩ := Option.bind_eq_some_iff.mp hone1
        obtain ⟨⟨m2, y2⟩, hq, hs⟩ := Option.bind_eq_some_iff.mp hone2
        have HQ := Aside0.mk hq
        have HS := Aside0.mk hs
        have HP := Aside0.mk hp
        have HH := Aside0.mk hh
        have CZ0 := Aside0.mk cz
        have H0 := Aside0.mk f0
        have H5 := Aside0.mk (And.intro f5 (And.intro l5 C5))
        have H6 := Aside0.mk (And.intro f6 (And.intro l6 C6))
        clear hN hd hN2 hone0 hone1 hone2 hh hp hq hs cz f0 f5 f6 l5 C5 l6 C6 HN hal
        have x0 := HX.out.nb.cell
        have x0f := HX.out.nb.unfrozen
        go_upto_region 5 with (fail)
        have F1 := Aside0.mk (HX.out.setN HG.out (wrap64 (m + 1)))
        generalize wrap64 (m + 1) = nm at F1 HP ⊢
        generalize wr.setCell ⟨bn, 0, none⟩ (.int .i64 nm) = W1 at F1 ⊢
        clear HX x0 x0f
        have y0 := pw_cell_below F1.out.below H0.out
        go_cut [9] (fun v wx => v = .bool here ∧ Aside0 (Sst w0 B bn bo bf (nm, ys) wx))
        case first =>
          have hh := HH.out
          unfold hereF at hh
          cases told with
          | true =>
            obtain rfl : false = here := Option.some.inj hh
            clear hh HH
            go_wp2
            go_meet
            case rel => exact ⟨rfl, F1⟩
          | false =>
            rw [if_neg (by decide)] at hh
            by_cases hk : x.f0 = 2
            · rw [if_pos hk] at hh
              rw [hk] at y0
              have HS1 := Aside0.mk hh
              clear hh HH hk
              go_wp2_with (go_at_call 18; (refine (core_static.calls k (some ad) [x] here _ (Kd.C_below CZ0.out F1.out.below) HS1.out).mono ?_); rintro e w5 ⟨rfl, hd5⟩)
              go_meet
              case rel => exact ⟨rfl, ⟨F1.out.grow hd5.below⟩⟩
            · have hk' : (x.f0 == 2) = false := beq_eq_false_iff_ne.mpr hk
              obtain rfl : false = here := by rw [if_neg hk] at hh; exact Option.some.inj hh
              clear hh HH hk
              go_wp2
              go_meet
              case rel => exact ⟨rfl, F1⟩
        case rest =>
          obtain ⟨rfl, F2⟩ := hcut
          clear F1 y0 HH
          go_upto_if 33 with (fail)
          go_cut [33] (fun v wx => Aside0 (Sst w0 B bn bo bf (m1, y1) wx))
          case first =>
            have hp := HP.out
            cases here with
            | false =>
              obtain ⟨rfl, rfl⟩ : nm = m1 ∧ ys = y1 := by
                injection (show some (nm, ys) = some (m1, y1) from hp) with h; injection h with h1 h2; exact ⟨h1, h2⟩
              clear hp HP
              go_wp2
              go_meet
              case rel => exact F2
            | true =>
              have hp1 : (if ys.length < 1048576 then some (nm, ys ++ [nm]) else none) = some (m1, y1) := hp
              by_cases hlen : ys.length < 1048576
              · rw [if_pos hlen] at hp1
                obtain ⟨rfl, rfl⟩ : nm = m1 ∧ ys ++ [nm] = y1 := by
                  injection hp1 with h; injection h with h1 h2; exact ⟨h1, h2⟩
                clear hp hp1 HP
                obtain ⟨v, hv, hr⟩ := F2.out.ob
                have V1 := Aside0.mk hv
                have R1 := Aside0.mk hr
                have v1 := hv.cell
                have v1f := hv.unfrozen
                have n1 := F2.out.nb.cell
                have HLEN := Aside0.mk hlen
                have SZ := Aside0.mk F2.out.size
                obtain ⟨i0, hi0, hz0, hz1, hz2⟩ := info_parts infoI
                clear hv hr hlen
                go_wp2_with (at_builtin; refine wpList_append_own _ rfl _ _ 30 rfl B 3 i0 (.int .i64 0) 1 8 Tryd.underlying30 hi0 hz0 hz1 hz2 rfl (by decide) v ys.length (ys.map (Value.int .i64)) rfl (R1.out.alloc _) ⟨wc.heap.size, 0, none⟩ 1 1 [.int .i64 nm] rfl rfl ?c1 ?c2 ?c3 ?c4 ?c5 ?_)
                case c2 => simp [Value.oneCell']
                case c3 => have := HLEN.out; unfold maxLen; omega
                case c4 => have := HLEN.out; omega
                case c5 => have := SZ.out; simp; omega
                intro v' w1 hown' hgrow _
                obtain ⟨A', cp', rfl⟩ : ∃ A' cp', v' = .slice A' (ys.length + 1) cp' := by
                  rcases hown'.2 with ⟨_, h⟩ | ⟨g, cap, cur, e, _⟩
                  · exact absurd h (by omega)
                  · exact ⟨_, _, e⟩
                have F3 := Aside0.mk (F2.out.app HG.out V1.out R1.out hown' hgrow)
                have q1 := box_grown V1.out hgrow (fun e => by have := (R1.out.lt bo e.symm).1; have := HG.out.oB; omega)
                have q2 := q1.cell
                have q3 := q1.unfrozen
                clear hown' hgrow q1 v1 v1f n1
                go_wp2
                go_meet
                case rel => exact F3
              · rw [if_neg hlen] at hp1
                exact absurd hp1 (by simp)
          case rest =>
            have F3 := hcut
            clear hcut F2 HP
            have F3d := Aside0.mk F3.out.drew
            have b1 := F3.out.fb.cell
            have k5 := pw_cell_below F3.out.below H5.out.1
            cases told with
            | true =>
              have HQ := Aside0.mk (show statF k x.f5 true (m1, y1) = some (m2, y2) from HQ.out)
              have HS := Aside0.mk (show statF k x.f6 true (m2, y2) = some (m3, y3) from HS.out)
              go_upto_region 8 with (fail)
              refine start_ (n := 10) (S := fun w' => w'.cell? ⟨bf, 0, none⟩ = some (.func (.func 17) #[] #[.pointer (some ⟨bn, 0, none⟩), .pointer (some ⟨bo, 0, none⟩), .pointer (some ⟨bf, 0, none⟩)]) ∧ w'.cell? ⟨ad.block, ad.off + 5, none⟩ = some (.slice A5 x.f5.length c5)) (ds := []) #[false, false, false, false, false, false, false, false, false, false] (by kernel_rfl) rfl rfl ⟨F3d.out.fb.cell, (pw_cell_below F3d.out.below H5.out.1)⟩ (fun hHeld => ?_)
              refine pure_ (i := 1) (N := some 39) (v := ?_) (a' := ?_) #[false, true, false, false, false, false, false, false, false, false] rfl rfl (by kernel_rfl) (fun _ _ _ h => h) (Or.inl ⟨by rfl, ?_⟩) ?_ ?_
              rotate_left
              · intro w'
                go_simp
                with_reducible rfl
              rotate_left
              · simp only [Act.put, List.setIfInBounds_toArray, List.set_cons_zero, List.set_cons_succ, i64_w, i32_w]
                rfl
              refine pure_ (i := 2) (N := some 40) (v := ?_) (a' := ?_) #[false, true, true, false, false, false, false, false, false, false] rfl rfl (by kernel_rfl) (fun _ _ _ h => h) (Or.inl ⟨by rfl, ?_⟩) ?_ ?_
              rotate_left
              · intro w'
                go_simp
                with_reducible rfl
              rotate_left
              · simp only [Act.put, List.setIfInBounds_toArray, List.set_cons_zero, List.set_cons_succ, i64_w, i32_w]
                rfl
              refine pure_ (i := 3) (N := some 41) (v := ?_) (a' := ?_) #[false, true, true, true, false, false, false, false, false, false] rfl rfl (by kernel_rfl) (fun _ _ _ h => h) (Or.inl ⟨by rfl, ?_⟩) ?_ ?_
              rotate_left
              · intro w'
                go_simp
                with_reducible rfl
              rotate_left
              · simp only [Act.put, List.setIfInBounds_toArray, List.set_cons_zero, List.set_cons_succ, i64_w, i32_w]
                rfl
              refine pure_ (i := 5) (N := some 43) (v := ?_) (a' := ?_) #[false, true, true, true, false, true, false, false, false, false] rfl rfl (by kernel_rfl) (fun _ _ _ h => h) (Or.inl ⟨by rfl, ?_⟩) ?_ ?_
              rotate_left
              · intro w'
                go_simp
                with_reducible rfl
              rotate_left
              · simp only [Act.put, List.setIfInBounds_toArray, List.set_cons_zero, List.set_cons_succ, i64_w, i32_w]
                rfl
              refine pure_ (i := 6) (N := some 44) (v := ?_) (a' := ?_) #[false, true, true, true, false, true, true, false, false, false] rfl rfl (by kernel_rfl) (fun _ _ _ h => h) (Or.inl ⟨by rfl, ?_⟩) ?_ ?_
              rotate_left
              · intro w'
                go_simp
                with_reducible rfl
              rotate_left
              · simp only [Act.put, List.setIfInBounds_toArray, List.set_cons_zero, List.set_cons_succ, i64_w, i32_w]
                rfl
              refine pure_ (i := 7) (N := some 45) (v := undef) (a' := ?_) #[false, true, true, true, false, true, true, true, false, false] rfl rfl (by kernel_rfl) (fun _ _ _ h => h) (Or.inr ⟨by rfl, rfl⟩) ?_ ?_
              rotate_left
              · simp only [Act.put, List.setIfInBounds_toArray, List.set_cons_zero, List.set_cons_succ, i64_w, i32_w]
                rfl
              refine pure_ (i := 8) (N := some 46) (v := ?_) (a' := ?_) #[false, true, true, true, false, true, true, true, true, false] rfl rfl (by kernel_rfl) (fun _ _ _ h => h) (Or.inl ⟨by rfl, ?_⟩) ?_ ?_
              rotate_left
              · intro w'
                go_simp
                with_reducible rfl
              rotate_left
              · simp only [Act.put, List.setIfInBounds_toArray, List.set_cons_zero, List.set_cons_succ, i64_w, i32_w]
                rfl
              refine take_ (i := 0) (N := some 38) (v := ?_) (a' := ?_) #[true, true, true, true, false, true, true, true, true, false] rfl rfl (by kernel_rfl) (fun _ _ _ h => h) (Or.inl ⟨by rfl, ?_⟩) hHeld ?_ ?_
              rotate_left
              · rintro w' ⟨s0, s1⟩
                go_simp
                with_reducible rfl
              rotate_left
              · simp only [Act.put, List.setIfInBounds_toArray, List.set_cons_zero, List.set_cons_succ, i64_w, i32_w]
                rfl
              refine take_ (i := 4) (N := some 42) (v := ?_) (a' := ?_) #[true, true, true, true, true, true, true, true, true, false] rfl rfl (by kernel_rfl) (fun _ _ _ h => h) (Or.inl ⟨by rfl, ?_⟩) hHeld ?_ ?_
              rotate_left
              · rintro w' ⟨s0, s1⟩
                go_simp
                with_reducible rfl
              rotate_left
              · simp only [Act.put, List.setIfInBounds_toArray, List.set_cons_zero, List.set_cons_succ, i64_w, i32_w]
                rfl
              refine one_ (i := 9) (N := some 47) #[true, true, true, true, true, true, true, true, true, true] rfl rfl (by kernel_rfl) (by decide) (fun K hK => ?_)
              refine call_ 17 #[.slice A5 x.f5.length c5, .bool true, .pointer (some ⟨bn, 0, none⟩), .pointer (some ⟨bo, 0, none⟩), .pointer (some ⟨bf, 0, none⟩)] (by rfl) rfl (by go_simp) ?_
              with_reducible refine (IH.out A5 c5 x.f5 true _ _ _ _ w0 _ B bn bo bf HL.out H5.out.2.2 H5.out.2.1 HG.out F3d.out HQ.out).mono ?_
              rintro e w_F4 ⟨rfl, hx_⟩
              refine ⟨_, rfl, ?_⟩
              have F4 := Aside0.mk hx_
              clear hx_
              refine hK.out _ _ ⟨F4.out.fb.cell, (pw_cell_below F4.out.below H5.out.1)⟩ (fun hHeld => ?_)
              clear hK K
              refine norm_ (a' := ?_) ?_ ?_
              rotate_left
              · show Act.put _ (some 47) _ = _
                simp only [Act.put, List.setIfInBounds_toArray, List.set_cons_zero, List.set_cons_succ, i64_w, i32_w]
                rfl
              refine done_ (by kernel_rfl) ?_
              have F4d := Aside0.mk F4.out.drew
              clear b1 k5
              have b1 := F4.out.fb.cell
              have k6 := pw_cell_below F4.out.below H6.out.1
              go_upto_region 9 with (fail)
              refine start_ (n := 10) (S := fun w' => w'.cell? ⟨bf, 0, none⟩ = some (.func (.func 17) #[] #[.pointer (some ⟨bn, 0, none⟩), .pointer (some ⟨bo, 0, none⟩), .pointer (some ⟨bf, 0, none⟩)]) ∧ w'.cell? ⟨ad.block, ad.off + 6, none⟩ = some (.slice A6 x.f6.length c6)) (ds := []) #[false, false, false, false, false, false, false, false, false, false] (by kernel_rfl) rfl rfl ⟨F4d.out.fb.cell, (pw_cell_below F4d.out.below H6.out.1)⟩ (fun hHeld => ?_)
              refine pure_ (i := 1) (N := some 49) (v := ?_) (a' := ?_) #[false, true, false, false, false, false, false, false, false, false] rfl rfl (by kernel_rfl) (fun _ _ _ h => h) (Or.inl ⟨by rfl, ?_⟩) ?_ ?_
              rotate_left
              · intro w'
                go_simp
                with_reducible rfl
              rotate_left
              · simp only [Act.put, List.setIfInBounds_toArray, List.set_cons_zero, List.set_cons_succ, i64_w, i32_w]
                rfl
              refine pure_ (i := 2) (N := some 50) (v := ?_) (a' := ?_) #[false, true, true, false, false, false, false, false, false, false] rfl rfl (by kernel_rfl) (fun _ _ _ h => h) (Or.inl ⟨by rfl, ?_⟩) ?_ ?_
              rotate_left
              · intro w'
                go_simp
                with_reducible rfl
              rotate_left
              · simp only [Act.put, List.setIfInBounds_toArray, List.set_cons_zero, List.set_cons_succ, i64_w, i32_w]
                rfl
              refine pure_ (i := 3) (N := some 51) (v := ?_) (a' := ?_) #[false, true, true, true, false, false, false, false, false, false] rfl rfl (by kernel_rfl) (fun _ _ _ h => h) (Or.inl ⟨by rfl, ?_⟩) ?_ ?_
              rotate_left
              · intro w'
                go_simp
                with_reducible rfl
              rotate_left
              · simp only [Act.put, List.setIfInBounds_toArray, List.set_cons_zero, List.set_cons_succ, i64_w, i32_w]
                rfl
              refine pure_ (i := 5) (N := some 53) (v := ?_) (a' := ?_) #[false, true, true, true, false, true, false, false, false, false] rfl rfl (by kernel_rfl) (fun _ _ _ h => h) (Or.inl ⟨by rfl, ?_⟩) ?_ ?_
              rotate_left
              · intro w'
                go_simp
                with_reducible rfl
              rotate_left
              · simp only [Act.put, List.setIfInBounds_toArray, List.set_cons_zero, List.set_cons_succ, i64_w, i32_w]
                rfl
              refine pure_ (i := 6) (N := some 54) (v := ?_) (a' := ?_) #[false, true, true, true, false, true, true, false, false, false] rfl rfl (by kernel_rfl) (fun _ _ _ h => h) (Or.inl ⟨by rfl, ?_⟩) ?_ ?_
              rotate_left
              · intro w'
                go_simp
                with_reducible rfl
              rotate_left
              · simp only [Act.put, List.setIfInBounds_toArray, List.set_cons_zero, List.set_cons_succ, i64_w, i32_w]
                rfl
              refine pure_ (i := 7) (N := some 55) (v := undef) (a' := ?_) #[false, true, true, true, false, true, true, true, false, false] rfl rfl (by kernel_rfl) (fun _ _ _ h => h) (Or.inr ⟨by rfl, rfl⟩) ?_ ?_
              rotate_left
              · simp only [Act.put, List.setIfInBounds_toArray, List.set_cons_zero, List.set_cons_succ, i64_w, i32_w]
                rfl
              refine pure_ (i := 8) (N := some 56) (v := ?_) (a' := ?_) #[false, true, true, true, false, true, true, true, true, false] rfl rfl (by kernel_rfl) (fun _ _ _ h => h) (Or.inl ⟨by rfl, ?_⟩) ?_ ?_
              rotate_left
              · intro w'
                go_simp
                with_reducible rfl
              rotate_left
              · simp only [Act.put, List.setIfInBounds_toArray, List.set_cons_zero, List.set_cons_succ, i64_w, i32_w]
                rfl
              refine take_ (i := 0) (N := some 48) (v := ?_) (a' := ?_) #[true, true, true, true, false, true, true, true, true, false] rfl rfl (by kernel_rfl) (fun _ _ _ h => h) (Or.inl ⟨by rfl, ?_⟩) hHeld ?_ ?_
              rotate_left
              · rintro w' ⟨s0, s1⟩
                go_simp
                with_reducible rfl
              rotate_left
              · simp only [Act.put, List.setIfInBounds_toArray, List.set_cons_zero, List.set_cons_succ, i64_w, i32_w]
                rfl
              refine take_ (i := 4) (N := some 52) (v := ?_) (a' := ?_) #[true, true, true, true, true, true, true, true, true, false] rfl rfl (by kernel_rfl) (fun _ _ _ h => h) (Or.inl ⟨by rfl, ?_⟩) hHeld ?_ ?_
              rotate_left
              · rintro w' ⟨s0, s1⟩
                go_simp
                with_reducible rfl
              rotate_left
              · simp only [Act.put, List.setIfInBounds_toArray, List.set_cons_zero, List.set_cons_succ, i64_w, i32_w]
                rfl
              refine one_ (i := 9) (N := some 57) #[true, true, true, true, true, true, true, true, true, true] rfl rfl (by kernel_rfl) (by decide) (fun K hK => ?_)
              refine call_ 17 #[.slice A6 x.f6.length c6, .bool true, .pointer (some ⟨bn, 0, none⟩), .pointer (some ⟨bo, 0, none⟩), .pointer (some ⟨bf, 0, none⟩)] (by rfl) rfl (by go_simp) ?_
              with_reducible refine (IH.out A6 c6 x.f6 true _ _ _ _ w0 _ B bn bo bf HL.out H6.out.2.2 H6.out.2.1 HG.out F4d.out HS.out).mono ?_
              rintro e w_F5 ⟨rfl, hx_⟩
              refine ⟨_, rfl, ?_⟩
              have F5 := Aside0.mk hx_
              clear hx_
              refine hK.out _ _ ⟨F5.out.fb.cell, (pw_cell_below F5.out.below H6.out.1)⟩ (fun hHeld => ?_)
              clear hK K
              refine norm_ (a' := ?_) ?_ ?_
              rotate_left
              · show Act.put _ (some 57) _ = _
                simp only [Act.put, List.setIfInBounds_toArray, List.set_cons_zero, List.set_cons_succ, i64_w, i32_w]
                rfl
              refine done_ (by kernel_rfl) ?_
              go_wp2
              go_roundg g'
              case measure => exact Nat.lt_succ_self _
              case rel => exact ⟨i + 1, m3, y3, by first | rw [hw] | rfl, F5, HN2, ⟨gk_next HG'.out⟩⟩
            | false =>
              have HQ := Aside0.mk (show statF k x.f5 here (m1, y1) = some (m2, y2) from HQ.out)
              have HS := Aside0.mk (show statF k x.f6 here (m2, y2) = some (m3, y3) from HS.out)
              go_upto_region 8 with (fail)
              refine start_ (n := 10) (S := fun w' => w'.cell? ⟨bf, 0, none⟩ = some (.func (.func 17) #[] #[.pointer (some ⟨bn, 0, none⟩), .pointer (some ⟨bo, 0, none⟩), .pointer (some ⟨bf, 0, none⟩)]) ∧ w'.cell? ⟨ad.block, ad.off + 5, none⟩ = some (.slice A5 x.f5.length c5)) (ds := []) #[false, false, false, false, false, false, false, false, false, false] (by kernel_rfl) rfl rfl ⟨F3d.out.fb.cell, (pw_cell_below F3d.out.below H5.out.1)⟩ (fun hHeld => ?_)
              refine pure_ (i := 1) (N := some 39) (v := ?_) (a' := ?_) #[false, true, false, false, false, false, false, false, false, false] rfl rfl (by kernel_rfl) (fun _ _ _ h => h) (Or.inl ⟨by rfl, ?_⟩) ?_ ?_
              rotate_left
              · intro w'
                go_simp
                with_reducible rfl
              rotate_left
              · simp only [Act.put, List.setIfInBounds_toArray, List.set_cons_zero, List.set_cons_succ, i64_w, i32_w]
                rfl
              refine pure_ (i := 2) (N := some 40) (v := ?_) (a' := ?_) #[false, true, true, false, false, false, false, false, false, false] rfl rfl (by kernel_rfl) (fun _ _ _ h => h) (Or.inl ⟨by rfl, ?_⟩) ?_ ?_
              rotate_left
              · intro w'
                go_simp
                with_reducible rfl
              rotate_left
              · simp only [Act.put, List.setIfInBounds_toArray, List.set_cons_zero, List.set_cons_succ, i64_w, i32_w]
                rfl
              refine pure_ (i := 3) (N := some 41) (v := ?_) (a' := ?_) #[false, true, true, true, false, false, false, false, false, false] rfl rfl (by kernel_rfl) (fun _ _ _ h => h) (Or.inl ⟨by rfl, ?_⟩) ?_ ?_
              rotate_left
              · intro w'
                go_simp
                with_reducible rfl
              rotate_left
              · simp only [Act.put, List.setIfInBounds_toArray, List.set_cons_zero, List.set_cons_succ, i64_w, i32_w]
                rfl
              refine pure_ (i := 5) (N := some 43) (v := ?_) (a' := ?_) #[false, true, true, true, false, true, false, false, false, false] rfl rfl (by kernel_rfl) (fun _ _ _ h => h) (Or.inl ⟨by rfl, ?_⟩) ?_ ?_
              rotate_left
              · intro w'
                go_simp
                with_reducible rfl
              rotate_left
              · simp only [Act.put, List.setIfInBounds_toArray, List.set_cons_zero, List.set_cons_succ, i64_w, i32_w]
                rfl
              refine pure_ (i := 6) (N := some 44) (v := ?_) (a' := ?_) #[false, true, true, true, false, true, true, false, false, false] rfl rfl (by kernel_rfl) (fun _ _ _ h => h) (Or.inl ⟨by rfl, ?_⟩) ?_ ?_
              rotate_left
              · intro w'
                go_simp
                with_reducible rfl
              rotate_left
              · simp only [Act.put, List.setIfInBounds_toArray, List.set_cons_zero, List.set_cons_succ, i64_w, i32_w]
                rfl
              refine pure_ (i := 7) (N := some 45) (v := ?_) (a' := ?_) #[false, true, true, true, false, true, true, true, false, false] rfl rfl (by kernel_rfl) (fun _ _ _ h => h) (Or.inl ⟨by rfl, ?_⟩) ?_ ?_
              rotate_left
              · intro w'
                go_simp
                with_reducible rfl
              rotate_left
              · simp only [Act.put, List.setIfInBounds_toArray, List.set_cons_zero, List.set_cons_succ, i64_w, i32_w]
                rfl
              refine pure_ (i := 8) (N := some 46) (v := ?_) (a' := ?_) #[false, true, true, true, false, true, true, true, true, false] rfl rfl (by kernel_rfl) (fun _ _ _ h => h) (Or.inl ⟨by rfl, ?_⟩) ?_ ?_
              rotate_left
              · intro w'
                go_simp
                with_reducible rfl
              rotate_left
              · simp only [Act.put, List.setIfInBounds_toArray, List.set_cons_zero, List.set_cons_succ, i64_w, i32_w]
                rfl
              refine take_ (i := 0) (N := some 38) (v := ?_) (a' := ?_) #[true, true, true, true, false, true, true, true, true, false] rfl rfl (by kernel_rfl) (fun _ _ _ h => h) (Or.inl ⟨by rfl, ?_⟩) hHeld ?_ ?_
              rotate_left
              · rintro w' ⟨s0, s1⟩
                go_simp
                with_reducible rfl
              rotate_left
              · simp only [Act.put, List.setIfInBounds_toArray, List.set_cons_zero, List.set_cons_succ, i64_w, i32_w]
                rfl
              refine take_ (i := 4) (N := some 42) (v := ?_) (a' := ?_) #[true, true, true, true, true, true, true, true, true, false] rfl rfl (by kernel_rfl) (fun _ _ _ h => h) (Or.inl ⟨by rfl, ?_⟩) hHeld ?_ ?_
              rotate_left
              · rintro w' ⟨s0, s1⟩
                go_simp
                with_reducible rfl
              rotate_left
              · simp only [Act.put, List.setIfInBounds_toArray, List.set_cons_zero, List.set_cons_succ, i64_w, i32_w]
                rfl
              refine one_ (i := 9) (N := some 47) #[true, true, true, true, true, true, true, true, true, true] rfl rfl (by kernel_rfl) (by decide) (fun K hK => ?_)
              refine call_ 17 #[.slice A5 x.f5.length c5, .bool here, .pointer (some ⟨bn, 0, none⟩), .pointer (some ⟨bo, 0, none⟩), .pointer (some ⟨bf, 0, none⟩)] (by rfl) rfl (by go_simp) ?_
              with_reducible refine (IH.out A5 c5 x.f5 here _ _ _ _ w0 _ B bn bo bf HL.out H5.out.2.2 H5.out.2.1 HG.out F3d.out HQ.out).mono ?_
              rintro e w_F4 ⟨rfl, hx_⟩
              refine ⟨_, rfl, ?_⟩
              have F4 := Aside0.mk hx_
              clear hx_
              refine hK.out _ _ ⟨F4.out.fb.cell, (pw_cell_below F4.out.below H5.out.1)⟩ (fun hHeld => ?_)
              clear hK K
              refine norm_ (a' := ?_) ?_ ?_
              rotate_left
              · show Act.put _ (some 47) _ = _
                simp only [Act.put, List.setIfInBounds_toArray, List.set_cons_zero, List.set_cons_succ, i64_w, i32_w]
                rfl
              refine done_ (by kernel_rfl) ?_
              have F4d := Aside0.mk F4.out.drew
              clear b1 k5
              have b1 := F4.out.fb.cell
              have k6 := pw_cell_below F4.out.below H6.out.1
              go_upto_region 9 with (fail)
              refine start_ (n := 10) (S := fun w' => w'.cell? ⟨bf, 0, none⟩ = some (.func (.func 17) #[] #[.pointer (some ⟨bn, 0, none⟩), .pointer (some ⟨bo, 0, none⟩), .pointer (some ⟨bf, 0, none⟩)]) ∧ w'.cell? ⟨ad.block, ad.off + 6, none⟩ = some (.slice A6 x.f6.length c6)) (ds := []) #[false, false, false, false, false, false, false, false, false, false] (by kernel_rfl) rfl rfl ⟨F4d.out.fb.cell, (pw_cell_below F4d.out.below H6.out.1)⟩ (fun hHeld => ?_)
              refine pure_ (i := 1) (N := some 49) (v := ?_) (a' := ?_) #[false, true, false, false, false, false, false, false, false, false] rfl rfl (by kernel_rfl) (fun _ _ _ h => h) (Or.inl ⟨by rfl, ?_⟩) ?_ ?_
              rotate_left
              · intro w'
                go_simp
                with_reducible rfl
              rotate_left
              · simp only [Act.put, List.setIfInBounds_toArray, List.set_cons_zero, List.set_cons_succ, i64_w, i32_w]
                rfl
              refine pure_ (i := 2) (N := some 50) (v := ?_) (a' := ?_) #[false, true, true, false, false, false, false, false, false, false] rfl rfl (by kernel_rfl) (fun _ _ _ h => h) (Or.inl ⟨by rfl, ?_⟩) ?_ ?_
              rotate_left
              · intro w'
                go_simp
                with_reducible rfl
              rotate_left
              · simp only [Act.put, List.setIfInBounds_toArray, List.set_cons_zero, List.set_cons_succ, i64_w, i32_w]
                rfl
              refine pure_ (i := 3) (N := some 51) (v := ?_) (a' := ?_) #[false, true, true, true, false, false, false, false, false, false] rfl rfl (by kernel_rfl) (fun _ _ _ h => h) (Or.inl ⟨by rfl, ?_⟩) ?_ ?_
              rotate_left
              · intro w'
                go_simp
                with_reducible rfl
              rotate_left
              · simp only [Act.put, List.setIfInBounds_toArray, List.set_cons_zero, List.set_cons_succ, i64_w, i32_w]
                rfl
              refine pure_ (i := 5) (N := some 53) (v := ?_) (a' := ?_) #[false, true, true, true, false, true, false, false, false, false] rfl rfl (by kernel_rfl) (fun _ _ _ h => h) (Or.inl ⟨by rfl, ?_⟩) ?_ ?_
              rotate_left
              · intro w'
                go_simp
                with_reducible rfl
              rotate_left
              · simp only [Act.put, List.setIfInBounds_toArray, List.set_cons_zero, List.set_cons_succ, i64_w, i32_w]
                rfl
              refine pure_ (i := 6) (N := some 54) (v := ?_) (a' := ?_) #[false, true, true, true, false, true, true, false, false, false] rfl rfl (by kernel_rfl) (fun _ _ _ h => h) (Or.inl ⟨by rfl, ?_⟩) ?_ ?_
              rotate_left
              · intro w'
                go_simp
                with_reducible rfl
              rotate_left
              · simp only [Act.put, List.setIfInBounds_toArray, List.set_cons_zero, List.set_cons_succ, i64_w, i32_w]
                rfl
              refine pure_ (i := 7) (N := some 55) (v := ?_) (a' := ?_) #[false, true, true, true, false, true, true, true, false, false] rfl rfl (by kernel_rfl) (fun _ _ _ h => h) (Or.inl ⟨by rfl, ?_⟩) ?_ ?_
              rotate_left
              · intro w'
                go_simp
                with_reducible rfl
              rotate_left
              · simp only [Act.put, List.setIfInBounds_toArray, List.set_cons_zero, List.set_cons_succ, i64_w, i32_w]
                rfl
              refine pure_ (i := 8) (N := some 56) (v := ?_) (a' := ?_) #[false, true, true, true, false, true, true, true, true, false] rfl rfl (by kernel_rfl) (fun _ _ _ h => h) (Or.inl ⟨by rfl, ?_⟩) ?_ ?_
              rotate_left
              · intro w'
                go_simp
                with_reducible rfl
              rotate_left
              · simp only [Act.put, List.setIfInBounds_toArray, List.set_cons_zero, List.set_cons_succ, i64_w, i32_w]
                rfl
              refine take_ (i := 0) (N := some 48) (v := ?_) (a' := ?_) #[true, true, true, true, false, true, true, true, true, false] rfl rfl (by kernel_rfl) (fun _ _ _ h => h) (Or.inl ⟨by rfl, ?_⟩) hHeld ?_ ?_
              rotate_left
              · rintro w' ⟨s0, s1⟩
                go_simp
                with_reducible rfl
              rotate_left
              · simp only [Act.put, List.setIfInBounds_toArray, List.set_cons_zero, List.set_cons_succ, i64_w, i32_w]
                rfl
              refine take_ (i := 4) (N := some 52) (v := ?_) (a' := ?_) #[true, true, true, true, true, true, true, true, true, false] rfl rfl (by kernel_rfl) (fun _ _ _ h => h) (Or.inl ⟨by rfl, ?_⟩) hHeld ?_ ?_
              rotate_left
              · rintro w' ⟨s0, s1⟩
                go_simp
                with_reducible rfl
              rotate_left
              · simp only [Act.put, List.setIfInBounds_toArray, List.set_cons_zero, List.set_cons_succ, i64_w, i32_w]
                rfl
              refine one_ (i := 9) (N := some 57) #[true, true, true, true, true, true, true, true, true, true] rfl rfl (by kernel_rfl) (by decide) (fun K hK => ?_)
              refine call_ 17 #[.slice A6 x.f6.length c6, .bool here, .pointer (some ⟨bn, 0, none⟩), .pointer (some ⟨bo, 0, none⟩), .pointer (some ⟨bf, 0, none⟩)] (by rfl) rfl (by go_simp) ?_
              with_reducible refine (IH.out A6 c6 x.f6 here _ _ _ _ w0 _ B bn bo bf HL.out H6.out.2.2 H6.out.2.1 HG.out F4d.out HS.out).mono ?_
              rintro e w_F5 ⟨rfl, hx_⟩
              refine ⟨_, rfl, ?_⟩
              have F5 := Aside0.mk hx_
              clear hx_
              refine hK.out _ _ ⟨F5.out.fb.cell, (pw_cell_below F5.out.below H6.out.1)⟩ (fun hHeld => ?_)
              clear hK K
              refine norm_ (a' := ?_) ?_ ?_
              rotate_left
              · show Act.put _ (some 57) _ = _
                simp only [Act.put, List.setIfInBounds_toArray, List.set_cons_zero, List.set_cons_succ, i64_w, i32_w]
                rfl
              refine done_ (by kernel_rfl) ?_
              go_wp2
              go_roundg g'
              case measure => exact Nat.lt_succ_self _
              case rel => exact ⟨i + 1, m3, y3, by first | rw [hw] | rfl, F5, HN2, ⟨gk_next HG'.out⟩⟩
      · have hnil : l0.drop i = [] := drop_end hi
        have hi' : ¬ ((i : Int) < (l0.length : Int)) := cast_nlt hi
        have hN := HN.out
        rw [hnil] at hN
        injection (show some (m, ys) = some (n', xs') from hN) with hN
        injection hN with h1 h2
        subst h1 h2
        clear hnil HN
        go_wp2
        go_end0
        exact ⟨rfl, HX.out⟩
theorem own_baseI {w : World} {B b : Nat} {v : Value} {n : Nat} {xs : List Value} (h : w.ownsRow B 3 1 v n xs) (hb : b ≤ B) : w.ownsRow b 3 1 v n xs := by
  refine ⟨h.1, ?_⟩
  rcases h.2 with hn | ⟨g, cap, cur, e, hB, rest⟩
  · exact .inl hn
  · exact .inr ⟨g, cap, cur, e, Nat.le_trans hb hB, rest⟩
def core_Statics.f (k : Nat) (l0 : List S41) : Option (List Int) :=
  (core_Check.f k l0).bind fun c => if c = 0 then (statF k l0 false (-1, [])).bind fun z => some z.2 else some []
set_option maxHeartbeats 4000000 in
set_option maxRecDepth 1000000 in
theorem core_Statics.calls (k : Nat) (A0 : Option Addr) (c0 : Nat) (l0 : List S41) (r : List Int) (w : World) (hL : LaidW w) (hr0 : Kd.C k41 w A0 l0.length l0) (hc0 : l0.length ≤ c0) (h : core_Statics.f k l0 = some r) :
    Calls Tryd.prog 11 #[.slice A0 l0.length c0] w fun e w' => ∃ v0_ : Value, e = .returned (v0_) ∧ Kd.R (Kd.int .i64) 3 w' w.heap.size (fun _ => True) v0_ r ∧ Below w.heap.size w w' := by
  obtain ⟨c, hc, hz⟩ := Option.bind_eq_some_iff.mp (show (core_Check.f k l0).bind _ = some r from h)
  have HN := Aside0.mk hc
  have HL := Aside0.mk hL
  have HR := Aside0.mk hr0
  have HC := Aside0.mk hc0
  by_cases h0 : c = 0
  · subst h0
    rw [if_pos rfl] at hz
    obtain ⟨⟨n', xs'⟩, hs, hz2⟩ := Option.bind_eq_some_iff.mp hz
    obtain rfl : xs' = r := Option.some.inj hz2
    have HS := Aside0.mk hs
    clear h hc hz hz2 hs hL hr0 hc0
    go_enter Tryd.func11, Tryd.ntmps11
    go_upto_region 7 with (go_at_call 8; (refine (core_Check.calls k A0 c0 l0 0 _ HL.out HR.out HC.out HN.out).mono ?_); rintro e w1 ⟨rfl, hb1⟩)
    have B0 := Aside0.mk (Below.alloc' (Below.alloc' hb1 (Nat.le_refl _) (.cells #[.slice none 0 0] 30)) (Nat.le_refl _) (.cells #[.int .i64 (-1)] 3))
    have O0 := Aside0.mk ((Box.new w1 (.slice none 0 0) 30).alloc (.cells #[.int .i64 (-1)] 3))
    have N0 := Aside0.mk (show Box ((w1.alloc (.cells #[.slice none 0 0] 30)).alloc (.cells #[.int .i64 (-1)] 3)) (w1.heap.size + 1) (.int .i64 (-1)) from by have h := Box.new (w1.alloc (.cells #[.slice none 0 0] 30)) (.int .i64 (-1)) 3; simpa using h)
    have S0 := Aside0.mk (show ((w1.alloc (.cells #[.slice none 0 0] 30)).alloc (.cells #[.int .i64 (-1)] 3)).heap.size = w1.heap.size + 1 + 1 from by simp)
    have SW := Aside0.mk hb1.size
    generalize (w1.alloc (.cells #[.slice none 0 0] 30)).alloc (.cells #[.int .i64 (-1)] 3) = W3 at B0 O0 N0 S0 ⊢
    generalize w1.heap.size = bo at O0 N0 S0 SW ⊢
    have F1 := Aside0.mk (show Box (W3.alloc (.cells #[(.func (.func 17) #[] #[.pointer (some ⟨bo + 1, 0, none⟩), .pointer (some ⟨bo, 0, none⟩), .pointer (some ⟨bo + 1 + 1, 0, none⟩)])] 51)) (bo + 1 + 1) (.func (.func 17) #[] #[.pointer (some ⟨bo + 1, 0, none⟩), .pointer (some ⟨bo, 0, none⟩), .pointer (some ⟨bo + 1 + 1, 0, none⟩)]) from by have h := Box.new W3 (.func (.func 17) #[] #[.pointer (some ⟨bo + 1, 0, none⟩), .pointer (some ⟨bo, 0, none⟩), .pointer (some ⟨bo + 1 + 1, 0, none⟩)]) 51; rw [S0.out] at h; exact h)
    have X1 := Aside0.mk (show Sst w (bo + 1 + 1 + 1) (bo + 1) bo (bo + 1 + 1) (-1, []) (W3.alloc (.cells #[(.func (.func 17) #[] #[.pointer (some ⟨bo + 1, 0, none⟩), .pointer (some ⟨bo, 0, none⟩), .pointer (some ⟨bo + 1 + 1, 0, none⟩)])] 51)) from ⟨N0.out.alloc _, ⟨_, O0.out.alloc _, World.ownsRow_nil _ _ _ _⟩, F1.out, Below.alloc' B0.out (Nat.le_refl _) _, by have := S0.out; simp; omega⟩)
    have G1 := Aside0.mk (show SBl w (bo + 1 + 1 + 1) (bo + 1) bo (bo + 1 + 1) from ⟨by have := SW.out; omega, SW.out, by omega, by omega, by omega, by omega, by omega, by omega⟩)
    clear hb1
    generalize W3.alloc (.cells #[(.func (.func 17) #[] #[.pointer (some ⟨bo + 1, 0, none⟩), .pointer (some ⟨bo, 0, none⟩), .pointer (some ⟨bo + 1 + 1, 0, none⟩)])] 51) = W4 at F1 X1 ⊢
    have f1 := F1.out.cell
    go_wp2_with (go_at_call 17; (refine (core_stat.calls k A0 c0 l0 false (-1) n' [] xs' w W4 (bo + 1 + 1 + 1) (bo + 1) bo (bo + 1 + 1) HL.out HR.out HC.out G1.out X1.out HS.out).mono ?_); rintro e w5 ⟨rfl, hx5⟩; obtain ⟨v5, hv5, hr5⟩ := hx5.ob; (have v5c := hv5.cell); (have H5 := Aside0.mk hx5.below); (have R5 := Aside0.mk hr5); clear hx5 hv5 hr5)
    go_ret
    exact ⟨_, rfl, Kd.R_of_own (own_baseI R5.out (by have := SW.out; omega)) (fun _ _ => trivial), H5.out⟩
  · have h0' : (c != 0) = true := bne_iff_ne.mpr h0
    obtain rfl : [] = r := by rw [if_neg h0] at hz; exact Option.some.inj hz
    clear h hc hz hL hr0 hc0 h0
    go_enter Tryd.func11, Tryd.ntmps11
    go_wp2_with (go_at_call 8; (refine (core_Check.calls k A0 c0 l0 c _ HL.out HR.out HC.out HN.out).mono ?_); rintro e w1 ⟨rfl, hb1⟩)
    go_ret
    exact ⟨_, rfl, Kd.R_nil _ _ _ _ _, hb1⟩
theorem hereF_mono (k : Nat) (c : S41) (t : Bool) : LeO (hereF k c t) (hereF (k + 1) c t) := LeO.ite (LeO.refl _) (LeO.ite (core_static.mono _ k) (LeO.refl _))
theorem oneStat_mono (k : Nat) {g g' : List S41 → Bool → Int × List Int → Option (Int × List Int)} (h : ∀ l a s, LeO (g l a s) (g' l a s)) (c : S41) (t : Bool) (z : Int × List Int) : LeO (oneStat k g c t z) (oneStat (k + 1) g' c t z) :=
  LeO.bind (hereF_mono k _ _) (fun _ => LeO.bind (LeO.refl _) (fun _ => LeO.bind (h _ _ _) (fun _ => h _ _ _)))
theorem statL_mono (k : Nat) {g g' : List S41 → Bool → Int × List Int → Option (Int × List Int)} (h : ∀ l a s, LeO (g l a s) (g' l a s)) : ∀ l t z, LeO (statL k g l t z) (statL (k + 1) g' l t z)
  | [], _, _ => LeO.refl _
  | c :: cs, t, z => LeO.bind (oneStat_mono k h c t z) (fun _ => statL_mono k h cs t _)
theorem statF_mono : ∀ (k : Nat) (l : List S41) (t : Bool) (z : Int × List Int), LeO (statF k l t z) (statF (k + 1) l t z)
  | 0, _, _, _ => LeO.none _
  | k + 1, l, t, z => statL_mono k (statF_mono k) l t z
theorem core_Statics.mono (l : List S41) (k : Nat) : LeO (core_Statics.f k l) (core_Statics.f (k + 1) l) := LeO.bind (core_Check.mono _ k) (fun _ => LeO.ite (LeO.bind (statF_mono k _ _ _) (fun _ => LeO.refl _)) (LeO.refl _))

/-! ### stencillaw0_SameInts: function 12 -/
def stencillaw0_SameInts.l0 : Nat → List Int → List Int → Int → Option (Bool)
  | 0, _, _, _ => none
  | k + 1, x0, x1, x5 => if x5 < (x0.length : Int) then (if 0 ≤ x5 then (if x5 < (x1.length : Int) then (if (rd x0 x5) = (rd x1 x5) then (stencillaw0_SameInts.l0 k x0 x1 (wrap64 (x5 + 1))) else (some false)) else (none)) else (none)) else (some true)
def stencillaw0_SameInts.f (k : Nat) (l0 : List Int) (l1 : List Int) : Option (Bool) := if (l0.length : Int) = (l1.length : Int) then (stencillaw0_SameInts.l0 k l0 l1 0) else (some false)
theorem stencillaw0_SameInts.mono_l : ∀ k, (∀ y0 y1 y2, LeO (stencillaw0_SameInts.l0 k y0 y1 y2) (stencillaw0_SameInts.l0 (k + 1) y0 y1 y2))
  | 0 => fun _ _ _ r h => by simp [stencillaw0_SameInts.l0] at h
  | k + 1 => by
    have ih0 := stencillaw0_SameInts.mono_l k
    · intro y0 y1 y2
      unfold stencillaw0_SameInts.l0
      repeat' first
      | (with_reducible exact ih0 _ _ _)
      | (with_reducible exact LeO.refl _)
      | (with_reducible exact LeO.none _)
      | (with_reducible refine LeO.ite ?_ ?_)
      | (with_reducible refine LeO.bind ?_ (fun _ => ?_))
      | exact ih0 _ _ _
      | exact LeO.none _
      | refine LeO.ite ?_ ?_
      | refine LeO.bind ?_ (fun _ => ?_)
theorem stencillaw0_SameInts.mono : ∀ a0 a1 k, LeO (stencillaw0_SameInts.f k a0 a1) (stencillaw0_SameInts.f (k + 1) a0 a1) := by
  intro a0 a1 k
  have ih0 := stencillaw0_SameInts.mono_l k
  unfold stencillaw0_SameInts.f
  repeat' first
      | (with_reducible exact ih0 _ _ _)
      | (with_reducible exact LeO.refl _)
      | (with_reducible exact LeO.none _)
      | (with_reducible refine LeO.ite ?_ ?_)
      | (with_reducible refine LeO.bind ?_ (fun _ => ?_))
      | exact ih0 _ _ _
      | exact LeO.none _
      | refine LeO.ite ?_ ?_
      | refine LeO.bind ?_ (fun _ => ?_)
set_option maxHeartbeats 8000000 in
set_option maxRecDepth 100000 in
theorem stencillaw0_SameInts.calls (k : Nat) (A0 : Option Addr) (c0 : Nat) (l0 : List Int) (A1 : Option Addr) (c1 : Nat) (l1 : List Int) (r : Bool) (w : World) (hr0 : Kd.C (Kd.int .i64) w A0 l0.length l0) (hc0 : l0.length ≤ c0) (hr1 : Kd.C (Kd.int .i64) w A1 l1.length l1) (hc1 : l1.length ≤ c1) (h : stencillaw0_SameInts.f k l0 l1 = some r) :
    Calls Tryd.prog 12 #[.slice A0 l0.length c0, .slice A1 l1.length c1] w fun e w' => e = .returned (.bool r) ∧ Drawn0 w w' := by
  have HR0 := Aside0.mk hr0
  have HC0 := Aside0.mk hc0
  clear hr0 hc0
  have HR1 := Aside0.mk hr1
  have HC1 := Aside0.mk hc1
  clear hr1 hc1
  have H : (if (l0.length : Int) = (l1.length : Int) then (stencillaw0_SameInts.l0 k l0 l1 0) else (some false)) = some r := h
  clear h
  by_cases c3 : (l0.length : Int) = (l1.length : Int)
  · rw [if_pos c3] at H
    have c3b0 : ((l0.length : Int) == (l1.length : Int)) = true := beq_iff_eq.mpr c3
    have c3b1 : ((l0.length : Int) != (l1.length : Int)) = false := bne_eq_false_iff_eq.mpr c3
    have c3b2 : (l0.length == l1.length) = true := by first | simpa using c3 | (simp at c3 ⊢; omega)
    clear c3
    have H' := Aside0.mk H
    clear H
    go_enter Tryd.func12, Tryd.ntmps12
    go_wp2
    repeat (go_quiet (fail); try go_wp2)
    go_loopg [5] k (fun kq v5 w' => ∃ (x5_1 : Int), v5 = .int .i64 x5_1 ∧ Aside0 (stencillaw0_SameInts.l0 kq l0 l1 x5_1 = some r) ∧ Aside0 (kq ≤ k) ∧ Drawn0 w w')
    case atStart => exact ⟨(0), (by first | rfl | (simp; done) | (simp [*]; done)), H', ⟨Nat.le_refl _⟩, by repeat (first | exact Drawn0.refl _ | apply Drawn0.step)⟩
    case round =>
      clear H'
      try clear c1
      try clear p2
      try clear c3
      try clear c3b0
      try clear c3b1
      try clear c3b2
      obtain ⟨x5_1, rfl, HA, HK1, ⟨m1, rfl⟩⟩ := hrel
      cases gk with
      | zero => exact absurd HA.out (by simp [stencillaw0_SameInts.l0])
      | succ k1 =>
        have H := HA.out
        clear HA
        simp only [stencillaw0_SameInts.l0] at H
        by_cases c4 : x5_1 < (l0.length : Int)
        · rw [if_pos c4] at H
          have c4b0 : decide (x5_1 < (l0.length : Int)) = true := decide_eq_true c4
          clear c4
          by_cases c5 : 0 ≤ x5_1
          · rw [if_pos c5] at H
            have c5b0 : decide (0 ≤ x5_1) = true := decide_eq_true c5
            clear c5
            by_cases c6 : x5_1 < (l1.length : Int)
            · rw [if_pos c6] at H
              have c6b0 : decide (x5_1 < (l1.length : Int)) = true := decide_eq_true c6
              clear c6
              by_cases c7 : (rd l0 x5_1) = (rd l1 x5_1)
              · rw [if_pos c7] at H
                have c7b0 : ((rd l0 x5_1) == (rd l1 x5_1)) = true := beq_iff_eq.mpr c7
                have c7b1 : ((rd l0 x5_1) != (rd l1 x5_1)) = false := bne_eq_false_iff_eq.mpr c7
                clear c7
                have H' := Aside0.mk H
                clear H
                have p131 : 0 ≤ (x5_1 : Int) := of_decide_eq_true (by first | (with_reducible assumption) | assumption)
                have q131 : x5_1 < (l0.length : Int) := of_decide_eq_true (by first | (with_reducible assumption) | assumption)
                obtain ⟨ad131, e131, hx131_0⟩ := Kd.at_int HR0.out x5_1 p131 q131
                cases e131
                replace p131 := eq_true p131
                replace q131 := eq_true q131
                have p132 : 0 ≤ (x5_1 : Int) := of_decide_eq_true (by first | (with_reducible assumption) | assumption)
                have q132 : x5_1 < (l1.length : Int) := of_decide_eq_true (by first | (with_reducible assumption) | assumption)
                obtain ⟨ad132, e132, hx132_0⟩ := Kd.at_int HR1.out x5_1 p132 q132
                cases e132
                replace p132 := eq_true p132
                replace q132 := eq_true q132
                go_wp2
                repeat (go_quiet (fail); try go_wp2)
                go_roundg k1
                case measure => have := HK1.out; omega
                case rel => exact ⟨(wrap64 (x5_1 + 1)), (by first | rfl | (simp; done) | (simp [*]; done)), H', ⟨by have := HK1.out; omega⟩, by repeat (first | exact Drawn0.refl _ | apply Drawn0.step)⟩
              · rw [if_neg c7] at H
                have c7b0 : ((rd l0 x5_1) == (rd l1 x5_1)) = false := beq_eq_false_iff_ne.mpr c7
                have c7b1 : ((rd l0 x5_1) != (rd l1 x5_1)) = true := bne_iff_ne.mpr c7
                obtain rfl := Option.some.inj H
                have p131 : 0 ≤ (x5_1 : Int) := of_decide_eq_true (by first | (with_reducible assumption) | assumption)
                have q131 : x5_1 < (l0.length : Int) := of_decide_eq_true (by first | (with_reducible assumption) | assumption)
                obtain ⟨ad131, e131, hx131_0⟩ := Kd.at_int HR0.out x5_1 p131 q131
                cases e131
                replace p131 := eq_true p131
                replace q131 := eq_true q131
                have p132 : 0 ≤ (x5_1 : Int) := of_decide_eq_true (by first | (with_reducible assumption) | assumption)
                have q132 : x5_1 < (l1.length : Int) := of_decide_eq_true (by first | (with_reducible assumption) | assumption)
                obtain ⟨ad132, e132, hx132_0⟩ := Kd.at_int HR1.out x5_1 p132 q132
                cases e132
                replace p132 := eq_true p132
                replace q132 := eq_true q132
                go_wp2
                repeat (go_quiet (fail); try go_wp2)
                go_ret
                exact ⟨by first | rfl | (simp; done) | (simp [*]; done), by repeat (first | exact Drawn0.refl _ | apply Drawn0.step)⟩
            · rw [if_neg c6] at H
              exact absurd H (by simp)
          · rw [if_neg c5] at H
            exact absurd H (by simp)
        · rw [if_neg c4] at H
          have c4b0 : decide (x5_1 < (l0.length : Int)) = false := decide_eq_false c4
          clear c4
          obtain rfl := Option.some.inj H
          go_wp2
          repeat (go_quiet (fail); try go_wp2)
          go_ret
          exact ⟨by first | rfl | (simp; done) | (simp [*]; done), by repeat (first | exact Drawn0.refl _ | apply Drawn0.step)⟩
  · rw [if_neg c3] at H
    have c3b0 : ((l0.length : Int) == (l1.length : Int)) = false := beq_eq_false_iff_ne.mpr c3
    have c3b1 : ((l0.length : Int) != (l1.length : Int)) = true := bne_iff_ne.mpr c3
    have c3b2 : (l0.length == l1.length) = false := by first | simpa using c3 | (simp at c3 ⊢; omega)
    obtain rfl := Option.some.inj H
    go_enter Tryd.func12, Tryd.ntmps12
    go_wp2
    repeat (go_quiet (fail); try go_wp2)
    go_ret
    exact ⟨by first | rfl | (simp; done) | (simp [*]; done), by repeat (first | exact Drawn0.refl _ | apply Drawn0.step)⟩

/-! ### core_Loops: function 13: not printed -/
def core_Loops.f (k : Nat) (l0 : List S41) : Option Int := (lookedF k l0).bind fun z => some z.most
set_option maxHeartbeats 4000000 in
set_option maxRecDepth 1000000 in
theorem core_Loops.calls (k : Nat) (A0 : Option Addr) (c0 : Nat) (l0 : List S41) (r : Int) (w : World) (hL : LaidW w) (hr0 : Kd.C k41 w A0 l0.length l0) (hc0 : l0.length ≤ c0) (h : core_Loops.f k l0 = some r) :
    Calls Tryd.prog 13 #[.slice A0 l0.length c0] w fun e w' => e = .returned (.int .i64 r) ∧ Below w.heap.size w w' := by
  obtain ⟨z, hz, hr⟩ := Option.bind_eq_some_iff.mp (show (lookedF k l0).bind _ = some r from h)
  obtain rfl : z.most = r := Option.some.inj hr
  have HZ := Aside0.mk hz
  have HL := Aside0.mk hL
  have HR := Aside0.mk hr0
  have HC := Aside0.mk hc0
  clear h hz hr hL hr0 hc0
  have hf49 : ∀ w : World, (Instr.field 49 (.agg #[.int .i64 z.cnt, .int .i64 z.pcs, .int .i64 z.most, .int .i64 z.code]) 2).run Tryd.prog w = .ok (.int .i64 z.most) w := fun w => by kernel_rfl
  go_enter Tryd.func13, Tryd.ntmps13
  go_wp2_with (go_at_call 16; (refine (core_looked.calls k A0 c0 l0 z _ HL.out HR.out HC.out HZ.out).mono ?_); rintro e w1 ⟨rfl, hb1⟩)
  go_ret
  exact ⟨rfl, hb1⟩
theorem core_Loops.mono (l : List S41) (k : Nat) : LeO (core_Loops.f k l) (core_Loops.f (k + 1) l) := LeO.bind (lookedF_mono k _) (fun _ => LeO.refl _)

end Go.Proofs.YtncpknhmoakjmaaDoor.PCorePlaces
