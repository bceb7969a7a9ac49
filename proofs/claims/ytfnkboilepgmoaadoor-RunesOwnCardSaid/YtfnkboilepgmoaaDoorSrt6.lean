import Derived.Test.YtfnkboilepgmoaaDoorSrt1
/- slices.Sort at []rune: the pivot: some place of the range. -/
namespace Go.Proofs.YtfnkboilepgmoaaDoor.Srt
open Go Go.Sort Go.RowKit
set_option linter.unusedVariables false
set_option linter.unusedSimpArgs false
/-- Draws and new blocks alone; a counter in one of these. -/
structure St (w0 : World) (g : Nat) (w : World) : Prop where
  gr : ∃ n os, w = grow (Sort.ahead w0 n) os
  le : w0.heap.size ≤ g
  cell : ∃ z, w.cell? ⟨g, 0, none⟩ = some (.int .i64 z)
  fr : w.frozen? ⟨g, 0, none⟩ = false
theorem St.drewN {w0 w : World} {g : Nat} (h : St w0 g w) (m : Nat) : St w0 g (w.drewN m) := by
  obtain ⟨⟨n, os, rfl⟩, hl, hc, hf⟩ := h
  refine ⟨⟨n + m, os, ?_⟩, hl, hc, hf⟩
  rw [← ahead_ahead]
  rfl
theorem St.drew {w0 w : World} {g : Nat} (h : St w0 g w) : St w0 g w.drew := h.drewN 1
theorem St.set {w0 w : World} {g : Nat} (h : St w0 g w) (z : Int) : St w0 g (w.setCell ⟨g, 0, none⟩ (.int .i64 z)) := by
  obtain ⟨⟨n, os, rfl⟩, hl, ⟨z0, hc⟩, hf⟩ := h
  refine ⟨⟨n, _, by rw [setCell_eq, mapBlock_grow_new _ _ _ _ (by simpa using hl)]⟩, hl, ⟨z, ?_⟩, ?_⟩
  · exact World.cell?_setCell_same _ _ _ hc
  · simpa using hf
theorem St.holds {w0 w : World} {g blk : Nat} {d : Array Int} (h : St w0 g w) (hb : blk < w0.heap.size) (h0 : Holds enc w0 blk 0 d) : Holds enc w blk 0 d := by
  obtain ⟨⟨n, os, rfl⟩, _, _, _⟩ := h
  exact holds_grow _ _ _ _ _ _ (by simpa using hb) (holds_ahead enc w0 n blk 0 d h0)
theorem St.at {w0 w : World} {g blk : Nat} {d : Array Int} (h : St w0 g w) (h0 : Holds enc w0 blk 0 d) : At w0 blk d w := by
  obtain ⟨⟨n, os, rfl⟩, _, _, _⟩ := h
  exact ⟨n, os, by rw [putRow_self enc _ blk 0 d (holds_ahead enc w0 n blk 0 d h0)]⟩
theorem St.trans {w0 w1 w2 : World} {g : Nat} (h1 : St w0 g w1) (h2 : St w1 g w2) : St w0 g w2 := by
  obtain ⟨⟨n, os, rfl⟩, hl, _, _⟩ := h1
  obtain ⟨⟨m, os', rfl⟩, _, hc, hf⟩ := h2
  refine ⟨⟨n + m, os ++ os', ?_⟩, hl, hc, hf⟩
  rw [ahead_grow, grow_grow, ahead_ahead]
theorem new_heap (w : World) (o : Obj) : (w.alloc o).heap[w.heap.size]? = some o := by
  show (w.heap.push o)[w.heap.size]? = some o
  exact Array.getElem?_push_size
theorem new_cell (w : World) (z : Int) : (w.alloc (.cells #[.int .i64 z] 3)).cell? ⟨w.heap.size, 0, none⟩ = some (.int .i64 z) := by
  unfold World.cell?
  rw [new_heap]
  rfl
theorem new_frozen (w : World) (z : Int) : (w.alloc (.cells #[.int .i64 z] 3)).frozen? ⟨w.heap.size, 0, none⟩ = false := by
  unfold World.frozen?
  rw [new_heap]
  rfl
set_option maxHeartbeats 8000000 in
set_option maxRecDepth 100000 in
theorem order2 (w0 : World) (blk cap g : Nat) (d : Array Int) (lo hi a b : Nat) (w : World) (hH : Holds enc w0 blk 0 d) (hB : blk < w0.heap.size) (hhi : hi ≤ d.size) (hsz : d.size < 2305843009213693952) (ha : lo ≤ a ∧ a < hi) (hb : lo ≤ b ∧ b < hi) (hS : St w0 g w) :
    Calls Tryd.prog 124 #[.slice (some ⟨blk, 0, none⟩) d.size cap, .int .i64 a, .int .i64 b, .pointer (some ⟨g, 0, none⟩)] w fun e w' => (∃ x y : Nat, e = .returned (.tuple #[.int .i64 x, .int .i64 y]) ∧ (lo ≤ x ∧ x < hi) ∧ (lo ≤ y ∧ y < hi)) ∧ St w0 g w' := by
  have HA := Aside0.mk hS
  have hh := HA.out.holds hB hH
  obtain ⟨ci, fi⟩ := at_cell hh (i := b) (by omega)
  obtain ⟨cj, fj⟩ := at_cell hh (i := a) (by omega)
  clear hh
  obtain ⟨X, hX⟩ : ∃ X, d[b]! = X := ⟨_, rfl⟩
  rw [hX] at ci
  obtain ⟨Y, hY⟩ : ∃ Y, d[a]! = Y := ⟨_, rfl⟩
  rw [hY] at cj
  have z0_ := eq_true (show (0 : Int) ≤ (a : Int) by omega)
  have z1_ := eq_true (show (a : Int) < (d.size : Int) by omega)
  have z2_ := eq_true (show (0 : Int) ≤ (b : Int) by omega)
  have z3_ := eq_true (show (b : Int) < (d.size : Int) by omega)
  obtain ⟨L, hL⟩ : ∃ L, lt X Y = L := ⟨_, rfl⟩
  replace hL := Aside0.mk hL
  clear hX hY hS
  go_enter Tryd.func124, Tryd.ntmps124
  go_wp2
  go_quiet ((go_at_call 90; refine Calls.quiet_of (less _ _ L hL.out _)))
  have HA2 := Aside0.mk (HA.out.drewN nq)
  clear HA ci cj fi fj
  generalize w.drewN nq = ws at HA2 ⊢
  cases L
  · go_wp2
    go_ret2
    exact ⟨⟨a, b, rfl, ha, hb⟩, HA2.out⟩
  · obtain ⟨z, hz⟩ := HA2.out.cell
    have hf := HA2.out.fr
    go_wp2
    go_ret2
    exact ⟨⟨b, a, rfl, hb, ha⟩, by first | exact HA2.out.set _ | exact (HA2.out.set _).drew⟩
set_option maxHeartbeats 8000000 in
set_option maxRecDepth 100000 in
theorem median (w0 : World) (blk cap g : Nat) (d : Array Int) (lo hi a b c : Nat) (w : World) (hH : Holds enc w0 blk 0 d) (hB : blk < w0.heap.size) (hhi : hi ≤ d.size) (hsz : d.size < 2305843009213693952) (ha : lo ≤ a ∧ a < hi) (hb : lo ≤ b ∧ b < hi) (hc : lo ≤ c ∧ c < hi) (hS : St w0 g w) :
    Calls Tryd.prog 110 #[.slice (some ⟨blk, 0, none⟩) d.size cap, .int .i64 a, .int .i64 b, .int .i64 c, .pointer (some ⟨g, 0, none⟩)] w fun e w' => (∃ x : Nat, e = .returned (.int .i64 x) ∧ lo ≤ x ∧ x < hi) ∧ St w0 g w' := by
  go_enter Tryd.func110, Tryd.ntmps110
  go_wp2_with (go_at_call 124; refine (order2 w0 blk cap g d lo hi _ _ _ hH hB hhi hsz (by assumption) (by assumption) (by assumption)).mono ?_; rintro e w1 ⟨⟨x1, y1, rfl, hx1, hy1⟩, hS1⟩)
  go_ret
  exact ⟨⟨y1, rfl, hy1⟩, hS1⟩
set_option maxHeartbeats 8000000 in
set_option maxRecDepth 100000 in
theorem adjacent (w0 : World) (blk cap g : Nat) (d : Array Int) (lo hi a : Nat) (w : World) (hH : Holds enc w0 blk 0 d) (hB : blk < w0.heap.size) (hhi : hi ≤ d.size) (hsz : d.size < 2305843009213693952) (ha : lo + 1 ≤ a ∧ a + 1 < hi) (hS : St w0 g w) :
    Calls Tryd.prog 109 #[.slice (some ⟨blk, 0, none⟩) d.size cap, .int .i64 a, .pointer (some ⟨g, 0, none⟩)] w fun e w' => (∃ x : Nat, e = .returned (.int .i64 x) ∧ lo ≤ x ∧ x < hi) ∧ St w0 g w' := by
  obtain ⟨m, hm⟩ : ∃ m, m + 1 = a := ⟨a - 1, by omega⟩
  obtain ⟨n, hn⟩ : ∃ n, a + 1 = n := ⟨_, rfl⟩
  have e1 : (a : Int) - 1 = (m : Int) := by omega
  have e2 : (a : Int) + 1 = (n : Int) := by omega
  have h1 : lo ≤ m ∧ m < hi := by omega
  have h2 : lo ≤ a ∧ a < hi := by omega
  have h3 : lo ≤ n ∧ n < hi := by omega
  clear hm hn
  go_enter Tryd.func109, Tryd.ntmps109
  go_wp2_with (go_at_call 110; refine (median w0 blk cap g d lo hi m a n _ hH hB hhi hsz h1 h2 h3 (by assumption)).mono ?_; rintro e w1 ⟨⟨x1, rfl, hx1⟩, hS1⟩)
  go_ret
  exact ⟨⟨x1, rfl, hx1⟩, hS1⟩
set_option maxHeartbeats 8000000 in
set_option maxRecDepth 100000 in
theorem choose (blk cap : Nat) (d : Array Int) (a b : Nat) (w : World) (hH : Holds enc w blk 0 d) (hB : blk < w.heap.size) (hab : a < b) (hb : b ≤ d.size) (hsz : d.size < 2305843009213693952) :
    Calls Tryd.prog 87 #[.slice (some ⟨blk, 0, none⟩) d.size cap, .int .i64 a, .int .i64 b] w fun e w' => (∃ (x : Nat) (h : Int), e = .returned (.tuple #[.int .i64 x, .int .i64 h]) ∧ a ≤ x ∧ x < b) ∧ At w blk d w' := by
  obtain ⟨l, hl⟩ : ∃ l, b - a = l := ⟨_, rfl⟩
  obtain ⟨q, hq⟩ : ∃ q, l / 4 = q := ⟨_, rfl⟩
  obtain ⟨i, hi⟩ : ∃ i, a + q * 1 = i := ⟨_, rfl⟩
  obtain ⟨j, hj⟩ : ∃ j, a + q * 2 = j := ⟨_, rfl⟩
  obtain ⟨k, hk⟩ : ∃ k, a + q * 3 = k := ⟨_, rfl⟩
  have E0 : IntKind.i64.wrap ((b : Int) - (a : Int)) = (l : Int) := wi (by omega) (by omega) (by omega)
  have E1 : (l : Int).tdiv 4 = (q : Int) := by rw [Int.tdiv_eq_ediv_of_nonneg (by omega)]; omega
  have E2 : IntKind.i64.wrap ((a : Int) + (q : Int)) = (i : Int) := wi (by omega) (by omega) (by omega)
  have E4 : (a : Int) + (q : Int) * 2 = (j : Int) := by omega
  have E5 : (a : Int) + (q : Int) * 3 = (k : Int) := by omega
  have HS : St w w.heap.size (w.alloc (.cells #[.int .i64 0] 3)) := ⟨⟨0, #[.cells #[.int .i64 0] 3], by rw [alloc_eq_grow]; rfl⟩, Nat.le_refl _, ⟨0, new_cell w 0⟩, new_frozen w 0⟩
  go_enter Tryd.func87, Tryd.ntmps87
  go_upto_region 6 with (fail)
  clear E0 E1 E2 E4 E5
  generalize w.alloc (.cells #[.int .i64 0] 3) = w1 at HS ⊢
  generalize hg : w.heap.size = g at HS ⊢
  replace HS := Aside0.mk HS
  go_upto_if 32 with (fail)
  go_cut [11] (fun x wc => ∃ (r : Nat), x = .int .i64 r ∧ a ≤ r ∧ r < b ∧ Aside0 (St w g wc))
  case first =>
    by_cases c8 : 8 ≤ l
    · have d2 : decide (8 ≤ l) = true := decide_eq_true c8
      have d3 : decide (8 ≤ (l : Int)) = true := decide_eq_true (by omega)
      by_cases c50 : 50 ≤ l
      · have d4 : decide (50 ≤ l) = true := decide_eq_true c50
        have d5 : decide (50 ≤ (l : Int)) = true := decide_eq_true (by omega)
        have h1 : a + 1 ≤ i ∧ i + 1 < b := by omega
        have h2 : a + 1 ≤ j ∧ j + 1 < b := by omega
        have h3 : a + 1 ≤ k ∧ k + 1 < b := by omega
        have HS1 := HS.out
        clear hi hj hk hq
        go_wp2_with (first | (go_at_call 109; refine (adjacent w blk cap g d a b _ _ hH hB hb hsz (by assumption) (by assumption)).mono ?_; rintro e w9 ⟨⟨x1, rfl, hx1⟩, hS1⟩) | (go_at_call 110; refine (median w blk cap g d a b _ _ _ _ hH hB hb hsz (by assumption) (by assumption) (by assumption) (by assumption)).mono ?_; rintro e w9 ⟨⟨x1, rfl, hx1⟩, hS1⟩))
        go_meet
        case rel => exact ⟨x1, rfl, hx1.1, hx1.2, ⟨hS1⟩⟩
      · have d4 : decide (50 ≤ l) = false := decide_eq_false c50
        have d5 : decide (50 ≤ (l : Int)) = false := decide_eq_false (by omega)
        have h1 : a ≤ i ∧ i < b := by omega
        have h2 : a ≤ j ∧ j < b := by omega
        have h3 : a ≤ k ∧ k < b := by omega
        have HS1 := HS.out
        clear hi hj hk hq
        go_wp2_with (go_at_call 110; refine (median w blk cap g d a b _ _ _ _ hH hB hb hsz (by assumption) (by assumption) (by assumption) (by assumption)).mono ?_; rintro e w9 ⟨⟨x1, rfl, hx1⟩, hS1⟩)
        go_meet
        case rel => exact ⟨x1, rfl, hx1.1, hx1.2, ⟨hS1⟩⟩
    · have d2 : decide (8 ≤ l) = false := decide_eq_false c8
      have d3 : decide (8 ≤ (l : Int)) = false := decide_eq_false (by omega)
      go_wp2
      go_meet
      case rel => exact ⟨j, rfl, by omega, by omega, HS⟩
  case rest =>
    clear HS
    obtain ⟨r, rfl, hr, hr2, HS⟩ := hcut
    obtain ⟨z, hz⟩ := HS.out.cell
    clear hi hj hk hq
    by_cases c0 : z = 0
    · subst c0
      go_wp2
      go_ret2
      exact ⟨⟨r, _, rfl, hr, hr2⟩, HS.out.at hH⟩
    · have b0 : (z == 0) = false := beq_eq_false_iff_ne.mpr c0
      by_cases c12 : z = 12
      · subst c12
        go_wp2
        go_ret2
        exact ⟨⟨r, _, rfl, hr, hr2⟩, HS.out.at hH⟩
      · have b1 : (z == 12) = false := beq_eq_false_iff_ne.mpr c12
        go_wp2
        go_ret2
        exact ⟨⟨r, _, rfl, hr, hr2⟩, HS.out.at hH⟩
end Go.Proofs.YtfnkboilepgmoaaDoor.Srt
