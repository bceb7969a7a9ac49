import Derived.Test.YtfnkboilepgmoaaDoorSrt6
import Derived.Test.YtfnkboilepgmoaaDoorLays
import Derived.Laws.BitsAllLaws
/- slices.Sort at []rune: patterns broken: an exchange or three within the range. -/
namespace Go.Proofs.YtfnkboilepgmoaaDoor.Srt
open Go Go.Sort Go.RowKit
set_option linter.unusedVariables false
set_option linter.unusedSimpArgs false
theorem bitsLen (x : Int) (w : World) (h0 : 0 ≤ x) (h1 : x ≤ 18446744073709551615) : Calls Tryd.prog 74 #[.int .u64 x] w fun e w' => e = .returned (.int .i64 (Lib.bitLen x.toNat)) ∧ w' = w := Any.bits_Len (SlLaysF0.n15.bits (P := Tryd.prog) (ρ := Tryd.sortL_ren) { Tryd.sortL with }) x w h0 h1
structure Su (w0 : World) (g : Nat) (w : World) : Prop where
  gr : ∃ n os, w = grow (Sort.ahead w0 n) os
  le : w0.heap.size ≤ g
  cell : ∃ z : Int, (0 ≤ z ∧ z ≤ 18446744073709551615) ∧ w.cell? ⟨g, 0, none⟩ = some (.int .u64 z)
  fr : w.frozen? ⟨g, 0, none⟩ = false
theorem Su.drewN {w0 w : World} {g : Nat} (h : Su w0 g w) (m : Nat) : Su w0 g (w.drewN m) := by
  obtain ⟨⟨n, os, rfl⟩, hl, hc, hf⟩ := h
  refine ⟨⟨n + m, os, ?_⟩, hl, hc, hf⟩
  rw [← ahead_ahead]
  rfl
theorem Su.drew {w0 w : World} {g : Nat} (h : Su w0 g w) : Su w0 g w.drew := h.drewN 1
theorem Su.set {w0 w : World} {g : Nat} (h : Su w0 g w) (z : Int) (hz : 0 ≤ z ∧ z ≤ 18446744073709551615) : Su w0 g (w.setCell ⟨g, 0, none⟩ (.int .u64 z)) := by
  obtain ⟨⟨n, os, rfl⟩, hl, ⟨z0, _, hc⟩, hf⟩ := h
  refine ⟨⟨n, _, by rw [setCell_eq, mapBlock_grow_new _ _ _ _ (by simpa using hl)]⟩, hl, ⟨z, hz, ?_⟩, ?_⟩
  · exact World.cell?_setCell_same _ _ _ hc
  · simpa using hf
theorem bits_range (op : BinOp) (x y : Int) : 0 ≤ bits op .u64 x y ∧ bits op .u64 x y ≤ 18446744073709551615 := by
  unfold bits
  dsimp only
  rw [IntKind.wrap_u64]
  omega
set_option maxHeartbeats 8000000 in
set_option maxRecDepth 100000 in
theorem next (w0 : World) (g : Nat) (w : World) (hS : Su w0 g w) :
    Calls Tryd.prog 108 #[.pointer (some ⟨g, 0, none⟩)] w fun e w' => (∃ x : Int, e = .returned (.int .u64 x) ∧ 0 ≤ x ∧ x ≤ 18446744073709551615) ∧ Su w0 g w' := by
  obtain ⟨z, hz, hc⟩ := hS.cell
  have hf := hS.fr
  go_enter Tryd.func108, Tryd.ntmps108
  go_wp2
  go_region
  have h1 := bits_range .xor z (IntKind.u64.wrap (z * 8192))
  have HS1 := (hS.set _ h1).drew
  generalize bits .xor .u64 z (IntKind.u64.wrap (z * 8192)) = z1 at h1 HS1 ⊢
  generalize (w.setCell ⟨g, 0, none⟩ (.int .u64 z1)).drew = w1 at HS1 ⊢
  clear hc hf hz hS
  obtain ⟨z, hz, hc⟩ := HS1.cell
  have hf := HS1.fr
  go_wp2
  go_region
  have h2 := bits_range .xor z (z / 128)
  have HS2 := (HS1.set _ h2).drew
  generalize bits .xor .u64 z (z / 128) = z2 at h2 HS2 ⊢
  generalize (w1.setCell ⟨g, 0, none⟩ (.int .u64 z2)).drew = w2 at HS2 ⊢
  clear hc hf hz HS1 h1
  obtain ⟨z, hz, hc⟩ := HS2.cell
  have hf := HS2.fr
  go_wp2
  go_region
  have h3 := bits_range .xor z (IntKind.u64.wrap (z * 131072))
  have HS3 := (HS2.set _ h3).drew
  generalize bits .xor .u64 z (IntKind.u64.wrap (z * 131072)) = z3 at h3 HS3 ⊢
  generalize (w2.setCell ⟨g, 0, none⟩ (.int .u64 z3)).drew = w3 at HS3 ⊢
  clear hc hf hz HS2 h2
  obtain ⟨z, hz, hc⟩ := HS3.cell
  have hf := HS3.fr
  go_wp2
  go_ret
  exact ⟨⟨z, rfl, hz.1, hz.2⟩, HS3⟩
theorem pow_le : ∀ (n x : Nat), x ≤ n → 0 < x → x < 2 ^ 64 → 2 ^ Lib.bitLen x ≤ 2 * x
  | 0, x, h, h0, _ => by omega
  | n + 1, x, h, h0, h1 => by
    rw [Lib.bitLen_half x (by omega) h1, Nat.pow_add]
    rcases Nat.lt_or_ge x 2 with h2 | h2
    · obtain rfl : x = 1 := by omega
      decide
    · have := pow_le n (x / 2) (by omega) (by omega) (by omega)
      omega
set_option maxHeartbeats 8000000 in
set_option maxRecDepth 100000 in
theorem nextPow (l : Nat) (w : World) (h0 : 0 < l) (h : l < 2305843009213693952) :
    Calls Tryd.prog 107 #[.int .i64 l] w fun e w' => (∃ m : Nat, e = .returned (.int .u64 m) ∧ 0 < m ∧ m ≤ 2 * l) ∧ w' = w := by
  have hc : IntKind.u64.wrap (l : Int) = (l : Int) := by rw [IntKind.wrap_u64]; omega
  have hb : Lib.bitLen l ≤ 62 := Lib.bitLen_le l 62 (by omega) (by omega)
  have hp := pow_le l l (Nat.le_refl _) h0 (by omega)
  have hpos := Nat.two_pow_pos (Lib.bitLen l)
  have hsh : IntKind.u64.wrap ((2 : Int) ^ Lib.bitLen l) = ((2 ^ Lib.bitLen l : Nat) : Int) := by
    rw [IntKind.wrap_u64, show ((2 : Int) ^ Lib.bitLen l) = ((2 ^ Lib.bitLen l : Nat) : Int) by rw [Int.natCast_pow]; rfl]
    omega
  generalize 2 ^ Lib.bitLen l = m at hp hpos hsh
  generalize hB : Lib.bitLen l = y at hb hsh
  have hB := Aside0.mk hB
  go_enter Tryd.func107, Tryd.ntmps107
  go_wp2_with (go_at_call 74; refine (bitsLen _ _ (by omega) (by omega)).mono ?_; rintro e w1 ⟨rfl, rfl⟩; rw [Int.toNat_natCast, hB.out])
  go_ret
  exact ⟨⟨m, rfl, hpos, hp⟩, rfl⟩
/-- The row, and a counter in a block behind. -/
structure Rw (w : World) (g blk : Nat) (d : Array Int) (w' : World) : Prop where
  at' : At w blk d w'
  le : w.heap.size ≤ g
  cell : ∃ z : Int, (0 ≤ z ∧ z ≤ 18446744073709551615) ∧ w'.cell? ⟨g, 0, none⟩ = some (.int .u64 z)
  fr : w'.frozen? ⟨g, 0, none⟩ = false
theorem Rw.drewN {w w' : World} {g blk : Nat} {d : Array Int} (h : Rw w g blk d w') (m : Nat) : Rw w g blk d (w'.drewN m) := ⟨h.at'.drewN m, h.le, h.cell, h.fr⟩
theorem Rw.drew {w w' : World} {g blk : Nat} {d : Array Int} (h : Rw w g blk d w') : Rw w g blk d w'.drew := ⟨h.at'.drew, h.le, h.cell, h.fr⟩
theorem Rw.swap {w w' : World} {g blk : Nat} {d : Array Int} (h : Rw w g blk d w') (hb : blk < w.heap.size) {i j : Nat} (hi : i < d.size) (hj : j < d.size) {x y : Value} (hx : x = enc d[j]!) (hy : y = enc d[i]!) :
    Rw w g blk (swp d i j) ((w'.setCell ⟨blk, i, none⟩ x).setCell ⟨blk, j, none⟩ y) := by
  obtain ⟨z, hz, hc⟩ := h.cell
  have hl := h.le
  have hne : ∀ k, (⟨blk, k, none⟩ : Addr) ≠ ⟨g, 0, none⟩ := fun k e => by
    have := congrArg Addr.block e
    dsimp only at this
    omega
  refine ⟨h.at'.swap hb hi hj hx hy, hl, ⟨z, hz, ?_⟩, ?_⟩
  · rw [World.cell?_setCell_other _ _ _ _ (hne j), World.cell?_setCell_other _ _ _ _ (hne i)]
    exact hc
  · simpa using h.fr
theorem Rw.holds {w w' : World} {g blk : Nat} {d0 d : Array Int} (h : Rw w g blk d w') (hb : blk < w.heap.size) (h0 : Holds enc w blk 0 d0) (hs : d.size = d0.size) : Holds enc w' blk 0 d := h.at'.holds hb h0 hs
theorem Rw.su {w w' : World} {g blk : Nat} {d : Array Int} (h : Rw w g blk d w') : ∃ n, Su (putRow enc (Sort.ahead w n) blk 0 d) g w' := by
  obtain ⟨n, os, rfl⟩ := h.at'
  exact ⟨n, ⟨⟨0, os, rfl⟩, by simpa using h.le, h.cell, h.fr⟩⟩
theorem Su.rw {w w' : World} {g blk n : Nat} {d : Array Int} (h : Su (putRow enc (Sort.ahead w n) blk 0 d) g w') : Rw w g blk d w' := by
  obtain ⟨⟨m, os, rfl⟩, hl, hc, hf⟩ := h
  refine ⟨⟨n + m, os, ?_⟩, by simpa using hl, hc, hf⟩
  rw [← putRow_ahead, ahead_ahead]
set_option maxHeartbeats 8000000 in
set_option maxRecDepth 100000 in
theorem nextR (w : World) (g blk : Nat) (d : Array Int) (w' : World) (hS : Rw w g blk d w') :
    Calls Tryd.prog 108 #[.pointer (some ⟨g, 0, none⟩)] w' fun e w2 => (∃ x : Int, e = .returned (.int .u64 x) ∧ 0 ≤ x ∧ x ≤ 18446744073709551615) ∧ Rw w g blk d w2 := by
  obtain ⟨n, hn⟩ := hS.su
  exact (next _ g w' hn).mono fun e w2 h => ⟨h.1, h.2.rw⟩
theorem new_cellU (w : World) (z : Int) : (w.alloc (.cells #[.int .u64 z] 139)).cell? ⟨w.heap.size, 0, none⟩ = some (.int .u64 z) := by
  unfold World.cell?
  rw [new_heap]
  rfl
theorem new_frozenU (w : World) (z : Int) : (w.alloc (.cells #[.int .u64 z] 139)).frozen? ⟨w.heap.size, 0, none⟩ = false := by
  unfold World.frozen?
  rw [new_heap]
  rfl
/-- The masked number, as a Nat below the double length. -/
theorem masked (x : Int) (m : Nat) (h0 : 0 ≤ x) (h1 : x ≤ 18446744073709551615) (hm : 0 < m) (hm2 : m < 18446744073709551616) : ∃ o : Nat, bits .and .u64 x ((m : Int) - 1) = (o : Int) ∧ o < m := by
  refine ⟨x.toNat &&& (m - 1), ?_, ?_⟩
  · rw [show (m : Int) - 1 = ((m - 1 : Nat) : Int) by omega, u64_and x _ h0 (by omega) (by omega) (by omega), Int.toNat_natCast]
  · have := Nat.and_le_right (n := x.toNat) (m := m - 1)
    omega
set_option maxHeartbeats 8000000 in
set_option maxRecDepth 100000 in
theorem breaks (blk cap : Nat) (d : Array Int) (a b : Nat) (w : World) (hH : Holds enc w blk 0 d) (hB : blk < w.heap.size) (hab : a ≤ b) (hb : b ≤ d.size) (hsz : d.size < 2305843009213693952) :
    Calls Tryd.prog 86 #[.slice (some ⟨blk, 0, none⟩) d.size cap, .int .i64 a, .int .i64 b] w fun e w' => e = .returned (.tuple #[]) ∧ ∃ d', PermIn a b d d' ∧ At w blk d' w' := by
  have HA := Aside0.mk (At.start hH)
  obtain ⟨l, hl⟩ : ∃ l, b - a = l := ⟨_, rfl⟩
  obtain ⟨q, hq⟩ : ∃ q, l / 4 = q := ⟨_, rfl⟩
  obtain ⟨i0, hi0⟩ : ∃ i, a + q * 2 = i := ⟨_, rfl⟩
  have E0 : IntKind.i64.wrap ((b : Int) - (a : Int)) = (l : Int) := wi (by omega) (by omega) (by omega)
  have E1 : (l : Int).tdiv 4 = (q : Int) := by rw [Int.tdiv_eq_ediv_of_nonneg (by omega)]; omega
  have E4 : (a : Int) + (q : Int) * 2 = (i0 : Int) := by omega
  by_cases c8 : 8 ≤ l
  · have d2 : decide (8 ≤ l) = true := decide_eq_true c8
    have d3 : decide (8 ≤ (l : Int)) = true := decide_eq_true (by omega)
    have hcv : IntKind.u64.wrap (l : Int) = (l : Int) := by rw [IntKind.wrap_u64]; omega
    have c1 := new_cellU w 0
    have c2 := new_frozenU w 0
    go_enter Tryd.func86, Tryd.ntmps86
    go_upto_block 0 with (go_at_call 107; refine (nextPow l _ (by omega) (by omega)).mono ?_; rintro e w1 ⟨⟨m, rfl, hm0, hm1⟩, rfl⟩)
    have HR := Aside0.mk (show Rw w w.heap.size blk d (w.alloc (.cells #[.int .u64 l] 139)) from ⟨HA.out.alloc _, Nat.le_refl _, ⟨l, by omega, new_cellU w l⟩, new_frozenU w l⟩)
    clear HA c1 c2 E4
    generalize w.alloc (.cells #[.int .u64 l] 139) = w1 at HR ⊢
    generalize hg : w.heap.size = g at HR ⊢
    obtain ⟨i1, hi1⟩ : ∃ i, i + 1 = i0 := ⟨i0 - 1, by omega⟩
    have e1 : (i0 : Int) - 1 = (i1 : Int) := by omega
    go_wp2
    go_loopw [9] (fun x wr => ∃ (i : Nat) (dk : Array Int), x = .int .i64 i ∧ i1 ≤ i ∧ i ≤ i1 + 3 ∧ dk.size = d.size ∧ Aside0 (Rw w g blk dk wr) ∧ Aside0 (PermIn a b d dk)) (fun x _ => i1 + 3 - (intOf x).toNat)
    case atStart => exact ⟨i1, d, by first | rfl | (simp <;> omega), Nat.le_refl _, by omega, rfl, HR, ⟨permIn_refl _ _ _⟩⟩
    case round =>
      clear HR e1
      obtain ⟨i, dk, rfl, hi, hi2, hds, HA, HP⟩ := hrel
      have E4 : (a : Int) + (q : Int) * 2 = (i0 : Int) := by omega
      by_cases cb : i ≤ i0 + 1
      · have d4 : decide ((i : Int) ≤ (i0 : Int) + 1) = true := decide_eq_true (by omega)
        have HR1 := HA.out
        clear HA
        go_upto_if 43 with (go_at_call 108; refine (nextR w g blk dk _ HR1).mono ?_; rintro e w9 ⟨⟨x1, rfl, hx0, hx1⟩, hR9⟩; obtain ⟨o, ho, hom⟩ := masked x1 m hx0 hx1 hm0 (by omega); have W5 : IntKind.i64.wrap (o : Int) = (o : Int) := wi rfl (by omega) (by omega); have W6 : IntKind.u64.wrap ((m : Int) - 1) = (m : Int) - 1 := by rw [IntKind.wrap_u64]; omega)
        have HA := Aside0.mk hR9
        clear hR9 HR1 ho W5 W6 E4
        go_cut [10] (fun x wc => ∃ (o2 : Nat), x = .int .i64 o2 ∧ o2 < l ∧ w9 = wc)
        case first =>
          by_cases co : l ≤ o
          · have d5 : decide (l ≤ o) = true := decide_eq_true co
            have d6 : decide ((l : Int) ≤ (o : Int)) = true := decide_eq_true (by omega)
            obtain ⟨o2, ho2⟩ : ∃ o2, o - l = o2 := ⟨_, rfl⟩
            have W7 : IntKind.i64.wrap ((o : Int) - (l : Int)) = (o2 : Int) := wi (by omega) (by omega) (by omega)
            go_wp2
            go_meet
            case rel => exact ⟨o2, rfl, by omega, rfl⟩
          · have d5 : decide (l ≤ o) = false := decide_eq_false co
            have d6 : decide ((l : Int) ≤ (o : Int)) = false := decide_eq_false (by omega)
            go_wp2
            go_meet
            case rel => exact ⟨o, rfl, by omega, rfl⟩
        case rest =>
          obtain ⟨o2, rfl, ho2, rfl⟩ := hcut
          obtain ⟨k, hk⟩ : ∃ k, a + o2 = k := ⟨_, rfl⟩
          have W8 : IntKind.i64.wrap ((a : Int) + (o2 : Int)) = (k : Int) := wi (by omega) (by omega) (by omega)
          by_cases heq : i = k
          · subst heq
            have hh := HA.out.holds hB hH hds
            obtain ⟨ci, fi⟩ := at_cell hh (i := i) (by omega)
            clear hh
            obtain ⟨X, hX⟩ : ∃ X, dk[i]! = X := ⟨_, rfl⟩
            rw [hX] at ci
            have v0_ := eq_true (show (0 : Int) ≤ (i : Int) by omega)
            have v1_ := eq_true (show (i : Int) < (d.size : Int) by omega)
            replace hX := Aside0.mk hX
            go_wp2_with fail
            go_region
            all_goals go_wp2
            go_roundw
            case rel => exact ⟨i + 1, swp dk i i, by simp, by omega, by omega, by rw [size_swp]; exact hds, ⟨(HA.out.swap hB (i := i) (j := i) (by omega) (by omega) (by rw [hX.out]) (by rw [hX.out])).drew⟩, ⟨permIn_trans _ _ _ _ _ HP.out (swp_permIn _ _ _ _ _ (by omega) (by omega) (by omega) (by omega) (by omega))⟩⟩
            case measure => simp [intOf] <;> omega
          · have heq2 : ¬ k = i := fun h => heq h.symm
            have hh := HA.out.holds hB hH hds
            obtain ⟨ci, fi⟩ := at_cell hh (i := i) (by omega)
            obtain ⟨cj, fj⟩ := at_cell hh (i := k) (by omega)
            clear hh
            obtain ⟨X, hX⟩ : ∃ X, dk[i]! = X := ⟨_, rfl⟩
            rw [hX] at ci
            obtain ⟨Y, hY⟩ : ∃ Y, dk[k]! = Y := ⟨_, rfl⟩
            rw [hY] at cj
            have v0_ := eq_true (show (0 : Int) ≤ (i : Int) by omega)
            have v1_ := eq_true (show (i : Int) < (d.size : Int) by omega)
            have v2_ := eq_true (show (0 : Int) ≤ (k : Int) by omega)
            have v3_ := eq_true (show (k : Int) < (d.size : Int) by omega)
            replace hX := Aside0.mk hX
            replace hY := Aside0.mk hY
            go_wp2_with fail
            go_region
            go_wp2
            go_roundw
            case rel => exact ⟨i + 1, swp dk i k, by simp, by omega, by omega, by rw [size_swp]; exact hds, ⟨(HA.out.swap hB (i := i) (j := k) (by omega) (by omega) (by rw [hY.out]) (by rw [hX.out])).drew⟩, ⟨permIn_trans _ _ _ _ _ HP.out (swp_permIn _ _ _ _ _ (by omega) (by omega) (by omega) (by omega) (by omega))⟩⟩
            case measure => simp [intOf] <;> omega
      · have d4 : decide ((i : Int) ≤ (i0 : Int) + 1) = false := decide_eq_false (by omega)
        go_wp2
        go_end0
        exact ⟨rfl, dk, HP.out, HA.out.at'⟩
  · have d2 : decide (8 ≤ l) = false := decide_eq_false c8
    have d3 : decide (8 ≤ (l : Int)) = false := decide_eq_false (by omega)
    go_enter Tryd.func86, Tryd.ntmps86
    go_wp2
    go_end0
    exact ⟨rfl, d, permIn_refl _ _ _, HA.out⟩
end Go.Proofs.YtfnkboilepgmoaaDoor.Srt
