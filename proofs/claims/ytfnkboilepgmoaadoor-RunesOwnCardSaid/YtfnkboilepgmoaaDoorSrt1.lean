import Derived.Test.YtfnkboilepgmoaaDoorProg
import Derived.Sort.LotA
import Derived.Sort.LotB
import Derived.Sort.LotC
import Derived.Sort.LotD1
import Derived.Sort.LotD3
import Derived.Sort.Grow
import Derived.WalkKit
import Derived.Deep.LoopGhost
import Derived.Deep.Draws
import Derived.Deep.QuietTactic
import Derived.BigQuiet
import Derived.CellFam
import Derived.RowKit3
import Derived.Laws.BitsLemmas
import Derived.Deep.DeepCutAuto
import Derived.Deep.CutBlock
import Derived.Deep.RegionHeld3
/- slices.Sort at []rune, over this program's own text: each function of the sort is walked; what is shown is no more than the sorting needs. -/
namespace Go.Proofs.YtfnkboilepgmoaaDoor.Srt
open Go Go.Sort Go.RowKit
set_option linter.unusedVariables false
set_option linter.unusedSimpArgs false
structure Aside0 (p : Prop) : Prop where mk :: (out : p)
abbrev enc : Int → Value := fun x => Value.int .i32 x
abbrev lt : Int → Int → Bool := fun x y => decide (x < y)
theorem swo : SWO lt where
  irrefl x := by simp
  trans x y z h1 h2 := by simp at *; omega
  ntrans x y z h1 h2 := by simp at *; omega
theorem wi {x y : Int} (e : x = y) (h0 : -9223372036854775808 ≤ y) (h1 : y ≤ 9223372036854775807) : IntKind.i64.wrap x = y := by rw [e, IntKind.wrap_i64]; omega
/-- Where the row stands: so many draws on, the row holding d', new blocks behind. -/
def At (w : World) (blk : Nat) (d' : Array Int) (w' : World) : Prop := ∃ n os, w' = grow (putRow enc (Sort.ahead w n) blk 0 d') os
theorem At.start {w : World} {blk : Nat} {d : Array Int} (h : Holds enc w blk 0 d) : At w blk d w := ⟨0, #[], by rw [grow_empty, ahead_zero, putRow_self enc w blk 0 d h]⟩
theorem At.drew {w w' : World} {blk : Nat} {d : Array Int} (h : At w blk d w') : At w blk d w'.drew := by
  obtain ⟨n, os, rfl⟩ := h
  exact ⟨n + 1, os, rfl⟩
theorem At.drewN {w w' : World} {blk : Nat} {d : Array Int} (h : At w blk d w') (m : Nat) : At w blk d (w'.drewN m) := by
  obtain ⟨n, os, rfl⟩ := h
  refine ⟨n + m, os, ?_⟩
  rw [← ahead_ahead]
  rfl
theorem At.alloc {w w' : World} {blk : Nat} {d : Array Int} (h : At w blk d w') (o : Obj) : At w blk d (w'.alloc o) := by
  obtain ⟨n, os, rfl⟩ := h
  exact ⟨n, os ++ #[o], by rw [alloc_eq_grow, grow_grow]⟩
theorem At.holds {w w' : World} {blk : Nat} {d0 d : Array Int} (h : At w blk d w') (hb : blk < w.heap.size) (h0 : Holds enc w blk 0 d0) (hs : d.size = d0.size) : Holds enc w' blk 0 d := by
  obtain ⟨n, os, rfl⟩ := h
  exact holds_grow _ _ _ _ _ _ (by simpa using hb) (holds_putRow enc _ blk 0 d0 d (holds_ahead enc w n blk 0 d0 h0) hs)
theorem At.lt {w w' : World} {blk : Nat} {d : Array Int} (h : At w blk d w') (hb : blk < w.heap.size) : blk < w'.heap.size := by
  obtain ⟨n, os, rfl⟩ := h
  simp
  omega
/-- One after the other. -/
theorem At.trans {w w1 w2 : World} {blk : Nat} {d1 d2 : Array Int} (h1 : At w blk d1 w1) (h2 : At w1 blk d2 w2) (hb : blk < w.heap.size) (hs : d2.size = d1.size) : At w blk d2 w2 := by
  obtain ⟨n, os, rfl⟩ := h1
  obtain ⟨m, os', rfl⟩ := h2
  exact ⟨n + m, os ++ os', grow_step_grow enc w os os' n m blk 0 d1 d2 hb hs⟩
theorem set_grow (w : World) (os : Array Obj) (blk k : Nat) (v : Value) (h : blk < w.heap.size) : (grow w os).setCell ⟨blk, k, none⟩ v = grow (w.setCell ⟨blk, k, none⟩ v) os := by
  rw [setCell_eq, setCell_eq, mapBlock_grow _ _ _ _ h]
/-- The two stores of an exchange. -/
theorem At.swap {w w' : World} {blk : Nat} {d : Array Int} (h : At w blk d w') (hb : blk < w.heap.size) {i j : Nat} (hi : i < d.size) (hj : j < d.size) {x y : Value} (hx : x = enc d[j]!) (hy : y = enc d[i]!) :
    At w blk (swp d i j) ((w'.setCell ⟨blk, i, none⟩ x).setCell ⟨blk, j, none⟩ y) := by
  subst hx; subst hy
  obtain ⟨n, os, rfl⟩ := h
  refine ⟨n, os, ?_⟩
  have e := putRow_swp enc (Sort.ahead w n) blk 0 d i j hi hj
  rw [Nat.zero_add, Nat.zero_add] at e
  rw [set_grow _ _ _ _ _ (by simpa using hb), set_grow _ _ _ _ _ (by simp [World.setCell]; simpa using hb), e]
theorem at_cell {w : World} {blk : Nat} {d : Array Int} (h : Holds enc w blk 0 d) {i : Nat} (hi : i < d.size) : w.cell? ⟨blk, i, none⟩ = some (.int .i32 d[i]!) ∧ w.frozen? ⟨blk, i, none⟩ = false := by
  have := h i hi
  rw [Nat.zero_add] at this
  exact this
set_option maxHeartbeats 8000000 in
set_option maxRecDepth 100000 in
theorem less (x y : Int) (r : Bool) (hr : lt x y = r) (w : World) : Calls Tryd.prog 90 #[.int .i32 x, .int .i32 y] w fun e w' => e = .returned (.bool r) ∧ ∃ m, w' = w.drewN m := by
  subst hr
  have hx : (x != x) = false := by simp
  have hy : (y != y) = false := by simp
  go_enter Tryd.func90, Tryd.ntmps90
  go_wp2
  go_ret
  exact ⟨rfl, by first | exact ⟨0, rfl⟩ | exact ⟨1, rfl⟩ | exact ⟨2, rfl⟩⟩
end Go.Proofs.YtfnkboilepgmoaaDoor.Srt
