import Derived.Test.YtcajiapjdlphmaaEPre
import Derived.Test.YtcajiapjdlphmaaEabcdefx0
import Derived.Test.YtcajiapjdlphmaaEabcdefx1
import Derived.Test.YtcajiapjdlphmaaEabcdefx2
namespace Go.Proofs.Ytcajiapjdlphmaa.H
open Go.RowKit Go.Proofs.YtcajiapjdlphmaaW.PrintWords Go.Proofs.YtcajiapjdlphmaaW.PrintLast Go.Proofs.YtcajiapjdlphmaaW.PrintMore
attribute [local go_sem] max2_int min2_int max_two min_two max_three min_three max_four min_four
set_option linter.unusedVariables false
set_option linter.unusedSimpArgs false
mutual
def goscan_quotedForm.l0 : Nat → ByteArray → Int → Option (Int)
 | 0, _, _ => none
 | k + 1, x0, x1 => (goscan_at.f x0 x1).bind fun t212 => (if t212 = 34 then (some (wrap64 (x1 + 1))) else ((goscan_oneForm.f k x0 x1 34).bind fun t213 => (if t213 < 0 then (some (-1)) else (goscan_quotedForm.l0 k x0 t213))))
def goscan_quotedForm.l1 : Nat → ByteArray → Int → Option (Int)
 | 0, _, _ => none
 | k + 1, x0, x1 => (goscan_at.f x0 x1).bind fun t214 => (if t214 = 96 then (some (wrap64 (x1 + 1))) else ((goscan_plainRune.f x0 x1).bind fun bt215 => (if bt215.2 = 0 then (some (-1)) else (goscan_quotedForm.l1 k x0 (wrap64 (x1 + bt215.2))))))
end
def goscan_quotedForm.f (k : Nat) (a0 : ByteArray) (a1 : Int) : Option (Int) := (goscan_at.f a0 a1).bind fun t211 => (if t211 = 34 then (goscan_quotedForm.l0 k a0 (wrap64 (a1 + 1))) else (if t211 = 96 then (goscan_quotedForm.l1 k a0 (wrap64 (a1 + 1))) else (some (-1))))
theorem goscan_quotedForm.mono_l : ∀ k, (∀ y0 y1, LeO (goscan_quotedForm.l0 k y0 y1) (goscan_quotedForm.l0 (k + 1) y0 y1)) ∧ (∀ y0 y1, LeO (goscan_quotedForm.l1 k y0 y1) (goscan_quotedForm.l1 (k + 1) y0 y1))
 | 0 => ⟨fun _ _ r h => by simp [goscan_quotedForm.l0] at h, fun _ _ r h => by simp [goscan_quotedForm.l1] at h⟩
 | k + 1 => by
  obtain ⟨ih0, ih1⟩ := goscan_quotedForm.mono_l k
  refine ⟨?_, ?_⟩
  ·intro y0 y1
   unfold goscan_quotedForm.l0
   have m0 := @goscan_oneForm.mono
   exact mO
  ·intro y0 y1
   unfold goscan_quotedForm.l1
   have m0 := @goscan_oneForm.mono
   exact mO
theorem goscan_quotedForm.mono : ∀ a0 a1 k, LeO (goscan_quotedForm.f k a0 a1) (goscan_quotedForm.f (k + 1) a0 a1) := by
 intro a0 a1 k
 obtain ⟨ih0, ih1⟩ := goscan_quotedForm.mono_l k
 unfold goscan_quotedForm.f
 have m0 := @goscan_oneForm.mono
 exact mO
set_option maxHeartbeats 8000000 in
set_option maxRecDepth 100000 in
theorem goscan_quotedForm.calls {k : Nat} {a0 : ByteArray} {a1 : Int} {r : Int} {w : World} (h : goscan_quotedForm.f k a0 a1 = some r) :
  Calls Try.prog 76 #[.string a0, .int .i64 a1] w fun e w' => e = .returned (.int .i64 r) ∧ Below w.heap.size w w' := by
 have HB := Aside0.mk (Below.refl w.heap.size w)
 have H : ((goscan_at.f a0 a1).bind fun t211 => (if t211 = 34 then (goscan_quotedForm.l0 k a0 (wrap64 (a1 + 1))) else (if t211 = 96 then (goscan_quotedForm.l1 k a0 (wrap64 (a1 + 1))) else (some (-1))))) = some r := h
 clear h
 replace H := bS H
 obtain ⟨t211, A3, H⟩ := H
 try dsimp only at H
 by_cases c4 : t211 = 34
 ·rw [if_pos c4] at H
  have c4b0 := e1 c4
  have c4b1 := e2 c4
  clear c4
  have H' := Aside0.mk H
  clear H
  go_enter Try.func76, Try.ntmps76
  go_wp2_with (first | (refine gR (some 9) Try.func90 (goscan_at.calls A3.out) (h := ?_); rintro _ ⟨nd, rfl⟩))
  go_loopg [1] k (fun kq v1 w' => ∃ (x1_1 : Int), v1 = .int .i64 x1_1 ∧ Aside0 (goscan_quotedForm.l0 kq a0 x1_1 = some r) ∧ Aside0 (kq ≤ k) ∧ Aside0 (Below w.heap.size w w'))
  case atStart => exact ⟨(wrap64 (a1 + 1)), Z1, H', ⟨Nat.le_refl _⟩, ⟨Z0⟩⟩
  case round =>
   clear H'
   try clear p2
   try clear c4
   try clear c4b0
   try clear c4b1
   obtain ⟨x1_1, rfl, HA, HK1, HB⟩ := hrel
   cases gk with
   | zero => exact absurd HA.out (by simp [goscan_quotedForm.l0])
   | succ k1 =>
    have H := HA.out
    clear HA
    simp only [goscan_quotedForm.l0] at H
    replace H := bS H
    obtain ⟨t212, A5, H⟩ := H
    try dsimp only at H
    by_cases c6 : t212 = 34
    ·rw [if_pos c6] at H
     have c6b0 := e1 c6
     have c6b1 := e2 c6
     clear c6
     obtain rfl := Option.some.inj H
     go_wp2_with (first | (refine gR (some 16) Try.func90 (goscan_at.calls A5.out) (h := ?_); rintro _ ⟨nd, rfl⟩))
     go_ret
     exact ⟨Z2, Z0⟩
    ·rw [if_neg c6] at H
     have c6b0 := e3 c6
     have c6b1 := e4 c6
     replace H := bS H
     obtain ⟨t213, A7, H⟩ := H
     try dsimp only at H
     by_cases c8 : t213 < 0
     ·rw [if_pos c8] at H
      have c8b0 := decide_eq_true c8
      clear c8
      obtain rfl := Option.some.inj H
      go_wp2_with (first | (refine gR (some 16) Try.func90 (goscan_at.calls A5.out) (h := ?_); rintro _ ⟨nd, rfl⟩) | (refine gR (some 20) Try.func99 (goscan_oneForm.calls A7.out) (h := ?_); rintro w9 hb; replace HB := Aside0.mk (below_step zB hb); (try clear hb); (try clear hb2); (try clear hk); (try clear hi)))
      go_ret
      exact ⟨Z2, Z0⟩
     ·rw [if_neg c8] at H
      have c8b0 := decide_eq_false c8
      clear c8
      have H' := Aside0.mk H
      clear H
      go_wp2_with (first | (refine gR (some 16) Try.func90 (goscan_at.calls A5.out) (h := ?_); rintro _ ⟨nd, rfl⟩) | (refine gR (some 20) Try.func99 (goscan_oneForm.calls A7.out) (h := ?_); rintro w10 hb; replace HB := Aside0.mk (below_step zB hb); (try clear hb); (try clear hb2); (try clear hk); (try clear hi)))
      go_roundg k1
      case measure => have := HK1.out; omega
      case rel => exact ⟨(t213), Z1, H', ⟨Z36⟩, ⟨Z0⟩⟩
 ·rw [if_neg c4] at H
  have c4b0 := e3 c4
  have c4b1 := e4 c4
  by_cases c11 : t211 = 96
  ·rw [if_pos c11] at H
   have c11b0 := e1 c11
   have c11b1 := e2 c11
   clear c11
   have H' := Aside0.mk H
   clear H
   go_enter Try.func76, Try.ntmps76
   go_wp2_with (first | (refine gR (some 9) Try.func90 (goscan_at.calls A3.out) (h := ?_); rintro _ ⟨nd, rfl⟩))
   go_loopg [1] k (fun kq v1 w' => ∃ (x1_1 : Int), v1 = .int .i64 x1_1 ∧ Aside0 (goscan_quotedForm.l1 kq a0 x1_1 = some r) ∧ Aside0 (kq ≤ k) ∧ Aside0 (Below w.heap.size w w'))
   case atStart => exact ⟨(wrap64 (a1 + 1)), Z1, H', ⟨Nat.le_refl _⟩, ⟨Z0⟩⟩
   case round =>
    clear H'
    try clear c1
    try clear p2
    try clear c4
    try clear c4b0
    try clear c4b1
    try clear c6
    try clear c6b0
    try clear c6b1
    try clear p6
    try clear c7
    try clear c8
    try clear c8b0
    try clear c9
    try clear c11
    try clear c11b0
    try clear c11b1
    try clear p2
    obtain ⟨x1_1, rfl, HA, HK1, HB⟩ := hrel
    cases gk with
    | zero => exact absurd HA.out (by simp [goscan_quotedForm.l1])
    | succ k1 =>
     have H := HA.out
     clear HA
     simp only [goscan_quotedForm.l1] at H
     replace H := bS H
     obtain ⟨t214, A12, H⟩ := H
     try dsimp only at H
     by_cases c13 : t214 = 96
     ·rw [if_pos c13] at H
      have c13b0 := e1 c13
      have c13b1 := e2 c13
      clear c13
      obtain rfl := Option.some.inj H
      go_wp2_with (first | (refine gR (some 31) Try.func90 (goscan_at.calls A12.out) (h := ?_); rintro _ ⟨nd, rfl⟩))
      go_ret
      exact ⟨Z2, Z0⟩
     ·rw [if_neg c13] at H
      have c13b0 := e3 c13
      have c13b1 := e4 c13
      replace H := bS H
      obtain ⟨⟨t215, t216⟩, A14, H⟩ := H
      try dsimp only at H
      by_cases c15 : t216 = 0
      ·rw [if_pos c15] at H
       have c15b0 := e1 c15
       have c15b1 := e2 c15
       clear c15
       obtain rfl := Option.some.inj H
       go_wp2_with (first | (refine gR (some 31) Try.func90 (goscan_at.calls A12.out) (h := ?_); rintro _ ⟨nd, rfl⟩) | (refine gR (some 36) Try.func91 (goscan_plainRune.calls A14.out) (h := ?_); rintro w16 hb; replace HB := Aside0.mk (below_step zB hb); (try clear hb); (try clear hb2); (try clear hk); (try clear hi)))
       go_ret
       exact ⟨Z2, Z0⟩
      ·rw [if_neg c15] at H
       have c15b0 := e3 c15
       have c15b1 := e4 c15
       have H' := Aside0.mk H
       clear H
       go_wp2_with (first | (refine gR (some 31) Try.func90 (goscan_at.calls A12.out) (h := ?_); rintro _ ⟨nd, rfl⟩) | (refine gR (some 36) Try.func91 (goscan_plainRune.calls A14.out) (h := ?_); rintro w17 hb; replace HB := Aside0.mk (below_step zB hb); (try clear hb); (try clear hb2); (try clear hk); (try clear hi)))
       go_roundg k1
       case measure => have := HK1.out; omega
       case rel => exact ⟨(wrap64 (x1_1 + t216)), Z1, H', ⟨Z36⟩, ⟨Z0⟩⟩
  ·rw [if_neg c11] at H
   have c11b0 := e3 c11
   have c11b1 := e4 c11
   obtain rfl := Option.some.inj H
   go_enter Try.func76, Try.ntmps76
   go_wp2_with (first | (refine gR (some 9) Try.func90 (goscan_at.calls A3.out) (h := ?_); rintro _ ⟨nd, rfl⟩))
   go_ret
   exact ⟨Z2, Z0⟩
def goscan_longest.pick : List Int → Int → Int × Int → Int × Int
 | [], _, s => s
 | n :: l, j, s => goscan_longest.pick l (j + 1) (if n > s.1 then (n, j) else s)
def goscan_longest.f (k : Nat) (a0 : ByteArray) (a1 : Int) : Option (Int × Int) := (goscan_blankForm.f k a0 a1).bind fun n0 => ((goscan_newlineForm.f a0 a1).bind fun n1 => ((goscan_remarkForm.f k a0 a1).bind fun n2 => ((goscan_commentForm.f k a0 a1).bind fun n3 => ((goscan_identForm.f k a0 a1).bind fun n4 => ((goscan_wholeForm.f k a0 a1).bind fun n5 => ((goscan_brokenForm.f k a0 a1).bind fun n6 => ((goscan_imagForm.f k a0 a1).bind fun n7 => ((goscan_charForm.f k a0 a1).bind fun n8 => ((goscan_quotedForm.f k a0 a1).bind fun n9 => (some (goscan_longest.pick [n0, n1, n2, n3, n4, n5, n6, n7, n8, n9] 0 (a1, -1))))))))))))
theorem goscan_longest.mono : ∀ a0 a1 k, LeO (goscan_longest.f k a0 a1) (goscan_longest.f (k + 1) a0 a1) := by
 intro a0 a1 k
 unfold goscan_longest.f
 have m0 := @goscan_blankForm.mono
 have m1 := @goscan_remarkForm.mono
 have m2 := @goscan_commentForm.mono
 have m3 := @goscan_identForm.mono
 have m4 := @goscan_wholeForm.mono
 have m5 := @goscan_brokenForm.mono
 have m6 := @goscan_imagForm.mono
 have m7 := @goscan_charForm.mono
 have m8 := @goscan_quotedForm.mono
 exact mO
theorem goscan_longest.step_yes {l : List Int} {n j s1 s2 : Int} {r : Int × Int} (hP : Aside0 (goscan_longest.pick (n :: l) j (s1, s2) = r)) (hn : n > s1) : Aside0 (goscan_longest.pick l (j + 1) (n, j) = r) := ⟨by have := hP.out; rw [goscan_longest.pick, if_pos hn] at this; exact this⟩
theorem goscan_longest.step_no {l : List Int} {n j s1 s2 : Int} {r : Int × Int} (hP : Aside0 (goscan_longest.pick (n :: l) j (s1, s2) = r)) (hn : ¬ n > s1) : Aside0 (goscan_longest.pick l (j + 1) (s1, s2) = r) := ⟨by have := hP.out; rw [goscan_longest.pick, if_neg hn] at this; exact this⟩
def goscan_longest.fns : List Value := [.func (.func 67) #[] #[], .func (.func 68) #[] #[], .func (.func 69) #[] #[], .func (.func 70) #[] #[], .func (.func 71) #[] #[], .func (.func 72) #[] #[], .func (.func 73) #[] #[], .func (.func 74) #[] #[], .func (.func 75) #[] #[], .func (.func 76) #[] #[]]
theorem goscan_longest.cellsAt {w wr : World} (h : ∀ i, i < 10 → wr.cell? ⟨w.heap.size, i, none⟩ = goscan_longest.fns[i]?) {w1 : World} (hlt : w.heap.size < wr.heap.size) (hb : Below wr.heap.size wr w1) : (∀ i, i < 10 → w1.cell? ⟨w.heap.size, i, none⟩ = goscan_longest.fns[i]?) ∧ w.heap.size < w1.heap.size :=
 ⟨fun i hi => (hb.cell (p := ⟨w.heap.size, i, none⟩) hlt).trans (h i hi), Nat.lt_of_lt_of_le hlt hb.size⟩
set_option maxHeartbeats 8000000 in
set_option maxRecDepth 100000 in
theorem goscan_longest.calls {k : Nat} {a0 : ByteArray} {a1 : Int} {r1 : Int} {r2 : Int} {w : World} (h : goscan_longest.f k a0 a1 = some (r1, r2)) :
  Calls Try.prog 47 #[.string a0, .int .i64 a1] w fun e w' => e = .returned (.tuple #[.int .i64 r1, .int .i64 r2]) ∧ Below w.heap.size w w' := by
 unfold goscan_longest.f at h
 obtain ⟨n0, A0, h⟩ := Option.bind_eq_some_iff.mp h
 have A0 := Aside0.mk A0
 obtain ⟨n1, A1, h⟩ := Option.bind_eq_some_iff.mp h
 have A1 := Aside0.mk A1
 obtain ⟨n2, A2, h⟩ := Option.bind_eq_some_iff.mp h
 have A2 := Aside0.mk A2
 obtain ⟨n3, A3, h⟩ := Option.bind_eq_some_iff.mp h
 have A3 := Aside0.mk A3
 obtain ⟨n4, A4, h⟩ := Option.bind_eq_some_iff.mp h
 have A4 := Aside0.mk A4
 obtain ⟨n5, A5, h⟩ := Option.bind_eq_some_iff.mp h
 have A5 := Aside0.mk A5
 obtain ⟨n6, A6, h⟩ := Option.bind_eq_some_iff.mp h
 have A6 := Aside0.mk A6
 obtain ⟨n7, A7, h⟩ := Option.bind_eq_some_iff.mp h
 have A7 := Aside0.mk A7
 obtain ⟨n8, A8, h⟩ := Option.bind_eq_some_iff.mp h
 have A8 := Aside0.mk A8
 obtain ⟨n9, A9, h⟩ := Option.bind_eq_some_iff.mp h
 have A9 := Aside0.mk A9
 have hP := Aside0.mk (Option.some.inj h)
 clear h
 go_enter Try.func47, Try.ntmps47
 go_wp2
 go_loopw [7, 8, 16] (fun e r i wr => ∃ (j : Nat) (s1 s2 : Int), j ≤ 10 ∧ i = .int .i64 j ∧ e = .int .i64 s1 ∧ r = .int .i64 s2 ∧ Aside0 (goscan_longest.pick ([n0, n1, n2, n3, n4, n5, n6, n7, n8, n9].drop j) j (s1, s2) = (r1, r2)) ∧ Aside0 (Below w.heap.size w wr) ∧ Aside0 ((∀ i, i < 10 → wr.cell? ⟨w.heap.size, i, none⟩ = goscan_longest.fns[i]?) ∧ w.heap.size < wr.heap.size)) (fun _ _ i _ => 10 - (intOf i).toNat)
 case atStart =>
  refine ⟨0, _, _, Z57, rfl, rfl, rfl, hP, ⟨(Below.refl _ _).alloc (Nat.le_refl _) _⟩, ⟨?_, by show w.heap.size < (w.heap.push _).size; rw [Array.size_push]; exact Nat.lt_succ_self _⟩⟩
  intro i hi
  rw [cell_of_row _ _ i _ _ (0, 0) (heap_alloc_last w _)]
  rcases (by omega : i = 0 ∨ i = 1 ∨ i = 2 ∨ i = 3 ∨ i = 4 ∨ i = 5 ∨ i = 6 ∨ i = 7 ∨ i = 8 ∨ i = 9) with rfl | rfl | rfl | rfl | rfl | rfl | rfl | rfl | rfl | rfl <;> rfl
 case round =>
  clear hP
  obtain ⟨j, s1, s2, hj, rfl, rfl, rfl, hP, hB, hC⟩ := hrel
  rcases (by omega : j = 0 ∨ j = 1 ∨ j = 2 ∨ j = 3 ∨ j = 4 ∨ j = 5 ∨ j = 6 ∨ j = 7 ∨ j = 8 ∨ j = 9 ∨ j = 10) with rfl | rfl | rfl | rfl | rfl | rfl | rfl | rfl | rfl | rfl | rfl
  ·have hc := (hC.out.1 0 Z57).trans (show goscan_longest.fns[0]? = some (.func (.func 67) #[] #[]) from rfl)
   by_cases hn : n0 > s1
   ·have hn' : decide (s1 < n0) = true := decide_eq_true hn
    have hP2 := Aside0.mk (show goscan_longest.pick ([n0, n1, n2, n3, n4, n5, n6, n7, n8, n9].drop (0 + 1)) ((0 + 1 : Nat) : Int) (n0, ((0 : Nat) : Int)) = (r1, r2) from (goscan_longest.step_yes (n := n0) (l := [n0, n1, n2, n3, n4, n5, n6, n7, n8, n9].drop (0 + 1)) hP hn).out)
    clear hP hn
    go_wp2_with (go_at_call 67; refine (goscan_blankForm.calls A0.out).mono ?_; rintro e w1 ⟨rfl, hb⟩; have hb := Aside0.mk (show Below wr.heap.size wr w1 from (by obtain ⟨nd, rfl⟩ := hb; exact pw_below_drewN (Below.refl _ _) nd)))
    go_roundw
    case rel => exact ⟨0 + 1, _, _, Z57, rfl, rfl, rfl, hP2, ⟨hB.out.trans (hb.out.mono hB.out.size)⟩, ⟨goscan_longest.cellsAt hC.out.1 hC.out.2 hb.out⟩⟩
    case measure => simp [intOf]
   ·have hn' : decide (s1 < n0) = false := decide_eq_false hn
    have hP2 := Aside0.mk (show goscan_longest.pick ([n0, n1, n2, n3, n4, n5, n6, n7, n8, n9].drop (0 + 1)) ((0 + 1 : Nat) : Int) (s1, s2) = (r1, r2) from (goscan_longest.step_no (n := n0) (l := [n0, n1, n2, n3, n4, n5, n6, n7, n8, n9].drop (0 + 1)) hP hn).out)
    clear hP hn
    go_wp2_with (go_at_call 67; refine (goscan_blankForm.calls A0.out).mono ?_; rintro e w1 ⟨rfl, hb⟩; have hb := Aside0.mk (show Below wr.heap.size wr w1 from (by obtain ⟨nd, rfl⟩ := hb; exact pw_below_drewN (Below.refl _ _) nd)))
    go_roundw
    case rel => exact ⟨0 + 1, _, _, Z57, rfl, rfl, rfl, hP2, ⟨hB.out.trans (hb.out.mono hB.out.size)⟩, ⟨goscan_longest.cellsAt hC.out.1 hC.out.2 hb.out⟩⟩
    case measure => simp [intOf]
  ·have hc := (hC.out.1 1 Z57).trans (show goscan_longest.fns[1]? = some (.func (.func 68) #[] #[]) from rfl)
   by_cases hn : n1 > s1
   ·have hn' : decide (s1 < n1) = true := decide_eq_true hn
    have hP2 := Aside0.mk (show goscan_longest.pick ([n0, n1, n2, n3, n4, n5, n6, n7, n8, n9].drop (1 + 1)) ((1 + 1 : Nat) : Int) (n1, ((1 : Nat) : Int)) = (r1, r2) from (goscan_longest.step_yes (n := n1) (l := [n0, n1, n2, n3, n4, n5, n6, n7, n8, n9].drop (1 + 1)) hP hn).out)
    clear hP hn
    go_wp2_with (go_at_call 68; refine (goscan_newlineForm.calls A1.out).mono ?_; rintro e w1 ⟨rfl, hb⟩; have hb := Aside0.mk (show Below wr.heap.size wr w1 from (by obtain ⟨nd, rfl⟩ := hb; exact pw_below_drewN (Below.refl _ _) nd)))
    go_roundw
    case rel => exact ⟨1 + 1, _, _, Z57, rfl, rfl, rfl, hP2, ⟨hB.out.trans (hb.out.mono hB.out.size)⟩, ⟨goscan_longest.cellsAt hC.out.1 hC.out.2 hb.out⟩⟩
    case measure => simp [intOf]
   ·have hn' : decide (s1 < n1) = false := decide_eq_false hn
    have hP2 := Aside0.mk (show goscan_longest.pick ([n0, n1, n2, n3, n4, n5, n6, n7, n8, n9].drop (1 + 1)) ((1 + 1 : Nat) : Int) (s1, s2) = (r1, r2) from (goscan_longest.step_no (n := n1) (l := [n0, n1, n2, n3, n4, n5, n6, n7, n8, n9].drop (1 + 1)) hP hn).out)
    clear hP hn
    go_wp2_with (go_at_call 68; refine (goscan_newlineForm.calls A1.out).mono ?_; rintro e w1 ⟨rfl, hb⟩; have hb := Aside0.mk (show Below wr.heap.size wr w1 from (by obtain ⟨nd, rfl⟩ := hb; exact pw_below_drewN (Below.refl _ _) nd)))
    go_roundw
    case rel => exact ⟨1 + 1, _, _, Z57, rfl, rfl, rfl, hP2, ⟨hB.out.trans (hb.out.mono hB.out.size)⟩, ⟨goscan_longest.cellsAt hC.out.1 hC.out.2 hb.out⟩⟩
    case measure => simp [intOf]
  ·have hc := (hC.out.1 2 Z57).trans (show goscan_longest.fns[2]? = some (.func (.func 69) #[] #[]) from rfl)
   by_cases hn : n2 > s1
   ·have hn' : decide (s1 < n2) = true := decide_eq_true hn
    have hP2 := Aside0.mk (show goscan_longest.pick ([n0, n1, n2, n3, n4, n5, n6, n7, n8, n9].drop (2 + 1)) ((2 + 1 : Nat) : Int) (n2, ((2 : Nat) : Int)) = (r1, r2) from (goscan_longest.step_yes (n := n2) (l := [n0, n1, n2, n3, n4, n5, n6, n7, n8, n9].drop (2 + 1)) hP hn).out)
    clear hP hn
    go_wp2_with (go_at_call 69; refine (goscan_remarkForm.calls A2.out).mono ?_; rintro e w1 ⟨rfl, hb⟩; have hb := Aside0.mk (show Below wr.heap.size wr w1 from hb))
    go_roundw
    case rel => exact ⟨2 + 1, _, _, Z57, rfl, rfl, rfl, hP2, ⟨hB.out.trans (hb.out.mono hB.out.size)⟩, ⟨goscan_longest.cellsAt hC.out.1 hC.out.2 hb.out⟩⟩
    case measure => simp [intOf]
   ·have hn' : decide (s1 < n2) = false := decide_eq_false hn
    have hP2 := Aside0.mk (show goscan_longest.pick ([n0, n1, n2, n3, n4, n5, n6, n7, n8, n9].drop (2 + 1)) ((2 + 1 : Nat) : Int) (s1, s2) = (r1, r2) from (goscan_longest.step_no (n := n2) (l := [n0, n1, n2, n3, n4, n5, n6, n7, n8, n9].drop (2 + 1)) hP hn).out)
    clear hP hn
    go_wp2_with (go_at_call 69; refine (goscan_remarkForm.calls A2.out).mono ?_; rintro e w1 ⟨rfl, hb⟩; have hb := Aside0.mk (show Below wr.heap.size wr w1 from hb))
    go_roundw
    case rel => exact ⟨2 + 1, _, _, Z57, rfl, rfl, rfl, hP2, ⟨hB.out.trans (hb.out.mono hB.out.size)⟩, ⟨goscan_longest.cellsAt hC.out.1 hC.out.2 hb.out⟩⟩
    case measure => simp [intOf]
  ·have hc := (hC.out.1 3 Z57).trans (show goscan_longest.fns[3]? = some (.func (.func 70) #[] #[]) from rfl)
   by_cases hn : n3 > s1
   ·have hn' : decide (s1 < n3) = true := decide_eq_true hn
    have hP2 := Aside0.mk (show goscan_longest.pick ([n0, n1, n2, n3, n4, n5, n6, n7, n8, n9].drop (3 + 1)) ((3 + 1 : Nat) : Int) (n3, ((3 : Nat) : Int)) = (r1, r2) from (goscan_longest.step_yes (n := n3) (l := [n0, n1, n2, n3, n4, n5, n6, n7, n8, n9].drop (3 + 1)) hP hn).out)
    clear hP hn
    go_wp2_with (go_at_call 70; refine (goscan_commentForm.calls A3.out).mono ?_; rintro e w1 ⟨rfl, hb⟩; have hb := Aside0.mk (show Below wr.heap.size wr w1 from hb))
    go_roundw
    case rel => exact ⟨3 + 1, _, _, Z57, rfl, rfl, rfl, hP2, ⟨hB.out.trans (hb.out.mono hB.out.size)⟩, ⟨goscan_longest.cellsAt hC.out.1 hC.out.2 hb.out⟩⟩
    case measure => simp [intOf]
   ·have hn' : decide (s1 < n3) = false := decide_eq_false hn
    have hP2 := Aside0.mk (show goscan_longest.pick ([n0, n1, n2, n3, n4, n5, n6, n7, n8, n9].drop (3 + 1)) ((3 + 1 : Nat) : Int) (s1, s2) = (r1, r2) from (goscan_longest.step_no (n := n3) (l := [n0, n1, n2, n3, n4, n5, n6, n7, n8, n9].drop (3 + 1)) hP hn).out)
    clear hP hn
    go_wp2_with (go_at_call 70; refine (goscan_commentForm.calls A3.out).mono ?_; rintro e w1 ⟨rfl, hb⟩; have hb := Aside0.mk (show Below wr.heap.size wr w1 from hb))
    go_roundw
    case rel => exact ⟨3 + 1, _, _, Z57, rfl, rfl, rfl, hP2, ⟨hB.out.trans (hb.out.mono hB.out.size)⟩, ⟨goscan_longest.cellsAt hC.out.1 hC.out.2 hb.out⟩⟩
    case measure => simp [intOf]
  ·have hc := (hC.out.1 4 Z57).trans (show goscan_longest.fns[4]? = some (.func (.func 71) #[] #[]) from rfl)
   by_cases hn : n4 > s1
   ·have hn' : decide (s1 < n4) = true := decide_eq_true hn
    have hP2 := Aside0.mk (show goscan_longest.pick ([n0, n1, n2, n3, n4, n5, n6, n7, n8, n9].drop (4 + 1)) ((4 + 1 : Nat) : Int) (n4, ((4 : Nat) : Int)) = (r1, r2) from (goscan_longest.step_yes (n := n4) (l := [n0, n1, n2, n3, n4, n5, n6, n7, n8, n9].drop (4 + 1)) hP hn).out)
    clear hP hn
    go_wp2_with (go_at_call 71; refine (goscan_identForm.calls A4.out).mono ?_; rintro e w1 ⟨rfl, hb⟩; have hb := Aside0.mk (show Below wr.heap.size wr w1 from hb))
    go_roundw
    case rel => exact ⟨4 + 1, _, _, Z57, rfl, rfl, rfl, hP2, ⟨hB.out.trans (hb.out.mono hB.out.size)⟩, ⟨goscan_longest.cellsAt hC.out.1 hC.out.2 hb.out⟩⟩
    case measure => simp [intOf]
   ·have hn' : decide (s1 < n4) = false := decide_eq_false hn
    have hP2 := Aside0.mk (show goscan_longest.pick ([n0, n1, n2, n3, n4, n5, n6, n7, n8, n9].drop (4 + 1)) ((4 + 1 : Nat) : Int) (s1, s2) = (r1, r2) from (goscan_longest.step_no (n := n4) (l := [n0, n1, n2, n3, n4, n5, n6, n7, n8, n9].drop (4 + 1)) hP hn).out)
    clear hP hn
    go_wp2_with (go_at_call 71; refine (goscan_identForm.calls A4.out).mono ?_; rintro e w1 ⟨rfl, hb⟩; have hb := Aside0.mk (show Below wr.heap.size wr w1 from hb))
    go_roundw
    case rel => exact ⟨4 + 1, _, _, Z57, rfl, rfl, rfl, hP2, ⟨hB.out.trans (hb.out.mono hB.out.size)⟩, ⟨goscan_longest.cellsAt hC.out.1 hC.out.2 hb.out⟩⟩
    case measure => simp [intOf]
  ·have hc := (hC.out.1 5 Z57).trans (show goscan_longest.fns[5]? = some (.func (.func 72) #[] #[]) from rfl)
   by_cases hn : n5 > s1
   ·have hn' : decide (s1 < n5) = true := decide_eq_true hn
    have hP2 := Aside0.mk (show goscan_longest.pick ([n0, n1, n2, n3, n4, n5, n6, n7, n8, n9].drop (5 + 1)) ((5 + 1 : Nat) : Int) (n5, ((5 : Nat) : Int)) = (r1, r2) from (goscan_longest.step_yes (n := n5) (l := [n0, n1, n2, n3, n4, n5, n6, n7, n8, n9].drop (5 + 1)) hP hn).out)
    clear hP hn
    go_wp2_with (go_at_call 72; refine (goscan_wholeForm.calls A5.out).mono ?_; rintro e w1 ⟨rfl, hb⟩; have hb := Aside0.mk (show Below wr.heap.size wr w1 from hb))
    go_roundw
    case rel => exact ⟨5 + 1, _, _, Z57, rfl, rfl, rfl, hP2, ⟨hB.out.trans (hb.out.mono hB.out.size)⟩, ⟨goscan_longest.cellsAt hC.out.1 hC.out.2 hb.out⟩⟩
    case measure => simp [intOf]
   ·have hn' : decide (s1 < n5) = false := decide_eq_false hn
    have hP2 := Aside0.mk (show goscan_longest.pick ([n0, n1, n2, n3, n4, n5, n6, n7, n8, n9].drop (5 + 1)) ((5 + 1 : Nat) : Int) (s1, s2) = (r1, r2) from (goscan_longest.step_no (n := n5) (l := [n0, n1, n2, n3, n4, n5, n6, n7, n8, n9].drop (5 + 1)) hP hn).out)
    clear hP hn
    go_wp2_with (go_at_call 72; refine (goscan_wholeForm.calls A5.out).mono ?_; rintro e w1 ⟨rfl, hb⟩; have hb := Aside0.mk (show Below wr.heap.size wr w1 from hb))
    go_roundw
    case rel => exact ⟨5 + 1, _, _, Z57, rfl, rfl, rfl, hP2, ⟨hB.out.trans (hb.out.mono hB.out.size)⟩, ⟨goscan_longest.cellsAt hC.out.1 hC.out.2 hb.out⟩⟩
    case measure => simp [intOf]
  ·have hc := (hC.out.1 6 Z57).trans (show goscan_longest.fns[6]? = some (.func (.func 73) #[] #[]) from rfl)
   by_cases hn : n6 > s1
   ·have hn' : decide (s1 < n6) = true := decide_eq_true hn
    have hP2 := Aside0.mk (show goscan_longest.pick ([n0, n1, n2, n3, n4, n5, n6, n7, n8, n9].drop (6 + 1)) ((6 + 1 : Nat) : Int) (n6, ((6 : Nat) : Int)) = (r1, r2) from (goscan_longest.step_yes (n := n6) (l := [n0, n1, n2, n3, n4, n5, n6, n7, n8, n9].drop (6 + 1)) hP hn).out)
    clear hP hn
    go_wp2_with (go_at_call 73; refine (goscan_brokenForm.calls A6.out).mono ?_; rintro e w1 ⟨rfl, hb⟩; have hb := Aside0.mk (show Below wr.heap.size wr w1 from hb))
    go_roundw
    case rel => exact ⟨6 + 1, _, _, Z57, rfl, rfl, rfl, hP2, ⟨hB.out.trans (hb.out.mono hB.out.size)⟩, ⟨goscan_longest.cellsAt hC.out.1 hC.out.2 hb.out⟩⟩
    case measure => simp [intOf]
   ·have hn' : decide (s1 < n6) = false := decide_eq_false hn
    have hP2 := Aside0.mk (show goscan_longest.pick ([n0, n1, n2, n3, n4, n5, n6, n7, n8, n9].drop (6 + 1)) ((6 + 1 : Nat) : Int) (s1, s2) = (r1, r2) from (goscan_longest.step_no (n := n6) (l := [n0, n1, n2, n3, n4, n5, n6, n7, n8, n9].drop (6 + 1)) hP hn).out)
    clear hP hn
    go_wp2_with (go_at_call 73; refine (goscan_brokenForm.calls A6.out).mono ?_; rintro e w1 ⟨rfl, hb⟩; have hb := Aside0.mk (show Below wr.heap.size wr w1 from hb))
    go_roundw
    case rel => exact ⟨6 + 1, _, _, Z57, rfl, rfl, rfl, hP2, ⟨hB.out.trans (hb.out.mono hB.out.size)⟩, ⟨goscan_longest.cellsAt hC.out.1 hC.out.2 hb.out⟩⟩
    case measure => simp [intOf]
  ·have hc := (hC.out.1 7 Z57).trans (show goscan_longest.fns[7]? = some (.func (.func 74) #[] #[]) from rfl)
   by_cases hn : n7 > s1
   ·have hn' : decide (s1 < n7) = true := decide_eq_true hn
    have hP2 := Aside0.mk (show goscan_longest.pick ([n0, n1, n2, n3, n4, n5, n6, n7, n8, n9].drop (7 + 1)) ((7 + 1 : Nat) : Int) (n7, ((7 : Nat) : Int)) = (r1, r2) from (goscan_longest.step_yes (n := n7) (l := [n0, n1, n2, n3, n4, n5, n6, n7, n8, n9].drop (7 + 1)) hP hn).out)
    clear hP hn
    go_wp2_with (go_at_call 74; refine (goscan_imagForm.calls A7.out).mono ?_; rintro e w1 ⟨rfl, hb⟩; have hb := Aside0.mk (show Below wr.heap.size wr w1 from hb))
    go_roundw
    case rel => exact ⟨7 + 1, _, _, Z57, rfl, rfl, rfl, hP2, ⟨hB.out.trans (hb.out.mono hB.out.size)⟩, ⟨goscan_longest.cellsAt hC.out.1 hC.out.2 hb.out⟩⟩
    case measure => simp [intOf]
   ·have hn' : decide (s1 < n7) = false := decide_eq_false hn
    have hP2 := Aside0.mk (show goscan_longest.pick ([n0, n1, n2, n3, n4, n5, n6, n7, n8, n9].drop (7 + 1)) ((7 + 1 : Nat) : Int) (s1, s2) = (r1, r2) from (goscan_longest.step_no (n := n7) (l := [n0, n1, n2, n3, n4, n5, n6, n7, n8, n9].drop (7 + 1)) hP hn).out)
    clear hP hn
    go_wp2_with (go_at_call 74; refine (goscan_imagForm.calls A7.out).mono ?_; rintro e w1 ⟨rfl, hb⟩; have hb := Aside0.mk (show Below wr.heap.size wr w1 from hb))
    go_roundw
    case rel => exact ⟨7 + 1, _, _, Z57, rfl, rfl, rfl, hP2, ⟨hB.out.trans (hb.out.mono hB.out.size)⟩, ⟨goscan_longest.cellsAt hC.out.1 hC.out.2 hb.out⟩⟩
    case measure => simp [intOf]
  ·have hc := (hC.out.1 8 Z57).trans (show goscan_longest.fns[8]? = some (.func (.func 75) #[] #[]) from rfl)
   by_cases hn : n8 > s1
   ·have hn' : decide (s1 < n8) = true := decide_eq_true hn
    have hP2 := Aside0.mk (show goscan_longest.pick ([n0, n1, n2, n3, n4, n5, n6, n7, n8, n9].drop (8 + 1)) ((8 + 1 : Nat) : Int) (n8, ((8 : Nat) : Int)) = (r1, r2) from (goscan_longest.step_yes (n := n8) (l := [n0, n1, n2, n3, n4, n5, n6, n7, n8, n9].drop (8 + 1)) hP hn).out)
    clear hP hn
    go_wp2_with (go_at_call 75; refine (goscan_charForm.calls A8.out).mono ?_; rintro e w1 ⟨rfl, hb⟩; have hb := Aside0.mk (show Below wr.heap.size wr w1 from hb))
    go_roundw
    case rel => exact ⟨8 + 1, _, _, Z57, rfl, rfl, rfl, hP2, ⟨hB.out.trans (hb.out.mono hB.out.size)⟩, ⟨goscan_longest.cellsAt hC.out.1 hC.out.2 hb.out⟩⟩
    case measure => simp [intOf]
   ·have hn' : decide (s1 < n8) = false := decide_eq_false hn
    have hP2 := Aside0.mk (show goscan_longest.pick ([n0, n1, n2, n3, n4, n5, n6, n7, n8, n9].drop (8 + 1)) ((8 + 1 : Nat) : Int) (s1, s2) = (r1, r2) from (goscan_longest.step_no (n := n8) (l := [n0, n1, n2, n3, n4, n5, n6, n7, n8, n9].drop (8 + 1)) hP hn).out)
    clear hP hn
    go_wp2_with (go_at_call 75; refine (goscan_charForm.calls A8.out).mono ?_; rintro e w1 ⟨rfl, hb⟩; have hb := Aside0.mk (show Below wr.heap.size wr w1 from hb))
    go_roundw
    case rel => exact ⟨8 + 1, _, _, Z57, rfl, rfl, rfl, hP2, ⟨hB.out.trans (hb.out.mono hB.out.size)⟩, ⟨goscan_longest.cellsAt hC.out.1 hC.out.2 hb.out⟩⟩
    case measure => simp [intOf]
  ·have hc := (hC.out.1 9 Z57).trans (show goscan_longest.fns[9]? = some (.func (.func 76) #[] #[]) from rfl)
   by_cases hn : n9 > s1
   ·have hn' : decide (s1 < n9) = true := decide_eq_true hn
    have hP2 := Aside0.mk (show goscan_longest.pick ([n0, n1, n2, n3, n4, n5, n6, n7, n8, n9].drop (9 + 1)) ((9 + 1 : Nat) : Int) (n9, ((9 : Nat) : Int)) = (r1, r2) from (goscan_longest.step_yes (n := n9) (l := [n0, n1, n2, n3, n4, n5, n6, n7, n8, n9].drop (9 + 1)) hP hn).out)
    clear hP hn
    go_wp2_with (go_at_call 76; refine (goscan_quotedForm.calls A9.out).mono ?_; rintro e w1 ⟨rfl, hb⟩; have hb := Aside0.mk (show Below wr.heap.size wr w1 from hb))
    go_roundw
    case rel => exact ⟨9 + 1, _, _, Z57, rfl, rfl, rfl, hP2, ⟨hB.out.trans (hb.out.mono hB.out.size)⟩, ⟨goscan_longest.cellsAt hC.out.1 hC.out.2 hb.out⟩⟩
    case measure => simp [intOf]
   ·have hn' : decide (s1 < n9) = false := decide_eq_false hn
    have hP2 := Aside0.mk (show goscan_longest.pick ([n0, n1, n2, n3, n4, n5, n6, n7, n8, n9].drop (9 + 1)) ((9 + 1 : Nat) : Int) (s1, s2) = (r1, r2) from (goscan_longest.step_no (n := n9) (l := [n0, n1, n2, n3, n4, n5, n6, n7, n8, n9].drop (9 + 1)) hP hn).out)
    clear hP hn
    go_wp2_with (go_at_call 76; refine (goscan_quotedForm.calls A9.out).mono ?_; rintro e w1 ⟨rfl, hb⟩; have hb := Aside0.mk (show Below wr.heap.size wr w1 from hb))
    go_roundw
    case rel => exact ⟨9 + 1, _, _, Z57, rfl, rfl, rfl, hP2, ⟨hB.out.trans (hb.out.mono hB.out.size)⟩, ⟨goscan_longest.cellsAt hC.out.1 hC.out.2 hb.out⟩⟩
    case measure => simp [intOf]
  ·obtain ⟨rfl, rfl⟩ := Prod.mk.inj (show (s1, s2) = (r1, r2) from hP.out)
   clear hP
   go_wp2
   go_ret2
   exact ⟨rfl, hB.out⟩
def goscan_written.l0 : Nat → ByteArray → Int → Int → Int → List (S69) → Int → Int → Option (Int × Int)
 | 0, _, _, _, _, _, _, _ => none
 | k + 1, x0, x1, x6, x7, x11, x12, x13 => if x13 < x12 then (if 0 ≤ x13 then (if x13 < (x11.length : Int) then (if (((rd_T69 x11 x13).f1).size : Int) > (wrap64 (x7 - x1)) then (if 0 ≤ x1 then (if x1 ≤ (x0.size : Int) then ((strings_HasPrefix.f (x0.extract (x1 : Int).toNat x0.size) ((rd_T69 x11 x13).f1)).bind fun t222 => (if t222 = true then (goscan_written.l0 k x0 x1 (wrap64 (8 + x13)) (wrap64 (x1 + (((rd_T69 x11 x13).f1).size : Int))) x11 x12 (wrap64 (x13 + 1))) else (goscan_written.l0 k x0 x1 x6 x7 x11 x12 (wrap64 (x13 + 1))))) else (none)) else (none)) else (goscan_written.l0 k x0 x1 x6 x7 x11 x12 (wrap64 (x13 + 1)))) else (none)) else (none)) else (some (x6, x7))
def goscan_written.f (k : Nat) (a0 : ByteArray) (a1 : Int) : Option (Int × Int) := (goscan_operators.f).bind fun t217 => (goscan_written.l0 k a0 a1 0 a1 t217 (t217.length : Int) 0)
theorem goscan_written.mono_l : ∀ k, (∀ y0 y1 y2 y3 y4 y5 y6, LeO (goscan_written.l0 k y0 y1 y2 y3 y4 y5 y6) (goscan_written.l0 (k + 1) y0 y1 y2 y3 y4 y5 y6))
 | 0 => fun _ _ _ _ _ _ _ r h => by simp [goscan_written.l0] at h
 | k + 1 => by
  have ih0 := goscan_written.mono_l k
  ·intro y0 y1 y2 y3 y4 y5 y6
   unfold goscan_written.l0
   exact mO
theorem goscan_written.mono : ∀ a0 a1 k, LeO (goscan_written.f k a0 a1) (goscan_written.f (k + 1) a0 a1) := by
 intro a0 a1 k
 have ih0 := goscan_written.mono_l k
 unfold goscan_written.f
 exact mO
set_option maxHeartbeats 8000000 in
set_option maxRecDepth 100000 in
theorem goscan_written.calls {k : Nat} {a0 : ByteArray} {a1 : Int} {r1 : Int} {r2 : Int} {w : World} (h : goscan_written.f k a0 a1 = some (r1, r2)) :
  Calls Try.prog 48 #[.string a0, .int .i64 a1] w fun e w' => e = .returned (.tuple #[.int .i64 r1, .int .i64 r2]) ∧ Below w.heap.size w w' := by
 have hu69 := Try.underlying69
 have HB := Aside0.mk (Below.refl w.heap.size w)
 have H : ((goscan_operators.f).bind fun t217 => (goscan_written.l0 k a0 a1 0 a1 t217 (t217.length : Int) 0)) = some (r1, r2) := h
 clear h
 replace H := bS H
 obtain ⟨t217, A3, H⟩ := H
 try dsimp only at H
 have H' := Aside0.mk H
 clear H
 go_enter Try.func48, Try.ntmps48
 go_wp2_with (first | (go_at_call 44; (with_reducible refine (goscan_operators.calls A3.out).mono ?_); rintro e w4 ⟨v218, rfl, ho0, hb⟩; have HO219 := Aside0.mk (Kd.V_lower (Kd.V_mono (ok' := fun k_ => True) ho0 (fun k_ hk_ => trivial)) (below_size zB)); replace HB := Aside0.mk (below_step zB hb); (try clear hb); (try clear hb2); (try clear hk); (try clear hi); (try clear ho0); obtain ⟨Ao5, co5, eo5⟩ := Kd.V_slice HO219.out; subst eo5))
 repeat (go_quiet (first | (go_at_call 44; (with_reducible refine (goscan_operators.calls A3.out).mono ?_); rintro e w4 ⟨v218, rfl, ho0, hb⟩; have HO219 := Aside0.mk (Kd.V_lower (Kd.V_mono (ok' := fun k_ => True) ho0 (fun k_ hk_ => trivial)) (below_size zB)); replace HB := Aside0.mk (below_step zB hb); (try clear hb); (try clear hb2); (try clear hk); (try clear hi); (try clear ho0); obtain ⟨Ao5, co5, eo5⟩ := Kd.V_slice HO219.out; subst eo5)); try go_wp2_with (first | (go_at_call 44; (with_reducible refine (goscan_operators.calls A3.out).mono ?_); rintro e w4 ⟨v218, rfl, ho0, hb⟩; have HO219 := Aside0.mk (Kd.V_lower (Kd.V_mono (ok' := fun k_ => True) ho0 (fun k_ hk_ => trivial)) (below_size zB)); replace HB := Aside0.mk (below_step zB hb); (try clear hb); (try clear hb2); (try clear hk); (try clear hi); (try clear ho0); obtain ⟨Ao5, co5, eo5⟩ := Kd.V_slice HO219.out; subst eo5)))
 go_loopg [6, 7, 13] k (fun kq v6 v7 v13 w' => ∃ (x6_1 : Int) (x7_1 : Int) (x13_1 : Int), v6 = .int .i64 x6_1 ∧ v7 = .int .i64 x7_1 ∧ v13 = .int .i64 x13_1 ∧ Aside0 (goscan_written.l0 kq a0 a1 x6_1 x7_1 t217 (t217.length : Int) x13_1 = some (r1, r2)) ∧ Aside0 (kq ≤ k) ∧ Aside0 (Kd.V k69 69 w' w.heap.size (fun _ => True) (.slice Ao5 t217.length co5) t217) ∧ Aside0 (Below w.heap.size w w'))
 case atStart => exact ⟨(0), (a1), (0), Z1, Z1, Z1, H', ⟨Nat.le_refl _⟩, ⟨by (with_reducible repeat (first | apply Kd.V_alloc | apply Kd.V_drewN | apply Kd.V_drew)); exact HO219.out⟩, ⟨Z0⟩⟩
 case round =>
  clear H'
  try clear p2
  try clear c4
  obtain ⟨x6_1, x7_1, x13_1, rfl, rfl, rfl, HA, HK1, HO_11, HB⟩ := hrel
  cases gk with
  | zero => exact absurd HA.out (by simp [goscan_written.l0])
  | succ k1 =>
   have H := HA.out
   clear HA
   simp only [goscan_written.l0] at H
   by_cases c6 : x13_1 < (t217.length : Int)
   ·rw [if_pos c6] at H
    have c6b0 := decide_eq_true c6
    clear c6
    by_cases c7 : 0 ≤ x13_1
    ·rw [if_pos c7] at H
     have c7b0 := decide_eq_true c7
     clear c7
     by_cases c8 : x13_1 < (t217.length : Int)
     ·rw [if_pos c8] at H
      have c8b0 := decide_eq_true c8
      clear c8
      by_cases c9 : (((rd_T69 t217 x13_1).f1).size : Int) > (wrap64 (x7_1 - a1))
      ·rw [if_pos c9] at H
       have c9b0 : decide ((wrap64 (x7_1 - a1)) < (((rd_T69 t217 x13_1).f1).size : Int)) = true := decide_eq_true c9
       clear c9
       by_cases c10 : 0 ≤ a1
       ·rw [if_pos c10] at H
        have c10b0 := eq_true c10
        have c10b1 := decide_eq_true c10
        clear c10
        by_cases c11 : a1 ≤ (a0.size : Int)
        ·rw [if_pos c11] at H
         have c11b0 := eq_true c11
         have c11b1 := decide_eq_true c11
         clear c11
         replace H := bS H
         obtain ⟨t222, A12, H⟩ := H
         try dsimp only at H
         by_cases c13 : t222 = true
         ·subst c13
          have H1 : (goscan_written.l0 k1 a0 a1 (wrap64 (8 + x13_1)) (wrap64 (a1 + (((rd_T69 t217 x13_1).f1).size : Int))) t217 (t217.length : Int) (wrap64 (x13_1 + 1))) = some (r1, r2) := by rw [if_pos rfl] at H; exact H
          clear H
          have H := H1
          clear H1
          have H' := Aside0.mk H
          clear H
          have p220 : 0 ≤ (x13_1 : Int) := of_decide_eq_true Z3
          have q220 : x13_1 < (t217.length : Int) := of_decide_eq_true Z3
          obtain ⟨ad220, e220, hx220_0, hx220_1⟩ := at_T69 (Kd.V_reads' HO_11.out).2.2 x13_1 p220 q220
          cases e220
          replace p220 := eq_true p220
          replace q220 := eq_true q220
          go_wp2_with (first | ((with_reducible refine gate_dst (N := 9) rfl ?_); refine box_event ?hg (N := 9) ?hd (cs := #[.string (⟨#[]⟩ : ByteArray), .string (⟨#[]⟩ : ByteArray)]) (t := 69) ?hr ?_; (case hd => rfl); (case hg => rfl); (case hr => first | (go_simp; done) | (go_simp; rfl)); intro gb221 hg w14 hbox hb; have n0_ := Aside0.mk (Kd.V_below (Kd.V_elderB Z51 gb221 (Nat.le_of_eq hg.symm)) hb); have n1_ := Aside0.mk (below_step zB hb); have n2_ := Aside0.mk (hbox); have n3_ := gE hg zB; have n4_ := gE hg zB; clear HO_11; clear HB; have HO_11 := n0_; have HB := n1_; have BK221 := n2_; have GW221 := n3_; have GE221 := n4_; clear n0_ n1_ n2_ n3_ n4_; clear hb hbox hg; have hcz15_0 := bC BK221 0 (.string (⟨#[]⟩ : ByteArray)); have hcz15_1 := bC BK221 1 (.string (⟨#[]⟩ : ByteArray)); have hfz15_0 := blk_frozen BK221.out 0; have hfz15_1 := blk_frozen BK221.out 1) | (go_at_call 28; (with_reducible refine (strings_HasPrefix.calls A12.out).mono ?_); rintro e w' ⟨rfl, ⟨nd, rfl⟩⟩; (try first | exact ⟨rfl, _, World.drewN_drewN _ _ _⟩ | exact ⟨rfl, _, Eq.trans (World.drewN_drewN _ _ _) (congrArg (World.drewN _) (Nat.add_assoc _ _ _))⟩)))
          repeat (go_quiet (first | ((with_reducible refine gate_dst (N := 9) rfl ?_); refine box_event ?hg (N := 9) ?hd (cs := #[.string (⟨#[]⟩ : ByteArray), .string (⟨#[]⟩ : ByteArray)]) (t := 69) ?hr ?_; (case hd => rfl); (case hg => rfl); (case hr => first | (go_simp; done) | (go_simp; rfl)); intro gb221 hg w14 hbox hb; have n0_ := Aside0.mk (Kd.V_below (Kd.V_elderB Z51 gb221 (Nat.le_of_eq hg.symm)) hb); have n1_ := Aside0.mk (below_step zB hb); have n2_ := Aside0.mk (hbox); have n3_ := gE hg zB; have n4_ := gE hg zB; clear HO_11; clear HB; have HO_11 := n0_; have HB := n1_; have BK221 := n2_; have GW221 := n3_; have GE221 := n4_; clear n0_ n1_ n2_ n3_ n4_; clear hb hbox hg; have hcz15_0 := bC BK221 0 (.string (⟨#[]⟩ : ByteArray)); have hcz15_1 := bC BK221 1 (.string (⟨#[]⟩ : ByteArray)); have hfz15_0 := blk_frozen BK221.out 0; have hfz15_1 := blk_frozen BK221.out 1) | (go_at_call 28; (with_reducible refine (strings_HasPrefix.calls A12.out).mono ?_); rintro e w' ⟨rfl, ⟨nd, rfl⟩⟩; (try first | exact ⟨rfl, _, World.drewN_drewN _ _ _⟩ | exact ⟨rfl, _, Eq.trans (World.drewN_drewN _ _ _) (congrArg (World.drewN _) (Nat.add_assoc _ _ _))⟩))); try go_wp2_with (first | ((with_reducible refine gate_dst (N := 9) rfl ?_); refine box_event ?hg (N := 9) ?hd (cs := #[.string (⟨#[]⟩ : ByteArray), .string (⟨#[]⟩ : ByteArray)]) (t := 69) ?hr ?_; (case hd => rfl); (case hg => rfl); (case hr => first | (go_simp; done) | (go_simp; rfl)); intro gb221 hg w14 hbox hb; have n0_ := Aside0.mk (Kd.V_below (Kd.V_elderB Z51 gb221 (Nat.le_of_eq hg.symm)) hb); have n1_ := Aside0.mk (below_step zB hb); have n2_ := Aside0.mk (hbox); have n3_ := gE hg zB; have n4_ := gE hg zB; clear HO_11; clear HB; have HO_11 := n0_; have HB := n1_; have BK221 := n2_; have GW221 := n3_; have GE221 := n4_; clear n0_ n1_ n2_ n3_ n4_; clear hb hbox hg; have hcz15_0 := bC BK221 0 (.string (⟨#[]⟩ : ByteArray)); have hcz15_1 := bC BK221 1 (.string (⟨#[]⟩ : ByteArray)); have hfz15_0 := blk_frozen BK221.out 0; have hfz15_1 := blk_frozen BK221.out 1) | (go_at_call 28; (with_reducible refine (strings_HasPrefix.calls A12.out).mono ?_); rintro e w' ⟨rfl, ⟨nd, rfl⟩⟩; (try first | exact ⟨rfl, _, World.drewN_drewN _ _ _⟩ | exact ⟨rfl, _, Eq.trans (World.drewN_drewN _ _ _) (congrArg (World.drewN _) (Nat.add_assoc _ _ _))⟩))))
          go_roundg k1
          case measure => have := HK1.out; omega
          case rel => exact ⟨(wrap64 (8 + x13_1)), (wrap64 (a1 + (((rd_T69 t217 x13_1).f1).size : Int))), (wrap64 (x13_1 + 1)), Z1, Z1, Z1, H', ⟨Z36⟩, ⟨by (with_reducible repeat (first | apply Kd.V_alloc | apply Kd.V_drewN | apply Kd.V_drew)); exact Kd.V_mono (Kd.V_far (p := ⟨gb221, 1, none⟩) (Kd.V_far (p := ⟨gb221, 0, none⟩) (Kd.V_mono HO_11.out (fun k_ hk => (⟨hk, hk.2⟩ : _ ∧ k_ ≠ gb221))) (fun _ hk => hk.2) (.string ((rd_T69 t217 x13_1).f0))) (fun _ hk => hk.2) (.string ((rd_T69 t217 x13_1).f1))) (fun _ hk => trivial)⟩, ⟨Z0⟩⟩
         ·replace c13 := Bool.eq_false_iff.mpr c13
          subst c13
          have H1 : (goscan_written.l0 k1 a0 a1 x6_1 x7_1 t217 (t217.length : Int) (wrap64 (x13_1 + 1))) = some (r1, r2) := by rw [if_neg (show ¬ (false = true) by decide)] at H; exact H
          clear H
          have H := H1
          clear H1
          have H' := Aside0.mk H
          clear H
          have p220 : 0 ≤ (x13_1 : Int) := of_decide_eq_true Z3
          have q220 : x13_1 < (t217.length : Int) := of_decide_eq_true Z3
          obtain ⟨ad220, e220, hx220_0, hx220_1⟩ := at_T69 (Kd.V_reads' HO_11.out).2.2 x13_1 p220 q220
          cases e220
          replace p220 := eq_true p220
          replace q220 := eq_true q220
          go_wp2_with (first | ((with_reducible refine gate_dst (N := 9) rfl ?_); refine box_event ?hg (N := 9) ?hd (cs := #[.string (⟨#[]⟩ : ByteArray), .string (⟨#[]⟩ : ByteArray)]) (t := 69) ?hr ?_; (case hd => rfl); (case hg => rfl); (case hr => first | (go_simp; done) | (go_simp; rfl)); intro gb221 hg w16 hbox hb; have n0_ := Aside0.mk (Kd.V_below (Kd.V_elderB Z51 gb221 (Nat.le_of_eq hg.symm)) hb); have n1_ := Aside0.mk (below_step zB hb); have n2_ := Aside0.mk (hbox); have n3_ := gE hg zB; have n4_ := gE hg zB; clear HO_11; clear HB; have HO_11 := n0_; have HB := n1_; have BK221 := n2_; have GW221 := n3_; have GE221 := n4_; clear n0_ n1_ n2_ n3_ n4_; clear hb hbox hg; have hcz17_0 := bC BK221 0 (.string (⟨#[]⟩ : ByteArray)); have hcz17_1 := bC BK221 1 (.string (⟨#[]⟩ : ByteArray)); have hfz17_0 := blk_frozen BK221.out 0; have hfz17_1 := blk_frozen BK221.out 1) | (go_at_call 28; (with_reducible refine (strings_HasPrefix.calls A12.out).mono ?_); rintro e w' ⟨rfl, ⟨nd, rfl⟩⟩; (try first | exact ⟨rfl, _, World.drewN_drewN _ _ _⟩ | exact ⟨rfl, _, Eq.trans (World.drewN_drewN _ _ _) (congrArg (World.drewN _) (Nat.add_assoc _ _ _))⟩)))
          repeat (go_quiet (first | ((with_reducible refine gate_dst (N := 9) rfl ?_); refine box_event ?hg (N := 9) ?hd (cs := #[.string (⟨#[]⟩ : ByteArray), .string (⟨#[]⟩ : ByteArray)]) (t := 69) ?hr ?_; (case hd => rfl); (case hg => rfl); (case hr => first | (go_simp; done) | (go_simp; rfl)); intro gb221 hg w16 hbox hb; have n0_ := Aside0.mk (Kd.V_below (Kd.V_elderB Z51 gb221 (Nat.le_of_eq hg.symm)) hb); have n1_ := Aside0.mk (below_step zB hb); have n2_ := Aside0.mk (hbox); have n3_ := gE hg zB; have n4_ := gE hg zB; clear HO_11; clear HB; have HO_11 := n0_; have HB := n1_; have BK221 := n2_; have GW221 := n3_; have GE221 := n4_; clear n0_ n1_ n2_ n3_ n4_; clear hb hbox hg; have hcz17_0 := bC BK221 0 (.string (⟨#[]⟩ : ByteArray)); have hcz17_1 := bC BK221 1 (.string (⟨#[]⟩ : ByteArray)); have hfz17_0 := blk_frozen BK221.out 0; have hfz17_1 := blk_frozen BK221.out 1) | (go_at_call 28; (with_reducible refine (strings_HasPrefix.calls A12.out).mono ?_); rintro e w' ⟨rfl, ⟨nd, rfl⟩⟩; (try first | exact ⟨rfl, _, World.drewN_drewN _ _ _⟩ | exact ⟨rfl, _, Eq.trans (World.drewN_drewN _ _ _) (congrArg (World.drewN _) (Nat.add_assoc _ _ _))⟩))); try go_wp2_with (first | ((with_reducible refine gate_dst (N := 9) rfl ?_); refine box_event ?hg (N := 9) ?hd (cs := #[.string (⟨#[]⟩ : ByteArray), .string (⟨#[]⟩ : ByteArray)]) (t := 69) ?hr ?_; (case hd => rfl); (case hg => rfl); (case hr => first | (go_simp; done) | (go_simp; rfl)); intro gb221 hg w16 hbox hb; have n0_ := Aside0.mk (Kd.V_below (Kd.V_elderB Z51 gb221 (Nat.le_of_eq hg.symm)) hb); have n1_ := Aside0.mk (below_step zB hb); have n2_ := Aside0.mk (hbox); have n3_ := gE hg zB; have n4_ := gE hg zB; clear HO_11; clear HB; have HO_11 := n0_; have HB := n1_; have BK221 := n2_; have GW221 := n3_; have GE221 := n4_; clear n0_ n1_ n2_ n3_ n4_; clear hb hbox hg; have hcz17_0 := bC BK221 0 (.string (⟨#[]⟩ : ByteArray)); have hcz17_1 := bC BK221 1 (.string (⟨#[]⟩ : ByteArray)); have hfz17_0 := blk_frozen BK221.out 0; have hfz17_1 := blk_frozen BK221.out 1) | (go_at_call 28; (with_reducible refine (strings_HasPrefix.calls A12.out).mono ?_); rintro e w' ⟨rfl, ⟨nd, rfl⟩⟩; (try first | exact ⟨rfl, _, World.drewN_drewN _ _ _⟩ | exact ⟨rfl, _, Eq.trans (World.drewN_drewN _ _ _) (congrArg (World.drewN _) (Nat.add_assoc _ _ _))⟩))))
          go_roundg k1
          case measure => have := HK1.out; omega
          case rel => exact ⟨(x6_1), (x7_1), (wrap64 (x13_1 + 1)), Z1, Z1, Z1, H', ⟨Z36⟩, ⟨by (with_reducible repeat (first | apply Kd.V_alloc | apply Kd.V_drewN | apply Kd.V_drew)); exact Kd.V_mono (Kd.V_far (p := ⟨gb221, 1, none⟩) (Kd.V_far (p := ⟨gb221, 0, none⟩) (Kd.V_mono HO_11.out (fun k_ hk => (⟨hk, hk.2⟩ : _ ∧ k_ ≠ gb221))) (fun _ hk => hk.2) (.string ((rd_T69 t217 x13_1).f0))) (fun _ hk => hk.2) (.string ((rd_T69 t217 x13_1).f1))) (fun _ hk => trivial)⟩, ⟨Z0⟩⟩
        ·rw [if_neg c11] at H
         exact absurd H Z61
       ·rw [if_neg c10] at H
        exact absurd H Z61
      ·rw [if_neg c9] at H
       have c9b0 : decide ((wrap64 (x7_1 - a1)) < (((rd_T69 t217 x13_1).f1).size : Int)) = false := decide_eq_false c9
       clear c9
       have H' := Aside0.mk H
       clear H
       have p220 : 0 ≤ (x13_1 : Int) := of_decide_eq_true Z3
       have q220 : x13_1 < (t217.length : Int) := of_decide_eq_true Z3
       obtain ⟨ad220, e220, hx220_0, hx220_1⟩ := at_T69 (Kd.V_reads' HO_11.out).2.2 x13_1 p220 q220
       cases e220
       replace p220 := eq_true p220
       replace q220 := eq_true q220
       go_wp2_with (first | ((with_reducible refine gate_dst (N := 9) rfl ?_); refine box_event ?hg (N := 9) ?hd (cs := #[.string (⟨#[]⟩ : ByteArray), .string (⟨#[]⟩ : ByteArray)]) (t := 69) ?hr ?_; (case hd => rfl); (case hg => rfl); (case hr => first | (go_simp; done) | (go_simp; rfl)); intro gb221 hg w18 hbox hb; have n0_ := Aside0.mk (Kd.V_below (Kd.V_elderB Z51 gb221 (Nat.le_of_eq hg.symm)) hb); have n1_ := Aside0.mk (below_step zB hb); have n2_ := Aside0.mk (hbox); have n3_ := gE hg zB; have n4_ := gE hg zB; clear HO_11; clear HB; have HO_11 := n0_; have HB := n1_; have BK221 := n2_; have GW221 := n3_; have GE221 := n4_; clear n0_ n1_ n2_ n3_ n4_; clear hb hbox hg; have hcz19_0 := bC BK221 0 (.string (⟨#[]⟩ : ByteArray)); have hcz19_1 := bC BK221 1 (.string (⟨#[]⟩ : ByteArray)); have hfz19_0 := blk_frozen BK221.out 0; have hfz19_1 := blk_frozen BK221.out 1))
       repeat (go_quiet (first | ((with_reducible refine gate_dst (N := 9) rfl ?_); refine box_event ?hg (N := 9) ?hd (cs := #[.string (⟨#[]⟩ : ByteArray), .string (⟨#[]⟩ : ByteArray)]) (t := 69) ?hr ?_; (case hd => rfl); (case hg => rfl); (case hr => first | (go_simp; done) | (go_simp; rfl)); intro gb221 hg w18 hbox hb; have n0_ := Aside0.mk (Kd.V_below (Kd.V_elderB Z51 gb221 (Nat.le_of_eq hg.symm)) hb); have n1_ := Aside0.mk (below_step zB hb); have n2_ := Aside0.mk (hbox); have n3_ := gE hg zB; have n4_ := gE hg zB; clear HO_11; clear HB; have HO_11 := n0_; have HB := n1_; have BK221 := n2_; have GW221 := n3_; have GE221 := n4_; clear n0_ n1_ n2_ n3_ n4_; clear hb hbox hg; have hcz19_0 := bC BK221 0 (.string (⟨#[]⟩ : ByteArray)); have hcz19_1 := bC BK221 1 (.string (⟨#[]⟩ : ByteArray)); have hfz19_0 := blk_frozen BK221.out 0; have hfz19_1 := blk_frozen BK221.out 1)); try go_wp2_with (first | ((with_reducible refine gate_dst (N := 9) rfl ?_); refine box_event ?hg (N := 9) ?hd (cs := #[.string (⟨#[]⟩ : ByteArray), .string (⟨#[]⟩ : ByteArray)]) (t := 69) ?hr ?_; (case hd => rfl); (case hg => rfl); (case hr => first | (go_simp; done) | (go_simp; rfl)); intro gb221 hg w18 hbox hb; have n0_ := Aside0.mk (Kd.V_below (Kd.V_elderB Z51 gb221 (Nat.le_of_eq hg.symm)) hb); have n1_ := Aside0.mk (below_step zB hb); have n2_ := Aside0.mk (hbox); have n3_ := gE hg zB; have n4_ := gE hg zB; clear HO_11; clear HB; have HO_11 := n0_; have HB := n1_; have BK221 := n2_; have GW221 := n3_; have GE221 := n4_; clear n0_ n1_ n2_ n3_ n4_; clear hb hbox hg; have hcz19_0 := bC BK221 0 (.string (⟨#[]⟩ : ByteArray)); have hcz19_1 := bC BK221 1 (.string (⟨#[]⟩ : ByteArray)); have hfz19_0 := blk_frozen BK221.out 0; have hfz19_1 := blk_frozen BK221.out 1)))
       go_roundg k1
       case measure => have := HK1.out; omega
       case rel => exact ⟨(x6_1), (x7_1), (wrap64 (x13_1 + 1)), Z1, Z1, Z1, H', ⟨Z36⟩, ⟨by (with_reducible repeat (first | apply Kd.V_alloc | apply Kd.V_drewN | apply Kd.V_drew)); exact Kd.V_mono (Kd.V_far (p := ⟨gb221, 1, none⟩) (Kd.V_far (p := ⟨gb221, 0, none⟩) (Kd.V_mono HO_11.out (fun k_ hk => (⟨hk, hk.2⟩ : _ ∧ k_ ≠ gb221))) (fun _ hk => hk.2) (.string ((rd_T69 t217 x13_1).f0))) (fun _ hk => hk.2) (.string ((rd_T69 t217 x13_1).f1))) (fun _ hk => trivial)⟩, ⟨Z0⟩⟩
     ·rw [if_neg c8] at H
      exact absurd H Z61
    ·rw [if_neg c7] at H
     exact absurd H Z61
   ·rw [if_neg c6] at H
    have c6b0 := decide_eq_false c6
    clear c6
    simp only [Option.some.injEq, Prod.mk.injEq] at H
    obtain ⟨rfl, rfl⟩ := H
    go_wp2
    repeat (go_quiet (fail); try go_wp2)
    go_ret2
    exact ⟨Z2, Z0⟩
def goscan_next.kinds (n : Int) : List Int := [0, n, wrap64 (n + 1), wrap64 (n + 2), 2, 3, 4, 5, 6, 7]
def goscan_next.f (k : Nat) (a0 : ByteArray) (a1 : Int) : Option (Int × Int × Int × Bool) := (goscan_longest.f k a0 a1).bind fun bl => ((goscan_written.f k a0 a1).bind fun bw => (if bw.2 > bl.1 then some (bw.1, a1, bw.2, true) else ((goscan_kindNewline.f k).bind fun n => (if bl.2 < 0 then some (0, 0, 0, false) else (if bl.2 < 10 then (if (goscan_next.kinds n).getD bl.2.toNat 0 = 2 then (if 0 ≤ a1 then (if a1 ≤ bl.1 then (if bl.1 ≤ (a0.size : Int) then ((goscan_Kind.f k (a0.extract a1.toNat bl.1.toNat)).bind fun bk => (if bk.2 = true then some (bk.1, a1, bl.1, true) else some (2, a1, bl.1, true))) else none) else none) else none) else some ((goscan_next.kinds n).getD bl.2.toNat 0, a1, bl.1, true)) else none)))))
theorem goscan_next.mono : ∀ a0 a1 k, LeO (goscan_next.f k a0 a1) (goscan_next.f (k + 1) a0 a1) := by
 intro a0 a1 k
 unfold goscan_next.f
 have m0 := @goscan_longest.mono
 have m1 := @goscan_written.mono
 have m2 := @goscan_kindNewline.mono
 have m3 := @goscan_Kind.mono
 exact mO
theorem goscan_next.cells10 {W : World} {b : Nat} {n : Int} (h : W.heap[b]? = some (.cells #[.int .i64 0, .int .i64 n, .int .i64 (wrap64 (n + 1)), .int .i64 (wrap64 (n + 2)), .int .i64 2, .int .i64 3, .int .i64 4, .int .i64 5, .int .i64 6, .int .i64 7] 71 (0, 0))) (j : Int) (h0 : 0 ≤ j) (h1 : j < 10) : W.cell? ⟨b, j.toNat, none⟩ = some (.int .i64 ((goscan_next.kinds n).getD j.toNat 0)) := by
 rw [cell_of_row _ _ j.toNat _ _ (0, 0) h]
 rcases (by omega : j.toNat = 0 ∨ j.toNat = 1 ∨ j.toNat = 2 ∨ j.toNat = 3 ∨ j.toNat = 4 ∨ j.toNat = 5 ∨ j.toNat = 6 ∨ j.toNat = 7 ∨ j.toNat = 8 ∨ j.toNat = 9) with e | e | e | e | e | e | e | e | e | e <;> rw [e] <;> rfl
set_option maxHeartbeats 8000000 in
set_option maxRecDepth 100000 in
theorem goscan_next.calls {k : Nat} {a0 : ByteArray} {a1 : Int} {r1 : Int} {r2 : Int} {r3 : Int} {r4 : Bool} {w : World} (h : goscan_next.f k a0 a1 = some (r1, r2, r3, r4)) :
  Calls Try.prog 29 #[.string a0, .int .i64 a1] w fun e w' => e = .returned (.tuple #[.agg #[.int .i64 r1, .int .i64 r2, .int .i64 r3], .bool r4]) ∧ Below w.heap.size w w' := by
 unfold goscan_next.f at h
 obtain ⟨⟨l1, l2⟩, A0, h⟩ := Option.bind_eq_some_iff.mp h
 obtain ⟨⟨m1, m2⟩, A1, h⟩ := Option.bind_eq_some_iff.mp h
 replace A0 := Aside0.mk A0
 replace A1 := Aside0.mk A1
 dsimp only at h
 by_cases c1 : m2 > l1
 ·rw [if_pos c1] at h
  obtain ⟨rfl, rfl, rfl, rfl⟩ : m1 = r1 ∧ a1 = r2 ∧ m2 = r3 ∧ true = r4 := by simpa using h
  clear h
  have d1 : decide (l1 < m2) = true := decide_eq_true c1
  clear c1
  go_enter Try.func29, Try.ntmps29
  go_wp2_with (first
   | (go_at_call 47; refine (goscan_longest.calls A0.out).mono ?_; rintro e w1 ⟨rfl, hb⟩; have B1 := Aside0.mk ((Below.refl w.heap.size w).alloc (Nat.le_refl _) _ |>.trans (hb.mono (Nat.le_trans (Nat.le_succ _) (Nat.le_of_eq (szAlloc w _).symm)))); have k1 := Aside0.mk (blk_below (blk_new w _) hb); clear hb)
   | (go_at_call 48; refine (goscan_written.calls A1.out).mono ?_; rintro e w2 ⟨rfl, hb⟩; have B2 := Aside0.mk (B1.out.trans (hb.mono B1.out.size)); have k2 := Aside0.mk (blk_below k1.out hb); clear hb; have c20 := (blk_cell k2.out 0).trans rfl; have c21 := (blk_cell k2.out 1).trans rfl; have c22 := (blk_cell k2.out 2).trans rfl; have f20 := blk_frozen k2.out 0; have f21 := blk_frozen k2.out 1; have f22 := blk_frozen k2.out 2))
  exact bodyPost_ret (v := .tuple #[.agg #[.int .i64 m1, .int .i64 a1, .int .i64 m2], .bool true]) (by simp [results, Try.results29, go_sem, c20, c21, c22]) rfl ⟨rfl, ((B2.out.setCell (Nat.le_refl _) _).setCell (Nat.le_refl _) _).setCell (Nat.le_refl _) _⟩
 rw [if_neg c1] at h
 obtain ⟨n, A2, h⟩ := Option.bind_eq_some_iff.mp h
 replace A2 := Aside0.mk A2
 have d1 : decide (l1 < m2) = false := decide_eq_false c1
 clear c1
 by_cases c2 : l2 < 0
 ·rw [if_pos c2] at h
  obtain ⟨rfl, rfl, rfl, rfl⟩ : 0 = r1 ∧ 0 = r2 ∧ 0 = r3 ∧ false = r4 := by simpa using h
  clear h
  have d2 : decide (l2 < 0) = true := decide_eq_true c2
  clear c2
  go_enter Try.func29, Try.ntmps29
  go_upto_if 42 with (first
   | (go_at_call 47; refine (goscan_longest.calls A0.out).mono ?_; rintro e w1 ⟨rfl, hb⟩; have B1 := Aside0.mk ((Below.refl w.heap.size w).alloc (Nat.le_refl _) _ |>.trans (hb.mono (Nat.le_trans (Nat.le_succ _) (Nat.le_of_eq (szAlloc w _).symm)))); have k1 := Aside0.mk (blk_below (blk_new w _) hb); clear hb)
   | (go_at_call 48; refine (goscan_written.calls A1.out).mono ?_; rintro e w2 ⟨rfl, hb⟩; have B2 := Aside0.mk (B1.out.trans (hb.mono B1.out.size)); have k2 := Aside0.mk (blk_below k1.out hb); clear hb; have c20 := (blk_cell k2.out 0).trans rfl; have c21 := (blk_cell k2.out 1).trans rfl; have c22 := (blk_cell k2.out 2).trans rfl; have f20 := blk_frozen k2.out 0; have f21 := blk_frozen k2.out 1; have f22 := blk_frozen k2.out 2)
   | (go_at_call 34; refine (goscan_kindNewline.calls A2.out).mono ?_; rintro e w3 ⟨rfl, hb⟩; clear c20 c21 c22 f20 f21 f22; have B3 := Aside0.mk ((B2.out.trans (hb.mono B2.out.size)).alloc (Nat.le_trans B2.out.size hb.size) (.cells #[.int .i64 0, .int .i64 n, .int .i64 (wrap64 (n + 1)), .int .i64 (wrap64 (n + 2)), .int .i64 2, .int .i64 3, .int .i64 4, .int .i64 5, .int .i64 6, .int .i64 7] 71)); have k3 := Aside0.mk (blk_alloc (blk_below k2.out hb) (.cells #[.int .i64 0, .int .i64 n, .int .i64 (wrap64 (n + 1)), .int .i64 (wrap64 (n + 2)), .int .i64 2, .int .i64 3, .int .i64 4, .int .i64 5, .int .i64 6, .int .i64 7] 71)); clear hb))
  generalize hw4 : w3.alloc (.cells #[.int .i64 0, .int .i64 n, .int .i64 (wrap64 (n + 1)), .int .i64 (wrap64 (n + 2)), .int .i64 2, .int .i64 3, .int .i64 4, .int .i64 5, .int .i64 6, .int .i64 7] 71) = w4 at B3 k3 ⊢
  clear hw4
  have c40 := (blk_cell k3.out 0).trans rfl
  have c41 := (blk_cell k3.out 1).trans rfl
  have c42 := (blk_cell k3.out 2).trans rfl
  have f40 := blk_frozen k3.out 0
  have f41 := blk_frozen k3.out 1
  have f42 := blk_frozen k3.out 2
  have hz4 : w.heap.size < w4.heap.size := blk_lt k3.out
  go_wp2
  exact bodyPost_ret (v := .tuple #[.agg #[.int .i64 0, .int .i64 0, .int .i64 0], .bool false]) (by simp [results, Try.results29, go_sem, c40, c41, c42]) rfl ⟨rfl, ((B3.out.setCell (Nat.le_refl _) _).setCell (Nat.le_refl _) _).setCell (Nat.le_refl _) _⟩
 rw [if_neg c2] at h
 by_cases c3 : l2 < 10
 ·rw [if_pos c3] at h
  have d2 : decide (l2 < 0) = false := decide_eq_false c2
  have d2' : 0 ≤ l2 := by omega
  clear c2
  have d3 : decide (l2 < 10) = true := decide_eq_true c3
  obtain ⟨kd, hkd⟩ : ∃ kd : Int, (goscan_next.kinds n).getD l2.toNat 0 = kd := ⟨_, rfl⟩
  rw [hkd] at h
  by_cases c4 : kd = 2
  ·rw [if_pos c4] at h
   subst c4
   by_cases c5 : 0 ≤ a1
   ·rw [if_pos c5] at h
    by_cases c6 : a1 ≤ l1
    ·rw [if_pos c6] at h
     by_cases c7 : l1 ≤ (a0.size : Int)
     ·rw [if_pos c7] at h
      obtain ⟨⟨q1, q2⟩, A3, h⟩ := Option.bind_eq_some_iff.mp h
      replace A3 := Aside0.mk A3
      dsimp only at h
      have hkd := Aside0.mk hkd
      cases q2 with
      | true =>
       obtain ⟨rfl, rfl, rfl, rfl⟩ : q1 = r1 ∧ a1 = r2 ∧ l1 = r3 ∧ true = r4 := by simpa using h
       clear h
       go_enter Try.func29, Try.ntmps29
       go_upto_if 42 with (first
        | (go_at_call 47; refine (goscan_longest.calls A0.out).mono ?_; rintro e w1 ⟨rfl, hb⟩; have B1 := Aside0.mk ((Below.refl w.heap.size w).alloc (Nat.le_refl _) _ |>.trans (hb.mono (Nat.le_trans (Nat.le_succ _) (Nat.le_of_eq (szAlloc w _).symm)))); have k1 := Aside0.mk (blk_below (blk_new w _) hb); clear hb)
        | (go_at_call 48; refine (goscan_written.calls A1.out).mono ?_; rintro e w2 ⟨rfl, hb⟩; have B2 := Aside0.mk (B1.out.trans (hb.mono B1.out.size)); have k2 := Aside0.mk (blk_below k1.out hb); clear hb; have c20 := (blk_cell k2.out 0).trans rfl; have c21 := (blk_cell k2.out 1).trans rfl; have c22 := (blk_cell k2.out 2).trans rfl; have f20 := blk_frozen k2.out 0; have f21 := blk_frozen k2.out 1; have f22 := blk_frozen k2.out 2)
        | (go_at_call 34; refine (goscan_kindNewline.calls A2.out).mono ?_; rintro e w3 ⟨rfl, hb⟩; clear c20 c21 c22 f20 f21 f22; have B3 := Aside0.mk ((B2.out.trans (hb.mono B2.out.size)).alloc (Nat.le_trans B2.out.size hb.size) (.cells #[.int .i64 0, .int .i64 n, .int .i64 (wrap64 (n + 1)), .int .i64 (wrap64 (n + 2)), .int .i64 2, .int .i64 3, .int .i64 4, .int .i64 5, .int .i64 6, .int .i64 7] 71)); have k3 := Aside0.mk (blk_alloc (blk_below k2.out hb) (.cells #[.int .i64 0, .int .i64 n, .int .i64 (wrap64 (n + 1)), .int .i64 (wrap64 (n + 2)), .int .i64 2, .int .i64 3, .int .i64 4, .int .i64 5, .int .i64 6, .int .i64 7] 71)); have e11 := goscan_next.cells10 (n := n) (heap_alloc_last w3 _) l2 d2' c3; clear hb))
       generalize hw4 : w3.alloc (.cells #[.int .i64 0, .int .i64 n, .int .i64 (wrap64 (n + 1)), .int .i64 (wrap64 (n + 2)), .int .i64 2, .int .i64 3, .int .i64 4, .int .i64 5, .int .i64 6, .int .i64 7] 71) = w4 at B3 k3 e11 ⊢
       clear hw4
       have c40 := (blk_cell k3.out 0).trans rfl
       have c41 := (blk_cell k3.out 1).trans rfl
       have c42 := (blk_cell k3.out 2).trans rfl
       have f40 := blk_frozen k3.out 0
       have f41 := blk_frozen k3.out 1
       have f42 := blk_frozen k3.out 2
       have hz4 : w.heap.size < w4.heap.size := blk_lt k3.out
       rw [hkd.out] at e11
       go_wp2_with (first | (go_at_call 21; refine (goscan_Kind.calls A3.out).mono ?_; rintro e w5 ⟨rfl, hb⟩; have B5 := Aside0.mk ((B3.out.alloc B3.out.size _).trans (hb.mono (Nat.le_trans B3.out.size (Nat.le_trans (Nat.le_succ _) (Nat.le_of_eq (szAlloc w4 _).symm))))); have k5 := Aside0.mk (blk_below (blk_new w4 _) hb); have k6 := Aside0.mk (blk_below (blk_alloc k3.out _) hb); clear hb; have c50 := (blk_cell k5.out 0).trans rfl; have c51 := (blk_cell k5.out 1).trans rfl; have c52 := (blk_cell k5.out 2).trans rfl; have f50 := blk_frozen k5.out 0; have f51 := blk_frozen k5.out 1; have f52 := blk_frozen k5.out 2; have c60 := (blk_cell k6.out 0).trans rfl; have c61 := (blk_cell k6.out 1).trans rfl; have c62 := (blk_cell k6.out 2).trans rfl; have f60 := blk_frozen k6.out 0; have f61 := blk_frozen k6.out 1; have f62 := blk_frozen k6.out 2; have hne := Nat.ne_of_gt hz4; have hne' := Nat.ne_of_lt hz4))
       exact bodyPost_ret (v := .tuple #[.agg #[.int .i64 q1, .int .i64 a1, .int .i64 l1], .bool true]) (by simp [results, Try.results29, go_sem, c50, c51, c52, c60, c61, c62, hne, hne']) rfl ⟨rfl, (((B5.out.setCell (Nat.le_of_lt hz4) _).setCell (Nat.le_refl _) _).setCell (Nat.le_refl _) _).setCell (Nat.le_refl _) _⟩
      | false =>
       obtain ⟨rfl, rfl, rfl, rfl⟩ : 2 = r1 ∧ a1 = r2 ∧ l1 = r3 ∧ true = r4 := by simpa using h
       clear h
       go_enter Try.func29, Try.ntmps29
       go_upto_if 42 with (first
        | (go_at_call 47; refine (goscan_longest.calls A0.out).mono ?_; rintro e w1 ⟨rfl, hb⟩; have B1 := Aside0.mk ((Below.refl w.heap.size w).alloc (Nat.le_refl _) _ |>.trans (hb.mono (Nat.le_trans (Nat.le_succ _) (Nat.le_of_eq (szAlloc w _).symm)))); have k1 := Aside0.mk (blk_below (blk_new w _) hb); clear hb)
        | (go_at_call 48; refine (goscan_written.calls A1.out).mono ?_; rintro e w2 ⟨rfl, hb⟩; have B2 := Aside0.mk (B1.out.trans (hb.mono B1.out.size)); have k2 := Aside0.mk (blk_below k1.out hb); clear hb; have c20 := (blk_cell k2.out 0).trans rfl; have c21 := (blk_cell k2.out 1).trans rfl; have c22 := (blk_cell k2.out 2).trans rfl; have f20 := blk_frozen k2.out 0; have f21 := blk_frozen k2.out 1; have f22 := blk_frozen k2.out 2)
        | (go_at_call 34; refine (goscan_kindNewline.calls A2.out).mono ?_; rintro e w3 ⟨rfl, hb⟩; clear c20 c21 c22 f20 f21 f22; have B3 := Aside0.mk ((B2.out.trans (hb.mono B2.out.size)).alloc (Nat.le_trans B2.out.size hb.size) (.cells #[.int .i64 0, .int .i64 n, .int .i64 (wrap64 (n + 1)), .int .i64 (wrap64 (n + 2)), .int .i64 2, .int .i64 3, .int .i64 4, .int .i64 5, .int .i64 6, .int .i64 7] 71)); have k3 := Aside0.mk (blk_alloc (blk_below k2.out hb) (.cells #[.int .i64 0, .int .i64 n, .int .i64 (wrap64 (n + 1)), .int .i64 (wrap64 (n + 2)), .int .i64 2, .int .i64 3, .int .i64 4, .int .i64 5, .int .i64 6, .int .i64 7] 71)); have e11 := goscan_next.cells10 (n := n) (heap_alloc_last w3 _) l2 d2' c3; clear hb))
       generalize hw4 : w3.alloc (.cells #[.int .i64 0, .int .i64 n, .int .i64 (wrap64 (n + 1)), .int .i64 (wrap64 (n + 2)), .int .i64 2, .int .i64 3, .int .i64 4, .int .i64 5, .int .i64 6, .int .i64 7] 71) = w4 at B3 k3 e11 ⊢
       clear hw4
       have c40 := (blk_cell k3.out 0).trans rfl
       have c41 := (blk_cell k3.out 1).trans rfl
       have c42 := (blk_cell k3.out 2).trans rfl
       have f40 := blk_frozen k3.out 0
       have f41 := blk_frozen k3.out 1
       have f42 := blk_frozen k3.out 2
       have hz4 : w.heap.size < w4.heap.size := blk_lt k3.out
       rw [hkd.out] at e11
       go_wp2_with (first | (go_at_call 21; refine (goscan_Kind.calls A3.out).mono ?_; rintro e w5 ⟨rfl, hb⟩; have B5 := Aside0.mk ((B3.out.alloc B3.out.size _).trans (hb.mono (Nat.le_trans B3.out.size (Nat.le_trans (Nat.le_succ _) (Nat.le_of_eq (szAlloc w4 _).symm))))); have k5 := Aside0.mk (blk_below (blk_new w4 _) hb); have k6 := Aside0.mk (blk_below (blk_alloc k3.out _) hb); clear hb; have c50 := (blk_cell k5.out 0).trans rfl; have c51 := (blk_cell k5.out 1).trans rfl; have c52 := (blk_cell k5.out 2).trans rfl; have f50 := blk_frozen k5.out 0; have f51 := blk_frozen k5.out 1; have f52 := blk_frozen k5.out 2; have c60 := (blk_cell k6.out 0).trans rfl; have c61 := (blk_cell k6.out 1).trans rfl; have c62 := (blk_cell k6.out 2).trans rfl; have f60 := blk_frozen k6.out 0; have f61 := blk_frozen k6.out 1; have f62 := blk_frozen k6.out 2; have hne := Nat.ne_of_gt hz4; have hne' := Nat.ne_of_lt hz4))
       exact bodyPost_ret (v := .tuple #[.agg #[.int .i64 2, .int .i64 a1, .int .i64 l1], .bool true]) (by simp [results, Try.results29, go_sem, c50, c51, c52, c60, c61, c62, hne, hne']) rfl ⟨rfl, ((B5.out.setCell (Nat.le_refl _) _).setCell (Nat.le_refl _) _).setCell (Nat.le_refl _) _⟩
     ·rw [if_neg c7] at h
      exact absurd h Z61
    ·rw [if_neg c6] at h
     exact absurd h Z61
   ·rw [if_neg c5] at h
    exact absurd h Z61
  ·rw [if_neg c4] at h
   obtain ⟨rfl, rfl, rfl, rfl⟩ : kd = r1 ∧ a1 = r2 ∧ l1 = r3 ∧ true = r4 := by simpa using h
   clear h
   have d4 : (kd == 2) = false := beq_eq_false_iff_ne.mpr c4
   clear c4
   have hkd := Aside0.mk hkd
   go_enter Try.func29, Try.ntmps29
   go_upto_if 42 with (first
    | (go_at_call 47; refine (goscan_longest.calls A0.out).mono ?_; rintro e w1 ⟨rfl, hb⟩; have B1 := Aside0.mk ((Below.refl w.heap.size w).alloc (Nat.le_refl _) _ |>.trans (hb.mono (Nat.le_trans (Nat.le_succ _) (Nat.le_of_eq (szAlloc w _).symm)))); have k1 := Aside0.mk (blk_below (blk_new w _) hb); clear hb)
    | (go_at_call 48; refine (goscan_written.calls A1.out).mono ?_; rintro e w2 ⟨rfl, hb⟩; have B2 := Aside0.mk (B1.out.trans (hb.mono B1.out.size)); have k2 := Aside0.mk (blk_below k1.out hb); clear hb; have c20 := (blk_cell k2.out 0).trans rfl; have c21 := (blk_cell k2.out 1).trans rfl; have c22 := (blk_cell k2.out 2).trans rfl; have f20 := blk_frozen k2.out 0; have f21 := blk_frozen k2.out 1; have f22 := blk_frozen k2.out 2)
    | (go_at_call 34; refine (goscan_kindNewline.calls A2.out).mono ?_; rintro e w3 ⟨rfl, hb⟩; clear c20 c21 c22 f20 f21 f22; have B3 := Aside0.mk ((B2.out.trans (hb.mono B2.out.size)).alloc (Nat.le_trans B2.out.size hb.size) (.cells #[.int .i64 0, .int .i64 n, .int .i64 (wrap64 (n + 1)), .int .i64 (wrap64 (n + 2)), .int .i64 2, .int .i64 3, .int .i64 4, .int .i64 5, .int .i64 6, .int .i64 7] 71)); have k3 := Aside0.mk (blk_alloc (blk_below k2.out hb) (.cells #[.int .i64 0, .int .i64 n, .int .i64 (wrap64 (n + 1)), .int .i64 (wrap64 (n + 2)), .int .i64 2, .int .i64 3, .int .i64 4, .int .i64 5, .int .i64 6, .int .i64 7] 71)); have e11 := goscan_next.cells10 (n := n) (heap_alloc_last w3 _) l2 d2' c3; clear hb))
   generalize hw4 : w3.alloc (.cells #[.int .i64 0, .int .i64 n, .int .i64 (wrap64 (n + 1)), .int .i64 (wrap64 (n + 2)), .int .i64 2, .int .i64 3, .int .i64 4, .int .i64 5, .int .i64 6, .int .i64 7] 71) = w4 at B3 k3 e11 ⊢
   clear hw4
   have c40 := (blk_cell k3.out 0).trans rfl
   have c41 := (blk_cell k3.out 1).trans rfl
   have c42 := (blk_cell k3.out 2).trans rfl
   have f40 := blk_frozen k3.out 0
   have f41 := blk_frozen k3.out 1
   have f42 := blk_frozen k3.out 2
   have hz4 : w.heap.size < w4.heap.size := blk_lt k3.out
   rw [hkd.out] at e11
   go_wp2
   have q := blk_alloc (blk_set (blk_set (blk_set k3.out 0 (.int .i64 kd)) 1 (.int .i64 a1)) 2 (.int .i64 l1)) (.cells #[.int .i64 kd, .int .i64 a1, .int .i64 l1] 36)
   have q0 := (blk_cell q 0).trans rfl
   have q1 := (blk_cell q 1).trans rfl
   have q2 := (blk_cell q 2).trans rfl
   exact bodyPost_ret (v := .tuple #[.agg #[.int .i64 kd, .int .i64 a1, .int .i64 l1], .bool true]) (by simp [results, Try.results29, go_sem, q0, q1, q2]) rfl ⟨rfl, by repeat (first | exact B3.out | apply below_alloc | exact Nat.le_refl _ | refine Below.setCell ?_ ?_ _)⟩
 ·rw [if_neg c3] at h
  exact absurd h Z61
end Go.Proofs.Ytcajiapjdlphmaa.H
