import Derived.Test.YtcajiapjdlphmaaEPre
import Derived.Test.YtcajiapjdlphmaaEabcdefx0
namespace Go.Proofs.Ytcajiapjdlphmaa.H
open Go.RowKit Go.Proofs.YtcajiapjdlphmaaW.PrintWords Go.Proofs.YtcajiapjdlphmaaW.PrintLast Go.Proofs.YtcajiapjdlphmaaW.PrintMore
attribute [local go_sem] max2_int min2_int max_two min_two max_three min_three max_four min_four
set_option linter.unusedVariables false
set_option linter.unusedSimpArgs false
def goscan_letter.f (a0 : ByteArray) (a1 : Int) : Option (Int) := (goscan_plainRune.f a0 a1).bind fun bt137 => (if bt137.1 = 95 then (some bt137.2) else (if bt137.1 ≥ 97 then (if bt137.1 ≤ 122 then (some bt137.2) else (if bt137.1 ≥ 65 then (if bt137.1 ≤ 90 then (some bt137.2) else (if bt137.1 ≥ 128 then (some bt137.2) else (some 0))) else (if bt137.1 ≥ 128 then (some bt137.2) else (some 0)))) else (if bt137.1 ≥ 65 then (if bt137.1 ≤ 90 then (some bt137.2) else (if bt137.1 ≥ 128 then (some bt137.2) else (some 0))) else (if bt137.1 ≥ 128 then (some bt137.2) else (some 0)))))
set_option maxHeartbeats 8000000 in
set_option maxRecDepth 100000 in
theorem goscan_letter.calls {a0 : ByteArray} {a1 : Int} {r : Int} {w : World} (h : goscan_letter.f a0 a1 = some r) :
  Calls Try.prog 92 #[.string a0, .int .i64 a1] w fun e w' => e = .returned (.int .i64 r) ∧ Below w.heap.size w w' := by
 have HB := Aside0.mk (Below.refl w.heap.size w)
 have H : ((goscan_plainRune.f a0 a1).bind fun bt137 => (if bt137.1 = 95 then (some bt137.2) else (if bt137.1 ≥ 97 then (if bt137.1 ≤ 122 then (some bt137.2) else (if bt137.1 ≥ 65 then (if bt137.1 ≤ 90 then (some bt137.2) else (if bt137.1 ≥ 128 then (some bt137.2) else (some 0))) else (if bt137.1 ≥ 128 then (some bt137.2) else (some 0)))) else (if bt137.1 ≥ 65 then (if bt137.1 ≤ 90 then (some bt137.2) else (if bt137.1 ≥ 128 then (some bt137.2) else (some 0))) else (if bt137.1 ≥ 128 then (some bt137.2) else (some 0)))))) = some r := h
 clear h
 replace H := bS H
 obtain ⟨⟨t137, t138⟩, A3, H⟩ := H
 try dsimp only at H
 by_cases c4 : t137 = 95
 ·rw [if_pos c4] at H
  have c4b0 := e1 c4
  have c4b1 := e2 c4
  clear c4
  obtain rfl := Option.some.inj H
  go_enter Try.func92, Try.ntmps92
  go_wp2_with (first | (refine gR (some 10) Try.func91 (goscan_plainRune.calls A3.out) (h := ?_); rintro w5 hb; replace HB := Aside0.mk (below_step zB hb); (try clear hb); (try clear hb2); (try clear hk); (try clear hi)))
  go_ret
  exact ⟨Z2, Z0⟩
 ·rw [if_neg c4] at H
  have c4b0 := e3 c4
  have c4b1 := e4 c4
  by_cases c6 : t137 ≥ 97
  ·rw [if_pos c6] at H
   have c6b0 : decide (97 ≤ t137) = true := decide_eq_true c6
   clear c6
   by_cases c7 : t137 ≤ 122
   ·rw [if_pos c7] at H
    have c7b0 := decide_eq_true c7
    clear c7
    obtain rfl := Option.some.inj H
    go_enter Try.func92, Try.ntmps92
    go_wp2_with (first | (refine gR (some 10) Try.func91 (goscan_plainRune.calls A3.out) (h := ?_); rintro w8 hb; replace HB := Aside0.mk (below_step zB hb); (try clear hb); (try clear hb2); (try clear hk); (try clear hi)))
    go_ret
    exact ⟨Z2, Z0⟩
   ·rw [if_neg c7] at H
    have c7b0 := decide_eq_false c7
    clear c7
    by_cases c9 : t137 ≥ 65
    ·rw [if_pos c9] at H
     have c9b0 : decide (65 ≤ t137) = true := decide_eq_true c9
     clear c9
     by_cases c10 : t137 ≤ 90
     ·rw [if_pos c10] at H
      have c10b0 := decide_eq_true c10
      clear c10
      obtain rfl := Option.some.inj H
      go_enter Try.func92, Try.ntmps92
      go_wp2_with (first | (refine gR (some 10) Try.func91 (goscan_plainRune.calls A3.out) (h := ?_); rintro w11 hb; replace HB := Aside0.mk (below_step zB hb); (try clear hb); (try clear hb2); (try clear hk); (try clear hi)))
      go_ret
      exact ⟨Z2, Z0⟩
     ·rw [if_neg c10] at H
      have c10b0 := decide_eq_false c10
      clear c10
      by_cases c12 : t137 ≥ 128
      ·rw [if_pos c12] at H
       have c12b0 : decide (128 ≤ t137) = true := decide_eq_true c12
       clear c12
       obtain rfl := Option.some.inj H
       go_enter Try.func92, Try.ntmps92
       go_wp2_with (first | (refine gR (some 10) Try.func91 (goscan_plainRune.calls A3.out) (h := ?_); rintro w13 hb; replace HB := Aside0.mk (below_step zB hb); (try clear hb); (try clear hb2); (try clear hk); (try clear hi)))
       go_ret
       exact ⟨Z2, Z0⟩
      ·rw [if_neg c12] at H
       have c12b0 : decide (128 ≤ t137) = false := decide_eq_false c12
       clear c12
       obtain rfl := Option.some.inj H
       go_enter Try.func92, Try.ntmps92
       go_wp2_with (first | (refine gR (some 10) Try.func91 (goscan_plainRune.calls A3.out) (h := ?_); rintro w14 hb; replace HB := Aside0.mk (below_step zB hb); (try clear hb); (try clear hb2); (try clear hk); (try clear hi)))
       go_ret
       exact ⟨Z2, Z0⟩
    ·rw [if_neg c9] at H
     have c9b0 : decide (65 ≤ t137) = false := decide_eq_false c9
     clear c9
     by_cases c15 : t137 ≥ 128
     ·rw [if_pos c15] at H
      have c15b0 : decide (128 ≤ t137) = true := decide_eq_true c15
      clear c15
      obtain rfl := Option.some.inj H
      go_enter Try.func92, Try.ntmps92
      go_wp2_with (first | (refine gR (some 10) Try.func91 (goscan_plainRune.calls A3.out) (h := ?_); rintro w16 hb; replace HB := Aside0.mk (below_step zB hb); (try clear hb); (try clear hb2); (try clear hk); (try clear hi)))
      go_ret
      exact ⟨Z2, Z0⟩
     ·rw [if_neg c15] at H
      have c15b0 : decide (128 ≤ t137) = false := decide_eq_false c15
      clear c15
      obtain rfl := Option.some.inj H
      go_enter Try.func92, Try.ntmps92
      go_wp2_with (first | (refine gR (some 10) Try.func91 (goscan_plainRune.calls A3.out) (h := ?_); rintro w17 hb; replace HB := Aside0.mk (below_step zB hb); (try clear hb); (try clear hb2); (try clear hk); (try clear hi)))
      go_ret
      exact ⟨Z2, Z0⟩
  ·rw [if_neg c6] at H
   have c6b0 : decide (97 ≤ t137) = false := decide_eq_false c6
   clear c6
   by_cases c18 : t137 ≥ 65
   ·rw [if_pos c18] at H
    have c18b0 : decide (65 ≤ t137) = true := decide_eq_true c18
    clear c18
    by_cases c19 : t137 ≤ 90
    ·rw [if_pos c19] at H
     have c19b0 := decide_eq_true c19
     clear c19
     obtain rfl := Option.some.inj H
     go_enter Try.func92, Try.ntmps92
     go_wp2_with (first | (refine gR (some 10) Try.func91 (goscan_plainRune.calls A3.out) (h := ?_); rintro w20 hb; replace HB := Aside0.mk (below_step zB hb); (try clear hb); (try clear hb2); (try clear hk); (try clear hi)))
     go_ret
     exact ⟨Z2, Z0⟩
    ·rw [if_neg c19] at H
     have c19b0 := decide_eq_false c19
     clear c19
     by_cases c21 : t137 ≥ 128
     ·rw [if_pos c21] at H
      have c21b0 : decide (128 ≤ t137) = true := decide_eq_true c21
      clear c21
      obtain rfl := Option.some.inj H
      go_enter Try.func92, Try.ntmps92
      go_wp2_with (first | (refine gR (some 10) Try.func91 (goscan_plainRune.calls A3.out) (h := ?_); rintro w22 hb; replace HB := Aside0.mk (below_step zB hb); (try clear hb); (try clear hb2); (try clear hk); (try clear hi)))
      go_ret
      exact ⟨Z2, Z0⟩
     ·rw [if_neg c21] at H
      have c21b0 : decide (128 ≤ t137) = false := decide_eq_false c21
      clear c21
      obtain rfl := Option.some.inj H
      go_enter Try.func92, Try.ntmps92
      go_wp2_with (first | (refine gR (some 10) Try.func91 (goscan_plainRune.calls A3.out) (h := ?_); rintro w23 hb; replace HB := Aside0.mk (below_step zB hb); (try clear hb); (try clear hb2); (try clear hk); (try clear hi)))
      go_ret
      exact ⟨Z2, Z0⟩
   ·rw [if_neg c18] at H
    have c18b0 : decide (65 ≤ t137) = false := decide_eq_false c18
    clear c18
    by_cases c24 : t137 ≥ 128
    ·rw [if_pos c24] at H
     have c24b0 : decide (128 ≤ t137) = true := decide_eq_true c24
     clear c24
     obtain rfl := Option.some.inj H
     go_enter Try.func92, Try.ntmps92
     go_wp2_with (first | (refine gR (some 10) Try.func91 (goscan_plainRune.calls A3.out) (h := ?_); rintro w25 hb; replace HB := Aside0.mk (below_step zB hb); (try clear hb); (try clear hb2); (try clear hk); (try clear hi)))
     go_ret
     exact ⟨Z2, Z0⟩
    ·rw [if_neg c24] at H
     have c24b0 : decide (128 ≤ t137) = false := decide_eq_false c24
     clear c24
     obtain rfl := Option.some.inj H
     go_enter Try.func92, Try.ntmps92
     go_wp2_with (first | (refine gR (some 10) Try.func91 (goscan_plainRune.calls A3.out) (h := ?_); rintro w26 hb; replace HB := Aside0.mk (below_step zB hb); (try clear hb); (try clear hb2); (try clear hk); (try clear hi)))
     go_ret
     exact ⟨Z2, Z0⟩
def goscan_digit.f (a0 : Int) (a1 : Int) : Option (Bool) := (strings_IndexByte.f (⟨#[48, 49, 50, 51, 52, 53, 54, 55, 56, 57, 97, 98, 99, 100, 101, 102]⟩ : ByteArray) a0).bind fun t139 => (if a0 ≥ 65 then (if a0 ≤ 70 then (if (((a0 - 65) % 256) + 10) ≥ 0 then (some (decide ((((a0 - 65) % 256) + 10) < a1))) else (some false)) else (if t139 ≥ 0 then (some (decide (t139 < a1))) else (some false))) else (if t139 ≥ 0 then (some (decide (t139 < a1))) else (some false)))
set_option maxHeartbeats 8000000 in
set_option maxRecDepth 100000 in
theorem goscan_digit.calls {a0 : Int} {a1 : Int} {r : Bool} {w : World} (h : goscan_digit.f a0 a1 = some r) :
  Calls Try.prog 93 #[.int .u8 a0, .int .i64 a1] w fun e w' => e = .returned (.bool r) ∧ Drawn0 w w' := by
 have H : ((strings_IndexByte.f (⟨#[48, 49, 50, 51, 52, 53, 54, 55, 56, 57, 97, 98, 99, 100, 101, 102]⟩ : ByteArray) a0).bind fun t139 => (if a0 ≥ 65 then (if a0 ≤ 70 then (if (((a0 - 65) % 256) + 10) ≥ 0 then (some (decide ((((a0 - 65) % 256) + 10) < a1))) else (some false)) else (if t139 ≥ 0 then (some (decide (t139 < a1))) else (some false))) else (if t139 ≥ 0 then (some (decide (t139 < a1))) else (some false)))) = some r := h
 clear h
 replace H := bS H
 obtain ⟨t139, A3, H⟩ := H
 try dsimp only at H
 by_cases c4 : a0 ≥ 65
 ·rw [if_pos c4] at H
  have c4b0 : decide (65 ≤ a0) = true := decide_eq_true c4
  clear c4
  by_cases c5 : a0 ≤ 70
  ·rw [if_pos c5] at H
   have c5b0 := decide_eq_true c5
   clear c5
   by_cases c6 : (((a0 - 65) % 256) + 10) ≥ 0
   ·rw [if_pos c6] at H
    have c6b0 : decide (0 ≤ (((a0 - 65) % 256) + 10)) = true := decide_eq_true c6
    clear c6
    obtain rfl := Option.some.inj H
    go_enter Try.func93, Try.ntmps93
    go_wp2_with (first | (refine gR (some 7) Try.func89 (strings_IndexByte.calls A3.out) (h := ?_); rintro _ ⟨nd, rfl⟩))
    go_ret
    exact ⟨Z1, Z4⟩
   ·rw [if_neg c6] at H
    have c6b0 : decide (0 ≤ (((a0 - 65) % 256) + 10)) = false := decide_eq_false c6
    clear c6
    obtain rfl := Option.some.inj H
    go_enter Try.func93, Try.ntmps93
    go_wp2_with (first | (refine gR (some 7) Try.func89 (strings_IndexByte.calls A3.out) (h := ?_); rintro _ ⟨nd, rfl⟩))
    go_ret
    exact ⟨Z1, Z4⟩
  ·rw [if_neg c5] at H
   have c5b0 := decide_eq_false c5
   clear c5
   by_cases c7 : t139 ≥ 0
   ·rw [if_pos c7] at H
    have c7b0 : decide (0 ≤ t139) = true := decide_eq_true c7
    clear c7
    obtain rfl := Option.some.inj H
    go_enter Try.func93, Try.ntmps93
    go_wp2_with (first | (refine gR (some 7) Try.func89 (strings_IndexByte.calls A3.out) (h := ?_); rintro _ ⟨nd, rfl⟩))
    go_ret
    exact ⟨Z1, Z4⟩
   ·rw [if_neg c7] at H
    have c7b0 : decide (0 ≤ t139) = false := decide_eq_false c7
    clear c7
    obtain rfl := Option.some.inj H
    go_enter Try.func93, Try.ntmps93
    go_wp2_with (first | (refine gR (some 7) Try.func89 (strings_IndexByte.calls A3.out) (h := ?_); rintro _ ⟨nd, rfl⟩))
    go_ret
    exact ⟨Z1, Z4⟩
 ·rw [if_neg c4] at H
  have c4b0 : decide (65 ≤ a0) = false := decide_eq_false c4
  clear c4
  by_cases c8 : t139 ≥ 0
  ·rw [if_pos c8] at H
   have c8b0 : decide (0 ≤ t139) = true := decide_eq_true c8
   clear c8
   obtain rfl := Option.some.inj H
   go_enter Try.func93, Try.ntmps93
   go_wp2_with (first | (refine gR (some 7) Try.func89 (strings_IndexByte.calls A3.out) (h := ?_); rintro _ ⟨nd, rfl⟩))
   go_ret
   exact ⟨Z1, Z4⟩
  ·rw [if_neg c8] at H
   have c8b0 : decide (0 ≤ t139) = false := decide_eq_false c8
   clear c8
   obtain rfl := Option.some.inj H
   go_enter Try.func93, Try.ntmps93
   go_wp2_with (first | (refine gR (some 7) Try.func89 (strings_IndexByte.calls A3.out) (h := ?_); rintro _ ⟨nd, rfl⟩))
   go_ret
   exact ⟨Z1, Z4⟩
def goscan_identForm.l0 : Nat → ByteArray → Int → Int → Option (Int)
 | 0, _, _, _ => none
 | k + 1, x0, x1, x5 => if x5 > 0 then ((goscan_letter.f x0 (wrap64 (x1 + x5))).bind fun t141 => ((goscan_at.f x0 (wrap64 (x1 + x5))).bind fun t142 => ((goscan_digit.f t142 10).bind fun t143 => (if t143 = true then (goscan_identForm.l0 k x0 (wrap64 (x1 + x5)) 1) else (goscan_identForm.l0 k x0 (wrap64 (x1 + x5)) t141))))) else (some x1)
def goscan_identForm.f (k : Nat) (a0 : ByteArray) (a1 : Int) : Option (Int) := (goscan_letter.f a0 a1).bind fun t140 => (if t140 = 0 then (some (-1)) else (goscan_identForm.l0 k a0 a1 t140))
theorem goscan_identForm.mono_l : ∀ k, (∀ y0 y1 y2, LeO (goscan_identForm.l0 k y0 y1 y2) (goscan_identForm.l0 (k + 1) y0 y1 y2))
 | 0 => fun _ _ _ r h => by simp [goscan_identForm.l0] at h
 | k + 1 => by
  have ih0 := goscan_identForm.mono_l k
  ·intro y0 y1 y2
   unfold goscan_identForm.l0
   exact mO
theorem goscan_identForm.mono : ∀ a0 a1 k, LeO (goscan_identForm.f k a0 a1) (goscan_identForm.f (k + 1) a0 a1) := by
 intro a0 a1 k
 have ih0 := goscan_identForm.mono_l k
 unfold goscan_identForm.f
 exact mO
set_option maxHeartbeats 8000000 in
set_option maxRecDepth 100000 in
theorem goscan_identForm.calls {k : Nat} {a0 : ByteArray} {a1 : Int} {r : Int} {w : World} (h : goscan_identForm.f k a0 a1 = some r) :
  Calls Try.prog 71 #[.string a0, .int .i64 a1] w fun e w' => e = .returned (.int .i64 r) ∧ Below w.heap.size w w' := by
 have HB := Aside0.mk (Below.refl w.heap.size w)
 have H : ((goscan_letter.f a0 a1).bind fun t140 => (if t140 = 0 then (some (-1)) else (goscan_identForm.l0 k a0 a1 t140))) = some r := h
 clear h
 replace H := bS H
 obtain ⟨t140, A3, H⟩ := H
 try dsimp only at H
 by_cases c4 : t140 = 0
 ·rw [if_pos c4] at H
  have c4b0 := e1 c4
  have c4b1 := e2 c4
  clear c4
  obtain rfl := Option.some.inj H
  go_enter Try.func71, Try.ntmps71
  go_wp2_with (first | (refine gR (some 8) Try.func92 (goscan_letter.calls A3.out) (h := ?_); rintro w5 hb; replace HB := Aside0.mk (below_step zB hb); (try clear hb); (try clear hb2); (try clear hk); (try clear hi)))
  go_ret
  exact ⟨Z2, Z0⟩
 ·rw [if_neg c4] at H
  have c4b0 := e3 c4
  have c4b1 := e4 c4
  have H' := Aside0.mk H
  clear H
  go_enter Try.func71, Try.ntmps71
  go_wp2_with (first | (refine gR (some 8) Try.func92 (goscan_letter.calls A3.out) (h := ?_); rintro w6 hb; replace HB := Aside0.mk (below_step zB hb); (try clear hb); (try clear hb2); (try clear hk); (try clear hi)))
  go_loopg [1, 5] k (fun kq v1 v5 w' => ∃ (x1_1 : Int) (x5_1 : Int), v1 = .int .i64 x1_1 ∧ v5 = .int .i64 x5_1 ∧ Aside0 (goscan_identForm.l0 kq a0 x1_1 x5_1 = some r) ∧ Aside0 (kq ≤ k) ∧ Aside0 (Below w.heap.size w w'))
  case atStart => exact ⟨(a1), (t140), Z1, Z1, H', ⟨Nat.le_refl _⟩, ⟨Z0⟩⟩
  case round =>
   clear H'
   try clear p2
   try clear c4
   try clear c4b0
   try clear c4b1
   obtain ⟨x1_1, x5_1, rfl, rfl, HA, HK1, HB⟩ := hrel
   cases gk with
   | zero => exact absurd HA.out (by simp [goscan_identForm.l0])
   | succ k1 =>
    have H := HA.out
    clear HA
    simp only [goscan_identForm.l0] at H
    by_cases c7 : x5_1 > 0
    ·rw [if_pos c7] at H
     have c7b0 : decide (0 < x5_1) = true := decide_eq_true c7
     clear c7
     replace H := bS H
     obtain ⟨t141, A8, H⟩ := H
     try dsimp only at H
     replace H := bS H
     obtain ⟨t142, A9, H⟩ := H
     try dsimp only at H
     replace H := bS H
     obtain ⟨t143, A10, H⟩ := H
     try dsimp only at H
     by_cases c11 : t143 = true
     ·subst c11
      have H1 : (goscan_identForm.l0 k1 a0 (wrap64 (x1_1 + x5_1)) 1) = some r := by rw [if_pos rfl] at H; exact H
      clear H
      have H := H1
      clear H1
      have H' := Aside0.mk H
      clear H
      go_wp2_with (first | (refine gR (some 18) Try.func92 (goscan_letter.calls A8.out) (h := ?_); rintro w12 hb; replace HB := Aside0.mk (below_step zB hb); (try clear hb); (try clear hb2); (try clear hk); (try clear hi)) | (refine gR (some 21) Try.func90 (goscan_at.calls A9.out) (h := ?_); rintro _ ⟨nd, rfl⟩) | (refine gR (some 22) Try.func93 (goscan_digit.calls A10.out) (h := ?_); rintro _ ⟨nd, rfl⟩))
      go_roundg k1
      case measure => have := HK1.out; omega
      case rel => exact ⟨(wrap64 (x1_1 + x5_1)), (1), Z1, Z1, H', ⟨Z36⟩, ⟨Z0⟩⟩
     ·replace c11 := Bool.eq_false_iff.mpr c11
      subst c11
      have H1 : (goscan_identForm.l0 k1 a0 (wrap64 (x1_1 + x5_1)) t141) = some r := by rw [if_neg (show ¬ (false = true) by decide)] at H; exact H
      clear H
      have H := H1
      clear H1
      have H' := Aside0.mk H
      clear H
      go_wp2_with (first | (refine gR (some 18) Try.func92 (goscan_letter.calls A8.out) (h := ?_); rintro w13 hb; replace HB := Aside0.mk (below_step zB hb); (try clear hb); (try clear hb2); (try clear hk); (try clear hi)) | (refine gR (some 21) Try.func90 (goscan_at.calls A9.out) (h := ?_); rintro _ ⟨nd, rfl⟩) | (refine gR (some 22) Try.func93 (goscan_digit.calls A10.out) (h := ?_); rintro _ ⟨nd, rfl⟩))
      go_roundg k1
      case measure => have := HK1.out; omega
      case rel => exact ⟨(wrap64 (x1_1 + x5_1)), (t141), Z1, Z1, H', ⟨Z36⟩, ⟨Z0⟩⟩
    ·rw [if_neg c7] at H
     have c7b0 : decide (0 < x5_1) = false := decide_eq_false c7
     clear c7
     obtain rfl := Option.some.inj H
     go_wp2
     go_ret
     exact ⟨Z2, Z0⟩
def goscan_more.l0 : Nat → ByteArray → Int → Int → Option (Int)
 | 0, _, _, _ => none
 | k + 1, x0, x1, x2 => (goscan_at.f x0 x1).bind fun t144 => ((goscan_digit.f t144 x2).bind fun t145 => (if t145 = true then (goscan_more.l0 k x0 (wrap64 (x1 + 1)) x2) else (if t144 = 95 then ((goscan_at.f x0 (wrap64 (x1 + 1))).bind fun t146 => ((goscan_digit.f t146 x2).bind fun t147 => (if t147 = true then (goscan_more.l0 k x0 (wrap64 (x1 + 2)) x2) else (some x1)))) else (some x1))))
def goscan_more.f (k : Nat) (a0 : ByteArray) (a1 : Int) (a2 : Int) : Option (Int) := goscan_more.l0 k a0 a1 a2
theorem goscan_more.mono_l : ∀ k, (∀ y0 y1 y2, LeO (goscan_more.l0 k y0 y1 y2) (goscan_more.l0 (k + 1) y0 y1 y2))
 | 0 => fun _ _ _ r h => by simp [goscan_more.l0] at h
 | k + 1 => by
  have ih0 := goscan_more.mono_l k
  ·intro y0 y1 y2
   unfold goscan_more.l0
   exact mO
theorem goscan_more.mono : ∀ a0 a1 a2 k, LeO (goscan_more.f k a0 a1 a2) (goscan_more.f (k + 1) a0 a1 a2) := by
 intro a0 a1 a2 k
 have ih0 := goscan_more.mono_l k
 unfold goscan_more.f
 exact mO
set_option maxHeartbeats 8000000 in
set_option maxRecDepth 100000 in
theorem goscan_more.calls {k : Nat} {a0 : ByteArray} {a1 : Int} {a2 : Int} {r : Int} {w : World} (h : goscan_more.f k a0 a1 a2 = some r) :
  Calls Try.prog 94 #[.string a0, .int .i64 a1, .int .i64 a2] w fun e w' => e = .returned (.int .i64 r) ∧ Drawn0 w w' := by
 have H : (goscan_more.l0 k a0 a1 a2) = some r := h
 clear h
 have H' := Aside0.mk H
 clear H
 go_enter Try.func94, Try.ntmps94
 go_wp2
 go_loopg [1] k (fun kq v1 w' => ∃ (x1_1 : Int), v1 = .int .i64 x1_1 ∧ Aside0 (goscan_more.l0 kq a0 x1_1 a2 = some r) ∧ Aside0 (kq ≤ k) ∧ Drawn0 w w')
 case atStart => exact ⟨(a1), Z1, H', ⟨Nat.le_refl _⟩, Z4⟩
 case round =>
  clear H'
  try clear p2
  obtain ⟨x1_1, rfl, HA, HK1, ⟨m1, rfl⟩⟩ := hrel
  cases gk with
  | zero => exact absurd HA.out (by simp [goscan_more.l0])
  | succ k1 =>
   have H := HA.out
   clear HA
   simp only [goscan_more.l0] at H
   replace H := bS H
   obtain ⟨t144, A4, H⟩ := H
   try dsimp only at H
   replace H := bS H
   obtain ⟨t145, A5, H⟩ := H
   try dsimp only at H
   by_cases c6 : t145 = true
   ·subst c6
    have H1 : (goscan_more.l0 k1 a0 (wrap64 (x1_1 + 1)) a2) = some r := by rw [if_pos rfl] at H; exact H
    clear H
    have H := H1
    clear H1
    have H' := Aside0.mk H
    clear H
    go_wp2_with (first | (refine gR (some 11) Try.func90 (goscan_at.calls A4.out) (h := ?_); rintro _ ⟨nd, rfl⟩) | (refine gR (some 13) Try.func93 (goscan_digit.calls A5.out) (h := ?_); rintro _ ⟨nd, rfl⟩))
    go_roundg k1
    case measure => have := HK1.out; omega
    case rel => exact ⟨(wrap64 (x1_1 + 1)), Z1, H', ⟨Z36⟩, Z4⟩
   ·replace c6 := Bool.eq_false_iff.mpr c6
    subst c6
    have H1 : (if t144 = 95 then ((goscan_at.f a0 (wrap64 (x1_1 + 1))).bind fun t146 => ((goscan_digit.f t146 a2).bind fun t147 => (if t147 = true then (goscan_more.l0 k1 a0 (wrap64 (x1_1 + 2)) a2) else (some x1_1)))) else (some x1_1)) = some r := by rw [if_neg (show ¬ (false = true) by decide)] at H; exact H
    clear H
    have H := H1
    clear H1
    by_cases c7 : t144 = 95
    ·rw [if_pos c7] at H
     have c7b0 := e1 c7
     have c7b1 := e2 c7
     clear c7
     replace H := bS H
     obtain ⟨t146, A8, H⟩ := H
     try dsimp only at H
     replace H := bS H
     obtain ⟨t147, A9, H⟩ := H
     try dsimp only at H
     by_cases c10 : t147 = true
     ·subst c10
      have H1 : (goscan_more.l0 k1 a0 (wrap64 (x1_1 + 2)) a2) = some r := by rw [if_pos rfl] at H; exact H
      clear H
      have H := H1
      clear H1
      have H' := Aside0.mk H
      clear H
      go_wp2_with (first | (refine gR (some 11) Try.func90 (goscan_at.calls A4.out) (h := ?_); rintro _ ⟨nd, rfl⟩) | (refine gR (some 13) Try.func93 (goscan_digit.calls A5.out) (h := ?_); rintro _ ⟨nd, rfl⟩) | (refine gR (some 19) Try.func90 (goscan_at.calls A4.out) (h := ?_); rintro _ ⟨nd, rfl⟩) | (go_at_call 90; (with_reducible refine (goscan_at.calls A8.out).mono ?_); rintro e w' ⟨rfl, ⟨nd, rfl⟩⟩) | (go_at_call 93; (with_reducible refine (goscan_digit.calls A9.out).mono ?_); rintro e w' ⟨rfl, ⟨nd, rfl⟩⟩))
      go_roundg k1
      case measure => have := HK1.out; omega
      case rel => exact ⟨(wrap64 (x1_1 + 2)), Z1, H', ⟨Z36⟩, Z4⟩
     ·replace c10 := Bool.eq_false_iff.mpr c10
      subst c10
      have H1 : (some x1_1) = some r := by rw [if_neg (show ¬ (false = true) by decide)] at H; exact H
      clear H
      have H := H1
      clear H1
      obtain rfl := Option.some.inj H
      go_wp2_with (first | (refine gR (some 11) Try.func90 (goscan_at.calls A4.out) (h := ?_); rintro _ ⟨nd, rfl⟩) | (refine gR (some 13) Try.func93 (goscan_digit.calls A5.out) (h := ?_); rintro _ ⟨nd, rfl⟩) | (refine gR (some 19) Try.func90 (goscan_at.calls A4.out) (h := ?_); rintro _ ⟨nd, rfl⟩) | (go_at_call 90; (with_reducible refine (goscan_at.calls A8.out).mono ?_); rintro e w' ⟨rfl, ⟨nd, rfl⟩⟩) | (go_at_call 93; (with_reducible refine (goscan_digit.calls A9.out).mono ?_); rintro e w' ⟨rfl, ⟨nd, rfl⟩⟩))
      go_ret
      exact ⟨Z1, Z4⟩
    ·rw [if_neg c7] at H
     have c7b0 := e3 c7
     have c7b1 := e4 c7
     obtain rfl := Option.some.inj H
     go_wp2_with (first | (refine gR (some 11) Try.func90 (goscan_at.calls A4.out) (h := ?_); rintro _ ⟨nd, rfl⟩) | (refine gR (some 13) Try.func93 (goscan_digit.calls A5.out) (h := ?_); rintro _ ⟨nd, rfl⟩) | (refine gR (some 19) Try.func90 (goscan_at.calls A4.out) (h := ?_); rintro _ ⟨nd, rfl⟩))
     go_ret
     exact ⟨Z1, Z4⟩
def goscan_is.f (a0 : ByteArray) (a1 : Int) (a2 : Int) (a3 : Int) : Option (Bool) := if a1 < (a0.size : Int) then (if 0 ≤ a1 then (if (bt a0 a1) = a2 then (some true) else (some ((bt a0 a1) == a3))) else (none)) else (some false)
set_option maxHeartbeats 8000000 in
set_option maxRecDepth 100000 in
theorem goscan_is.calls {a0 : ByteArray} {a1 : Int} {a2 : Int} {a3 : Int} {r : Bool} {w : World} (h : goscan_is.f a0 a1 a2 a3 = some r) :
  Calls Try.prog 95 #[.string a0, .int .i64 a1, .int .u8 a2, .int .u8 a3] w fun e w' => e = .returned (.bool r) ∧ Drawn0 w w' := by
 have H : (if a1 < (a0.size : Int) then (if 0 ≤ a1 then (if (bt a0 a1) = a2 then (some true) else (some ((bt a0 a1) == a3))) else (none)) else (some false)) = some r := h
 clear h
 by_cases c5 : a1 < (a0.size : Int)
 ·rw [if_pos c5] at H
  have c5b0 := decide_eq_true c5
  clear c5
  by_cases c6 : 0 ≤ a1
  ·rw [if_pos c6] at H
   have c6b0 := decide_eq_true c6
   clear c6
   by_cases c8 : (bt a0 a1) = a2
   ·rw [if_pos c8] at H
    have c8b0 := e1 c8
    have c8b1 := e2 c8
    clear c8
    obtain rfl := Option.some.inj H
    have p7 : 0 ≤ (a1 : Int) := of_decide_eq_true Z3
    have q7 : a1 < (a0.size : Int) := of_decide_eq_true Z3
    have hx7 := bt_at a0 a1
    replace p7 := eq_true p7
    replace q7 := eq_true q7
    go_enter Try.func95, Try.ntmps95
    go_wp2
    go_ret
    exact ⟨Z1, Z4⟩
   ·rw [if_neg c8] at H
    have c8b0 := e3 c8
    have c8b1 := e4 c8
    obtain rfl := Option.some.inj H
    have p7 : 0 ≤ (a1 : Int) := of_decide_eq_true Z3
    have q7 : a1 < (a0.size : Int) := of_decide_eq_true Z3
    have hx7 := bt_at a0 a1
    replace p7 := eq_true p7
    replace q7 := eq_true q7
    have p9 : 0 ≤ (a1 : Int) := of_decide_eq_true Z3
    have q9 : a1 < (a0.size : Int) := of_decide_eq_true Z3
    have hx9 := bt_at a0 a1
    replace p9 := eq_true p9
    replace q9 := eq_true q9
    go_enter Try.func95, Try.ntmps95
    go_wp2
    go_ret
    exact ⟨Z1, Z4⟩
  ·rw [if_neg c6] at H
   exact absurd H Z61
 ·rw [if_neg c5] at H
  have c5b0 := decide_eq_false c5
  clear c5
  obtain rfl := Option.some.inj H
  go_enter Try.func95, Try.ntmps95
  go_wp2
  go_ret
  exact ⟨Z1, Z4⟩
def goscan_wholeForm.l0 : Nat → ByteArray → Int → Int → List (S95) → Int → Int → Option (Int)
 | 0, _, _, _, _, _, _ => none
 | k + 1, x0, x1, x6, x31, x32, x33 => if x33 < x32 then (if 0 ≤ x33 then (if x33 < (x31.length : Int) then ((goscan_is.f x0 (wrap64 (x1 + 1)) ((rd_T95 x31 x33).f0) ((rd_T95 x31 x33).f1)).bind fun t157 => (if t157 = true then ((goscan_more.f k x0 (wrap64 (x1 + 2)) ((rd_T95 x31 x33).f2)).bind fun t158 => (if t158 > (wrap64 (x1 + 2)) then (goscan_wholeForm.l0 k x0 x1 (mx x6 t158) x31 x32 (wrap64 (x33 + 1))) else (goscan_wholeForm.l0 k x0 x1 x6 x31 x32 (wrap64 (x33 + 1))))) else (goscan_wholeForm.l0 k x0 x1 x6 x31 x32 (wrap64 (x33 + 1))))) else (none)) else (none)) else (some x6)
def goscan_wholeForm.f (k : Nat) (a0 : ByteArray) (a1 : Int) : Option (Int) := (goscan_at.f a0 a1).bind fun t148 => (if t148 = 48 then ((goscan_more.f k a0 (wrap64 (a1 + 1)) 8).bind fun t151 => ((some (([(⟨98, 66, 2⟩ : S95), (⟨111, 79, 8⟩ : S95), (⟨120, 88, 16⟩ : S95)] : List (S95)) : List (S95))).bind fun y152 => (goscan_wholeForm.l0 k a0 a1 (mx (wrap64 (a1 + 1)) t151) y152 (y152.length : Int) 0))) else ((goscan_digit.f t148 10).bind fun t149 => (if t149 = true then ((goscan_more.f k a0 a1 10).bind fun t150 => (some t150)) else (some (-1)))))
theorem goscan_wholeForm.mono_l : ∀ k, (∀ y0 y1 y2 y3 y4 y5, LeO (goscan_wholeForm.l0 k y0 y1 y2 y3 y4 y5) (goscan_wholeForm.l0 (k + 1) y0 y1 y2 y3 y4 y5))
 | 0 => fun _ _ _ _ _ _ r h => by simp [goscan_wholeForm.l0] at h
 | k + 1 => by
  have ih0 := goscan_wholeForm.mono_l k
  ·intro y0 y1 y2 y3 y4 y5
   unfold goscan_wholeForm.l0
   have m0 := @goscan_more.mono
   exact mO
theorem goscan_wholeForm.mono : ∀ a0 a1 k, LeO (goscan_wholeForm.f k a0 a1) (goscan_wholeForm.f (k + 1) a0 a1) := by
 intro a0 a1 k
 have ih0 := goscan_wholeForm.mono_l k
 unfold goscan_wholeForm.f
 have m0 := @goscan_more.mono
 exact mO
set_option maxHeartbeats 8000000 in
set_option maxRecDepth 100000 in
theorem goscan_wholeForm.calls {k : Nat} {a0 : ByteArray} {a1 : Int} {r : Int} {w : World} (h : goscan_wholeForm.f k a0 a1 = some r) :
  Calls Try.prog 72 #[.string a0, .int .i64 a1] w fun e w' => e = .returned (.int .i64 r) ∧ Below w.heap.size w w' := by
 have hu95 := Try.underlying95
 have HB := Aside0.mk (Below.refl w.heap.size w)
 have H : ((goscan_at.f a0 a1).bind fun t148 => (if t148 = 48 then ((goscan_more.f k a0 (wrap64 (a1 + 1)) 8).bind fun t151 => ((some (([(⟨98, 66, 2⟩ : S95), (⟨111, 79, 8⟩ : S95), (⟨120, 88, 16⟩ : S95)] : List (S95)) : List (S95))).bind fun y152 => (goscan_wholeForm.l0 k a0 a1 (mx (wrap64 (a1 + 1)) t151) y152 (y152.length : Int) 0))) else ((goscan_digit.f t148 10).bind fun t149 => (if t149 = true then ((goscan_more.f k a0 a1 10).bind fun t150 => (some t150)) else (some (-1)))))) = some r := h
 clear h
 replace H := Option.bind_eq_some_iff.mp H
 obtain ⟨t148, A30, H⟩ := H
 replace H : (if t148 = 48 then ((goscan_more.f k a0 (wrap64 (a1 + 1)) 8).bind fun t151 => ((some (([(⟨98, 66, 2⟩ : S95), (⟨111, 79, 8⟩ : S95), (⟨120, 88, 16⟩ : S95)] : List (S95)) : List (S95))).bind fun y152 => (goscan_wholeForm.l0 k a0 a1 (mx (wrap64 (a1 + 1)) t151) y152 (y152.length : Int) 0))) else ((goscan_digit.f t148 10).bind fun t149 => (if t149 = true then ((goscan_more.f k a0 a1 10).bind fun t150 => (some t150)) else (some (-1))))) = some r := H
 have A3 := Aside0.mk A30
 clear A30
 by_cases c4 : t148 = 48
 ·rw [if_pos c4] at H
  have c4b0 := e1 c4
  have c4b1 := e2 c4
  clear c4
  replace H := Option.bind_eq_some_iff.mp H
  obtain ⟨t151, A50, H⟩ := H
  replace H : ((some (([(⟨98, 66, 2⟩ : S95), (⟨111, 79, 8⟩ : S95), (⟨120, 88, 16⟩ : S95)] : List (S95)) : List (S95))).bind fun y152 => (goscan_wholeForm.l0 k a0 a1 (mx (wrap64 (a1 + 1)) t151) y152 (y152.length : Int) 0)) = some r := H
  have A5 := Aside0.mk A50
  clear A50
  obtain ⟨ji6, hji6⟩ : ∃ j_ : Int, (mx (wrap64 (a1 + 1)) t151) = j_ := ⟨_, rfl⟩
  replace H : ((some (([(⟨98, 66, 2⟩ : S95), (⟨111, 79, 8⟩ : S95), (⟨120, 88, 16⟩ : S95)] : List (S95)) : List (S95))).bind fun y152 => (goscan_wholeForm.l0 k a0 a1 ji6 y152 (y152.length : Int) 0)) = some r := by first | (rw [hji6] at H; exact H) | (simp only [hji6] at H ⊢; exact H)
  (try rw [hji6] at A3)
  (try rw [hji6] at A5)
  have hji6_ : (if (wrap64 (a1 + 1)) < t151 then t151 else (wrap64 (a1 + 1))) = ji6 := hji6
  obtain ⟨y152, hy152⟩ : ∃ y_ : List (S95), y_ = (([(⟨98, 66, 2⟩ : S95), (⟨111, 79, 8⟩ : S95), (⟨120, 88, 16⟩ : S95)] : List (S95))) := ⟨_, rfl⟩
  replace H : (goscan_wholeForm.l0 k a0 a1 ji6 y152 (y152.length : Int) 0) = some r := by first | (rw [hy152]; with_reducible exact H) | (have H2_ := (Option.bind_some _ _).symm.trans H; rw [hy152]; with_reducible exact H2_) | (have H2_ := (Option.bind_some _ _).symm.trans H; with_reducible exact H2_) | with_reducible exact H | (rw [hy152]; exact H) | exact H
  have Ny152 := Aside0.mk hy152
  clear hy152
  have H' := Aside0.mk H
  clear H
  go_enter Try.func72, Try.ntmps72
  go_wp2_with (first | (refine gR (some 12) Try.func90 (goscan_at.calls A3.out) (h := ?_); rintro _ ⟨nd, rfl⟩) | (refine gR (some 26) Try.func94 (goscan_more.calls A5.out) (h := ?_); rintro _ ⟨nd, rfl⟩) | ((with_reducible refine gate_dst (N := 31) rfl ?_); refine Kd.R_lit k95 _ 95 ?hg (N := 31) ?hd (xs := ([(⟨98, 66, 2⟩ : S95), (⟨111, 79, 8⟩ : S95), (⟨120, 88, 16⟩ : S95)] : List (S95))) (inner := [.int .u8 98, .int .u8 66, .int .i64 2, .int .u8 111, .int .u8 79, .int .i64 8, .int .u8 120, .int .u8 88, .int .i64 16]) (ok := fun _ => True) (okp := fun _ => True) ?hr ?hp (fun _ hk => hk) trivial (Below.refl _ _) (Nat.le_refl _) Z61 ?_; (case hd => rfl); (case hg => rfl); (case hr => first | (go_simp; done) | (go_simp; rfl)); (case hp => exact (Reps.c3 (show Kd.M k95 _ _ _ (⟨98, 66, 2⟩ : S95) [.int .u8 98, .int .u8 66, .int .i64 2] from (k95_mkM _ _ _ (⟨98, 66, 2⟩ : S95) )) (Reps.c3 (show Kd.M k95 _ _ _ (⟨111, 79, 8⟩ : S95) [.int .u8 111, .int .u8 79, .int .i64 8] from (k95_mkM _ _ _ (⟨111, 79, 8⟩ : S95) )) (Reps.c3 (show Kd.M k95 _ _ _ (⟨120, 88, 16⟩ : S95) [.int .u8 120, .int .u8 88, .int .i64 16] from (k95_mkM _ _ _ (⟨120, 88, 16⟩ : S95) )) (Reps.none _ _))))); intro v153 w7 ho8 hb hg_ hnew_; clear hg_ hnew_; (first | rw [← Ny152.out] at ho8 | (simp only [Int.reduceToNat] at ho8; rw [← Ny152.out] at ho8)); have HO154 := Aside0.mk (Kd.R_lower ho8 (below_size zB)); replace HB := Aside0.mk (below_step zB hb); clear hb ho8; obtain ⟨Ao9, co9, eo9⟩ := Kd.R_slice HO154.out; subst eo9))
  go_loopg [6, 33] k (fun kq v6 v33 w' => ∃ (x6_1 : Int) (x33_1 : Int), v6 = .int .i64 x6_1 ∧ v33 = .int .i64 x33_1 ∧ Aside0 (goscan_wholeForm.l0 kq a0 a1 x6_1 y152 (y152.length : Int) x33_1 = some r) ∧ Aside0 (kq ≤ k) ∧ Aside0 (Kd.R k95 95 w' w.heap.size (fun _ => True) (.slice Ao9 y152.length co9) y152) ∧ Aside0 (Below w.heap.size w w'))
  case atStart => exact ⟨(ji6), (0), (by first | rfl | (simp; done) | (simp only [← hji6] <;> (first | rfl | (simp; done))) | (simp only [← hji6] <;> rw [u32_tmod]) | (simp only [← hji6] <;> simp <;> omega) | (simp [*]; done) | (simp <;> omega) | rw [u32_tmod]), Z1, H', ⟨Nat.le_refl _⟩, ⟨by (with_reducible repeat (first | apply Kd.R_alloc | apply Kd.R_drewN | apply Kd.R_drew)); exact HO154.out⟩, ⟨Z0⟩⟩
  case round =>
   clear H'
   try clear p2
   try clear c3
   try clear c4
   try clear c4b0
   try clear c4b1
   try clear p6
   try clear c7
   try clear c9
   obtain ⟨x6_1, x33_1, rfl, rfl, HA, HK1, HO_31, HB⟩ := hrel
   cases gk with
   | zero => exact absurd HA.out (by simp [goscan_wholeForm.l0])
   | succ k1 =>
    have H := HA.out
    clear HA
    simp only [goscan_wholeForm.l0] at H
    by_cases c10 : x33_1 < (y152.length : Int)
    ·rw [if_pos c10] at H
     have c10b0 := decide_eq_true c10
     clear c10
     by_cases c11 : 0 ≤ x33_1
     ·rw [if_pos c11] at H
      have c11b0 := decide_eq_true c11
      clear c11
      by_cases c12 : x33_1 < (y152.length : Int)
      ·rw [if_pos c12] at H
       have c12b0 := decide_eq_true c12
       clear c12
       replace H := bS H
       obtain ⟨t157, A13, H⟩ := H
       try dsimp only at H
       by_cases c14 : t157 = true
       ·subst c14
        have H1 : ((goscan_more.f k1 a0 (wrap64 (a1 + 2)) ((rd_T95 y152 x33_1).f2)).bind fun t158 => (if t158 > (wrap64 (a1 + 2)) then (goscan_wholeForm.l0 k1 a0 a1 (mx x6_1 t158) y152 (y152.length : Int) (wrap64 (x33_1 + 1))) else (goscan_wholeForm.l0 k1 a0 a1 x6_1 y152 (y152.length : Int) (wrap64 (x33_1 + 1))))) = some r := by rw [if_pos rfl] at H; exact H
        clear H
        have H := H1
        clear H1
        replace H := bS H
        obtain ⟨t158, A15, H⟩ := H
        try dsimp only at H
        by_cases c16 : t158 > (wrap64 (a1 + 2))
        ·rw [if_pos c16] at H
         have c16b0 : decide ((wrap64 (a1 + 2)) < t158) = true := decide_eq_true c16
         clear c16
         obtain ⟨ji17, hji17⟩ : ∃ j_ : Int, (mx x6_1 t158) = j_ := ⟨_, rfl⟩
         replace H : (goscan_wholeForm.l0 k1 a0 a1 ji17 y152 (y152.length : Int) (wrap64 (x33_1 + 1))) = some r := by first | (rw [hji17] at H; exact H) | (simp only [hji17] at H ⊢; exact H)
         (try rw [hji17] at A13)
         (try rw [hji17] at A15)
         have hji17_ : (if x6_1 < t158 then t158 else x6_1) = ji17 := hji17
         have H' := Aside0.mk H
         clear H
         have p155 : 0 ≤ (x33_1 : Int) := of_decide_eq_true Z3
         have q155 : x33_1 < (y152.length : Int) := of_decide_eq_true Z3
         obtain ⟨ad155, e155, hx155_0, hx155_1, hx155_2⟩ := at_T95 (Kd.R_reads' HO_31.out).2.2 x33_1 p155 q155
         cases e155
         replace p155 := eq_true p155
         replace q155 := eq_true q155
         go_wp2_with (first | ((with_reducible refine gate_dst (N := 8) rfl ?_); refine box_event ?hg (N := 8) ?hd (cs := #[.int .u8 0, .int .u8 0, .int .i64 0]) (t := 95) ?hr ?_; (case hd => rfl); (case hg => rfl); (case hr => first | (go_simp; done) | (go_simp; rfl)); intro gb156 hg w18 hbox hb; replace HO_31 := Aside0.mk (Kd.R_below (Kd.R_elderB (kK HO_31) gb156 (Nat.le_of_eq hg.symm)) hb); have BK156 := Aside0.mk (hbox); have GW156 := gE hg zB; have GE156 := gE hg zB; replace HB := Aside0.mk (below_step zB hb); clear hb hbox hg; have hcz19_0 := bC BK156 0 (.int .u8 0); have hcz19_1 := bC BK156 1 (.int .u8 0); have hcz19_2 := bC BK156 2 (.int .i64 0); have hfz19_0 := blk_frozen BK156.out 0; have hfz19_1 := blk_frozen BK156.out 1; have hfz19_2 := blk_frozen BK156.out 2) | (refine gR (some 44) Try.func95 (goscan_is.calls A13.out) (h := ?_); rintro _ ⟨nd, rfl⟩) | (refine gR (some 50) Try.func94 (goscan_more.calls A15.out) (h := ?_); rintro _ ⟨nd, rfl⟩))
         go_roundg k1
         case measure => have := HK1.out; omega
         case rel => exact ⟨(ji17), (wrap64 (x33_1 + 1)), Z52, Z1, H', ⟨Z36⟩, ⟨by (with_reducible repeat (first | apply Kd.R_alloc | apply Kd.R_drewN | apply Kd.R_drew)); exact Kd.R_mono (Kd.R_far (p := ⟨gb156, 2, none⟩) (Kd.R_far (p := ⟨gb156, 1, none⟩) (Kd.R_far (p := ⟨gb156, 0, none⟩) (Kd.R_mono HO_31.out (fun k_ hk => (⟨hk, hk.2⟩ : _ ∧ k_ ≠ gb156))) (fun _ hk => hk.2) (.int .u8 ((rd_T95 y152 x33_1).f0))) (fun _ hk => hk.2) (.int .u8 ((rd_T95 y152 x33_1).f1))) (fun _ hk => hk.2) (.int .i64 ((rd_T95 y152 x33_1).f2))) (fun _ hk => trivial)⟩, ⟨Z0⟩⟩
        ·rw [if_neg c16] at H
         have c16b0 : decide ((wrap64 (a1 + 2)) < t158) = false := decide_eq_false c16
         clear c16
         have H' := Aside0.mk H
         clear H
         have p155 : 0 ≤ (x33_1 : Int) := of_decide_eq_true Z3
         have q155 : x33_1 < (y152.length : Int) := of_decide_eq_true Z3
         obtain ⟨ad155, e155, hx155_0, hx155_1, hx155_2⟩ := at_T95 (Kd.R_reads' HO_31.out).2.2 x33_1 p155 q155
         cases e155
         replace p155 := eq_true p155
         replace q155 := eq_true q155
         go_wp2_with (first | ((with_reducible refine gate_dst (N := 8) rfl ?_); refine box_event ?hg (N := 8) ?hd (cs := #[.int .u8 0, .int .u8 0, .int .i64 0]) (t := 95) ?hr ?_; (case hd => rfl); (case hg => rfl); (case hr => first | (go_simp; done) | (go_simp; rfl)); intro gb156 hg w20 hbox hb; replace HO_31 := Aside0.mk (Kd.R_below (Kd.R_elderB (kK HO_31) gb156 (Nat.le_of_eq hg.symm)) hb); have BK156 := Aside0.mk (hbox); have GW156 := gE hg zB; have GE156 := gE hg zB; replace HB := Aside0.mk (below_step zB hb); clear hb hbox hg; have hcz21_0 := bC BK156 0 (.int .u8 0); have hcz21_1 := bC BK156 1 (.int .u8 0); have hcz21_2 := bC BK156 2 (.int .i64 0); have hfz21_0 := blk_frozen BK156.out 0; have hfz21_1 := blk_frozen BK156.out 1; have hfz21_2 := blk_frozen BK156.out 2) | (refine gR (some 44) Try.func95 (goscan_is.calls A13.out) (h := ?_); rintro _ ⟨nd, rfl⟩) | (refine gR (some 50) Try.func94 (goscan_more.calls A15.out) (h := ?_); rintro _ ⟨nd, rfl⟩))
         go_roundg k1
         case measure => have := HK1.out; omega
         case rel => exact ⟨(x6_1), (wrap64 (x33_1 + 1)), Z1, Z1, H', ⟨Z36⟩, ⟨by (with_reducible repeat (first | apply Kd.R_alloc | apply Kd.R_drewN | apply Kd.R_drew)); exact Kd.R_mono (Kd.R_far (p := ⟨gb156, 2, none⟩) (Kd.R_far (p := ⟨gb156, 1, none⟩) (Kd.R_far (p := ⟨gb156, 0, none⟩) (Kd.R_mono HO_31.out (fun k_ hk => (⟨hk, hk.2⟩ : _ ∧ k_ ≠ gb156))) (fun _ hk => hk.2) (.int .u8 ((rd_T95 y152 x33_1).f0))) (fun _ hk => hk.2) (.int .u8 ((rd_T95 y152 x33_1).f1))) (fun _ hk => hk.2) (.int .i64 ((rd_T95 y152 x33_1).f2))) (fun _ hk => trivial)⟩, ⟨Z0⟩⟩
       ·replace c14 := Bool.eq_false_iff.mpr c14
        subst c14
        have H1 : (goscan_wholeForm.l0 k1 a0 a1 x6_1 y152 (y152.length : Int) (wrap64 (x33_1 + 1))) = some r := by rw [if_neg (show ¬ (false = true) by decide)] at H; exact H
        clear H
        have H := H1
        clear H1
        have H' := Aside0.mk H
        clear H
        have p155 : 0 ≤ (x33_1 : Int) := of_decide_eq_true Z3
        have q155 : x33_1 < (y152.length : Int) := of_decide_eq_true Z3
        obtain ⟨ad155, e155, hx155_0, hx155_1, hx155_2⟩ := at_T95 (Kd.R_reads' HO_31.out).2.2 x33_1 p155 q155
        cases e155
        replace p155 := eq_true p155
        replace q155 := eq_true q155
        go_wp2_with (first | ((with_reducible refine gate_dst (N := 8) rfl ?_); refine box_event ?hg (N := 8) ?hd (cs := #[.int .u8 0, .int .u8 0, .int .i64 0]) (t := 95) ?hr ?_; (case hd => rfl); (case hg => rfl); (case hr => first | (go_simp; done) | (go_simp; rfl)); intro gb156 hg w22 hbox hb; replace HO_31 := Aside0.mk (Kd.R_below (Kd.R_elderB (kK HO_31) gb156 (Nat.le_of_eq hg.symm)) hb); have BK156 := Aside0.mk (hbox); have GW156 := gE hg zB; have GE156 := gE hg zB; replace HB := Aside0.mk (below_step zB hb); clear hb hbox hg; have hcz23_0 := bC BK156 0 (.int .u8 0); have hcz23_1 := bC BK156 1 (.int .u8 0); have hcz23_2 := bC BK156 2 (.int .i64 0); have hfz23_0 := blk_frozen BK156.out 0; have hfz23_1 := blk_frozen BK156.out 1; have hfz23_2 := blk_frozen BK156.out 2) | (refine gR (some 44) Try.func95 (goscan_is.calls A13.out) (h := ?_); rintro _ ⟨nd, rfl⟩))
        go_roundg k1
        case measure => have := HK1.out; omega
        case rel => exact ⟨(x6_1), (wrap64 (x33_1 + 1)), Z1, Z1, H', ⟨Z36⟩, ⟨by (with_reducible repeat (first | apply Kd.R_alloc | apply Kd.R_drewN | apply Kd.R_drew)); exact Kd.R_mono (Kd.R_far (p := ⟨gb156, 2, none⟩) (Kd.R_far (p := ⟨gb156, 1, none⟩) (Kd.R_far (p := ⟨gb156, 0, none⟩) (Kd.R_mono HO_31.out (fun k_ hk => (⟨hk, hk.2⟩ : _ ∧ k_ ≠ gb156))) (fun _ hk => hk.2) (.int .u8 ((rd_T95 y152 x33_1).f0))) (fun _ hk => hk.2) (.int .u8 ((rd_T95 y152 x33_1).f1))) (fun _ hk => hk.2) (.int .i64 ((rd_T95 y152 x33_1).f2))) (fun _ hk => trivial)⟩, ⟨Z0⟩⟩
      ·rw [if_neg c12] at H
       exact absurd H Z61
     ·rw [if_neg c11] at H
      exact absurd H Z61
    ·rw [if_neg c10] at H
     have c10b0 := decide_eq_false c10
     clear c10
     obtain rfl := Option.some.inj H
     go_wp2
     go_ret
     exact ⟨by first | rfl | (simp [errW_none, errW_some] <;> rfl) | (simp only [← hji6]; first | rfl | (simp [errW_none, errW_some] <;> rfl)) | (simp [*, errW_none, errW_some] <;> rfl), Z0⟩
 ·rw [if_neg c4] at H
  have c4b0 := e3 c4
  have c4b1 := e4 c4
  replace H := bS H
  obtain ⟨t149, A24, H⟩ := H
  try dsimp only at H
  by_cases c25 : t149 = true
  ·subst c25
   have H1 : ((goscan_more.f k a0 a1 10).bind fun t150 => (some t150)) = some r := by rw [if_pos rfl] at H; exact H
   clear H
   have H := H1
   clear H1
   replace H := bS H
   obtain ⟨t150, A26, H⟩ := H
   try dsimp only at H
   obtain rfl := Option.some.inj H
   go_enter Try.func72, Try.ntmps72
   go_wp2_with (first | (refine gR (some 12) Try.func90 (goscan_at.calls A3.out) (h := ?_); rintro _ ⟨nd, rfl⟩) | (refine gR (some 16) Try.func93 (goscan_digit.calls A24.out) (h := ?_); rintro _ ⟨nd, rfl⟩) | (refine gR (some 20) Try.func94 (goscan_more.calls A26.out) (h := ?_); rintro _ ⟨nd, rfl⟩))
   go_ret
   exact ⟨Z2, Z0⟩
  ·replace c25 := Bool.eq_false_iff.mpr c25
   subst c25
   have H1 : (some (-1)) = some r := by rw [if_neg (show ¬ (false = true) by decide)] at H; exact H
   clear H
   have H := H1
   clear H1
   obtain rfl := Option.some.inj H
   go_enter Try.func72, Try.ntmps72
   go_wp2_with (first | (refine gR (some 12) Try.func90 (goscan_at.calls A3.out) (h := ?_); rintro _ ⟨nd, rfl⟩) | (refine gR (some 16) Try.func93 (goscan_digit.calls A24.out) (h := ?_); rintro _ ⟨nd, rfl⟩))
   go_ret
   exact ⟨Z2, Z0⟩
def goscan_number.f (k : Nat) (a0 : ByteArray) (a1 : Int) (a2 : Int) : Option (Int) := (goscan_at.f a0 a1).bind fun t159 => ((goscan_digit.f t159 a2).bind fun t160 => (if t160 = true then ((goscan_more.f k a0 a1 a2).bind fun t161 => (some t161)) else (some (-1))))
theorem goscan_number.mono : ∀ a0 a1 a2 k, LeO (goscan_number.f k a0 a1 a2) (goscan_number.f (k + 1) a0 a1 a2) := by
 intro a0 a1 a2 k
 unfold goscan_number.f
 have m0 := @goscan_more.mono
 exact mO
set_option maxHeartbeats 8000000 in
set_option maxRecDepth 100000 in
theorem goscan_number.calls {k : Nat} {a0 : ByteArray} {a1 : Int} {a2 : Int} {r : Int} {w : World} (h : goscan_number.f k a0 a1 a2 = some r) :
  Calls Try.prog 96 #[.string a0, .int .i64 a1, .int .i64 a2] w fun e w' => e = .returned (.int .i64 r) ∧ Drawn0 w w' := by
 have H : ((goscan_at.f a0 a1).bind fun t159 => ((goscan_digit.f t159 a2).bind fun t160 => (if t160 = true then ((goscan_more.f k a0 a1 a2).bind fun t161 => (some t161)) else (some (-1))))) = some r := h
 clear h
 replace H := bS H
 obtain ⟨t159, A4, H⟩ := H
 try dsimp only at H
 replace H := bS H
 obtain ⟨t160, A5, H⟩ := H
 try dsimp only at H
 by_cases c6 : t160 = true
 ·subst c6
  have H1 : ((goscan_more.f k a0 a1 a2).bind fun t161 => (some t161)) = some r := by rw [if_pos rfl] at H; exact H
  clear H
  have H := H1
  clear H1
  replace H := bS H
  obtain ⟨t161, A7, H⟩ := H
  try dsimp only at H
  obtain rfl := Option.some.inj H
  go_enter Try.func96, Try.ntmps96
  go_wp2_with (first | (refine gR (some 9) Try.func90 (goscan_at.calls A4.out) (h := ?_); rintro _ ⟨nd, rfl⟩) | (refine gR (some 11) Try.func93 (goscan_digit.calls A5.out) (h := ?_); rintro _ ⟨nd, rfl⟩) | (refine gR (some 16) Try.func94 (goscan_more.calls A7.out) (h := ?_); rintro _ ⟨nd, rfl⟩))
  go_ret
  exact ⟨Z1, Z4⟩
 ·replace c6 := Bool.eq_false_iff.mpr c6
  subst c6
  have H1 : (some (-1)) = some r := by rw [if_neg (show ¬ (false = true) by decide)] at H; exact H
  clear H
  have H := H1
  clear H1
  obtain rfl := Option.some.inj H
  go_enter Try.func96, Try.ntmps96
  go_wp2_with (first | (refine gR (some 9) Try.func90 (goscan_at.calls A4.out) (h := ?_); rintro _ ⟨nd, rfl⟩) | (refine gR (some 11) Try.func93 (goscan_digit.calls A5.out) (h := ?_); rintro _ ⟨nd, rfl⟩))
  go_ret
  exact ⟨Z1, Z4⟩
def goscan_powerForm.f (k : Nat) (a0 : ByteArray) (a1 : Int) (a2 : Int) (a3 : Int) : Option (Int) := (goscan_is.f a0 a1 a2 a3).bind fun t162 => (if t162 = true then ((goscan_is.f a0 (wrap64 (a1 + 1)) 43 45).bind fun t163 => (if t163 = true then ((goscan_number.f k a0 (wrap64 ((wrap64 (a1 + 1)) + 1)) 10).bind fun t164 => (some t164)) else ((goscan_number.f k a0 (wrap64 (a1 + 1)) 10).bind fun t165 => (some t165)))) else (some (-1)))
theorem goscan_powerForm.mono : ∀ a0 a1 a2 a3 k, LeO (goscan_powerForm.f k a0 a1 a2 a3) (goscan_powerForm.f (k + 1) a0 a1 a2 a3) := by
 intro a0 a1 a2 a3 k
 unfold goscan_powerForm.f
 have m0 := @goscan_number.mono
 exact mO
set_option maxHeartbeats 8000000 in
set_option maxRecDepth 100000 in
theorem goscan_powerForm.calls {k : Nat} {a0 : ByteArray} {a1 : Int} {a2 : Int} {a3 : Int} {r : Int} {w : World} (h : goscan_powerForm.f k a0 a1 a2 a3 = some r) :
  Calls Try.prog 97 #[.string a0, .int .i64 a1, .int .u8 a2, .int .u8 a3] w fun e w' => e = .returned (.int .i64 r) ∧ Drawn0 w w' := by
 have H : ((goscan_is.f a0 a1 a2 a3).bind fun t162 => (if t162 = true then ((goscan_is.f a0 (wrap64 (a1 + 1)) 43 45).bind fun t163 => (if t163 = true then ((goscan_number.f k a0 (wrap64 ((wrap64 (a1 + 1)) + 1)) 10).bind fun t164 => (some t164)) else ((goscan_number.f k a0 (wrap64 (a1 + 1)) 10).bind fun t165 => (some t165)))) else (some (-1)))) = some r := h
 clear h
 replace H := bS H
 obtain ⟨t162, A5, H⟩ := H
 try dsimp only at H
 by_cases c6 : t162 = true
 ·subst c6
  have H1 : ((goscan_is.f a0 (wrap64 (a1 + 1)) 43 45).bind fun t163 => (if t163 = true then ((goscan_number.f k a0 (wrap64 ((wrap64 (a1 + 1)) + 1)) 10).bind fun t164 => (some t164)) else ((goscan_number.f k a0 (wrap64 (a1 + 1)) 10).bind fun t165 => (some t165)))) = some r := by rw [if_pos rfl] at H; exact H
  clear H
  have H := H1
  clear H1
  replace H := bS H
  obtain ⟨t163, A7, H⟩ := H
  try dsimp only at H
  by_cases c8 : t163 = true
  ·subst c8
   have H1 : ((goscan_number.f k a0 (wrap64 ((wrap64 (a1 + 1)) + 1)) 10).bind fun t164 => (some t164)) = some r := by rw [if_pos rfl] at H; exact H
   clear H
   have H := H1
   clear H1
   replace H := bS H
   obtain ⟨t164, A9, H⟩ := H
   try dsimp only at H
   obtain rfl := Option.some.inj H
   go_enter Try.func97, Try.ntmps97
   go_wp2_with (first | (refine gR (some 13) Try.func95 (goscan_is.calls A5.out) (h := ?_); rintro _ ⟨nd, rfl⟩) | (refine gR (some 19) Try.func95 (goscan_is.calls A7.out) (h := ?_); rintro _ ⟨nd, rfl⟩) | (refine gR (some 24) Try.func96 (goscan_number.calls A9.out) (h := ?_); rintro _ ⟨nd, rfl⟩))
   go_ret
   exact ⟨Z1, Z4⟩
  ·replace c8 := Bool.eq_false_iff.mpr c8
   subst c8
   have H1 : ((goscan_number.f k a0 (wrap64 (a1 + 1)) 10).bind fun t165 => (some t165)) = some r := by rw [if_neg (show ¬ (false = true) by decide)] at H; exact H
   clear H
   have H := H1
   clear H1
   replace H := bS H
   obtain ⟨t165, A10, H⟩ := H
   try dsimp only at H
   obtain rfl := Option.some.inj H
   go_enter Try.func97, Try.ntmps97
   go_wp2_with (first | (refine gR (some 13) Try.func95 (goscan_is.calls A5.out) (h := ?_); rintro _ ⟨nd, rfl⟩) | (refine gR (some 19) Try.func95 (goscan_is.calls A7.out) (h := ?_); rintro _ ⟨nd, rfl⟩) | (refine gR (some 24) Try.func96 (goscan_number.calls A10.out) (h := ?_); rintro _ ⟨nd, rfl⟩))
   go_ret
   exact ⟨Z1, Z4⟩
 ·replace c6 := Bool.eq_false_iff.mpr c6
  subst c6
  have H1 : (some (-1)) = some r := by rw [if_neg (show ¬ (false = true) by decide)] at H; exact H
  clear H
  have H := H1
  clear H1
  obtain rfl := Option.some.inj H
  go_enter Try.func97, Try.ntmps97
  go_wp2_with (first | (refine gR (some 13) Try.func95 (goscan_is.calls A5.out) (h := ?_); rintro _ ⟨nd, rfl⟩))
  go_ret
  exact ⟨Z1, Z4⟩
mutual
def goscan_hexForm.j0 : Nat → ByteArray → Int → Bool → Option (Int)
 | 0, _, _, _ => none
 | k + 1, x0, x1, x16 => if x16 = true then (some (-1)) else ((goscan_more.f k x0 (wrap64 (x1 + 2)) 16).bind fun t168 => (if t168 > (wrap64 (x1 + 2)) then ((goscan_at.f x0 t168).bind fun t169 => (goscan_hexForm.j1 k x0 (wrap64 (x1 + 2)) t168 (t169 == 46))) else (goscan_hexForm.j1 k x0 (wrap64 (x1 + 2)) t168 false)))
def goscan_hexForm.j1 : Nat → ByteArray → Int → Int → Bool → Option (Int)
 | 0, _, _, _, _ => none
 | k + 1, x0, x1, x5, x22 => if x22 = true then ((goscan_number.f k x0 (wrap64 (x5 + 1)) 16).bind fun t170 => (if (mx (wrap64 (x5 + 1)) t170) < 0 then (some (-1)) else ((goscan_powerForm.f k x0 (mx (wrap64 (x5 + 1)) t170) 112 80).bind fun t171 => (some t171)))) else (if x5 = x1 then ((goscan_at.f x0 x1).bind fun t172 => (if t172 = 46 then ((goscan_number.f k x0 (wrap64 (x1 + 1)) 16).bind fun t173 => (if t173 < 0 then (some (-1)) else ((goscan_powerForm.f k x0 t173 112 80).bind fun t174 => (some t174)))) else (some (-1)))) else (if x5 < 0 then (some (-1)) else ((goscan_powerForm.f k x0 x5 112 80).bind fun t175 => (some t175))))
end
def goscan_hexForm.f (k : Nat) (a0 : ByteArray) (a1 : Int) : Option (Int) := (goscan_at.f a0 a1).bind fun t166 => (if t166 = 48 then ((goscan_is.f a0 (wrap64 (a1 + 1)) 120 88).bind fun t167 => (goscan_hexForm.j0 k a0 a1 (!t167))) else (goscan_hexForm.j0 k a0 a1 true))
theorem goscan_hexForm.mono_l : ∀ k, (∀ y0 y1 y2, LeO (goscan_hexForm.j0 k y0 y1 y2) (goscan_hexForm.j0 (k + 1) y0 y1 y2)) ∧ (∀ y0 y1 y2 y3, LeO (goscan_hexForm.j1 k y0 y1 y2 y3) (goscan_hexForm.j1 (k + 1) y0 y1 y2 y3))
 | 0 => ⟨fun _ _ _ r h => by simp [goscan_hexForm.j0] at h, fun _ _ _ _ r h => by simp [goscan_hexForm.j1] at h⟩
 | k + 1 => by
  obtain ⟨ih0, ih1⟩ := goscan_hexForm.mono_l k
  refine ⟨?_, ?_⟩
  ·intro y0 y1 y2
   unfold goscan_hexForm.j0
   have m0 := @goscan_more.mono
   have m1 := @goscan_number.mono
   have m2 := @goscan_powerForm.mono
   exact mO
  ·intro y0 y1 y2 y3
   unfold goscan_hexForm.j1
   have m0 := @goscan_more.mono
   have m1 := @goscan_number.mono
   have m2 := @goscan_powerForm.mono
   exact mO
theorem goscan_hexForm.mono : ∀ a0 a1 k, LeO (goscan_hexForm.f k a0 a1) (goscan_hexForm.f (k + 1) a0 a1) := by
 intro a0 a1 k
 obtain ⟨ih0, ih1⟩ := goscan_hexForm.mono_l k
 unfold goscan_hexForm.f
 have m0 := @goscan_more.mono
 have m1 := @goscan_number.mono
 have m2 := @goscan_powerForm.mono
 exact mO
set_option maxHeartbeats 8000000 in
set_option maxRecDepth 100000 in
theorem goscan_hexForm.calls {k : Nat} {a0 : ByteArray} {a1 : Int} {r : Int} {w : World} (h : goscan_hexForm.f k a0 a1 = some r) :
  Calls Try.prog 98 #[.string a0, .int .i64 a1] w fun e w' => e = .returned (.int .i64 r) ∧ Below w.heap.size w w' := by
 have HB := Aside0.mk (Below.refl w.heap.size w)
 have H : ((goscan_at.f a0 a1).bind fun t166 => (if t166 = 48 then ((goscan_is.f a0 (wrap64 (a1 + 1)) 120 88).bind fun t167 => (goscan_hexForm.j0 k a0 a1 (!t167))) else (goscan_hexForm.j0 k a0 a1 true))) = some r := h
 clear h
 have HC3 := Aside0.mk H
 clear H
 go_enter Try.func98, Try.ntmps98
 go_upto_region 1 with (fail)
 go_cut [16] (fun v16 wc => ∃ (kq : Nat) (x16_2 : Bool), v16 = .bool x16_2 ∧ Aside0 (goscan_hexForm.j0 kq a0 a1 x16_2 = some r) ∧ Aside0 (kq ≤ k) ∧ Aside0 (Below w.heap.size w wc))
 case first =>
  have H := HC3.out
  clear HC3
  replace H := bS H
  obtain ⟨t166, A4, H⟩ := H
  try dsimp only at H
  by_cases c5 : t166 = 48
  ·rw [if_pos c5] at H
   have c5b0 := e1 c5
   have c5b1 := e2 c5
   clear c5
   (first | rw [c5b0] | (simp only [i64_w, i32_w]; rw [c5b0]) | skip)
   replace H := bS H
   obtain ⟨t167, A6, H⟩ := H
   try dsimp only at H
   have H' := Aside0.mk H
   clear H
   go_wp2_with (first | (refine gR (some 8) Try.func90 (goscan_at.calls A4.out) (h := ?_); rintro _ ⟨nd, rfl⟩) | (go_at_call 95; (with_reducible refine (goscan_is.calls A6.out).mono ?_); rintro e w' ⟨rfl, ⟨nd, rfl⟩⟩))
   go_meet
   case rel => exact ⟨_, (!t167), Z1, H', ⟨Z26⟩, ⟨Z0⟩⟩
  ·rw [if_neg c5] at H
   have c5b0 := e3 c5
   have c5b1 := e4 c5
   (first | rw [c5b0] | (simp only [i64_w, i32_w]; rw [c5b0]) | skip)
   have H' := Aside0.mk H
   clear H
   go_wp2_with (first | (refine gR (some 8) Try.func90 (goscan_at.calls A4.out) (h := ?_); rintro _ ⟨nd, rfl⟩))
   go_meet
   case rel => exact ⟨_, (true), Z1, H', ⟨Z26⟩, ⟨Z0⟩⟩
 case rest =>
  clear HC3
  try clear p2
  try clear c5
  try clear c5b0
  try clear c5b1
  try clear p6
  obtain ⟨kq, x16_2, rfl, HA, HJ2, HB⟩ := hcut
  cases kq with
  | zero => exact absurd HA.out (by simp [goscan_hexForm.j0])
  | succ kj2 =>
   have H := HA.out
   clear HA
   simp only [goscan_hexForm.j0] at H
   by_cases c7 : x16_2 = true
   ·subst c7
    have H1 : (some (-1)) = some r := by rw [if_pos rfl] at H; exact H
    clear H
    have H := H1
    clear H1
    obtain rfl := Option.some.inj H
    go_wp2
    go_ret
    exact ⟨Z2, Z0⟩
   ·replace c7 := Bool.eq_false_iff.mpr c7
    subst c7
    have H1 : ((goscan_more.f kj2 a0 (wrap64 (a1 + 2)) 16).bind fun t168 => (if t168 > (wrap64 (a1 + 2)) then ((goscan_at.f a0 t168).bind fun t169 => (goscan_hexForm.j1 kj2 a0 (wrap64 (a1 + 2)) t168 (t169 == 46))) else (goscan_hexForm.j1 kj2 a0 (wrap64 (a1 + 2)) t168 false))) = some r := by rw [if_neg (show ¬ (false = true) by decide)] at H; exact H
    clear H
    have H := H1
    clear H1
    replace H := bS H
    obtain ⟨t168, A8, H⟩ := H
    try dsimp only at H
    have HC9 := Aside0.mk H
    clear H
    go_upto_region 5 with (first | (refine gR (some 21) Try.func94 (goscan_more.calls A8.out) (h := ?_); rintro _ ⟨nd, rfl⟩))
    (try simp only [Act.put, List.setIfInBounds_toArray, List.set_cons_zero, List.set_cons_succ])
    go_cut [22] (fun v22 wc => ∃ (kq : Nat) (x22_8 : Bool), v22 = .bool x22_8 ∧ Aside0 (goscan_hexForm.j1 kq a0 (wrap64 (a1 + 2)) t168 x22_8 = some r) ∧ Aside0 (kq ≤ kj2) ∧ Aside0 (Below w.heap.size w wc))
    case first =>
     have H := HC9.out
     clear HC9
     by_cases c10 : t168 > (wrap64 (a1 + 2))
     ·rw [if_pos c10] at H
      have c10b0 : decide ((wrap64 (a1 + 2)) < t168) = true := decide_eq_true c10
      clear c10
      (first | rw [c10b0] | (simp only [i64_w, i32_w]; rw [c10b0]) | skip)
      replace H := bS H
      obtain ⟨t169, A11, H⟩ := H
      try dsimp only at H
      have H' := Aside0.mk H
      clear H
      go_wp2_with (first | (go_at_call 90; (with_reducible refine (goscan_at.calls A11.out).mono ?_); rintro e w' ⟨rfl, ⟨nd, rfl⟩⟩))
      go_meet
      case rel => exact ⟨_, ((t169 == 46)), Z1, H', ⟨by have := HJ2.out; first | omega | exact Nat.le_refl _⟩, ⟨Z0⟩⟩
     ·rw [if_neg c10] at H
      have c10b0 : decide ((wrap64 (a1 + 2)) < t168) = false := decide_eq_false c10
      clear c10
      (first | rw [c10b0] | (simp only [i64_w, i32_w]; rw [c10b0]) | skip)
      have H' := Aside0.mk H
      clear H
      go_wp2
      go_meet
      case rel => exact ⟨_, (false), Z1, H', ⟨by have := HJ2.out; first | omega | exact Nat.le_refl _⟩, ⟨Z0⟩⟩
    case rest =>
     clear HC9
     try clear c1
     try clear p2
     try clear c5
     try clear c5b0
     try clear c5b1
     try clear p6
     try clear c7
     try clear c9
     try clear c10
     try clear c10b0
     try clear p2
     try clear p6
     obtain ⟨kq, x22_8, rfl, HA, HJ8, HB⟩ := hcut
     cases kq with
     | zero => exact absurd HA.out (by simp [goscan_hexForm.j1])
     | succ kj8 =>
      have H := HA.out
      clear HA
      simp only [goscan_hexForm.j1] at H
      by_cases c12 : x22_8 = true
      ·subst c12
       have H1 : ((goscan_number.f kj8 a0 (wrap64 (t168 + 1)) 16).bind fun t170 => (if (mx (wrap64 (t168 + 1)) t170) < 0 then (some (-1)) else ((goscan_powerForm.f kj8 a0 (mx (wrap64 (t168 + 1)) t170) 112 80).bind fun t171 => (some t171)))) = some r := by rw [if_pos rfl] at H; exact H
       clear H
       have H := H1
       clear H1
       replace H := bS H
       obtain ⟨t170, A13, H⟩ := H
       try dsimp only at H
       obtain ⟨ji14, hji14⟩ : ∃ j_ : Int, (mx (wrap64 (t168 + 1)) t170) = j_ := ⟨_, rfl⟩
       replace H : (if (ji14) < 0 then (some (-1)) else ((goscan_powerForm.f kj8 a0 (ji14) 112 80).bind fun t171 => (some t171))) = some r := by first | (rw [hji14] at H; exact H) | (simp only [hji14] at H ⊢; exact H)
       (try rw [hji14] at A13)
       have hji14_ : (if (wrap64 (t168 + 1)) < t170 then t170 else (wrap64 (t168 + 1))) = ji14 := hji14
       by_cases c15 : (ji14) < 0
       ·rw [if_pos c15] at H
        have c15b0 := decide_eq_true c15
        clear c15
        obtain rfl := Option.some.inj H
        go_wp2_with (first | (refine gR (some 37) Try.func96 (goscan_number.calls A13.out) (h := ?_); rintro _ ⟨nd, rfl⟩))
        go_ret
        exact ⟨Z64, Z0⟩
       ·rw [if_neg c15] at H
        have c15b0 := decide_eq_false c15
        clear c15
        replace H := bS H
        obtain ⟨t171, A16, H⟩ := H
        try dsimp only at H
        obtain rfl := Option.some.inj H
        go_wp2_with (first | (refine gR (some 37) Try.func96 (goscan_number.calls A13.out) (h := ?_); rintro _ ⟨nd, rfl⟩) | ((with_reducible refine gC 97 rfl ?_); refine goesL_ (some 55) rfl rfl Try.func97 Z5 rfl #[.string a0, .int .i64 ji14, .int .u8 112, .int .u8 80] rfl (by (try simp only [List.map_toArray, List.map_cons, List.map_nil]); first | done | (simp only [hji14]; rfl) | rfl | (simp only [List.length_drop, List.length_take]; rfl)) ?_; (with_reducible refine (goscan_powerForm.calls A16.out).mono ?_); rintro e w' ⟨rfl, ⟨nd, rfl⟩⟩; refine ⟨_, rfl, ?_⟩))
        go_ret
        exact ⟨Z64, Z0⟩
      ·replace c12 := Bool.eq_false_iff.mpr c12
       subst c12
       have H1 : (if t168 = (wrap64 (a1 + 2)) then ((goscan_at.f a0 (wrap64 (a1 + 2))).bind fun t172 => (if t172 = 46 then ((goscan_number.f kj8 a0 (wrap64 ((wrap64 (a1 + 2)) + 1)) 16).bind fun t173 => (if t173 < 0 then (some (-1)) else ((goscan_powerForm.f kj8 a0 t173 112 80).bind fun t174 => (some t174)))) else (some (-1)))) else (if t168 < 0 then (some (-1)) else ((goscan_powerForm.f kj8 a0 t168 112 80).bind fun t175 => (some t175)))) = some r := by rw [if_neg (show ¬ (false = true) by decide)] at H; exact H
       clear H
       have H := H1
       clear H1
       by_cases c17 : t168 = (wrap64 (a1 + 2))
       ·rw [if_pos c17] at H
        have c17b0 := e1 c17
        have c17b1 := e2 c17
        clear c17
        replace H := bS H
        obtain ⟨t172, A18, H⟩ := H
        try dsimp only at H
        by_cases c19 : t172 = 46
        ·rw [if_pos c19] at H
         have c19b0 := e1 c19
         have c19b1 := e2 c19
         clear c19
         replace H := bS H
         obtain ⟨t173, A20, H⟩ := H
         try dsimp only at H
         by_cases c21 : t173 < 0
         ·rw [if_pos c21] at H
          have c21b0 := decide_eq_true c21
          clear c21
          obtain rfl := Option.some.inj H
          go_wp2_with (first | (refine gR (some 45) Try.func90 (goscan_at.calls A18.out) (h := ?_); rintro _ ⟨nd, rfl⟩) | (refine gR (some 50) Try.func96 (goscan_number.calls A20.out) (h := ?_); rintro _ ⟨nd, rfl⟩))
          go_ret
          exact ⟨Z2, Z0⟩
         ·rw [if_neg c21] at H
          have c21b0 := decide_eq_false c21
          clear c21
          replace H := bS H
          obtain ⟨t174, A22, H⟩ := H
          try dsimp only at H
          obtain rfl := Option.some.inj H
          go_wp2_with (first | (refine gR (some 45) Try.func90 (goscan_at.calls A18.out) (h := ?_); rintro _ ⟨nd, rfl⟩) | (refine gR (some 50) Try.func96 (goscan_number.calls A20.out) (h := ?_); rintro _ ⟨nd, rfl⟩) | (refine gR (some 55) Try.func97 (goscan_powerForm.calls A22.out) (h := ?_); rintro _ ⟨nd, rfl⟩))
          go_ret
          exact ⟨Z2, Z0⟩
        ·rw [if_neg c19] at H
         have c19b0 := e3 c19
         have c19b1 := e4 c19
         obtain rfl := Option.some.inj H
         go_wp2_with (first | (refine gR (some 45) Try.func90 (goscan_at.calls A18.out) (h := ?_); rintro _ ⟨nd, rfl⟩))
         go_ret
         exact ⟨Z2, Z0⟩
       ·rw [if_neg c17] at H
        have c17b0 := e3 c17
        have c17b1 := e4 c17
        by_cases c23 : t168 < 0
        ·rw [if_pos c23] at H
         have c23b0 := decide_eq_true c23
         clear c23
         obtain rfl := Option.some.inj H
         go_wp2
         go_ret
         exact ⟨Z2, Z0⟩
        ·rw [if_neg c23] at H
         have c23b0 := decide_eq_false c23
         clear c23
         replace H := bS H
         obtain ⟨t175, A24, H⟩ := H
         try dsimp only at H
         obtain rfl := Option.some.inj H
         go_wp2_with (first | (refine gR (some 55) Try.func97 (goscan_powerForm.calls A24.out) (h := ?_); rintro _ ⟨nd, rfl⟩))
         go_ret
         exact ⟨Z2, Z0⟩
end Go.Proofs.Ytcajiapjdlphmaa.H
