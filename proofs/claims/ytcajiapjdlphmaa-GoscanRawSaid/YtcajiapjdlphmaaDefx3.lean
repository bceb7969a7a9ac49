import Derived.Test.YtcajiapjdlphmaaDPre
import Derived.Test.YtcajiapjdlphmaaDefx0
import Derived.Test.YtcajiapjdlphmaaDefx2
namespace Go.Proofs.Ytcajiapjdlphmaa.H
open Go.RowKit Go.Proofs.YtcajiapjdlphmaaW.PrintWords Go.Proofs.YtcajiapjdlphmaaW.PrintLast Go.Proofs.YtcajiapjdlphmaaW.PrintMore
attribute [local go_sem] max2_int min2_int max_two min_two max_three min_three max_four min_four
set_option linter.unusedVariables false
set_option linter.unusedSimpArgs false
def quoinref26_char.f (k : Nat) (a0 : ByteArray) (a1 : Int) : Option (Int) := (quoinref26_at.f a0 a1).bind fun t342 => (if t342 = 39 then ((quoinref26_one.f k a0 (wrap64 (a1 + 1)) 39).bind fun t343 => (if t343 < 0 then (some (-1)) else ((quoinref26_at.f a0 t343).bind fun t344 => (if t344 = 39 then (some (wrap64 (t343 + 1))) else (some (-1)))))) else (some (-1)))
theorem quoinref26_char.mono : ∀ a0 a1 k, LeO (quoinref26_char.f k a0 a1) (quoinref26_char.f (k + 1) a0 a1) := by
 intro a0 a1 k
 unfold quoinref26_char.f
 have m0 := @quoinref26_one.mono
 exact mO
set_option maxHeartbeats 8000000 in
set_option maxRecDepth 100000 in
theorem quoinref26_char.calls (k : Nat) (a0 : ByteArray) (a1 : Int) (r : Int) (w : World) (h : quoinref26_char.f k a0 a1 = some r) :
  Calls Try.prog 58 #[.string a0, .int .i64 a1] w fun e w' => e = .returned (.int .i64 r) ∧ Below w.heap.size w w' := by
 have HB := Aside0.mk (Below.refl w.heap.size w)
 have H : ((quoinref26_at.f a0 a1).bind fun t342 => (if t342 = 39 then ((quoinref26_one.f k a0 (wrap64 (a1 + 1)) 39).bind fun t343 => (if t343 < 0 then (some (-1)) else ((quoinref26_at.f a0 t343).bind fun t344 => (if t344 = 39 then (some (wrap64 (t343 + 1))) else (some (-1)))))) else (some (-1)))) = some r := h
 clear h
 replace H := bS H
 obtain ⟨t342, A3, H⟩ := H
 try dsimp only at H
 by_cases c4 : t342 = 39
 ·rw [if_pos c4] at H
  have c4b0 := e1 c4
  have c4b1 := e2 c4
  clear c4
  replace H := bS H
  obtain ⟨t343, A5, H⟩ := H
  try dsimp only at H
  by_cases c6 : t343 < 0
  ·rw [if_pos c6] at H
   have c6b0 := decide_eq_true c6
   clear c6
   obtain rfl := Option.some.inj H
   go_enter Try.func58, Try.ntmps58
   go_wp2_with (first | (refine gR (some 8) Try.func50 (quoinref26_at.calls a0 a1 t342 _ A3.out) (h := ?_); rintro _ ⟨nd, rfl⟩) | (refine gR (some 13) Try.func85 (quoinref26_one.calls k a0 (wrap64 (a1 + 1)) 39 t343 _ A5.out) (h := ?_); rintro w7 hb; replace HB := Aside0.mk (below_step zB hb); (try clear hb); (try clear hb2); (try clear hk); (try clear hi)))
   go_ret
   exact ⟨Z2, Z0⟩
  ·rw [if_neg c6] at H
   have c6b0 := decide_eq_false c6
   clear c6
   replace H := bS H
   obtain ⟨t344, A8, H⟩ := H
   try dsimp only at H
   by_cases c9 : t344 = 39
   ·rw [if_pos c9] at H
    have c9b0 := e1 c9
    have c9b1 := e2 c9
    clear c9
    obtain rfl := Option.some.inj H
    go_enter Try.func58, Try.ntmps58
    go_wp2_with (first | (refine gR (some 8) Try.func50 (quoinref26_at.calls a0 a1 t342 _ A3.out) (h := ?_); rintro _ ⟨nd, rfl⟩) | (refine gR (some 13) Try.func85 (quoinref26_one.calls k a0 (wrap64 (a1 + 1)) 39 t343 _ A5.out) (h := ?_); rintro w10 hb; replace HB := Aside0.mk (below_step zB hb); (try clear hb); (try clear hb2); (try clear hk); (try clear hi)) | (go_at_call 50; (with_reducible refine (quoinref26_at.calls a0 t343 t344 _ A8.out).mono ?_); rintro e w' ⟨rfl, ⟨nd, rfl⟩⟩))
    go_ret
    exact ⟨Z2, Z0⟩
   ·rw [if_neg c9] at H
    have c9b0 := e3 c9
    have c9b1 := e4 c9
    obtain rfl := Option.some.inj H
    go_enter Try.func58, Try.ntmps58
    go_wp2_with (first | (refine gR (some 8) Try.func50 (quoinref26_at.calls a0 a1 t342 _ A3.out) (h := ?_); rintro _ ⟨nd, rfl⟩) | (refine gR (some 13) Try.func85 (quoinref26_one.calls k a0 (wrap64 (a1 + 1)) 39 t343 _ A5.out) (h := ?_); rintro w11 hb; replace HB := Aside0.mk (below_step zB hb); (try clear hb); (try clear hb2); (try clear hk); (try clear hi)) | (go_at_call 50; (with_reducible refine (quoinref26_at.calls a0 t343 t344 _ A8.out).mono ?_); rintro e w' ⟨rfl, ⟨nd, rfl⟩⟩))
    go_ret
    exact ⟨Z2, Z0⟩
 ·rw [if_neg c4] at H
  have c4b0 := e3 c4
  have c4b1 := e4 c4
  obtain rfl := Option.some.inj H
  go_enter Try.func58, Try.ntmps58
  go_wp2_with (first | (refine gR (some 8) Try.func50 (quoinref26_at.calls a0 a1 t342 _ A3.out) (h := ?_); rintro _ ⟨nd, rfl⟩))
  go_ret
  exact ⟨Z2, Z0⟩
mutual
def quoinref26_quoted.l0 : Nat → ByteArray → Int → Option (Int)
 | 0, _, _ => none
 | k + 1, x0, x1 => (quoinref26_at.f x0 x1).bind fun t346 => (if t346 = 34 then (some (wrap64 (x1 + 1))) else ((quoinref26_one.f k x0 x1 34).bind fun t347 => (if t347 < 0 then (some (-1)) else (quoinref26_quoted.l0 k x0 t347))))
def quoinref26_quoted.l1 : Nat → ByteArray → Int → Option (Int)
 | 0, _, _ => none
 | k + 1, x0, x1 => (quoinref26_at.f x0 x1).bind fun t348 => (if t348 = 96 then (some (wrap64 (x1 + 1))) else ((quoinref26_piece.f k x0 x1).bind fun bt349 => (if bt349.2 = 0 then (some (-1)) else (quoinref26_quoted.l1 k x0 (wrap64 (x1 + bt349.2))))))
end
def quoinref26_quoted.f (k : Nat) (a0 : ByteArray) (a1 : Int) : Option (Int) := (quoinref26_at.f a0 a1).bind fun t345 => (if t345 = 34 then (quoinref26_quoted.l0 k a0 (wrap64 (a1 + 1))) else (if t345 = 96 then (quoinref26_quoted.l1 k a0 (wrap64 (a1 + 1))) else (some (-1))))
theorem quoinref26_quoted.mono_l : ∀ k, (∀ y0 y1, LeO (quoinref26_quoted.l0 k y0 y1) (quoinref26_quoted.l0 (k + 1) y0 y1)) ∧ (∀ y0 y1, LeO (quoinref26_quoted.l1 k y0 y1) (quoinref26_quoted.l1 (k + 1) y0 y1))
 | 0 => ⟨fun _ _ r h => by simp [quoinref26_quoted.l0] at h, fun _ _ r h => by simp [quoinref26_quoted.l1] at h⟩
 | k + 1 => by
  obtain ⟨ih0, ih1⟩ := quoinref26_quoted.mono_l k
  refine ⟨?_, ?_⟩
  ·intro y0 y1
   unfold quoinref26_quoted.l0
   have m0 := @quoinref26_one.mono
   have m1 := @quoinref26_piece.mono
   exact mO
  ·intro y0 y1
   unfold quoinref26_quoted.l1
   have m0 := @quoinref26_one.mono
   have m1 := @quoinref26_piece.mono
   exact mO
theorem quoinref26_quoted.mono : ∀ a0 a1 k, LeO (quoinref26_quoted.f k a0 a1) (quoinref26_quoted.f (k + 1) a0 a1) := by
 intro a0 a1 k
 obtain ⟨ih0, ih1⟩ := quoinref26_quoted.mono_l k
 unfold quoinref26_quoted.f
 have m0 := @quoinref26_one.mono
 have m1 := @quoinref26_piece.mono
 exact mO
set_option maxHeartbeats 8000000 in
set_option maxRecDepth 100000 in
theorem quoinref26_quoted.calls (k : Nat) (a0 : ByteArray) (a1 : Int) (r : Int) (w : World) (h : quoinref26_quoted.f k a0 a1 = some r) :
  Calls Try.prog 59 #[.string a0, .int .i64 a1] w fun e w' => e = .returned (.int .i64 r) ∧ Below w.heap.size w w' := by
 have HB := Aside0.mk (Below.refl w.heap.size w)
 have H : ((quoinref26_at.f a0 a1).bind fun t345 => (if t345 = 34 then (quoinref26_quoted.l0 k a0 (wrap64 (a1 + 1))) else (if t345 = 96 then (quoinref26_quoted.l1 k a0 (wrap64 (a1 + 1))) else (some (-1))))) = some r := h
 clear h
 replace H := bS H
 obtain ⟨t345, A3, H⟩ := H
 try dsimp only at H
 by_cases c4 : t345 = 34
 ·rw [if_pos c4] at H
  have c4b0 := e1 c4
  have c4b1 := e2 c4
  clear c4
  have H' := Aside0.mk H
  clear H
  go_enter Try.func59, Try.ntmps59
  go_wp2_with (first | (refine gR (some 9) Try.func50 (quoinref26_at.calls a0 a1 t345 _ A3.out) (h := ?_); rintro _ ⟨nd, rfl⟩))
  go_loopg [1] k (fun kq v1 w' => ∃ (x1_1 : Int), v1 = .int .i64 x1_1 ∧ Aside0 (quoinref26_quoted.l0 kq a0 x1_1 = some r) ∧ Aside0 (kq ≤ k) ∧ Aside0 (Below w.heap.size w w'))
  case atStart => exact ⟨(wrap64 (a1 + 1)), Z1, H', ⟨Nat.le_refl _⟩, ⟨Z0⟩⟩
  case round =>
   clear H'
   try clear p2
   try clear c4
   try clear c4b0
   try clear c4b1
   obtain ⟨x1_1, rfl, HA, HK1, HB⟩ := hrel
   cases gk with
   | zero => exact absurd HA.out (by simp [quoinref26_quoted.l0])
   | succ k1 =>
    have H := HA.out
    clear HA
    simp only [quoinref26_quoted.l0] at H
    replace H := bS H
    obtain ⟨t346, A5, H⟩ := H
    try dsimp only at H
    by_cases c6 : t346 = 34
    ·rw [if_pos c6] at H
     have c6b0 := e1 c6
     have c6b1 := e2 c6
     clear c6
     obtain rfl := Option.some.inj H
     go_wp2_with (first | (refine gR (some 16) Try.func50 (quoinref26_at.calls a0 x1_1 t346 _ A5.out) (h := ?_); rintro _ ⟨nd, rfl⟩))
     go_ret
     exact ⟨Z2, Z0⟩
    ·rw [if_neg c6] at H
     have c6b0 := e3 c6
     have c6b1 := e4 c6
     replace H := bS H
     obtain ⟨t347, A7, H⟩ := H
     try dsimp only at H
     by_cases c8 : t347 < 0
     ·rw [if_pos c8] at H
      have c8b0 := decide_eq_true c8
      clear c8
      obtain rfl := Option.some.inj H
      go_wp2_with (first | (refine gR (some 16) Try.func50 (quoinref26_at.calls a0 x1_1 t346 _ A5.out) (h := ?_); rintro _ ⟨nd, rfl⟩) | (refine gR (some 20) Try.func85 (quoinref26_one.calls k1 a0 x1_1 34 t347 _ A7.out) (h := ?_); rintro w9 hb; replace HB := Aside0.mk (below_step zB hb); (try clear hb); (try clear hb2); (try clear hk); (try clear hi)))
      go_ret
      exact ⟨Z2, Z0⟩
     ·rw [if_neg c8] at H
      have c8b0 := decide_eq_false c8
      clear c8
      have H' := Aside0.mk H
      clear H
      go_wp2_with (first | (refine gR (some 16) Try.func50 (quoinref26_at.calls a0 x1_1 t346 _ A5.out) (h := ?_); rintro _ ⟨nd, rfl⟩) | (refine gR (some 20) Try.func85 (quoinref26_one.calls k1 a0 x1_1 34 t347 _ A7.out) (h := ?_); rintro w10 hb; replace HB := Aside0.mk (below_step zB hb); (try clear hb); (try clear hb2); (try clear hk); (try clear hi)))
      go_roundg k1
      case measure => have := HK1.out; omega
      case rel => exact ⟨(t347), Z1, H', ⟨Z36⟩, ⟨Z0⟩⟩
 ·rw [if_neg c4] at H
  have c4b0 := e3 c4
  have c4b1 := e4 c4
  by_cases c11 : t345 = 96
  ·rw [if_pos c11] at H
   have c11b0 := e1 c11
   have c11b1 := e2 c11
   clear c11
   have H' := Aside0.mk H
   clear H
   go_enter Try.func59, Try.ntmps59
   go_wp2_with (first | (refine gR (some 9) Try.func50 (quoinref26_at.calls a0 a1 t345 _ A3.out) (h := ?_); rintro _ ⟨nd, rfl⟩))
   go_loopg [1] k (fun kq v1 w' => ∃ (x1_1 : Int), v1 = .int .i64 x1_1 ∧ Aside0 (quoinref26_quoted.l1 kq a0 x1_1 = some r) ∧ Aside0 (kq ≤ k) ∧ Aside0 (Below w.heap.size w w'))
   case atStart => exact ⟨(wrap64 (a1 + 1)), Z1, H', ⟨Nat.le_refl _⟩, ⟨Z0⟩⟩
   case round =>
    clear H'
    try clear c1
    try clear p2
    try clear c4
    try clear c4b0
    try clear c4b1
    try clear c5
    try clear c6
    try clear c6b0
    try clear c6b1
    try clear p6
    try clear c8
    try clear c8b0
    try clear c11
    try clear c11b0
    try clear c11b1
    try clear p2
    obtain ⟨x1_1, rfl, HA, HK1, HB⟩ := hrel
    cases gk with
    | zero => exact absurd HA.out (by simp [quoinref26_quoted.l1])
    | succ k1 =>
     have H := HA.out
     clear HA
     simp only [quoinref26_quoted.l1] at H
     replace H := bS H
     obtain ⟨t348, A12, H⟩ := H
     try dsimp only at H
     by_cases c13 : t348 = 96
     ·rw [if_pos c13] at H
      have c13b0 := e1 c13
      have c13b1 := e2 c13
      clear c13
      obtain rfl := Option.some.inj H
      go_wp2_with (first | (refine gR (some 31) Try.func50 (quoinref26_at.calls a0 x1_1 t348 _ A12.out) (h := ?_); rintro _ ⟨nd, rfl⟩))
      go_ret
      exact ⟨Z2, Z0⟩
     ·rw [if_neg c13] at H
      have c13b0 := e3 c13
      have c13b1 := e4 c13
      replace H := bS H
      obtain ⟨⟨t349, t350⟩, A14, H⟩ := H
      try dsimp only at H
      by_cases c15 : t350 = 0
      ·rw [if_pos c15] at H
       have c15b0 := e1 c15
       have c15b1 := e2 c15
       clear c15
       obtain rfl := Option.some.inj H
       go_wp2_with (first | (refine gR (some 31) Try.func50 (quoinref26_at.calls a0 x1_1 t348 _ A12.out) (h := ?_); rintro _ ⟨nd, rfl⟩) | (refine gR (some 36) Try.func77 (quoinref26_piece.calls k1 a0 x1_1 t349 t350 _ A14.out) (h := ?_); rintro w16 hb; replace HB := Aside0.mk (below_step zB hb); (try clear hb); (try clear hb2); (try clear hk); (try clear hi)))
       go_ret
       exact ⟨Z2, Z0⟩
      ·rw [if_neg c15] at H
       have c15b0 := e3 c15
       have c15b1 := e4 c15
       have H' := Aside0.mk H
       clear H
       go_wp2_with (first | (refine gR (some 31) Try.func50 (quoinref26_at.calls a0 x1_1 t348 _ A12.out) (h := ?_); rintro _ ⟨nd, rfl⟩) | (refine gR (some 36) Try.func77 (quoinref26_piece.calls k1 a0 x1_1 t349 t350 _ A14.out) (h := ?_); rintro w17 hb; replace HB := Aside0.mk (below_step zB hb); (try clear hb); (try clear hb2); (try clear hk); (try clear hi)))
       go_roundg k1
       case measure => have := HK1.out; omega
       case rel => exact ⟨(wrap64 (x1_1 + t350)), Z1, H', ⟨Z36⟩, ⟨Z0⟩⟩
  ·rw [if_neg c11] at H
   have c11b0 := e3 c11
   have c11b1 := e4 c11
   obtain rfl := Option.some.inj H
   go_enter Try.func59, Try.ntmps59
   go_wp2_with (first | (refine gR (some 9) Try.func50 (quoinref26_at.calls a0 a1 t345 _ A3.out) (h := ?_); rintro _ ⟨nd, rfl⟩))
   go_ret
   exact ⟨Z2, Z0⟩
end Go.Proofs.Ytcajiapjdlphmaa.H
