import Derived.Test.YtcajiapjdlphmaaEPre
import Derived.Test.YtcajiapjdlphmaaEefx0
namespace Go.Proofs.Ytcajiapjdlphmaa.H
open Go.RowKit Go.Proofs.YtcajiapjdlphmaaW.PrintWords Go.Proofs.YtcajiapjdlphmaaW.PrintLast Go.Proofs.YtcajiapjdlphmaaW.PrintMore
attribute [local go_sem] max2_int min2_int max_two min_two max_three min_three max_four min_four
set_option linter.unusedVariables false
set_option linter.unusedSimpArgs false
mutual
def quoinref26_remark.j0 : Nat → ByteArray → Int → Bool → Option (Int)
 | 0, _, _, _ => none
 | k + 1, x0, x1, x17 => if x17 = true then (some (-1)) else (quoinref26_remark.l0 k x0 (wrap64 (x1 + 2)))
def quoinref26_remark.l0 : Nat → ByteArray → Int → Option (Int)
 | 0, _, _ => none
 | k + 1, x0, x1 => (quoinref26_piece.f k x0 x1).bind fun bt260 => (if bt260.2 = 0 then (some x1) else (if bt260.1 = 10 then (some x1) else (quoinref26_remark.l0 k x0 (wrap64 (x1 + bt260.2)))))
end
def quoinref26_remark.f (k : Nat) (a0 : ByteArray) (a1 : Int) : Option (Int) := (quoinref26_at.f a0 a1).bind fun t258 => (if t258 = 47 then ((quoinref26_at.f a0 (wrap64 (a1 + 1))).bind fun t259 => (quoinref26_remark.j0 k a0 a1 (t259 != 47))) else (quoinref26_remark.j0 k a0 a1 true))
set_option maxHeartbeats 8000000 in
set_option maxRecDepth 100000 in
theorem quoinref26_remark.calls {k : Nat} {a0 : ByteArray} {a1 : Int} {r : Int} {w : World} (h : quoinref26_remark.f k a0 a1 = some r) :
  Calls Try.prog 52 #[.string a0, .int .i64 a1] w fun e w' => e = .returned (.int .i64 r) ∧ Below w.heap.size w w' := by
 have HB := Aside0.mk (Below.refl w.heap.size w)
 have H : ((quoinref26_at.f a0 a1).bind fun t258 => (if t258 = 47 then ((quoinref26_at.f a0 (wrap64 (a1 + 1))).bind fun t259 => (quoinref26_remark.j0 k a0 a1 (t259 != 47))) else (quoinref26_remark.j0 k a0 a1 true))) = some r := h
 clear h
 have HC3 := Aside0.mk H
 clear H
 go_enter Try.func52, Try.ntmps52
 go_upto_region 1 with (fail)
 go_cut [17] (fun v17 wc => ∃ (kq : Nat) (x17_2 : Bool), v17 = .bool x17_2 ∧ Aside0 (quoinref26_remark.j0 kq a0 a1 x17_2 = some r) ∧ Aside0 (kq ≤ k) ∧ Aside0 (Below w.heap.size w wc))
 case first =>
  have H := HC3.out
  clear HC3
  replace H := bS H
  obtain ⟨t258, A4, H⟩ := H
  try dsimp only at H
  by_cases c5 : t258 = 47
  ·rw [if_pos c5] at H
   have c5b0 := e1 c5
   have c5b1 := e2 c5
   clear c5
   (first | rw [c5b0] | (simp only [i64_w, i32_w]; rw [c5b0]) | skip)
   replace H := bS H
   obtain ⟨t259, A6, H⟩ := H
   try dsimp only at H
   have H' := Aside0.mk H
   clear H
   go_wp2_with (first | (refine gR (some 9) Try.func50 (quoinref26_at.calls A4.out) (h := ?_); rintro _ ⟨nd, rfl⟩) | (go_at_call 50; (with_reducible refine (quoinref26_at.calls A6.out).mono ?_); rintro e w' ⟨rfl, ⟨nd, rfl⟩⟩))
   go_meet
   case rel => exact ⟨_, ((t259 != 47)), Z1, H', ⟨Z26⟩, ⟨Z0⟩⟩
  ·rw [if_neg c5] at H
   have c5b0 := e3 c5
   have c5b1 := e4 c5
   (first | rw [c5b0] | (simp only [i64_w, i32_w]; rw [c5b0]) | skip)
   have H' := Aside0.mk H
   clear H
   go_wp2_with (first | (refine gR (some 9) Try.func50 (quoinref26_at.calls A4.out) (h := ?_); rintro _ ⟨nd, rfl⟩))
   go_meet
   case rel => exact ⟨_, (true), Z1, H', ⟨Z26⟩, ⟨Z0⟩⟩
 case rest =>
  clear HC3
  try clear p2
  try clear c5
  try clear c5b0
  try clear c5b1
  try clear p6
  obtain ⟨kq, x17_2, rfl, HA, HJ2, HB⟩ := hcut
  cases kq with
  | zero => exact absurd HA.out (by simp [quoinref26_remark.j0])
  | succ kj2 =>
   have H := HA.out
   clear HA
   simp only [quoinref26_remark.j0] at H
   by_cases c7 : x17_2 = true
   ·subst c7
    have H1 : (some (-1)) = some r := by rw [if_pos rfl] at H; exact H
    clear H
    have H := H1
    clear H1
    obtain rfl := Option.some.inj H
    go_wp2
    go_ret
    exact ⟨Z2, Z0⟩
   ·replace c7 := Bool.eq_false_iff.mpr c7
    subst c7
    have H1 : (quoinref26_remark.l0 kj2 a0 (wrap64 (a1 + 2))) = some r := by rw [if_neg (show ¬ (false = true) by decide)] at H; exact H
    clear H
    have H := H1
    clear H1
    have H' := Aside0.mk H
    clear H
    go_wp2
    go_loopg [1] kj2 (fun kq v1 w' => ∃ (x1_2 : Int), v1 = .int .i64 x1_2 ∧ Aside0 (quoinref26_remark.l0 kq a0 x1_2 = some r) ∧ Aside0 (kq ≤ kj2) ∧ Aside0 (Below w.heap.size w w'))
    case atStart => exact ⟨(wrap64 (a1 + 2)), Z1, H', ⟨Nat.le_refl _⟩, ⟨Z0⟩⟩
    case round =>
     clear H'
     try clear p2
     try clear c5
     try clear c5b0
     try clear c5b1
     try clear p6
     try clear c7
     try clear p2
     try clear p6
     obtain ⟨x1_2, rfl, HA, HK2, HB⟩ := hrel
     cases gk with
     | zero => exact absurd HA.out (by simp [quoinref26_remark.l0])
     | succ k2 =>
      have H := HA.out
      clear HA
      simp only [quoinref26_remark.l0] at H
      replace H := bS H
      obtain ⟨⟨t260, t261⟩, A8, H⟩ := H
      try dsimp only at H
      by_cases c9 : t261 = 0
      ·rw [if_pos c9] at H
       have c9b0 := e1 c9
       have c9b1 := e2 c9
       clear c9
       obtain rfl := Option.some.inj H
       go_wp2_with (first | (refine gR (some 23) Try.func77 (quoinref26_piece.calls A8.out) (h := ?_); rintro w10 hb; replace HB := Aside0.mk (below_step zB hb); (try clear hb); (try clear hb2); (try clear hk); (try clear hi)))
       go_ret
       exact ⟨Z2, Z0⟩
      ·rw [if_neg c9] at H
       have c9b0 := e3 c9
       have c9b1 := e4 c9
       by_cases c11 : t260 = 10
       ·rw [if_pos c11] at H
        have c11b0 := e1 c11
        have c11b1 := e2 c11
        clear c11
        obtain rfl := Option.some.inj H
        go_wp2_with (first | (refine gR (some 23) Try.func77 (quoinref26_piece.calls A8.out) (h := ?_); rintro w12 hb; replace HB := Aside0.mk (below_step zB hb); (try clear hb); (try clear hb2); (try clear hk); (try clear hi)))
        go_ret
        exact ⟨Z2, Z0⟩
       ·rw [if_neg c11] at H
        have c11b0 := e3 c11
        have c11b1 := e4 c11
        have H' := Aside0.mk H
        clear H
        go_wp2_with (first | (refine gR (some 23) Try.func77 (quoinref26_piece.calls A8.out) (h := ?_); rintro w13 hb; replace HB := Aside0.mk (below_step zB hb); (try clear hb); (try clear hb2); (try clear hk); (try clear hi)))
        go_roundg k2
        case measure => have := HJ2.out; have := HK2.out; omega
        case rel => exact ⟨(wrap64 (x1_2 + t261)), Z1, H', ⟨by have := HJ2.out; have := HK2.out; omega⟩, ⟨Z0⟩⟩
mutual
def quoinref26_comment.j0 : Nat → ByteArray → Int → Bool → Option (Int)
 | 0, _, _, _ => none
 | k + 1, x0, x1, x17 => if x17 = true then (some (-1)) else (quoinref26_comment.l0 k x0 (wrap64 (x1 + 2)))
def quoinref26_comment.l0 : Nat → ByteArray → Int → Option (Int)
 | 0, _, _ => none
 | k + 1, x0, x1 => (quoinref26_at.f x0 x1).bind fun t264 => (if t264 = 42 then ((quoinref26_at.f x0 (wrap64 (x1 + 1))).bind fun t265 => (quoinref26_comment.j2 k x0 x1 (t265 != 47))) else (quoinref26_comment.j2 k x0 x1 true))
def quoinref26_comment.j2 : Nat → ByteArray → Int → Bool → Option (Int)
 | 0, _, _, _ => none
 | k + 1, x0, x1, x30 => if x30 = true then ((quoinref26_piece.f k x0 x1).bind fun bt266 => (if bt266.2 = 0 then (some (-1)) else (quoinref26_comment.l0 k x0 (wrap64 (x1 + bt266.2))))) else (some (wrap64 (x1 + 2)))
end
def quoinref26_comment.f (k : Nat) (a0 : ByteArray) (a1 : Int) : Option (Int) := (quoinref26_at.f a0 a1).bind fun t262 => (if t262 = 47 then ((quoinref26_at.f a0 (wrap64 (a1 + 1))).bind fun t263 => (quoinref26_comment.j0 k a0 a1 (t263 != 42))) else (quoinref26_comment.j0 k a0 a1 true))
set_option maxHeartbeats 8000000 in
set_option maxRecDepth 100000 in
theorem quoinref26_comment.calls {k : Nat} {a0 : ByteArray} {a1 : Int} {r : Int} {w : World} (h : quoinref26_comment.f k a0 a1 = some r) :
  Calls Try.prog 53 #[.string a0, .int .i64 a1] w fun e w' => e = .returned (.int .i64 r) ∧ Below w.heap.size w w' := by
 have HB := Aside0.mk (Below.refl w.heap.size w)
 have H : ((quoinref26_at.f a0 a1).bind fun t262 => (if t262 = 47 then ((quoinref26_at.f a0 (wrap64 (a1 + 1))).bind fun t263 => (quoinref26_comment.j0 k a0 a1 (t263 != 42))) else (quoinref26_comment.j0 k a0 a1 true))) = some r := h
 clear h
 have HC3 := Aside0.mk H
 clear H
 go_enter Try.func53, Try.ntmps53
 go_upto_region 1 with (fail)
 go_cut [17] (fun v17 wc => ∃ (kq : Nat) (x17_2 : Bool), v17 = .bool x17_2 ∧ Aside0 (quoinref26_comment.j0 kq a0 a1 x17_2 = some r) ∧ Aside0 (kq ≤ k) ∧ Aside0 (Below w.heap.size w wc))
 case first =>
  have H := HC3.out
  clear HC3
  replace H := bS H
  obtain ⟨t262, A4, H⟩ := H
  try dsimp only at H
  by_cases c5 : t262 = 47
  ·rw [if_pos c5] at H
   have c5b0 := e1 c5
   have c5b1 := e2 c5
   clear c5
   (first | rw [c5b0] | (simp only [i64_w, i32_w]; rw [c5b0]) | skip)
   replace H := bS H
   obtain ⟨t263, A6, H⟩ := H
   try dsimp only at H
   have H' := Aside0.mk H
   clear H
   go_wp2_with (first | (refine gR (some 9) Try.func50 (quoinref26_at.calls A4.out) (h := ?_); rintro _ ⟨nd, rfl⟩) | (go_at_call 50; (with_reducible refine (quoinref26_at.calls A6.out).mono ?_); rintro e w' ⟨rfl, ⟨nd, rfl⟩⟩))
   go_meet
   case rel => exact ⟨_, ((t263 != 42)), Z1, H', ⟨Z26⟩, ⟨Z0⟩⟩
  ·rw [if_neg c5] at H
   have c5b0 := e3 c5
   have c5b1 := e4 c5
   (first | rw [c5b0] | (simp only [i64_w, i32_w]; rw [c5b0]) | skip)
   have H' := Aside0.mk H
   clear H
   go_wp2_with (first | (refine gR (some 9) Try.func50 (quoinref26_at.calls A4.out) (h := ?_); rintro _ ⟨nd, rfl⟩))
   go_meet
   case rel => exact ⟨_, (true), Z1, H', ⟨Z26⟩, ⟨Z0⟩⟩
 case rest =>
  clear HC3
  try clear p2
  try clear c5
  try clear c5b0
  try clear c5b1
  try clear p6
  obtain ⟨kq, x17_2, rfl, HA, HJ2, HB⟩ := hcut
  cases kq with
  | zero => exact absurd HA.out (by simp [quoinref26_comment.j0])
  | succ kj2 =>
   have H := HA.out
   clear HA
   simp only [quoinref26_comment.j0] at H
   by_cases c7 : x17_2 = true
   ·subst c7
    have H1 : (some (-1)) = some r := by rw [if_pos rfl] at H; exact H
    clear H
    have H := H1
    clear H1
    obtain rfl := Option.some.inj H
    go_wp2
    go_ret
    exact ⟨Z2, Z0⟩
   ·replace c7 := Bool.eq_false_iff.mpr c7
    subst c7
    have H1 : (quoinref26_comment.l0 kj2 a0 (wrap64 (a1 + 2))) = some r := by rw [if_neg (show ¬ (false = true) by decide)] at H; exact H
    clear H
    have H := H1
    clear H1
    have H' := Aside0.mk H
    clear H
    go_wp2
    go_loopg [1] kj2 (fun kq v1 w' => ∃ (x1_2 : Int), v1 = .int .i64 x1_2 ∧ Aside0 (quoinref26_comment.l0 kq a0 x1_2 = some r) ∧ Aside0 (kq ≤ kj2) ∧ Aside0 (Below w.heap.size w w'))
    case atStart => exact ⟨(wrap64 (a1 + 2)), Z1, H', ⟨Nat.le_refl _⟩, ⟨Z0⟩⟩
    case round =>
     clear H'
     try clear p2
     try clear c5
     try clear c5b0
     try clear c5b1
     try clear p6
     try clear c7
     try clear p2
     try clear p6
     obtain ⟨x1_2, rfl, HA, HK2, HB⟩ := hrel
     cases gk with
     | zero => exact absurd HA.out (by simp [quoinref26_comment.l0])
     | succ k2 =>
      have H := HA.out
      clear HA
      simp only [quoinref26_comment.l0] at H
      have HC8 := Aside0.mk H
      clear H
      go_upto_region 4 with (fail)
      go_cut [30] (fun v30 wc => ∃ (kq : Nat) (x30_7 : Bool), v30 = .bool x30_7 ∧ Aside0 (quoinref26_comment.j2 kq a0 x1_2 x30_7 = some r) ∧ Aside0 (kq ≤ k2) ∧ Aside0 (Below w.heap.size w wc))
      case first =>
       have H := HC8.out
       clear HC8
       replace H := bS H
       obtain ⟨t264, A9, H⟩ := H
       try dsimp only at H
       by_cases c10 : t264 = 42
       ·rw [if_pos c10] at H
        have c10b0 := e1 c10
        have c10b1 := e2 c10
        clear c10
        (first | rw [c10b0] | (simp only [i64_w, i32_w]; rw [c10b0]) | skip)
        replace H := bS H
        obtain ⟨t265, A11, H⟩ := H
        try dsimp only at H
        have H' := Aside0.mk H
        clear H
        go_wp2_with (first | (refine gR (some 22) Try.func50 (quoinref26_at.calls A9.out) (h := ?_); rintro _ ⟨nd, rfl⟩) | (go_at_call 50; (with_reducible refine (quoinref26_at.calls A11.out).mono ?_); rintro e w' ⟨rfl, ⟨nd, rfl⟩⟩))
        go_meet
        case rel => exact ⟨_, ((t265 != 47)), Z1, H', ⟨by have := HJ2.out; have := HK2.out; first | omega | exact Nat.le_refl _⟩, ⟨Z0⟩⟩
       ·rw [if_neg c10] at H
        have c10b0 := e3 c10
        have c10b1 := e4 c10
        (first | rw [c10b0] | (simp only [i64_w, i32_w]; rw [c10b0]) | skip)
        have H' := Aside0.mk H
        clear H
        go_wp2_with (first | (refine gR (some 22) Try.func50 (quoinref26_at.calls A9.out) (h := ?_); rintro _ ⟨nd, rfl⟩))
        go_meet
        case rel => exact ⟨_, (true), Z1, H', ⟨by have := HJ2.out; have := HK2.out; first | omega | exact Nat.le_refl _⟩, ⟨Z0⟩⟩
      case rest =>
       clear HC8
       try clear c1
       try clear p2
       try clear c5
       try clear c5b0
       try clear c5b1
       try clear p6
       try clear c7
       try clear c10
       try clear c10b0
       try clear c10b1
       try clear p2
       try clear p6
       obtain ⟨kq, x30_7, rfl, HA, HJ7, HB⟩ := hcut
       cases kq with
       | zero => exact absurd HA.out (by simp [quoinref26_comment.j2])
       | succ kj7 =>
        have H := HA.out
        clear HA
        simp only [quoinref26_comment.j2] at H
        by_cases c12 : x30_7 = true
        ·subst c12
         have H1 : ((quoinref26_piece.f kj7 a0 x1_2).bind fun bt266 => (if bt266.2 = 0 then (some (-1)) else (quoinref26_comment.l0 kj7 a0 (wrap64 (x1_2 + bt266.2))))) = some r := by rw [if_pos rfl] at H; exact H
         clear H
         have H := H1
         clear H1
         replace H := bS H
         obtain ⟨⟨t266, t267⟩, A13, H⟩ := H
         try dsimp only at H
         by_cases c14 : t267 = 0
         ·rw [if_pos c14] at H
          have c14b0 := e1 c14
          have c14b1 := e2 c14
          clear c14
          obtain rfl := Option.some.inj H
          go_wp2_with (first | (refine gR (some 34) Try.func77 (quoinref26_piece.calls A13.out) (h := ?_); rintro w15 hb; replace HB := Aside0.mk (below_step zB hb); (try clear hb); (try clear hb2); (try clear hk); (try clear hi)))
          go_ret
          exact ⟨Z2, Z0⟩
         ·rw [if_neg c14] at H
          have c14b0 := e3 c14
          have c14b1 := e4 c14
          have H' := Aside0.mk H
          clear H
          go_wp2_with (first | (refine gR (some 34) Try.func77 (quoinref26_piece.calls A13.out) (h := ?_); rintro w16 hb; replace HB := Aside0.mk (below_step zB hb); (try clear hb); (try clear hb2); (try clear hk); (try clear hi)))
          go_roundg kj7
          case measure => have := HJ2.out; have := HK2.out; have := HJ7.out; omega
          case rel => exact ⟨(wrap64 (x1_2 + t267)), Z1, H', ⟨by have := HJ2.out; have := HK2.out; have := HJ7.out; omega⟩, ⟨Z0⟩⟩
        ·replace c12 := Bool.eq_false_iff.mpr c12
         subst c12
         have H1 : (some (wrap64 (x1_2 + 2))) = some r := by rw [if_neg (show ¬ (false = true) by decide)] at H; exact H
         clear H
         have H := H1
         clear H1
         obtain rfl := Option.some.inj H
         go_wp2
         go_ret
         exact ⟨Z2, Z0⟩
def quoinref26_letter.f (k : Nat) (a0 : ByteArray) (a1 : Int) : Option (Int) := (quoinref26_piece.f k a0 a1).bind fun bt268 => (if bt268.1 ≥ 97 then (if bt268.1 ≤ 122 then (some bt268.2) else (if bt268.1 ≥ 65 then (if bt268.1 ≤ 90 then (some bt268.2) else (if bt268.1 = 95 then (some bt268.2) else (if bt268.1 ≥ 128 then (some bt268.2) else (some 0)))) else (if bt268.1 = 95 then (some bt268.2) else (if bt268.1 ≥ 128 then (some bt268.2) else (some 0))))) else (if bt268.1 ≥ 65 then (if bt268.1 ≤ 90 then (some bt268.2) else (if bt268.1 = 95 then (some bt268.2) else (if bt268.1 ≥ 128 then (some bt268.2) else (some 0)))) else (if bt268.1 = 95 then (some bt268.2) else (if bt268.1 ≥ 128 then (some bt268.2) else (some 0)))))
set_option maxHeartbeats 8000000 in
set_option maxRecDepth 100000 in
theorem quoinref26_letter.calls {k : Nat} {a0 : ByteArray} {a1 : Int} {r : Int} {w : World} (h : quoinref26_letter.f k a0 a1 = some r) :
  Calls Try.prog 78 #[.string a0, .int .i64 a1] w fun e w' => e = .returned (.int .i64 r) ∧ Below w.heap.size w w' := by
 have HB := Aside0.mk (Below.refl w.heap.size w)
 have H : ((quoinref26_piece.f k a0 a1).bind fun bt268 => (if bt268.1 ≥ 97 then (if bt268.1 ≤ 122 then (some bt268.2) else (if bt268.1 ≥ 65 then (if bt268.1 ≤ 90 then (some bt268.2) else (if bt268.1 = 95 then (some bt268.2) else (if bt268.1 ≥ 128 then (some bt268.2) else (some 0)))) else (if bt268.1 = 95 then (some bt268.2) else (if bt268.1 ≥ 128 then (some bt268.2) else (some 0))))) else (if bt268.1 ≥ 65 then (if bt268.1 ≤ 90 then (some bt268.2) else (if bt268.1 = 95 then (some bt268.2) else (if bt268.1 ≥ 128 then (some bt268.2) else (some 0)))) else (if bt268.1 = 95 then (some bt268.2) else (if bt268.1 ≥ 128 then (some bt268.2) else (some 0)))))) = some r := h
 clear h
 replace H := bS H
 obtain ⟨⟨t268, t269⟩, A3, H⟩ := H
 try dsimp only at H
 by_cases c4 : t268 ≥ 97
 ·rw [if_pos c4] at H
  have c4b0 : decide (97 ≤ t268) = true := decide_eq_true c4
  clear c4
  by_cases c5 : t268 ≤ 122
  ·rw [if_pos c5] at H
   have c5b0 := decide_eq_true c5
   clear c5
   obtain rfl := Option.some.inj H
   go_enter Try.func78, Try.ntmps78
   go_wp2_with (first | (refine gR (some 10) Try.func77 (quoinref26_piece.calls A3.out) (h := ?_); rintro w6 hb; replace HB := Aside0.mk (below_step zB hb); (try clear hb); (try clear hb2); (try clear hk); (try clear hi)))
   go_ret
   exact ⟨Z2, Z0⟩
  ·rw [if_neg c5] at H
   have c5b0 := decide_eq_false c5
   clear c5
   by_cases c7 : t268 ≥ 65
   ·rw [if_pos c7] at H
    have c7b0 : decide (65 ≤ t268) = true := decide_eq_true c7
    clear c7
    by_cases c8 : t268 ≤ 90
    ·rw [if_pos c8] at H
     have c8b0 := decide_eq_true c8
     clear c8
     obtain rfl := Option.some.inj H
     go_enter Try.func78, Try.ntmps78
     go_wp2_with (first | (refine gR (some 10) Try.func77 (quoinref26_piece.calls A3.out) (h := ?_); rintro w9 hb; replace HB := Aside0.mk (below_step zB hb); (try clear hb); (try clear hb2); (try clear hk); (try clear hi)))
     go_ret
     exact ⟨Z2, Z0⟩
    ·rw [if_neg c8] at H
     have c8b0 := decide_eq_false c8
     clear c8
     by_cases c10 : t268 = 95
     ·rw [if_pos c10] at H
      have c10b0 := e1 c10
      have c10b1 := e2 c10
      clear c10
      obtain rfl := Option.some.inj H
      go_enter Try.func78, Try.ntmps78
      go_wp2_with (first | (refine gR (some 10) Try.func77 (quoinref26_piece.calls A3.out) (h := ?_); rintro w11 hb; replace HB := Aside0.mk (below_step zB hb); (try clear hb); (try clear hb2); (try clear hk); (try clear hi)))
      go_ret
      exact ⟨Z2, Z0⟩
     ·rw [if_neg c10] at H
      have c10b0 := e3 c10
      have c10b1 := e4 c10
      by_cases c12 : t268 ≥ 128
      ·rw [if_pos c12] at H
       have c12b0 : decide (128 ≤ t268) = true := decide_eq_true c12
       clear c12
       obtain rfl := Option.some.inj H
       go_enter Try.func78, Try.ntmps78
       go_wp2_with (first | (refine gR (some 10) Try.func77 (quoinref26_piece.calls A3.out) (h := ?_); rintro w13 hb; replace HB := Aside0.mk (below_step zB hb); (try clear hb); (try clear hb2); (try clear hk); (try clear hi)))
       go_ret
       exact ⟨Z2, Z0⟩
      ·rw [if_neg c12] at H
       have c12b0 : decide (128 ≤ t268) = false := decide_eq_false c12
       clear c12
       obtain rfl := Option.some.inj H
       go_enter Try.func78, Try.ntmps78
       go_wp2_with (first | (refine gR (some 10) Try.func77 (quoinref26_piece.calls A3.out) (h := ?_); rintro w14 hb; replace HB := Aside0.mk (below_step zB hb); (try clear hb); (try clear hb2); (try clear hk); (try clear hi)))
       go_ret
       exact ⟨Z2, Z0⟩
   ·rw [if_neg c7] at H
    have c7b0 : decide (65 ≤ t268) = false := decide_eq_false c7
    clear c7
    by_cases c15 : t268 = 95
    ·rw [if_pos c15] at H
     have c15b0 := e1 c15
     have c15b1 := e2 c15
     clear c15
     obtain rfl := Option.some.inj H
     go_enter Try.func78, Try.ntmps78
     go_wp2_with (first | (refine gR (some 10) Try.func77 (quoinref26_piece.calls A3.out) (h := ?_); rintro w16 hb; replace HB := Aside0.mk (below_step zB hb); (try clear hb); (try clear hb2); (try clear hk); (try clear hi)))
     go_ret
     exact ⟨Z2, Z0⟩
    ·rw [if_neg c15] at H
     have c15b0 := e3 c15
     have c15b1 := e4 c15
     by_cases c17 : t268 ≥ 128
     ·rw [if_pos c17] at H
      have c17b0 : decide (128 ≤ t268) = true := decide_eq_true c17
      clear c17
      obtain rfl := Option.some.inj H
      go_enter Try.func78, Try.ntmps78
      go_wp2_with (first | (refine gR (some 10) Try.func77 (quoinref26_piece.calls A3.out) (h := ?_); rintro w18 hb; replace HB := Aside0.mk (below_step zB hb); (try clear hb); (try clear hb2); (try clear hk); (try clear hi)))
      go_ret
      exact ⟨Z2, Z0⟩
     ·rw [if_neg c17] at H
      have c17b0 : decide (128 ≤ t268) = false := decide_eq_false c17
      clear c17
      obtain rfl := Option.some.inj H
      go_enter Try.func78, Try.ntmps78
      go_wp2_with (first | (refine gR (some 10) Try.func77 (quoinref26_piece.calls A3.out) (h := ?_); rintro w19 hb; replace HB := Aside0.mk (below_step zB hb); (try clear hb); (try clear hb2); (try clear hk); (try clear hi)))
      go_ret
      exact ⟨Z2, Z0⟩
 ·rw [if_neg c4] at H
  have c4b0 : decide (97 ≤ t268) = false := decide_eq_false c4
  clear c4
  by_cases c20 : t268 ≥ 65
  ·rw [if_pos c20] at H
   have c20b0 : decide (65 ≤ t268) = true := decide_eq_true c20
   clear c20
   by_cases c21 : t268 ≤ 90
   ·rw [if_pos c21] at H
    have c21b0 := decide_eq_true c21
    clear c21
    obtain rfl := Option.some.inj H
    go_enter Try.func78, Try.ntmps78
    go_wp2_with (first | (refine gR (some 10) Try.func77 (quoinref26_piece.calls A3.out) (h := ?_); rintro w22 hb; replace HB := Aside0.mk (below_step zB hb); (try clear hb); (try clear hb2); (try clear hk); (try clear hi)))
    go_ret
    exact ⟨Z2, Z0⟩
   ·rw [if_neg c21] at H
    have c21b0 := decide_eq_false c21
    clear c21
    by_cases c23 : t268 = 95
    ·rw [if_pos c23] at H
     have c23b0 := e1 c23
     have c23b1 := e2 c23
     clear c23
     obtain rfl := Option.some.inj H
     go_enter Try.func78, Try.ntmps78
     go_wp2_with (first | (refine gR (some 10) Try.func77 (quoinref26_piece.calls A3.out) (h := ?_); rintro w24 hb; replace HB := Aside0.mk (below_step zB hb); (try clear hb); (try clear hb2); (try clear hk); (try clear hi)))
     go_ret
     exact ⟨Z2, Z0⟩
    ·rw [if_neg c23] at H
     have c23b0 := e3 c23
     have c23b1 := e4 c23
     by_cases c25 : t268 ≥ 128
     ·rw [if_pos c25] at H
      have c25b0 : decide (128 ≤ t268) = true := decide_eq_true c25
      clear c25
      obtain rfl := Option.some.inj H
      go_enter Try.func78, Try.ntmps78
      go_wp2_with (first | (refine gR (some 10) Try.func77 (quoinref26_piece.calls A3.out) (h := ?_); rintro w26 hb; replace HB := Aside0.mk (below_step zB hb); (try clear hb); (try clear hb2); (try clear hk); (try clear hi)))
      go_ret
      exact ⟨Z2, Z0⟩
     ·rw [if_neg c25] at H
      have c25b0 : decide (128 ≤ t268) = false := decide_eq_false c25
      clear c25
      obtain rfl := Option.some.inj H
      go_enter Try.func78, Try.ntmps78
      go_wp2_with (first | (refine gR (some 10) Try.func77 (quoinref26_piece.calls A3.out) (h := ?_); rintro w27 hb; replace HB := Aside0.mk (below_step zB hb); (try clear hb); (try clear hb2); (try clear hk); (try clear hi)))
      go_ret
      exact ⟨Z2, Z0⟩
  ·rw [if_neg c20] at H
   have c20b0 : decide (65 ≤ t268) = false := decide_eq_false c20
   clear c20
   by_cases c28 : t268 = 95
   ·rw [if_pos c28] at H
    have c28b0 := e1 c28
    have c28b1 := e2 c28
    clear c28
    obtain rfl := Option.some.inj H
    go_enter Try.func78, Try.ntmps78
    go_wp2_with (first | (refine gR (some 10) Try.func77 (quoinref26_piece.calls A3.out) (h := ?_); rintro w29 hb; replace HB := Aside0.mk (below_step zB hb); (try clear hb); (try clear hb2); (try clear hk); (try clear hi)))
    go_ret
    exact ⟨Z2, Z0⟩
   ·rw [if_neg c28] at H
    have c28b0 := e3 c28
    have c28b1 := e4 c28
    by_cases c30 : t268 ≥ 128
    ·rw [if_pos c30] at H
     have c30b0 : decide (128 ≤ t268) = true := decide_eq_true c30
     clear c30
     obtain rfl := Option.some.inj H
     go_enter Try.func78, Try.ntmps78
     go_wp2_with (first | (refine gR (some 10) Try.func77 (quoinref26_piece.calls A3.out) (h := ?_); rintro w31 hb; replace HB := Aside0.mk (below_step zB hb); (try clear hb); (try clear hb2); (try clear hk); (try clear hi)))
     go_ret
     exact ⟨Z2, Z0⟩
    ·rw [if_neg c30] at H
     have c30b0 : decide (128 ≤ t268) = false := decide_eq_false c30
     clear c30
     obtain rfl := Option.some.inj H
     go_enter Try.func78, Try.ntmps78
     go_wp2_with (first | (refine gR (some 10) Try.func77 (quoinref26_piece.calls A3.out) (h := ?_); rintro w32 hb; replace HB := Aside0.mk (below_step zB hb); (try clear hb); (try clear hb2); (try clear hk); (try clear hi)))
     go_ret
     exact ⟨Z2, Z0⟩
def quoinref26_is.j0 : Nat → Int → Int → Bool → Option (Bool)
 | 0, _, _, _ => none
 | k + 1, x0, x1, x5 => if x5 = true then (some (decide (((x0 - 48) % 256) < x1))) else (if x0 ≥ 97 then (if x0 ≤ 102 then (some (x1 == 16)) else (if x0 ≥ 65 then (if x0 ≤ 70 then (some (x1 == 16)) else (some false)) else (some false))) else (if x0 ≥ 65 then (if x0 ≤ 70 then (some (x1 == 16)) else (some false)) else (some false)))
def quoinref26_is.f (k : Nat) (a0 : Int) (a1 : Int) : Option (Bool) := if a0 ≥ 48 then (quoinref26_is.j0 k a0 a1 (decide (a0 ≤ 57))) else (quoinref26_is.j0 k a0 a1 false)
theorem quoinref26_is.mono_l : ∀ k, (∀ y0 y1 y2, LeO (quoinref26_is.j0 k y0 y1 y2) (quoinref26_is.j0 (k + 1) y0 y1 y2))
 | 0 => fun _ _ _ r h => by simp [quoinref26_is.j0] at h
 | k + 1 => by
  have ih0 := quoinref26_is.mono_l k
  ·intro y0 y1 y2
   unfold quoinref26_is.j0
   exact mO
theorem quoinref26_is.mono : ∀ a0 a1 k, LeO (quoinref26_is.f k a0 a1) (quoinref26_is.f (k + 1) a0 a1) := by
 intro a0 a1 k
 have ih0 := quoinref26_is.mono_l k
 unfold quoinref26_is.f
 exact mO
set_option maxHeartbeats 8000000 in
set_option maxRecDepth 100000 in
theorem quoinref26_is.calls {k : Nat} {a0 : Int} {a1 : Int} {r : Bool} {w : World} (h : quoinref26_is.f k a0 a1 = some r) :
  Calls Try.prog 79 #[.int .u8 a0, .int .i64 a1] w fun e w' => e = .returned (.bool r) ∧ Drawn0 w w' := by
 have H : (if a0 ≥ 48 then (quoinref26_is.j0 k a0 a1 (decide (a0 ≤ 57))) else (quoinref26_is.j0 k a0 a1 false)) = some r := h
 clear h
 have HC3 := Aside0.mk H
 clear H
 go_enter Try.func79, Try.ntmps79
 go_upto_region 1 with (fail)
 go_cut [5] (fun v5 wc => ∃ (kq : Nat) (x5_2 : Bool), v5 = .bool x5_2 ∧ Aside0 (quoinref26_is.j0 kq a0 a1 x5_2 = some r) ∧ Aside0 (kq ≤ k) ∧ Drawn0 w wc)
 case first =>
  have H := HC3.out
  clear HC3
  by_cases c4 : a0 ≥ 48
  ·rw [if_pos c4] at H
   have c4b0 : decide (48 ≤ a0) = true := decide_eq_true c4
   clear c4
   (first | rw [c4b0] | (simp only [i64_w, i32_w]; rw [c4b0]) | skip)
   have H' := Aside0.mk H
   clear H
   go_wp2
   go_meet
   case rel => exact ⟨_, (decide (a0 ≤ 57)), Z1, H', ⟨Z26⟩, Z4⟩
  ·rw [if_neg c4] at H
   have c4b0 : decide (48 ≤ a0) = false := decide_eq_false c4
   clear c4
   (first | rw [c4b0] | (simp only [i64_w, i32_w]; rw [c4b0]) | skip)
   have H' := Aside0.mk H
   clear H
   go_wp2
   go_meet
   case rel => exact ⟨_, (false), Z1, H', ⟨Z26⟩, Z4⟩
 case rest =>
  clear HC3
  try clear p2
  try clear c4
  try clear c4b0
  obtain ⟨kq, x5_2, rfl, HA, HJ2, ⟨mc2, rfl⟩⟩ := hcut
  cases kq with
  | zero => exact absurd HA.out (by simp [quoinref26_is.j0])
  | succ kj2 =>
   have H := HA.out
   clear HA
   simp only [quoinref26_is.j0] at H
   by_cases c5 : x5_2 = true
   ·subst c5
    have H1 : (some (decide (((a0 - 48) % 256) < a1))) = some r := by rw [if_pos rfl] at H; exact H
    clear H
    have H := H1
    clear H1
    obtain rfl := Option.some.inj H
    go_wp2
    go_ret
    exact ⟨Z1, Z4⟩
   ·replace c5 := Bool.eq_false_iff.mpr c5
    subst c5
    have H1 : (if a0 ≥ 97 then (if a0 ≤ 102 then (some (a1 == 16)) else (if a0 ≥ 65 then (if a0 ≤ 70 then (some (a1 == 16)) else (some false)) else (some false))) else (if a0 ≥ 65 then (if a0 ≤ 70 then (some (a1 == 16)) else (some false)) else (some false))) = some r := by rw [if_neg (show ¬ (false = true) by decide)] at H; exact H
    clear H
    have H := H1
    clear H1
    by_cases c6 : a0 ≥ 97
    ·rw [if_pos c6] at H
     have c6b0 : decide (97 ≤ a0) = true := decide_eq_true c6
     clear c6
     by_cases c7 : a0 ≤ 102
     ·rw [if_pos c7] at H
      have c7b0 := decide_eq_true c7
      clear c7
      obtain rfl := Option.some.inj H
      go_wp2
      go_ret
      exact ⟨Z1, Z4⟩
     ·rw [if_neg c7] at H
      have c7b0 := decide_eq_false c7
      clear c7
      by_cases c8 : a0 ≥ 65
      ·rw [if_pos c8] at H
       have c8b0 : decide (65 ≤ a0) = true := decide_eq_true c8
       clear c8
       by_cases c9 : a0 ≤ 70
       ·rw [if_pos c9] at H
        have c9b0 := decide_eq_true c9
        clear c9
        obtain rfl := Option.some.inj H
        go_wp2
        go_ret
        exact ⟨Z1, Z4⟩
       ·rw [if_neg c9] at H
        have c9b0 := decide_eq_false c9
        clear c9
        obtain rfl := Option.some.inj H
        go_wp2
        go_ret
        exact ⟨Z1, Z4⟩
      ·rw [if_neg c8] at H
       have c8b0 : decide (65 ≤ a0) = false := decide_eq_false c8
       clear c8
       obtain rfl := Option.some.inj H
       go_wp2
       go_ret
       exact ⟨Z1, Z4⟩
    ·rw [if_neg c6] at H
     have c6b0 : decide (97 ≤ a0) = false := decide_eq_false c6
     clear c6
     by_cases c10 : a0 ≥ 65
     ·rw [if_pos c10] at H
      have c10b0 : decide (65 ≤ a0) = true := decide_eq_true c10
      clear c10
      by_cases c11 : a0 ≤ 70
      ·rw [if_pos c11] at H
       have c11b0 := decide_eq_true c11
       clear c11
       obtain rfl := Option.some.inj H
       go_wp2
       go_ret
       exact ⟨Z1, Z4⟩
      ·rw [if_neg c11] at H
       have c11b0 := decide_eq_false c11
       clear c11
       obtain rfl := Option.some.inj H
       go_wp2
       go_ret
       exact ⟨Z1, Z4⟩
     ·rw [if_neg c10] at H
      have c10b0 : decide (65 ≤ a0) = false := decide_eq_false c10
      clear c10
      obtain rfl := Option.some.inj H
      go_wp2
      go_ret
      exact ⟨Z1, Z4⟩
def quoinref26_word.l0 : Nat → ByteArray → Int → Option (Int)
 | 0, _, _ => none
 | k + 1, x0, x1 => (quoinref26_letter.f k x0 x1).bind fun t271 => (if t271 > 0 then ((quoinref26_letter.f k x0 x1).bind fun t272 => (quoinref26_word.l0 k x0 (wrap64 (x1 + (mx t272 1))))) else ((quoinref26_at.f x0 x1).bind fun t273 => ((quoinref26_is.f k t273 10).bind fun t274 => (if t274 = true then ((quoinref26_letter.f k x0 x1).bind fun t275 => (quoinref26_word.l0 k x0 (wrap64 (x1 + (mx t275 1))))) else (some x1)))))
def quoinref26_word.f (k : Nat) (a0 : ByteArray) (a1 : Int) : Option (Int) := (quoinref26_letter.f k a0 a1).bind fun t270 => (if t270 = 0 then (some (-1)) else (quoinref26_word.l0 k a0 a1))
set_option maxHeartbeats 8000000 in
set_option maxRecDepth 100000 in
theorem quoinref26_word.calls {k : Nat} {a0 : ByteArray} {a1 : Int} {r : Int} {w : World} (h : quoinref26_word.f k a0 a1 = some r) :
  Calls Try.prog 54 #[.string a0, .int .i64 a1] w fun e w' => e = .returned (.int .i64 r) ∧ Below w.heap.size w w' := by
 have HB := Aside0.mk (Below.refl w.heap.size w)
 have H : ((quoinref26_letter.f k a0 a1).bind fun t270 => (if t270 = 0 then (some (-1)) else (quoinref26_word.l0 k a0 a1))) = some r := h
 clear h
 replace H := bS H
 obtain ⟨t270, A3, H⟩ := H
 try dsimp only at H
 by_cases c4 : t270 = 0
 ·rw [if_pos c4] at H
  have c4b0 := e1 c4
  have c4b1 := e2 c4
  clear c4
  obtain rfl := Option.some.inj H
  go_enter Try.func54, Try.ntmps54
  go_wp2_with (first | (refine gR (some 7) Try.func78 (quoinref26_letter.calls A3.out) (h := ?_); rintro w5 hb; replace HB := Aside0.mk (below_step zB hb); (try clear hb); (try clear hb2); (try clear hk); (try clear hi)))
  go_ret
  exact ⟨Z2, Z0⟩
 ·rw [if_neg c4] at H
  have c4b0 := e3 c4
  have c4b1 := e4 c4
  have H' := Aside0.mk H
  clear H
  go_enter Try.func54, Try.ntmps54
  go_wp2_with (first | (refine gR (some 7) Try.func78 (quoinref26_letter.calls A3.out) (h := ?_); rintro w6 hb; replace HB := Aside0.mk (below_step zB hb); (try clear hb); (try clear hb2); (try clear hk); (try clear hi)))
  go_loopg [1] k (fun kq v1 w' => ∃ (x1_1 : Int), v1 = .int .i64 x1_1 ∧ Aside0 (quoinref26_word.l0 kq a0 x1_1 = some r) ∧ Aside0 (kq ≤ k) ∧ Aside0 (Below w.heap.size w w'))
  case atStart => exact ⟨(a1), Z1, H', ⟨Nat.le_refl _⟩, ⟨Z0⟩⟩
  case round =>
   clear H'
   try clear p2
   try clear c4
   try clear c4b0
   try clear c4b1
   try clear c5
   obtain ⟨x1_1, rfl, HA, HK1, HB⟩ := hrel
   cases gk with
   | zero => exact absurd HA.out (by simp [quoinref26_word.l0])
   | succ k1 =>
    have H := HA.out
    clear HA
    simp only [quoinref26_word.l0] at H
    replace H := bS H
    obtain ⟨t271, A7, H⟩ := H
    try dsimp only at H
    by_cases c8 : t271 > 0
    ·rw [if_pos c8] at H
     have c8b0 : decide (0 < t271) = true := decide_eq_true c8
     clear c8
     replace H := bS H
     obtain ⟨t272, A9, H⟩ := H
     try dsimp only at H
     obtain ⟨ji10, hji10⟩ : ∃ j_ : Int, (mx t272 1) = j_ := ⟨_, rfl⟩
     replace H : (quoinref26_word.l0 k1 a0 (wrap64 (x1_1 + (ji10)))) = some r := by first | (rw [hji10] at H; exact H) | (simp only [hji10] at H ⊢; exact H)
     (try rw [hji10] at A7)
     (try rw [hji10] at A9)
     (try (have hji10l : 1 ≤ ji10 := by (rw [← hji10]; unfold mx; (repeat' split) <;> omega)))
     (try (have hji10m : 0 ≤ ji10 := by omega))
     have hji10_ : (if t272 < 1 then 1 else t272) = ji10 := hji10
     have H' := Aside0.mk H
     clear H
     go_wp2_with (first | (refine gR (some 11) Try.func78 (quoinref26_letter.calls A7.out) (h := ?_); rintro w11 hb; replace HB := Aside0.mk (below_step zB hb); (try clear hb); (try clear hb2); (try clear hk); (try clear hi)) | (refine gR (some 22) Try.func78 (quoinref26_letter.calls A9.out) (h := ?_); rintro w12 hb; replace HB := Aside0.mk (below_step zB hb); (try clear hb); (try clear hb2); (try clear hk); (try clear hi)))
     go_roundg k1
     case measure => have := HK1.out; omega
     case rel => exact ⟨(wrap64 (x1_1 + (ji10))), (by first | rfl | (simp; done) | (simp only [← hji10] <;> (first | rfl | (simp; done))) | (simp only [← hji10] <;> rw [u32_tmod]) | (simp only [← hji10] <;> simp <;> omega) | (simp [*]; done) | (simp <;> omega) | rw [u32_tmod]), H', ⟨Z36⟩, ⟨Z0⟩⟩
    ·rw [if_neg c8] at H
     have c8b0 : decide (0 < t271) = false := decide_eq_false c8
     clear c8
     replace H := bS H
     obtain ⟨t273, A13, H⟩ := H
     try dsimp only at H
     replace H := bS H
     obtain ⟨t274, A14, H⟩ := H
     try dsimp only at H
     by_cases c15 : t274 = true
     ·subst c15
      have H1 : ((quoinref26_letter.f k1 a0 x1_1).bind fun t275 => (quoinref26_word.l0 k1 a0 (wrap64 (x1_1 + (mx t275 1))))) = some r := by rw [if_pos rfl] at H; exact H
      clear H
      have H := H1
      clear H1
      replace H := bS H
      obtain ⟨t275, A16, H⟩ := H
      try dsimp only at H
      obtain ⟨ji17, hji17⟩ : ∃ j_ : Int, (mx t275 1) = j_ := ⟨_, rfl⟩
      replace H : (quoinref26_word.l0 k1 a0 (wrap64 (x1_1 + (ji17)))) = some r := by first | (rw [hji17] at H; exact H) | (simp only [hji17] at H ⊢; exact H)
      (try rw [hji17] at A7)
      (try rw [hji17] at A13)
      (try rw [hji17] at A14)
      (try rw [hji17] at A16)
      (try (have hji17l : 1 ≤ ji17 := by (rw [← hji17]; unfold mx; (repeat' split) <;> omega)))
      (try (have hji17m : 0 ≤ ji17 := by omega))
      have hji17_ : (if t275 < 1 then 1 else t275) = ji17 := hji17
      have H' := Aside0.mk H
      clear H
      go_wp2_with (first | (refine gR (some 11) Try.func78 (quoinref26_letter.calls A7.out) (h := ?_); rintro w18 hb; replace HB := Aside0.mk (below_step zB hb); (try clear hb); (try clear hb2); (try clear hk); (try clear hi)) | (go_at_call 50; (with_reducible refine (quoinref26_at.calls A13.out).mono ?_); rintro e w' ⟨rfl, ⟨nd, rfl⟩⟩) | (go_at_call 79; (with_reducible refine (quoinref26_is.calls A14.out).mono ?_); rintro e w' ⟨rfl, ⟨nd, rfl⟩⟩) | (refine gR (some 22) Try.func78 (quoinref26_letter.calls A16.out) (h := ?_); rintro w19 hb; replace HB := Aside0.mk (below_step zB hb); (try clear hb); (try clear hb2); (try clear hk); (try clear hi)))
      go_roundg k1
      case measure => have := HK1.out; omega
      case rel => exact ⟨(wrap64 (x1_1 + (ji17))), Z52, H', ⟨Z36⟩, ⟨Z0⟩⟩
     ·replace c15 := Bool.eq_false_iff.mpr c15
      subst c15
      have H1 : (some x1_1) = some r := by rw [if_neg (show ¬ (false = true) by decide)] at H; exact H
      clear H
      have H := H1
      clear H1
      obtain rfl := Option.some.inj H
      go_wp2_with (first | (refine gR (some 11) Try.func78 (quoinref26_letter.calls A7.out) (h := ?_); rintro w20 hb; replace HB := Aside0.mk (below_step zB hb); (try clear hb); (try clear hb2); (try clear hk); (try clear hi)) | (go_at_call 50; (with_reducible refine (quoinref26_at.calls A13.out).mono ?_); rintro e w' ⟨rfl, ⟨nd, rfl⟩⟩) | (go_at_call 79; (with_reducible refine (quoinref26_is.calls A14.out).mono ?_); rintro e w' ⟨rfl, ⟨nd, rfl⟩⟩))
      go_ret
      exact ⟨Z2, Z0⟩
def quoinref26_digits.l0 : Nat → ByteArray → Int → Int → Option (Int)
 | 0, _, _, _ => none
 | k + 1, x0, x1, x2 => (quoinref26_at.f x0 x1).bind fun t278 => ((quoinref26_is.f k t278 x2).bind fun t279 => (if t279 = true then (quoinref26_digits.l0 k x0 (wrap64 (x1 + 1)) x2) else (if t278 = 95 then ((quoinref26_at.f x0 (wrap64 (x1 + 1))).bind fun t280 => ((quoinref26_is.f k t280 x2).bind fun t281 => (if t281 = true then (quoinref26_digits.l0 k x0 (wrap64 (x1 + 2)) x2) else (some x1)))) else (some x1))))
def quoinref26_digits.f (k : Nat) (a0 : ByteArray) (a1 : Int) (a2 : Int) : Option (Int) := (quoinref26_at.f a0 a1).bind fun t276 => ((quoinref26_is.f k t276 a2).bind fun t277 => (if t277 = true then (quoinref26_digits.l0 k a0 (wrap64 (a1 + 1)) a2) else (some (-1))))
set_option maxHeartbeats 8000000 in
set_option maxRecDepth 100000 in
theorem quoinref26_digits.calls {k : Nat} {a0 : ByteArray} {a1 : Int} {a2 : Int} {r : Int} {w : World} (h : quoinref26_digits.f k a0 a1 a2 = some r) :
  Calls Try.prog 80 #[.string a0, .int .i64 a1, .int .i64 a2] w fun e w' => e = .returned (.int .i64 r) ∧ Drawn0 w w' := by
 have H : ((quoinref26_at.f a0 a1).bind fun t276 => ((quoinref26_is.f k t276 a2).bind fun t277 => (if t277 = true then (quoinref26_digits.l0 k a0 (wrap64 (a1 + 1)) a2) else (some (-1))))) = some r := h
 clear h
 replace H := bS H
 obtain ⟨t276, A4, H⟩ := H
 try dsimp only at H
 replace H := bS H
 obtain ⟨t277, A5, H⟩ := H
 try dsimp only at H
 by_cases c6 : t277 = true
 ·subst c6
  have H1 : (quoinref26_digits.l0 k a0 (wrap64 (a1 + 1)) a2) = some r := by rw [if_pos rfl] at H; exact H
  clear H
  have H := H1
  clear H1
  have H' := Aside0.mk H
  clear H
  go_enter Try.func80, Try.ntmps80
  go_wp2_with (first | (refine gR (some 9) Try.func50 (quoinref26_at.calls A4.out) (h := ?_); rintro _ ⟨nd, rfl⟩) | (refine gR (some 11) Try.func79 (quoinref26_is.calls A5.out) (h := ?_); rintro _ ⟨nd, rfl⟩))
  go_loopg [1] k (fun kq v1 w' => ∃ (x1_1 : Int), v1 = .int .i64 x1_1 ∧ Aside0 (quoinref26_digits.l0 kq a0 x1_1 a2 = some r) ∧ Aside0 (kq ≤ k) ∧ Drawn0 w w')
  case atStart => exact ⟨(wrap64 (a1 + 1)), Z1, H', ⟨Nat.le_refl _⟩, Z4⟩
  case round =>
   clear H'
   try clear p2
   try clear c5
   try clear c6
   try clear p6
   obtain ⟨x1_1, rfl, HA, HK1, ⟨m1, rfl⟩⟩ := hrel
   cases gk with
   | zero => exact absurd HA.out (by simp [quoinref26_digits.l0])
   | succ k1 =>
    have H := HA.out
    clear HA
    simp only [quoinref26_digits.l0] at H
    replace H := bS H
    obtain ⟨t278, A7, H⟩ := H
    try dsimp only at H
    replace H := bS H
    obtain ⟨t279, A8, H⟩ := H
    try dsimp only at H
    by_cases c9 : t279 = true
    ·subst c9
     have H1 : (quoinref26_digits.l0 k1 a0 (wrap64 (x1_1 + 1)) a2) = some r := by rw [if_pos rfl] at H; exact H
     clear H
     have H := H1
     clear H1
     have H' := Aside0.mk H
     clear H
     go_wp2_with (first | (refine gR (some 19) Try.func50 (quoinref26_at.calls A7.out) (h := ?_); rintro _ ⟨nd, rfl⟩) | (refine gR (some 21) Try.func79 (quoinref26_is.calls A8.out) (h := ?_); rintro _ ⟨nd, rfl⟩))
     go_roundg k1
     case measure => have := HK1.out; omega
     case rel => exact ⟨(wrap64 (x1_1 + 1)), Z1, H', ⟨Z36⟩, Z4⟩
    ·replace c9 := Bool.eq_false_iff.mpr c9
     subst c9
     have H1 : (if t278 = 95 then ((quoinref26_at.f a0 (wrap64 (x1_1 + 1))).bind fun t280 => ((quoinref26_is.f k1 t280 a2).bind fun t281 => (if t281 = true then (quoinref26_digits.l0 k1 a0 (wrap64 (x1_1 + 2)) a2) else (some x1_1)))) else (some x1_1)) = some r := by rw [if_neg (show ¬ (false = true) by decide)] at H; exact H
     clear H
     have H := H1
     clear H1
     by_cases c10 : t278 = 95
     ·rw [if_pos c10] at H
      have c10b0 := e1 c10
      have c10b1 := e2 c10
      clear c10
      replace H := bS H
      obtain ⟨t280, A11, H⟩ := H
      try dsimp only at H
      replace H := bS H
      obtain ⟨t281, A12, H⟩ := H
      try dsimp only at H
      by_cases c13 : t281 = true
      ·subst c13
       have H1 : (quoinref26_digits.l0 k1 a0 (wrap64 (x1_1 + 2)) a2) = some r := by rw [if_pos rfl] at H; exact H
       clear H
       have H := H1
       clear H1
       have H' := Aside0.mk H
       clear H
       go_wp2_with (first | (refine gR (some 19) Try.func50 (quoinref26_at.calls A7.out) (h := ?_); rintro _ ⟨nd, rfl⟩) | (refine gR (some 21) Try.func79 (quoinref26_is.calls A8.out) (h := ?_); rintro _ ⟨nd, rfl⟩) | (refine gR (some 27) Try.func50 (quoinref26_at.calls A7.out) (h := ?_); rintro _ ⟨nd, rfl⟩) | (go_at_call 50; (with_reducible refine (quoinref26_at.calls A11.out).mono ?_); rintro e w' ⟨rfl, ⟨nd, rfl⟩⟩) | (go_at_call 79; (with_reducible refine (quoinref26_is.calls A12.out).mono ?_); rintro e w' ⟨rfl, ⟨nd, rfl⟩⟩))
       go_roundg k1
       case measure => have := HK1.out; omega
       case rel => exact ⟨(wrap64 (x1_1 + 2)), Z1, H', ⟨Z36⟩, Z4⟩
      ·replace c13 := Bool.eq_false_iff.mpr c13
       subst c13
       have H1 : (some x1_1) = some r := by rw [if_neg (show ¬ (false = true) by decide)] at H; exact H
       clear H
       have H := H1
       clear H1
       obtain rfl := Option.some.inj H
       go_wp2_with (first | (refine gR (some 19) Try.func50 (quoinref26_at.calls A7.out) (h := ?_); rintro _ ⟨nd, rfl⟩) | (refine gR (some 21) Try.func79 (quoinref26_is.calls A8.out) (h := ?_); rintro _ ⟨nd, rfl⟩) | (refine gR (some 27) Try.func50 (quoinref26_at.calls A7.out) (h := ?_); rintro _ ⟨nd, rfl⟩) | (go_at_call 50; (with_reducible refine (quoinref26_at.calls A11.out).mono ?_); rintro e w' ⟨rfl, ⟨nd, rfl⟩⟩) | (go_at_call 79; (with_reducible refine (quoinref26_is.calls A12.out).mono ?_); rintro e w' ⟨rfl, ⟨nd, rfl⟩⟩))
       go_ret
       exact ⟨Z1, Z4⟩
     ·rw [if_neg c10] at H
      have c10b0 := e3 c10
      have c10b1 := e4 c10
      obtain rfl := Option.some.inj H
      go_wp2_with (first | (refine gR (some 19) Try.func50 (quoinref26_at.calls A7.out) (h := ?_); rintro _ ⟨nd, rfl⟩) | (refine gR (some 21) Try.func79 (quoinref26_is.calls A8.out) (h := ?_); rintro _ ⟨nd, rfl⟩) | (refine gR (some 27) Try.func50 (quoinref26_at.calls A7.out) (h := ?_); rintro _ ⟨nd, rfl⟩))
      go_ret
      exact ⟨Z1, Z4⟩
 ·replace c6 := Bool.eq_false_iff.mpr c6
  subst c6
  have H1 : (some (-1)) = some r := by rw [if_neg (show ¬ (false = true) by decide)] at H; exact H
  clear H
  have H := H1
  clear H1
  obtain rfl := Option.some.inj H
  go_enter Try.func80, Try.ntmps80
  go_wp2_with (first | (refine gR (some 9) Try.func50 (quoinref26_at.calls A4.out) (h := ?_); rintro _ ⟨nd, rfl⟩) | (refine gR (some 11) Try.func79 (quoinref26_is.calls A5.out) (h := ?_); rintro _ ⟨nd, rfl⟩))
  go_ret
  exact ⟨Z1, Z4⟩
def quoinref26_low.f (a0 : Int) : Option (Int) := if a0 ≥ 65 then (if a0 ≤ 90 then (some ((a0 + 32) % 256)) else (some a0)) else (some a0)
set_option maxHeartbeats 8000000 in
set_option maxRecDepth 100000 in
theorem quoinref26_low.calls {a0 : Int} {r : Int} {w : World} (h : quoinref26_low.f a0 = some r) :
  Calls Try.prog 81 #[.int .u8 a0] w fun e w' => e = .returned (.int .u8 r) ∧ Drawn0 w w' := by
 have H : (if a0 ≥ 65 then (if a0 ≤ 90 then (some ((a0 + 32) % 256)) else (some a0)) else (some a0)) = some r := h
 clear h
 by_cases c2 : a0 ≥ 65
 ·rw [if_pos c2] at H
  have c2b0 : decide (65 ≤ a0) = true := decide_eq_true c2
  clear c2
  by_cases c3 : a0 ≤ 90
  ·rw [if_pos c3] at H
   have c3b0 := decide_eq_true c3
   clear c3
   obtain rfl := Option.some.inj H
   go_enter Try.func81, Try.ntmps81
   go_wp2
   go_ret
   exact ⟨Z1, Z4⟩
  ·rw [if_neg c3] at H
   have c3b0 := decide_eq_false c3
   clear c3
   obtain rfl := Option.some.inj H
   go_enter Try.func81, Try.ntmps81
   go_wp2
   go_ret
   exact ⟨Z1, Z4⟩
 ·rw [if_neg c2] at H
  have c2b0 : decide (65 ≤ a0) = false := decide_eq_false c2
  clear c2
  obtain rfl := Option.some.inj H
  go_enter Try.func81, Try.ntmps81
  go_wp2
  go_ret
  exact ⟨Z1, Z4⟩
def quoinref26_prefixed.f (k : Nat) (a0 : ByteArray) (a1 : Int) (a2 : Int) : Option (Int) := (quoinref26_at.f a0 a1).bind fun t282 => (if t282 = 95 then ((quoinref26_digits.f k a0 (wrap64 (a1 + 1)) a2).bind fun t283 => (some t283)) else ((quoinref26_digits.f k a0 a1 a2).bind fun t284 => (some t284)))
set_option maxHeartbeats 8000000 in
set_option maxRecDepth 100000 in
theorem quoinref26_prefixed.calls {k : Nat} {a0 : ByteArray} {a1 : Int} {a2 : Int} {r : Int} {w : World} (h : quoinref26_prefixed.f k a0 a1 a2 = some r) :
  Calls Try.prog 82 #[.string a0, .int .i64 a1, .int .i64 a2] w fun e w' => e = .returned (.int .i64 r) ∧ Drawn0 w w' := by
 have H : ((quoinref26_at.f a0 a1).bind fun t282 => (if t282 = 95 then ((quoinref26_digits.f k a0 (wrap64 (a1 + 1)) a2).bind fun t283 => (some t283)) else ((quoinref26_digits.f k a0 a1 a2).bind fun t284 => (some t284)))) = some r := h
 clear h
 replace H := bS H
 obtain ⟨t282, A4, H⟩ := H
 try dsimp only at H
 by_cases c5 : t282 = 95
 ·rw [if_pos c5] at H
  have c5b0 := e1 c5
  have c5b1 := e2 c5
  clear c5
  replace H := bS H
  obtain ⟨t283, A6, H⟩ := H
  try dsimp only at H
  obtain rfl := Option.some.inj H
  go_enter Try.func82, Try.ntmps82
  go_wp2_with (first | (refine gR (some 9) Try.func50 (quoinref26_at.calls A4.out) (h := ?_); rintro _ ⟨nd, rfl⟩) | (refine gR (some 16) Try.func80 (quoinref26_digits.calls A6.out) (h := ?_); rintro _ ⟨nd, rfl⟩))
  go_ret
  exact ⟨Z1, Z4⟩
 ·rw [if_neg c5] at H
  have c5b0 := e3 c5
  have c5b1 := e4 c5
  replace H := bS H
  obtain ⟨t284, A7, H⟩ := H
  try dsimp only at H
  obtain rfl := Option.some.inj H
  go_enter Try.func82, Try.ntmps82
  go_wp2_with (first | (refine gR (some 9) Try.func50 (quoinref26_at.calls A4.out) (h := ?_); rintro _ ⟨nd, rfl⟩) | (refine gR (some 16) Try.func80 (quoinref26_digits.calls A7.out) (h := ?_); rintro _ ⟨nd, rfl⟩))
  go_ret
  exact ⟨Z1, Z4⟩
def quoinref26_whole.j0 : Nat → ByteArray → Int → Bool → Option (Int)
 | 0, _, _, _ => none
 | k + 1, x0, x1, x15 => if x15 = true then ((quoinref26_digits.f k x0 x1 10).bind fun t286 => (some t286)) else ((quoinref26_at.f x0 x1).bind fun t287 => (if t287 = 48 then ((quoinref26_at.f x0 (wrap64 (x1 + 1))).bind fun t288 => ((quoinref26_low.f t288).bind fun t289 => (if t289 = 98 then ((quoinref26_prefixed.f k x0 (wrap64 (x1 + 2)) 2).bind fun t290 => (some (mx t290 (wrap64 (x1 + 1))))) else (if t289 = 111 then ((quoinref26_prefixed.f k x0 (wrap64 (x1 + 2)) 8).bind fun t291 => (some (mx t291 (wrap64 (x1 + 1))))) else (if t289 = 120 then ((quoinref26_prefixed.f k x0 (wrap64 (x1 + 2)) 16).bind fun t292 => (some (mx t292 (wrap64 (x1 + 1))))) else ((quoinref26_prefixed.f k x0 (wrap64 (x1 + 1)) 8).bind fun t293 => (some (mx t293 (wrap64 (x1 + 1)))))))))) else (some (-1))))
def quoinref26_whole.f (k : Nat) (a0 : ByteArray) (a1 : Int) : Option (Int) := (quoinref26_at.f a0 a1).bind fun t285 => (if t285 ≥ 49 then (quoinref26_whole.j0 k a0 a1 (decide (t285 ≤ 57))) else (quoinref26_whole.j0 k a0 a1 false))
set_option maxHeartbeats 8000000 in
set_option maxRecDepth 100000 in
theorem quoinref26_whole.calls {k : Nat} {a0 : ByteArray} {a1 : Int} {r : Int} {w : World} (h : quoinref26_whole.f k a0 a1 = some r) :
  Calls Try.prog 55 #[.string a0, .int .i64 a1] w fun e w' => e = .returned (.int .i64 r) ∧ Below w.heap.size w w' := by
 have HB := Aside0.mk (Below.refl w.heap.size w)
 have H : ((quoinref26_at.f a0 a1).bind fun t285 => (if t285 ≥ 49 then (quoinref26_whole.j0 k a0 a1 (decide (t285 ≤ 57))) else (quoinref26_whole.j0 k a0 a1 false))) = some r := h
 clear h
 have HC3 := Aside0.mk H
 clear H
 go_enter Try.func55, Try.ntmps55
 go_upto_region 1 with (fail)
 go_cut [15] (fun v15 wc => ∃ (kq : Nat) (x15_2 : Bool), v15 = .bool x15_2 ∧ Aside0 (quoinref26_whole.j0 kq a0 a1 x15_2 = some r) ∧ Aside0 (kq ≤ k) ∧ Aside0 (Below w.heap.size w wc))
 case first =>
  have H := HC3.out
  clear HC3
  replace H := bS H
  obtain ⟨t285, A4, H⟩ := H
  try dsimp only at H
  by_cases c5 : t285 ≥ 49
  ·rw [if_pos c5] at H
   have c5b0 : decide (49 ≤ t285) = true := decide_eq_true c5
   clear c5
   (first | rw [c5b0] | (simp only [i64_w, i32_w]; rw [c5b0]) | skip)
   have H' := Aside0.mk H
   clear H
   go_wp2_with (first | (refine gR (some 8) Try.func50 (quoinref26_at.calls A4.out) (h := ?_); rintro _ ⟨nd, rfl⟩) | (go_at_call 50; (with_reducible refine (quoinref26_at.calls A4.out).mono ?_); rintro e w' ⟨rfl, ⟨nd, rfl⟩⟩))
   go_meet
   case rel => exact ⟨_, (decide (t285 ≤ 57)), Z1, H', ⟨Z26⟩, ⟨Z0⟩⟩
  ·rw [if_neg c5] at H
   have c5b0 : decide (49 ≤ t285) = false := decide_eq_false c5
   clear c5
   (first | rw [c5b0] | (simp only [i64_w, i32_w]; rw [c5b0]) | skip)
   have H' := Aside0.mk H
   clear H
   go_wp2_with (first | (refine gR (some 8) Try.func50 (quoinref26_at.calls A4.out) (h := ?_); rintro _ ⟨nd, rfl⟩))
   go_meet
   case rel => exact ⟨_, (false), Z1, H', ⟨Z26⟩, ⟨Z0⟩⟩
 case rest =>
  clear HC3
  try clear p2
  try clear c5
  try clear c5b0
  obtain ⟨kq, x15_2, rfl, HA, HJ2, HB⟩ := hcut
  cases kq with
  | zero => exact absurd HA.out (by simp [quoinref26_whole.j0])
  | succ kj2 =>
   have H := HA.out
   clear HA
   simp only [quoinref26_whole.j0] at H
   by_cases c6 : x15_2 = true
   ·subst c6
    have H1 : ((quoinref26_digits.f kj2 a0 a1 10).bind fun t286 => (some t286)) = some r := by rw [if_pos rfl] at H; exact H
    clear H
    have H := H1
    clear H1
    replace H := bS H
    obtain ⟨t286, A7, H⟩ := H
    try dsimp only at H
    obtain rfl := Option.some.inj H
    go_wp2_with (first | (refine gR (some 18) Try.func80 (quoinref26_digits.calls A7.out) (h := ?_); rintro _ ⟨nd, rfl⟩))
    go_ret
    exact ⟨Z2, Z0⟩
   ·replace c6 := Bool.eq_false_iff.mpr c6
    subst c6
    have H1 : ((quoinref26_at.f a0 a1).bind fun t287 => (if t287 = 48 then ((quoinref26_at.f a0 (wrap64 (a1 + 1))).bind fun t288 => ((quoinref26_low.f t288).bind fun t289 => (if t289 = 98 then ((quoinref26_prefixed.f kj2 a0 (wrap64 (a1 + 2)) 2).bind fun t290 => (some (mx t290 (wrap64 (a1 + 1))))) else (if t289 = 111 then ((quoinref26_prefixed.f kj2 a0 (wrap64 (a1 + 2)) 8).bind fun t291 => (some (mx t291 (wrap64 (a1 + 1))))) else (if t289 = 120 then ((quoinref26_prefixed.f kj2 a0 (wrap64 (a1 + 2)) 16).bind fun t292 => (some (mx t292 (wrap64 (a1 + 1))))) else ((quoinref26_prefixed.f kj2 a0 (wrap64 (a1 + 1)) 8).bind fun t293 => (some (mx t293 (wrap64 (a1 + 1)))))))))) else (some (-1)))) = some r := by rw [if_neg (show ¬ (false = true) by decide)] at H; exact H
    clear H
    have H := H1
    clear H1
    replace H := bS H
    obtain ⟨t287, A8, H⟩ := H
    try dsimp only at H
    by_cases c9 : t287 = 48
    ·rw [if_pos c9] at H
     have c9b0 := e1 c9
     have c9b1 := e2 c9
     clear c9
     replace H := bS H
     obtain ⟨t288, A10, H⟩ := H
     try dsimp only at H
     replace H := bS H
     obtain ⟨t289, A11, H⟩ := H
     try dsimp only at H
     by_cases c12 : t289 = 98
     ·rw [if_pos c12] at H
      have c12b0 := e1 c12
      have c12b1 := e2 c12
      clear c12
      replace H := bS H
      obtain ⟨t290, A13, H⟩ := H
      try dsimp only at H
      obtain ⟨ji14, hji14⟩ : ∃ j_ : Int, (mx t290 (wrap64 (a1 + 1))) = j_ := ⟨_, rfl⟩
      replace H : (some ji14) = some r := by first | (rw [hji14] at H; exact H) | (simp only [hji14] at H ⊢; exact H)
      (try rw [hji14] at A8)
      (try rw [hji14] at A10)
      (try rw [hji14] at A11)
      (try rw [hji14] at A13)
      have hji14_ : (if t290 < (wrap64 (a1 + 1)) then (wrap64 (a1 + 1)) else t290) = ji14 := hji14
      obtain rfl := Option.some.inj H
      go_wp2_with (first | (refine gR (some 21) Try.func50 (quoinref26_at.calls A8.out) (h := ?_); rintro _ ⟨nd, rfl⟩) | (refine gR (some 26) Try.func50 (quoinref26_at.calls A10.out) (h := ?_); rintro _ ⟨nd, rfl⟩) | (refine gR (some 27) Try.func81 (quoinref26_low.calls A11.out) (h := ?_); rintro _ ⟨nd, rfl⟩) | (refine gR (some 37) Try.func82 (quoinref26_prefixed.calls A13.out) (h := ?_); rintro _ ⟨nd, rfl⟩))
      go_ret
      exact ⟨Z64, Z0⟩
     ·rw [if_neg c12] at H
      have c12b0 := e3 c12
      have c12b1 := e4 c12
      by_cases c15 : t289 = 111
      ·rw [if_pos c15] at H
       have c15b0 := e1 c15
       have c15b1 := e2 c15
       clear c15
       replace H := bS H
       obtain ⟨t291, A16, H⟩ := H
       try dsimp only at H
       obtain ⟨ji17, hji17⟩ : ∃ j_ : Int, (mx t291 (wrap64 (a1 + 1))) = j_ := ⟨_, rfl⟩
       replace H : (some ji17) = some r := by first | (rw [hji17] at H; exact H) | (simp only [hji17] at H ⊢; exact H)
       (try rw [hji17] at A8)
       (try rw [hji17] at A10)
       (try rw [hji17] at A11)
       (try rw [hji17] at A16)
       have hji17_ : (if t291 < (wrap64 (a1 + 1)) then (wrap64 (a1 + 1)) else t291) = ji17 := hji17
       obtain rfl := Option.some.inj H
       go_wp2_with (first | (refine gR (some 21) Try.func50 (quoinref26_at.calls A8.out) (h := ?_); rintro _ ⟨nd, rfl⟩) | (refine gR (some 26) Try.func50 (quoinref26_at.calls A10.out) (h := ?_); rintro _ ⟨nd, rfl⟩) | (refine gR (some 27) Try.func81 (quoinref26_low.calls A11.out) (h := ?_); rintro _ ⟨nd, rfl⟩) | (refine gR (some 43) Try.func82 (quoinref26_prefixed.calls A16.out) (h := ?_); rintro _ ⟨nd, rfl⟩))
       go_ret
       exact ⟨by first | rfl | (simp [errW_none, errW_some] <;> rfl) | (simp only [← hji17]; first | rfl | (simp [errW_none, errW_some] <;> rfl)) | (simp [*, errW_none, errW_some] <;> rfl), Z0⟩
      ·rw [if_neg c15] at H
       have c15b0 := e3 c15
       have c15b1 := e4 c15
       by_cases c18 : t289 = 120
       ·rw [if_pos c18] at H
        have c18b0 := e1 c18
        have c18b1 := e2 c18
        clear c18
        replace H := bS H
        obtain ⟨t292, A19, H⟩ := H
        try dsimp only at H
        obtain ⟨ji20, hji20⟩ : ∃ j_ : Int, (mx t292 (wrap64 (a1 + 1))) = j_ := ⟨_, rfl⟩
        replace H : (some ji20) = some r := by first | (rw [hji20] at H; exact H) | (simp only [hji20] at H ⊢; exact H)
        (try rw [hji20] at A8)
        (try rw [hji20] at A10)
        (try rw [hji20] at A11)
        (try rw [hji20] at A19)
        have hji20_ : (if t292 < (wrap64 (a1 + 1)) then (wrap64 (a1 + 1)) else t292) = ji20 := hji20
        obtain rfl := Option.some.inj H
        go_wp2_with (first | (refine gR (some 21) Try.func50 (quoinref26_at.calls A8.out) (h := ?_); rintro _ ⟨nd, rfl⟩) | (refine gR (some 26) Try.func50 (quoinref26_at.calls A10.out) (h := ?_); rintro _ ⟨nd, rfl⟩) | (refine gR (some 27) Try.func81 (quoinref26_low.calls A11.out) (h := ?_); rintro _ ⟨nd, rfl⟩) | (refine gR (some 49) Try.func82 (quoinref26_prefixed.calls A19.out) (h := ?_); rintro _ ⟨nd, rfl⟩))
        go_ret
        exact ⟨by first | rfl | (simp [errW_none, errW_some] <;> rfl) | (simp only [← hji20]; first | rfl | (simp [errW_none, errW_some] <;> rfl)) | (simp [*, errW_none, errW_some] <;> rfl), Z0⟩
       ·rw [if_neg c18] at H
        have c18b0 := e3 c18
        have c18b1 := e4 c18
        replace H := bS H
        obtain ⟨t293, A21, H⟩ := H
        try dsimp only at H
        obtain ⟨ji22, hji22⟩ : ∃ j_ : Int, (mx t293 (wrap64 (a1 + 1))) = j_ := ⟨_, rfl⟩
        replace H : (some ji22) = some r := by first | (rw [hji22] at H; exact H) | (simp only [hji22] at H ⊢; exact H)
        (try rw [hji22] at A8)
        (try rw [hji22] at A10)
        (try rw [hji22] at A11)
        (try rw [hji22] at A21)
        have hji22_ : (if t293 < (wrap64 (a1 + 1)) then (wrap64 (a1 + 1)) else t293) = ji22 := hji22
        obtain rfl := Option.some.inj H
        go_wp2_with (first | (refine gR (some 21) Try.func50 (quoinref26_at.calls A8.out) (h := ?_); rintro _ ⟨nd, rfl⟩) | (refine gR (some 26) Try.func50 (quoinref26_at.calls A10.out) (h := ?_); rintro _ ⟨nd, rfl⟩) | (refine gR (some 27) Try.func81 (quoinref26_low.calls A11.out) (h := ?_); rintro _ ⟨nd, rfl⟩) | (refine gR (some 31) Try.func82 (quoinref26_prefixed.calls A21.out) (h := ?_); rintro _ ⟨nd, rfl⟩))
        go_ret
        exact ⟨by first | rfl | (simp [errW_none, errW_some] <;> rfl) | (simp only [← hji22]; first | rfl | (simp [errW_none, errW_some] <;> rfl)) | (simp [*, errW_none, errW_some] <;> rfl), Z0⟩
    ·rw [if_neg c9] at H
     have c9b0 := e3 c9
     have c9b1 := e4 c9
     obtain rfl := Option.some.inj H
     go_wp2_with (first | (refine gR (some 21) Try.func50 (quoinref26_at.calls A8.out) (h := ?_); rintro _ ⟨nd, rfl⟩))
     go_ret
     exact ⟨Z2, Z0⟩
def quoinref26_exponent.f (k : Nat) (a0 : ByteArray) (a1 : Int) (a2 : Int) : Option (Int) := (quoinref26_at.f a0 a1).bind fun t294 => ((quoinref26_low.f t294).bind fun t295 => (if t295 = a2 then ((quoinref26_at.f a0 (wrap64 (a1 + 1))).bind fun t296 => (if t296 = 43 then ((quoinref26_digits.f k a0 (wrap64 ((wrap64 (a1 + 1)) + 1)) 10).bind fun t297 => (some t297)) else (if t296 = 45 then ((quoinref26_digits.f k a0 (wrap64 ((wrap64 (a1 + 1)) + 1)) 10).bind fun t298 => (some t298)) else ((quoinref26_digits.f k a0 (wrap64 (a1 + 1)) 10).bind fun t299 => (some t299))))) else (some (-1))))
set_option maxHeartbeats 8000000 in
set_option maxRecDepth 100000 in
theorem quoinref26_exponent.calls {k : Nat} {a0 : ByteArray} {a1 : Int} {a2 : Int} {r : Int} {w : World} (h : quoinref26_exponent.f k a0 a1 a2 = some r) :
  Calls Try.prog 83 #[.string a0, .int .i64 a1, .int .u8 a2] w fun e w' => e = .returned (.int .i64 r) ∧ Drawn0 w w' := by
 have H : ((quoinref26_at.f a0 a1).bind fun t294 => ((quoinref26_low.f t294).bind fun t295 => (if t295 = a2 then ((quoinref26_at.f a0 (wrap64 (a1 + 1))).bind fun t296 => (if t296 = 43 then ((quoinref26_digits.f k a0 (wrap64 ((wrap64 (a1 + 1)) + 1)) 10).bind fun t297 => (some t297)) else (if t296 = 45 then ((quoinref26_digits.f k a0 (wrap64 ((wrap64 (a1 + 1)) + 1)) 10).bind fun t298 => (some t298)) else ((quoinref26_digits.f k a0 (wrap64 (a1 + 1)) 10).bind fun t299 => (some t299))))) else (some (-1))))) = some r := h
 clear h
 replace H := bS H
 obtain ⟨t294, A4, H⟩ := H
 try dsimp only at H
 replace H := bS H
 obtain ⟨t295, A5, H⟩ := H
 try dsimp only at H
 by_cases c6 : t295 = a2
 ·rw [if_pos c6] at H
  have c6b0 := e1 c6
  have c6b1 := e2 c6
  clear c6
  replace H := bS H
  obtain ⟨t296, A7, H⟩ := H
  try dsimp only at H
  by_cases c8 : t296 = 43
  ·rw [if_pos c8] at H
   have c8b0 := e1 c8
   have c8b1 := e2 c8
   clear c8
   replace H := bS H
   obtain ⟨t297, A9, H⟩ := H
   try dsimp only at H
   obtain rfl := Option.some.inj H
   go_enter Try.func83, Try.ntmps83
   go_wp2_with (first | (refine gR (some 9) Try.func50 (quoinref26_at.calls A4.out) (h := ?_); rintro _ ⟨nd, rfl⟩) | (refine gR (some 10) Try.func81 (quoinref26_low.calls A5.out) (h := ?_); rintro _ ⟨nd, rfl⟩) | (refine gR (some 17) Try.func50 (quoinref26_at.calls A7.out) (h := ?_); rintro _ ⟨nd, rfl⟩) | (refine gR (some 29) Try.func80 (quoinref26_digits.calls A9.out) (h := ?_); rintro _ ⟨nd, rfl⟩))
   go_ret
   exact ⟨Z1, Z4⟩
  ·rw [if_neg c8] at H
   have c8b0 := e3 c8
   have c8b1 := e4 c8
   by_cases c10 : t296 = 45
   ·rw [if_pos c10] at H
    have c10b0 := e1 c10
    have c10b1 := e2 c10
    clear c10
    replace H := bS H
    obtain ⟨t298, A11, H⟩ := H
    try dsimp only at H
    obtain rfl := Option.some.inj H
    go_enter Try.func83, Try.ntmps83
    go_wp2_with (first | (refine gR (some 9) Try.func50 (quoinref26_at.calls A4.out) (h := ?_); rintro _ ⟨nd, rfl⟩) | (refine gR (some 10) Try.func81 (quoinref26_low.calls A5.out) (h := ?_); rintro _ ⟨nd, rfl⟩) | (refine gR (some 17) Try.func50 (quoinref26_at.calls A7.out) (h := ?_); rintro _ ⟨nd, rfl⟩) | (go_at_call 50; (with_reducible refine (quoinref26_at.calls A7.out).mono ?_); rintro e w' ⟨rfl, ⟨nd, rfl⟩⟩) | (refine gR (some 29) Try.func80 (quoinref26_digits.calls A11.out) (h := ?_); rintro _ ⟨nd, rfl⟩))
    go_ret
    exact ⟨Z1, Z4⟩
   ·rw [if_neg c10] at H
    have c10b0 := e3 c10
    have c10b1 := e4 c10
    replace H := bS H
    obtain ⟨t299, A12, H⟩ := H
    try dsimp only at H
    obtain rfl := Option.some.inj H
    go_enter Try.func83, Try.ntmps83
    go_wp2_with (first | (refine gR (some 9) Try.func50 (quoinref26_at.calls A4.out) (h := ?_); rintro _ ⟨nd, rfl⟩) | (refine gR (some 10) Try.func81 (quoinref26_low.calls A5.out) (h := ?_); rintro _ ⟨nd, rfl⟩) | (refine gR (some 17) Try.func50 (quoinref26_at.calls A7.out) (h := ?_); rintro _ ⟨nd, rfl⟩) | (go_at_call 50; (with_reducible refine (quoinref26_at.calls A7.out).mono ?_); rintro e w' ⟨rfl, ⟨nd, rfl⟩⟩) | (refine gR (some 29) Try.func80 (quoinref26_digits.calls A12.out) (h := ?_); rintro _ ⟨nd, rfl⟩))
    go_ret
    exact ⟨Z1, Z4⟩
 ·rw [if_neg c6] at H
  have c6b0 := e3 c6
  have c6b1 := e4 c6
  obtain rfl := Option.some.inj H
  go_enter Try.func83, Try.ntmps83
  go_wp2_with (first | (refine gR (some 9) Try.func50 (quoinref26_at.calls A4.out) (h := ?_); rintro _ ⟨nd, rfl⟩) | (refine gR (some 10) Try.func81 (quoinref26_low.calls A5.out) (h := ?_); rintro _ ⟨nd, rfl⟩))
  go_ret
  exact ⟨Z1, Z4⟩
def quoinref26_mantissa.f (k : Nat) (a0 : ByteArray) (a1 : Int) : Option (Int) := (quoinref26_at.f a0 a1).bind fun t300 => (if t300 = 46 then ((quoinref26_digits.f k a0 (wrap64 (a1 + 1)) 16).bind fun t301 => (some t301)) else ((quoinref26_prefixed.f k a0 a1 16).bind fun t302 => (if t302 < 0 then (some t302) else ((quoinref26_at.f a0 t302).bind fun t303 => (if t303 = 46 then ((quoinref26_digits.f k a0 (wrap64 (t302 + 1)) 16).bind fun t304 => (some (mx (wrap64 (t302 + 1)) t304))) else (some t302))))))
set_option maxHeartbeats 8000000 in
set_option maxRecDepth 100000 in
theorem quoinref26_mantissa.calls {k : Nat} {a0 : ByteArray} {a1 : Int} {r : Int} {w : World} (h : quoinref26_mantissa.f k a0 a1 = some r) :
  Calls Try.prog 84 #[.string a0, .int .i64 a1] w fun e w' => e = .returned (.int .i64 r) ∧ Below w.heap.size w w' := by
 have HB := Aside0.mk (Below.refl w.heap.size w)
 have H : ((quoinref26_at.f a0 a1).bind fun t300 => (if t300 = 46 then ((quoinref26_digits.f k a0 (wrap64 (a1 + 1)) 16).bind fun t301 => (some t301)) else ((quoinref26_prefixed.f k a0 a1 16).bind fun t302 => (if t302 < 0 then (some t302) else ((quoinref26_at.f a0 t302).bind fun t303 => (if t303 = 46 then ((quoinref26_digits.f k a0 (wrap64 (t302 + 1)) 16).bind fun t304 => (some (mx (wrap64 (t302 + 1)) t304))) else (some t302))))))) = some r := h
 clear h
 replace H := bS H
 obtain ⟨t300, A3, H⟩ := H
 try dsimp only at H
 by_cases c4 : t300 = 46
 ·rw [if_pos c4] at H
  have c4b0 := e1 c4
  have c4b1 := e2 c4
  clear c4
  replace H := bS H
  obtain ⟨t301, A5, H⟩ := H
  try dsimp only at H
  obtain rfl := Option.some.inj H
  go_enter Try.func84, Try.ntmps84
  go_wp2_with (first | (refine gR (some 8) Try.func50 (quoinref26_at.calls A3.out) (h := ?_); rintro _ ⟨nd, rfl⟩) | (refine gR (some 13) Try.func80 (quoinref26_digits.calls A5.out) (h := ?_); rintro _ ⟨nd, rfl⟩))
  go_ret
  exact ⟨Z2, Z0⟩
 ·rw [if_neg c4] at H
  have c4b0 := e3 c4
  have c4b1 := e4 c4
  replace H := bS H
  obtain ⟨t302, A6, H⟩ := H
  try dsimp only at H
  by_cases c7 : t302 < 0
  ·rw [if_pos c7] at H
   have c7b0 := decide_eq_true c7
   clear c7
   obtain rfl := Option.some.inj H
   go_enter Try.func84, Try.ntmps84
   go_wp2_with (first | (refine gR (some 8) Try.func50 (quoinref26_at.calls A3.out) (h := ?_); rintro _ ⟨nd, rfl⟩) | (refine gR (some 16) Try.func82 (quoinref26_prefixed.calls A6.out) (h := ?_); rintro _ ⟨nd, rfl⟩))
   go_ret
   exact ⟨Z2, Z0⟩
  ·rw [if_neg c7] at H
   have c7b0 := decide_eq_false c7
   clear c7
   replace H := bS H
   obtain ⟨t303, A8, H⟩ := H
   try dsimp only at H
   by_cases c9 : t303 = 46
   ·rw [if_pos c9] at H
    have c9b0 := e1 c9
    have c9b1 := e2 c9
    clear c9
    replace H := bS H
    obtain ⟨t304, A10, H⟩ := H
    try dsimp only at H
    obtain ⟨ji11, hji11⟩ : ∃ j_ : Int, (mx (wrap64 (t302 + 1)) t304) = j_ := ⟨_, rfl⟩
    replace H : (some ji11) = some r := by first | (rw [hji11] at H; exact H) | (simp only [hji11] at H ⊢; exact H)
    (try rw [hji11] at A3)
    (try rw [hji11] at A6)
    (try rw [hji11] at A8)
    (try rw [hji11] at A10)
    have hji11_ : (if (wrap64 (t302 + 1)) < t304 then t304 else (wrap64 (t302 + 1))) = ji11 := hji11
    obtain rfl := Option.some.inj H
    go_enter Try.func84, Try.ntmps84
    go_wp2_with (first | (refine gR (some 8) Try.func50 (quoinref26_at.calls A3.out) (h := ?_); rintro _ ⟨nd, rfl⟩) | (refine gR (some 16) Try.func82 (quoinref26_prefixed.calls A6.out) (h := ?_); rintro _ ⟨nd, rfl⟩) | (go_at_call 50; (with_reducible refine (quoinref26_at.calls A8.out).mono ?_); rintro e w' ⟨rfl, ⟨nd, rfl⟩⟩) | (refine gR (some 31) Try.func80 (quoinref26_digits.calls A10.out) (h := ?_); rintro _ ⟨nd, rfl⟩))
    go_ret
    exact ⟨by first | rfl | (simp [errW_none, errW_some] <;> rfl) | (simp only [← hji11]; first | rfl | (simp [errW_none, errW_some] <;> rfl)) | (simp [*, errW_none, errW_some] <;> rfl), Z0⟩
   ·rw [if_neg c9] at H
    have c9b0 := e3 c9
    have c9b1 := e4 c9
    obtain rfl := Option.some.inj H
    go_enter Try.func84, Try.ntmps84
    go_wp2_with (first | (refine gR (some 8) Try.func50 (quoinref26_at.calls A3.out) (h := ?_); rintro _ ⟨nd, rfl⟩) | (refine gR (some 16) Try.func82 (quoinref26_prefixed.calls A6.out) (h := ?_); rintro _ ⟨nd, rfl⟩) | (go_at_call 50; (with_reducible refine (quoinref26_at.calls A8.out).mono ?_); rintro e w' ⟨rfl, ⟨nd, rfl⟩⟩))
    go_ret
    exact ⟨Z2, Z0⟩
end Go.Proofs.Ytcajiapjdlphmaa.H
