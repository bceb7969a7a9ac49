import Derived.Test.YtcajiapjdlphmaaEPre
namespace Go.Proofs.Ytcajiapjdlphmaa.H
open Go.RowKit Go.Proofs.YtcajiapjdlphmaaW.PrintWords Go.Proofs.YtcajiapjdlphmaaW.PrintLast Go.Proofs.YtcajiapjdlphmaaW.PrintMore
attribute [local go_sem] max2_int min2_int max_two min_two max_three min_three max_four min_four
set_option linter.unusedVariables false
set_option linter.unusedSimpArgs false
def quoinref26_at.f (a0 : ByteArray) (a1 : Int) : Option (Int) := if a1 < 0 then (some 0) else (if a1 ≥ (a0.size : Int) then (some 0) else (if 0 ≤ a1 then (if a1 < (a0.size : Int) then (some (bt a0 a1)) else (none)) else (none)))
set_option maxHeartbeats 8000000 in
set_option maxRecDepth 100000 in
theorem quoinref26_at.calls {a0 : ByteArray} {a1 : Int} {r : Int} {w : World} (h : quoinref26_at.f a0 a1 = some r) :
  Calls Try.prog 50 #[.string a0, .int .i64 a1] w fun e w' => e = .returned (.int .u8 r) ∧ Drawn0 w w' := by
 have H : (if a1 < 0 then (some 0) else (if a1 ≥ (a0.size : Int) then (some 0) else (if 0 ≤ a1 then (if a1 < (a0.size : Int) then (some (bt a0 a1)) else (none)) else (none)))) = some r := h
 clear h
 by_cases c3 : a1 < 0
 ·rw [if_pos c3] at H
  have c3b0 := decide_eq_true c3
  clear c3
  obtain rfl := Option.some.inj H
  go_enter Try.func50, Try.ntmps50
  go_wp2
  go_ret
  exact ⟨Z1, Z4⟩
 ·rw [if_neg c3] at H
  have c3b0 := decide_eq_false c3
  clear c3
  by_cases c4 : a1 ≥ (a0.size : Int)
  ·rw [if_pos c4] at H
   have c4b0 : decide ((a0.size : Int) ≤ a1) = true := decide_eq_true c4
   clear c4
   obtain rfl := Option.some.inj H
   go_enter Try.func50, Try.ntmps50
   go_wp2
   go_ret
   exact ⟨Z1, Z4⟩
  ·rw [if_neg c4] at H
   have c4b0 : decide ((a0.size : Int) ≤ a1) = false := decide_eq_false c4
   clear c4
   by_cases c5 : 0 ≤ a1
   ·rw [if_pos c5] at H
    have c5b0 := decide_eq_true c5
    clear c5
    by_cases c6 : a1 < (a0.size : Int)
    ·rw [if_pos c6] at H
     have c6b0 := decide_eq_true c6
     clear c6
     obtain rfl := Option.some.inj H
     have p7 : 0 ≤ (a1 : Int) := of_decide_eq_true Z3
     have q7 : a1 < (a0.size : Int) := of_decide_eq_true Z3
     have hx7 := bt_at a0 a1
     replace p7 := eq_true p7
     replace q7 := eq_true q7
     go_enter Try.func50, Try.ntmps50
     go_wp2
     go_ret
     exact ⟨Z1, Z4⟩
    ·rw [if_neg c6] at H
     exact absurd H Z61
   ·rw [if_neg c5] at H
    exact absurd H Z61
def quoinref26_blanks.l0 : Nat → ByteArray → Int → Int → Option (Int)
 | 0, _, _, _ => none
 | k + 1, x0, x1, x5 => (quoinref26_at.f x0 x1).bind fun t236 => (if t236 = 32 then (quoinref26_blanks.l0 k x0 (wrap64 (x1 + 1)) x5) else (if t236 = 9 then (quoinref26_blanks.l0 k x0 (wrap64 (x1 + 1)) x5) else (if t236 = 13 then (quoinref26_blanks.l0 k x0 (wrap64 (x1 + 1)) x5) else (if x1 = x5 then (some (-1)) else (some x1)))))
def quoinref26_blanks.f (k : Nat) (a0 : ByteArray) (a1 : Int) : Option (Int) := quoinref26_blanks.l0 k a0 a1 a1
set_option maxHeartbeats 8000000 in
set_option maxRecDepth 100000 in
theorem quoinref26_blanks.calls {k : Nat} {a0 : ByteArray} {a1 : Int} {r : Int} {w : World} (h : quoinref26_blanks.f k a0 a1 = some r) :
  Calls Try.prog 49 #[.string a0, .int .i64 a1] w fun e w' => e = .returned (.int .i64 r) ∧ Drawn0 w w' := by
 have H : (quoinref26_blanks.l0 k a0 a1 a1) = some r := h
 clear h
 have H' := Aside0.mk H
 clear H
 go_enter Try.func49, Try.ntmps49
 go_wp2
 go_loopg [1] k (fun kq v1 w' => ∃ (x1_1 : Int), v1 = .int .i64 x1_1 ∧ Aside0 (quoinref26_blanks.l0 kq a0 x1_1 a1 = some r) ∧ Aside0 (kq ≤ k) ∧ Drawn0 w w')
 case atStart => exact ⟨(a1), Z1, H', ⟨Nat.le_refl _⟩, Z4⟩
 case round =>
  clear H'
  try clear p2
  obtain ⟨x1_1, rfl, HA, HK1, ⟨m1, rfl⟩⟩ := hrel
  cases gk with
  | zero => exact absurd HA.out (by simp [quoinref26_blanks.l0])
  | succ k1 =>
   have H := HA.out
   clear HA
   simp only [quoinref26_blanks.l0] at H
   replace H := bS H
   obtain ⟨t236, A3, H⟩ := H
   try dsimp only at H
   by_cases c4 : t236 = 32
   ·rw [if_pos c4] at H
    have c4b0 := e1 c4
    have c4b1 := e2 c4
    clear c4
    have H' := Aside0.mk H
    clear H
    go_wp2_with (first | (refine gR (some 9) Try.func50 (quoinref26_at.calls A3.out) (h := ?_); rintro _ ⟨nd, rfl⟩))
    go_roundg k1
    case measure => have := HK1.out; omega
    case rel => exact ⟨(wrap64 (x1_1 + 1)), Z1, H', ⟨Z36⟩, Z4⟩
   ·rw [if_neg c4] at H
    have c4b0 := e3 c4
    have c4b1 := e4 c4
    by_cases c5 : t236 = 9
    ·rw [if_pos c5] at H
     have c5b0 := e1 c5
     have c5b1 := e2 c5
     clear c5
     have H' := Aside0.mk H
     clear H
     go_wp2_with (first | (refine gR (some 9) Try.func50 (quoinref26_at.calls A3.out) (h := ?_); rintro _ ⟨nd, rfl⟩) | (go_at_call 50; (with_reducible refine (quoinref26_at.calls A3.out).mono ?_); rintro e w' ⟨rfl, ⟨nd, rfl⟩⟩))
     go_roundg k1
     case measure => have := HK1.out; omega
     case rel => exact ⟨(wrap64 (x1_1 + 1)), Z1, H', ⟨Z36⟩, Z4⟩
    ·rw [if_neg c5] at H
     have c5b0 := e3 c5
     have c5b1 := e4 c5
     by_cases c6 : t236 = 13
     ·rw [if_pos c6] at H
      have c6b0 := e1 c6
      have c6b1 := e2 c6
      clear c6
      have H' := Aside0.mk H
      clear H
      go_wp2_with (first | (refine gR (some 9) Try.func50 (quoinref26_at.calls A3.out) (h := ?_); rintro _ ⟨nd, rfl⟩) | (go_at_call 50; (with_reducible refine (quoinref26_at.calls A3.out).mono ?_); rintro e w' ⟨rfl, ⟨nd, rfl⟩⟩) | (go_at_call 50; (with_reducible refine (quoinref26_at.calls A3.out).mono ?_); rintro e w' ⟨rfl, ⟨nd, rfl⟩⟩))
      go_roundg k1
      case measure => have := HK1.out; omega
      case rel => exact ⟨(wrap64 (x1_1 + 1)), Z1, H', ⟨Z36⟩, Z4⟩
     ·rw [if_neg c6] at H
      have c6b0 := e3 c6
      have c6b1 := e4 c6
      by_cases c7 : x1_1 = a1
      ·rw [if_pos c7] at H
       have c7b0 := e1 c7
       have c7b1 := e2 c7
       clear c7
       obtain rfl := Option.some.inj H
       go_wp2_with (first | (refine gR (some 9) Try.func50 (quoinref26_at.calls A3.out) (h := ?_); rintro _ ⟨nd, rfl⟩) | (go_at_call 50; (with_reducible refine (quoinref26_at.calls A3.out).mono ?_); rintro e w' ⟨rfl, ⟨nd, rfl⟩⟩) | (go_at_call 50; (with_reducible refine (quoinref26_at.calls A3.out).mono ?_); rintro e w' ⟨rfl, ⟨nd, rfl⟩⟩))
       go_ret
       exact ⟨Z1, Z4⟩
      ·rw [if_neg c7] at H
       have c7b0 := e3 c7
       have c7b1 := e4 c7
       obtain rfl := Option.some.inj H
       go_wp2_with (first | (refine gR (some 9) Try.func50 (quoinref26_at.calls A3.out) (h := ?_); rintro _ ⟨nd, rfl⟩) | (go_at_call 50; (with_reducible refine (quoinref26_at.calls A3.out).mono ?_); rintro e w' ⟨rfl, ⟨nd, rfl⟩⟩) | (go_at_call 50; (with_reducible refine (quoinref26_at.calls A3.out).mono ?_); rintro e w' ⟨rfl, ⟨nd, rfl⟩⟩))
       go_ret
       exact ⟨Z1, Z4⟩
def quoinref26_best_with.f (a0_0 : Int) (a0_1 : Int) (a1 : Int) (a2 : Int) : Option (Int × Int) := if a2 > a0_1 then (some (a1, a2)) else (some (a0_0, a0_1))
set_option maxHeartbeats 8000000 in
set_option maxRecDepth 100000 in
theorem quoinref26_best_with.calls {a0_0 : Int} {a0_1 : Int} {a1 : Int} {a2 : Int} {r1 : Int} {r2 : Int} {w : World} (h : quoinref26_best_with.f a0_0 a0_1 a1 a2 = some (r1, r2)) :
  Calls Try.prog 51 #[.agg #[.int .i64 a0_0, .int .i64 a0_1], .int .i64 a1, .int .i64 a2] w fun e w' => e = .returned (.agg #[.int .i64 r1, .int .i64 r2]) ∧ Below w.heap.size w w' := by
 have hu55 := Try.underlying55
 have HB := Aside0.mk (Below.refl w.heap.size w)
 have H : (if a2 > a0_1 then (some (a1, a2)) else (some (a0_0, a0_1))) = some (r1, r2) := h
 clear h
 by_cases c4 : a2 > a0_1
 ·rw [if_pos c4] at H
  have c4b0 : decide (a0_1 < a2) = true := decide_eq_true c4
  clear c4
  simp only [Option.some.injEq, Prod.mk.injEq] at H
  obtain ⟨rfl, rfl⟩ := H
  go_enter Try.func51, Try.ntmps51
  go_wp2_with (first | ((with_reducible refine gate_dst (N := 3) rfl ?_); refine box_event ?hg (N := 3) ?hd (cs := #[.int .i64 a0_0, .int .i64 a0_1]) (t := 55) ?hr ?_; (case hd => rfl); (case hg => rfl); (case hr => first | (go_simp; done) | (go_simp; rfl)); intro gb237 hg w5 hbox hb; have BK237 := Aside0.mk (hbox); have GW237 := gE hg zB; have GE237 := gE hg zB; replace HB := Aside0.mk (below_step zB hb); clear hb hbox hg) | ((with_reducible refine gate_dst (N := 6) rfl ?_); refine box_event ?hg (N := 6) ?hd (cs := #[.int .i64 0, .int .i64 0]) (t := 55) ?hr ?_; (case hd => rfl); (case hg => rfl); (case hr => first | (go_simp; done) | (go_simp; rfl)); intro gb238 hg w6 hbox hb; have n0_ := Aside0.mk (blk_below (g := gb237) (o := .cells #[.int .i64 a0_0, .int .i64 a0_1] 55 (0, 0)) (bK BK237) hb); have n1_ := Aside0.mk (below_step zB hb); have n2_ := Aside0.mk (hbox); have n3_ := gE hg zB; have n4_ := gE hg zB; have n5_ := Aside0.mk ((by rw [hg]; exact Nat.ne_of_lt (blk_lt (g := gb237) (o := .cells #[.int .i64 a0_0, .int .i64 a0_1] 55 (0, 0)) (bK BK237)) : gb237 ≠ gb238)); have n6_ := Aside0.mk ((by rw [hg]; exact Nat.ne_of_gt (blk_lt (g := gb237) (o := .cells #[.int .i64 a0_0, .int .i64 a0_1] 55 (0, 0)) (bK BK237)) : gb238 ≠ gb237)); clear BK237; clear HB; have BK237 := n0_; have HB := n1_; have BK238 := n2_; have GW238 := n3_; have GE238 := n4_; have NB237_238 := n5_; have NB238_237 := n6_; clear n0_ n1_ n2_ n3_ n4_ n5_ n6_; clear hb hbox hg; have hnb7 := NB237_238.out; have hnc7 := NB238_237.out; have hcz8_0 := bC BK237 0 (.int .i64 a0_0); have hcz8_1 := bC BK237 1 (.int .i64 a0_1); have hfz8_0 := blk_frozen BK237.out 0; have hfz8_1 := blk_frozen BK237.out 1; have hcz9_0 := bC BK238 0 (.int .i64 0); have hcz9_1 := bC BK238 1 (.int .i64 0); have hfz9_0 := blk_frozen BK238.out 0; have hfz9_1 := blk_frozen BK238.out 1))
  refine bodyPost_ret (results_cell_row rfl _ _ gb238 55 #[.int .i64 a1, .int .i64 a2] (0, 0) _ rfl (by (with_reducible repeat (first | refine blk_drewN ?_ _ | refine blk_drew ?_ | refine blk_alloc ?_ _)); refine blk_put (cs := #[.int .i64 a1, .int .i64 0]) ?_ 1 _ rfl; (with_reducible repeat (first | refine blk_drewN ?_ _ | refine blk_drew ?_ | refine blk_alloc ?_ _)); refine blk_put (cs := #[.int .i64 0, .int .i64 0]) ?_ 0 _ rfl; (with_reducible repeat (first | refine blk_drewN ?_ _ | refine blk_drew ?_ | refine blk_alloc ?_ _)); exact BK238.out) Try.underlying55 rfl Z5) rfl ?_
  exact ⟨Z2, Z0⟩
 ·rw [if_neg c4] at H
  have c4b0 : decide (a0_1 < a2) = false := decide_eq_false c4
  clear c4
  simp only [Option.some.injEq, Prod.mk.injEq] at H
  obtain ⟨rfl, rfl⟩ := H
  go_enter Try.func51, Try.ntmps51
  go_wp2_with (first | ((with_reducible refine gate_dst (N := 3) rfl ?_); refine box_event ?hg (N := 3) ?hd (cs := #[.int .i64 a0_0, .int .i64 a0_1]) (t := 55) ?hr ?_; (case hd => rfl); (case hg => rfl); (case hr => first | (go_simp; done) | (go_simp; rfl)); intro gb237 hg w10 hbox hb; have BK237 := Aside0.mk (hbox); have GW237 := gE hg zB; have GE237 := gE hg zB; replace HB := Aside0.mk (below_step zB hb); clear hb hbox hg) | ((with_reducible refine gate_dst (N := 6) rfl ?_); refine box_event ?hg (N := 6) ?hd (cs := #[.int .i64 0, .int .i64 0]) (t := 55) ?hr ?_; (case hd => rfl); (case hg => rfl); (case hr => first | (go_simp; done) | (go_simp; rfl)); intro gb238 hg w11 hbox hb; have n0_ := Aside0.mk (blk_below (g := gb237) (o := .cells #[.int .i64 a0_0, .int .i64 a0_1] 55 (0, 0)) (bK BK237) hb); have n1_ := Aside0.mk (below_step zB hb); have n2_ := Aside0.mk (hbox); have n3_ := gE hg zB; have n4_ := gE hg zB; have n5_ := Aside0.mk ((by rw [hg]; exact Nat.ne_of_lt (blk_lt (g := gb237) (o := .cells #[.int .i64 a0_0, .int .i64 a0_1] 55 (0, 0)) (bK BK237)) : gb237 ≠ gb238)); have n6_ := Aside0.mk ((by rw [hg]; exact Nat.ne_of_gt (blk_lt (g := gb237) (o := .cells #[.int .i64 a0_0, .int .i64 a0_1] 55 (0, 0)) (bK BK237)) : gb238 ≠ gb237)); clear BK237; clear HB; have BK237 := n0_; have HB := n1_; have BK238 := n2_; have GW238 := n3_; have GE238 := n4_; have NB237_238 := n5_; have NB238_237 := n6_; clear n0_ n1_ n2_ n3_ n4_ n5_ n6_; clear hb hbox hg; have hnb12 := NB237_238.out; have hnc12 := NB238_237.out; have hcz13_0 := bC BK237 0 (.int .i64 a0_0); have hcz13_1 := bC BK237 1 (.int .i64 a0_1); have hfz13_0 := blk_frozen BK237.out 0; have hfz13_1 := blk_frozen BK237.out 1; have hcz14_0 := bC BK238 0 (.int .i64 0); have hcz14_1 := bC BK238 1 (.int .i64 0); have hfz14_0 := blk_frozen BK238.out 0; have hfz14_1 := blk_frozen BK238.out 1))
  refine bodyPost_ret (results_cell_row rfl _ _ gb238 55 #[.int .i64 a0_0, .int .i64 a0_1] (0, 0) _ rfl (by (with_reducible repeat (first | refine blk_drewN ?_ _ | refine blk_drew ?_ | refine blk_alloc ?_ _)); refine blk_put (cs := #[.int .i64 a0_0, .int .i64 0]) ?_ 1 _ rfl; (with_reducible repeat (first | refine blk_drewN ?_ _ | refine blk_drew ?_ | refine blk_alloc ?_ _)); refine blk_put (cs := #[.int .i64 0, .int .i64 0]) ?_ 0 _ rfl; (with_reducible repeat (first | refine blk_drewN ?_ _ | refine blk_drew ?_ | refine blk_alloc ?_ _)); exact BK238.out) Try.underlying55 rfl Z5) rfl ?_
  exact ⟨Z2, Z0⟩
def quoinref01_Rune.f (a0 : Int) : Option (Bool) := if a0 ≥ 0 then (if a0 ≤ 1114111 then (if a0 < 55296 then (some true) else (some (decide (a0 > 57343)))) else (some false)) else (some false)
set_option maxHeartbeats 8000000 in
set_option maxRecDepth 100000 in
theorem quoinref01_Rune.calls {a0 : Int} {r : Bool} {w : World} (h : quoinref01_Rune.f a0 = some r) :
  Calls Try.prog 60 #[.int .i32 a0] w fun e w' => e = .returned (.bool r) ∧ Drawn0 w w' := by
 have H : (if a0 ≥ 0 then (if a0 ≤ 1114111 then (if a0 < 55296 then (some true) else (some (decide (a0 > 57343)))) else (some false)) else (some false)) = some r := h
 clear h
 by_cases c2 : a0 ≥ 0
 ·rw [if_pos c2] at H
  have c2b0 : decide (0 ≤ a0) = true := decide_eq_true c2
  clear c2
  by_cases c3 : a0 ≤ 1114111
  ·rw [if_pos c3] at H
   have c3b0 := decide_eq_true c3
   clear c3
   by_cases c4 : a0 < 55296
   ·rw [if_pos c4] at H
    have c4b0 := decide_eq_true c4
    clear c4
    obtain rfl := Option.some.inj H
    go_enter Try.func60, Try.ntmps60
    go_wp2
    go_ret
    exact ⟨Z1, Z4⟩
   ·rw [if_neg c4] at H
    have c4b0 := decide_eq_false c4
    clear c4
    obtain rfl := Option.some.inj H
    go_enter Try.func60, Try.ntmps60
    go_wp2
    go_ret
    exact ⟨Z1, Z4⟩
  ·rw [if_neg c3] at H
   have c3b0 := decide_eq_false c3
   clear c3
   obtain rfl := Option.some.inj H
   go_enter Try.func60, Try.ntmps60
   go_wp2
   go_ret
   exact ⟨Z1, Z4⟩
 ·rw [if_neg c2] at H
  have c2b0 : decide (0 ≤ a0) = false := decide_eq_false c2
  clear c2
  obtain rfl := Option.some.inj H
  go_enter Try.func60, Try.ntmps60
  go_wp2
  go_ret
  exact ⟨Z1, Z4⟩
def quoinref01_bytes.f (a0 : Int) : Option (List Int) := if ((a0) % 4294967296) ≤ 127 then (some (([((a0) % 4294967296) % 256] : List Int))) else (if ((a0) % 4294967296) ≤ 2047 then (some (([((192 + (((a0) % 4294967296) / 64)) % 4294967296) % 256, 128 + (((a0) % 4294967296) % 64)] : List Int))) else (if ((a0) % 4294967296) ≤ 65535 then (some (([((224 + (((a0) % 4294967296) / 4096)) % 4294967296) % 256, 128 + ((((a0) % 4294967296) / 64) % 64), 128 + (((a0) % 4294967296) % 64)] : List Int))) else (some (([((240 + (((a0) % 4294967296) / 262144)) % 4294967296) % 256, 128 + ((((a0) % 4294967296) / 4096) % 64), 128 + ((((a0) % 4294967296) / 64) % 64), 128 + (((a0) % 4294967296) % 64)] : List Int)))))
set_option maxHeartbeats 8000000 in
set_option maxRecDepth 100000 in
theorem quoinref01_bytes.calls {a0 : Int} {r : List Int} {w : World} (h : quoinref01_bytes.f a0 = some r) :
  Calls Try.prog 61 #[.int .i32 a0] w fun e w' => ∃ v0_ : Value, e = .returned (v0_) ∧ Kd.R (Kd.int .u8) 5 w' w.heap.size (fun _ => True) v0_ r ∧ Below w.heap.size w w' := by
 have HB := Aside0.mk (Below.refl w.heap.size w)
 have H : (if ((a0) % 4294967296) ≤ 127 then (some (([((a0) % 4294967296) % 256] : List Int))) else (if ((a0) % 4294967296) ≤ 2047 then (some (([((192 + (((a0) % 4294967296) / 64)) % 4294967296) % 256, 128 + (((a0) % 4294967296) % 64)] : List Int))) else (if ((a0) % 4294967296) ≤ 65535 then (some (([((224 + (((a0) % 4294967296) / 4096)) % 4294967296) % 256, 128 + ((((a0) % 4294967296) / 64) % 64), 128 + (((a0) % 4294967296) % 64)] : List Int))) else (some (([((240 + (((a0) % 4294967296) / 262144)) % 4294967296) % 256, 128 + ((((a0) % 4294967296) / 4096) % 64), 128 + ((((a0) % 4294967296) / 64) % 64), 128 + (((a0) % 4294967296) % 64)] : List Int)))))) = some r := h
 clear h
 by_cases c2 : ((a0) % 4294967296) ≤ 127
 ·rw [if_pos c2] at H
  have c2b0 := decide_eq_true c2
  clear c2
  obtain ⟨y239, hy239⟩ : ∃ y_ : List Int, y_ = (([((a0) % 4294967296) % 256] : List Int)) := ⟨_, rfl⟩
  replace H : (some y239) = some r := by first | (rw [hy239]; with_reducible exact H) | (have H2_ := (Option.bind_some _ _).symm.trans H; rw [hy239]; with_reducible exact H2_) | (have H2_ := (Option.bind_some _ _).symm.trans H; with_reducible exact H2_) | with_reducible exact H | (rw [hy239]; exact H) | exact H
  have Ny239 := Aside0.mk hy239
  clear hy239
  obtain rfl := Option.some.inj H
  go_enter Try.func61, Try.ntmps61
  go_wp2_with (first | ((with_reducible refine gate_dst (N := 11) rfl ?_); refine Kd.R_lit (Kd.int .u8) _ 5 ?hg (N := 11) ?hd (xs := ([((a0) % 4294967296) % 256] : List Int)) (inner := [.int .u8 (((a0) % 4294967296) % 256)]) (ok := fun _ => True) (okp := fun _ => True) ?hr ?hp (fun _ hk => hk) trivial (Below.refl _ _) (Nat.le_refl _) Z61 ?_; (case hd => rfl); (case hg => rfl); (case hr => first | (go_simp; done) | (go_simp; rfl)); (case hp => exact (Reps.one (show Kd.M (Kd.int .u8) _ _ _ (((a0) % 4294967296) % 256) [.int .u8 (((a0) % 4294967296) % 256)] from rfl) (Reps.none _ _))); intro v240 w3 ho4 hb hg_ hnew_; clear hg_ hnew_; (first | rw [← Ny239.out] at ho4 | (simp only [Int.reduceToNat] at ho4; rw [← Ny239.out] at ho4)); have HO241 := Aside0.mk (Kd.R_lower ho4 (below_size zB)); replace HB := Aside0.mk (below_step zB hb); clear hb ho4))
  go_ret
  exact ⟨_, Z2, by (with_reducible repeat (first | apply Kd.R_alloc | apply Kd.R_drewN | apply Kd.R_drew)); exact HO241.out, Z0⟩
 ·rw [if_neg c2] at H
  have c2b0 := decide_eq_false c2
  clear c2
  by_cases c5 : ((a0) % 4294967296) ≤ 2047
  ·rw [if_pos c5] at H
   have c5b0 := decide_eq_true c5
   clear c5
   obtain ⟨y242, hy242⟩ : ∃ y_ : List Int, y_ = (([((192 + (((a0) % 4294967296) / 64)) % 4294967296) % 256, 128 + (((a0) % 4294967296) % 64)] : List Int)) := ⟨_, rfl⟩
   replace H : (some y242) = some r := by first | (rw [hy242]; with_reducible exact H) | (have H2_ := (Option.bind_some _ _).symm.trans H; rw [hy242]; with_reducible exact H2_) | (have H2_ := (Option.bind_some _ _).symm.trans H; with_reducible exact H2_) | with_reducible exact H | (rw [hy242]; exact H) | exact H
   have Ny242 := Aside0.mk hy242
   clear hy242
   obtain rfl := Option.some.inj H
   go_enter Try.func61, Try.ntmps61
   go_wp2_with (first | ((with_reducible refine gate_dst (N := 23) rfl ?_); refine Kd.R_lit (Kd.int .u8) _ 5 ?hg (N := 23) ?hd (xs := ([((192 + (((a0) % 4294967296) / 64)) % 4294967296) % 256, 128 + (((a0) % 4294967296) % 64)] : List Int)) (inner := [.int .u8 (((192 + (((a0) % 4294967296) / 64)) % 4294967296) % 256), .int .u8 (128 + (((a0) % 4294967296) % 64))]) (ok := fun _ => True) (okp := fun _ => True) ?hr ?hp (fun _ hk => hk) trivial (Below.refl _ _) (Nat.le_refl _) Z61 ?_; (case hd => rfl); (case hg => rfl); (case hr => first | (go_simp; done) | (go_simp; rfl)); (case hp => exact (Reps.one (show Kd.M (Kd.int .u8) _ _ _ (((192 + (((a0) % 4294967296) / 64)) % 4294967296) % 256) [.int .u8 (((192 + (((a0) % 4294967296) / 64)) % 4294967296) % 256)] from rfl) (Reps.one (show Kd.M (Kd.int .u8) _ _ _ (128 + (((a0) % 4294967296) % 64)) [.int .u8 (128 + (((a0) % 4294967296) % 64))] from rfl) (Reps.none _ _)))); intro v243 w6 ho7 hb hg_ hnew_; clear hg_ hnew_; (first | rw [← Ny242.out] at ho7 | (simp only [Int.reduceToNat] at ho7; rw [← Ny242.out] at ho7)); have HO244 := Aside0.mk (Kd.R_lower ho7 (below_size zB)); replace HB := Aside0.mk (below_step zB hb); clear hb ho7))
   go_ret
   exact ⟨_, Z2, by (with_reducible repeat (first | apply Kd.R_alloc | apply Kd.R_drewN | apply Kd.R_drew)); exact HO244.out, Z0⟩
  ·rw [if_neg c5] at H
   have c5b0 := decide_eq_false c5
   clear c5
   by_cases c8 : ((a0) % 4294967296) ≤ 65535
   ·rw [if_pos c8] at H
    have c8b0 := decide_eq_true c8
    clear c8
    obtain ⟨y245, hy245⟩ : ∃ y_ : List Int, y_ = (([((224 + (((a0) % 4294967296) / 4096)) % 4294967296) % 256, 128 + ((((a0) % 4294967296) / 64) % 64), 128 + (((a0) % 4294967296) % 64)] : List Int)) := ⟨_, rfl⟩
    replace H : (some y245) = some r := by first | (rw [hy245]; with_reducible exact H) | (have H2_ := (Option.bind_some _ _).symm.trans H; rw [hy245]; with_reducible exact H2_) | (have H2_ := (Option.bind_some _ _).symm.trans H; with_reducible exact H2_) | with_reducible exact H | (rw [hy245]; exact H) | exact H
    have Ny245 := Aside0.mk hy245
    clear hy245
    obtain rfl := Option.some.inj H
    go_enter Try.func61, Try.ntmps61
    go_wp2_with (first | ((with_reducible refine gate_dst (N := 40) rfl ?_); refine Kd.R_lit (Kd.int .u8) _ 5 ?hg (N := 40) ?hd (xs := ([((224 + (((a0) % 4294967296) / 4096)) % 4294967296) % 256, 128 + ((((a0) % 4294967296) / 64) % 64), 128 + (((a0) % 4294967296) % 64)] : List Int)) (inner := [.int .u8 (((224 + (((a0) % 4294967296) / 4096)) % 4294967296) % 256), .int .u8 (128 + ((((a0) % 4294967296) / 64) % 64)), .int .u8 (128 + (((a0) % 4294967296) % 64))]) (ok := fun _ => True) (okp := fun _ => True) ?hr ?hp (fun _ hk => hk) trivial (Below.refl _ _) (Nat.le_refl _) Z61 ?_; (case hd => rfl); (case hg => rfl); (case hr => first | (go_simp; done) | (go_simp; rfl)); (case hp => exact (Reps.one (show Kd.M (Kd.int .u8) _ _ _ (((224 + (((a0) % 4294967296) / 4096)) % 4294967296) % 256) [.int .u8 (((224 + (((a0) % 4294967296) / 4096)) % 4294967296) % 256)] from rfl) (Reps.one (show Kd.M (Kd.int .u8) _ _ _ (128 + ((((a0) % 4294967296) / 64) % 64)) [.int .u8 (128 + ((((a0) % 4294967296) / 64) % 64))] from rfl) (Reps.one (show Kd.M (Kd.int .u8) _ _ _ (128 + (((a0) % 4294967296) % 64)) [.int .u8 (128 + (((a0) % 4294967296) % 64))] from rfl) (Reps.none _ _))))); intro v246 w9 ho10 hb hg_ hnew_; clear hg_ hnew_; (first | rw [← Ny245.out] at ho10 | (simp only [Int.reduceToNat] at ho10; rw [← Ny245.out] at ho10)); have HO247 := Aside0.mk (Kd.R_lower ho10 (below_size zB)); replace HB := Aside0.mk (below_step zB hb); clear hb ho10))
    go_ret
    exact ⟨_, Z2, by (with_reducible repeat (first | apply Kd.R_alloc | apply Kd.R_drewN | apply Kd.R_drew)); exact HO247.out, Z0⟩
   ·rw [if_neg c8] at H
    have c8b0 := decide_eq_false c8
    clear c8
    obtain ⟨y248, hy248⟩ : ∃ y_ : List Int, y_ = (([((240 + (((a0) % 4294967296) / 262144)) % 4294967296) % 256, 128 + ((((a0) % 4294967296) / 4096) % 64), 128 + ((((a0) % 4294967296) / 64) % 64), 128 + (((a0) % 4294967296) % 64)] : List Int)) := ⟨_, rfl⟩
    replace H : (some y248) = some r := by first | (rw [hy248]; with_reducible exact H) | (have H2_ := (Option.bind_some _ _).symm.trans H; rw [hy248]; with_reducible exact H2_) | (have H2_ := (Option.bind_some _ _).symm.trans H; with_reducible exact H2_) | with_reducible exact H | (rw [hy248]; exact H) | exact H
    have Ny248 := Aside0.mk hy248
    clear hy248
    obtain rfl := Option.some.inj H
    go_enter Try.func61, Try.ntmps61
    go_wp2_with (first | ((with_reducible refine gate_dst (N := 59) rfl ?_); refine Kd.R_lit (Kd.int .u8) _ 5 ?hg (N := 59) ?hd (xs := ([((240 + (((a0) % 4294967296) / 262144)) % 4294967296) % 256, 128 + ((((a0) % 4294967296) / 4096) % 64), 128 + ((((a0) % 4294967296) / 64) % 64), 128 + (((a0) % 4294967296) % 64)] : List Int)) (inner := [.int .u8 (((240 + (((a0) % 4294967296) / 262144)) % 4294967296) % 256), .int .u8 (128 + ((((a0) % 4294967296) / 4096) % 64)), .int .u8 (128 + ((((a0) % 4294967296) / 64) % 64)), .int .u8 (128 + (((a0) % 4294967296) % 64))]) (ok := fun _ => True) (okp := fun _ => True) ?hr ?hp (fun _ hk => hk) trivial (Below.refl _ _) (Nat.le_refl _) Z61 ?_; (case hd => rfl); (case hg => rfl); (case hr => first | (go_simp; done) | (go_simp; rfl)); (case hp => exact (Reps.one (show Kd.M (Kd.int .u8) _ _ _ (((240 + (((a0) % 4294967296) / 262144)) % 4294967296) % 256) [.int .u8 (((240 + (((a0) % 4294967296) / 262144)) % 4294967296) % 256)] from rfl) (Reps.one (show Kd.M (Kd.int .u8) _ _ _ (128 + ((((a0) % 4294967296) / 4096) % 64)) [.int .u8 (128 + ((((a0) % 4294967296) / 4096) % 64))] from rfl) (Reps.one (show Kd.M (Kd.int .u8) _ _ _ (128 + ((((a0) % 4294967296) / 64) % 64)) [.int .u8 (128 + ((((a0) % 4294967296) / 64) % 64))] from rfl) (Reps.one (show Kd.M (Kd.int .u8) _ _ _ (128 + (((a0) % 4294967296) % 64)) [.int .u8 (128 + (((a0) % 4294967296) % 64))] from rfl) (Reps.none _ _)))))); intro v249 w11 ho12 hb hg_ hnew_; clear hg_ hnew_; (first | rw [← Ny248.out] at ho12 | (simp only [Int.reduceToNat] at ho12; rw [← Ny248.out] at ho12)); have HO250 := Aside0.mk (Kd.R_lower ho12 (below_size zB)); replace HB := Aside0.mk (below_step zB hb); clear hb ho12))
    go_ret
    exact ⟨_, Z2, by (with_reducible repeat (first | apply Kd.R_alloc | apply Kd.R_drewN | apply Kd.R_drew)); exact HO250.out, Z0⟩
mutual
def quoinref01_Next.j0 : Nat → ByteArray → Int → Bool → Option (Int × Int × Bool)
 | 0, _, _, _ => none
 | k + 1, x0, x1, x17 => if x17 = true then (some (0, 0, false)) else (quoinref01_Next.l0 k x0 x1 1)
def quoinref01_Next.l0 : Nat → ByteArray → Int → Int → Option (Int × Int × Bool)
 | 0, _, _, _ => none
 | k + 1, x0, x1, x7 => if x7 ≤ 4 then (quoinref01_Next.j2 k x0 x1 x7 (decide (x7 ≤ (wrap64 ((x0.size : Int) - x1))))) else (quoinref01_Next.j2 k x0 x1 x7 false)
def quoinref01_Next.j2 : Nat → ByteArray → Int → Int → Bool → Option (Int × Int × Bool)
 | 0, _, _, _, _ => none
 | k + 1, x0, x1, x7, x27 => if x27 = true then (if 0 ≤ x1 then (if x1 < (x0.size : Int) then (if x7 > 1 then (if 0 ≤ (wrap64 (7 - x7)) then (if (shl .u32 1 (wrap64 (7 - x7))) = 0 then (none) else (quoinref01_Next.j3 k x0 x1 x7 (((bt x0 x1) % 4294967296) % (shl .u32 1 (wrap64 (7 - x7)))))) else (none)) else (quoinref01_Next.j3 k x0 x1 x7 ((bt x0 x1) % 4294967296))) else (none)) else (none)) else (some (0, 1, false))
def quoinref01_Next.j3 : Nat → ByteArray → Int → Int → Int → Option (Int × Int × Bool)
 | 0, _, _, _, _ => none
 | k + 1, x0, x1, x7, x8 => quoinref01_Next.l1 k x0 x1 x7 x8 1
def quoinref01_Next.l1 : Nat → ByteArray → Int → Int → Int → Int → Option (Int × Int × Bool)
 | 0, _, _, _, _, _ => none
 | k + 1, x0, x1, x7, x8, x9 => if x9 < x7 then (if 0 ≤ (wrap64 (x1 + x9)) then (if (wrap64 (x1 + x9)) < (x0.size : Int) then (quoinref01_Next.l1 k x0 x1 x7 ((((x8 * 64) % 4294967296) + (((bt x0 (wrap64 (x1 + x9))) % 4294967296) % 64)) % 4294967296) (wrap64 (x9 + 1))) else (none)) else (none)) else (if x8 ≤ 1114111 then ((quoinref01_Rune.f (wrap32 (x8))).bind fun t251 => (if t251 = true then ((quoinref01_bytes.f (wrap32 (x8))).bind fun t252 => (if 0 ≤ x1 then (if x1 ≤ (wrap64 (x1 + x7)) then (if (wrap64 (x1 + x7)) ≤ (x0.size : Int) then (if (strOfNums t252).toList = (x0.extract (x1 : Int).toNat ((wrap64 (x1 + x7)) : Int).toNat).toList then (some (wrap32 (x8), x7, true)) else (quoinref01_Next.l0 k x0 x1 (wrap64 (x7 + 1)))) else (none)) else (none)) else (none))) else (quoinref01_Next.l0 k x0 x1 (wrap64 (x7 + 1))))) else (quoinref01_Next.l0 k x0 x1 (wrap64 (x7 + 1))))
end
def quoinref01_Next.f (k : Nat) (a0 : ByteArray) (a1 : Int) : Option (Int × Int × Bool) := if a1 < 0 then (quoinref01_Next.j0 k a0 a1 true) else (quoinref01_Next.j0 k a0 a1 (decide (a1 ≥ (a0.size : Int))))
def quoinref01_Next.T8 : Bool × List (List Nat × List Nat) := (true, [([], []), ([], []), ([0, 1], [0, 1]), ([2], [2]), ([], []), ([4], [4]), ([5], [5]), ([3, 6], [3, 6]), ([7, 0, 1, 2, 3, 4, 5, 6, 7], [7])])
def quoinref01_Next.B8 : List Nat := [0, 0, 3, 7, 0, 16, 48, 127, 255]
theorem quoinref01_Next.tab8 : rtab .any (opsOf Try.f32 8) = quoinref01_Next.T8 := by kernel_rfl
theorem quoinref01_Next.bits8 : waitsOk quoinref01_Next.T8.2 quoinref01_Next.B8 = true := by kernel_rfl
def quoinref01_Next.T13 : Bool × List (List Nat × List Nat) := (true, [([], []), ([0], [0]), ([1], [1]), ([2], [2]), ([3, 2], [2, 3]), ([4, 2, 2], [2, 4]), ([2, 5], [2, 5]), ([6, 5], [6]), ([7], [7]), ([8, 7], [7, 8]), ([9, 7, 7], [7, 9]), ([10, 7], [7, 10]), ([7], [7]), ([7], [7]), ([7], [7]), ([7], [7]), ([14, 15, 7], [7, 14, 15]), ([12, 13, 16, 7], [7, 12, 13, 16]), ([11, 17, 7], [7, 11, 17]), ([7, 18], [7, 18])])
def quoinref01_Next.B13 : List Nat := [0, 1, 3, 7, 15, 31, 63, 127, 255, 511, 1023, 2047, 255, 255, 255, 255, 49407, 127231, 262143, 524287]
theorem quoinref01_Next.tab13 : rtab .any (opsOf Try.f32 13) = quoinref01_Next.T13 := by kernel_rfl
theorem quoinref01_Next.bits13 : waitsOk quoinref01_Next.T13.2 quoinref01_Next.B13 = true := by kernel_rfl
set_option maxHeartbeats 8000000 in
set_option maxRecDepth 100000 in
theorem quoinref01_Next.calls {k : Nat} {a0 : ByteArray} {a1 : Int} {r1 : Int} {r2 : Int} {r3 : Bool} {w : World} (h : quoinref01_Next.f k a0 a1 = some (r1, r2, r3)) :
  Calls Try.prog 32 #[.string a0, .int .i64 a1] w fun e w' => e = .returned (.tuple #[.int .i32 r1, .int .i64 r2, .bool r3]) ∧ Below w.heap.size w w' := by
 have HB := Aside0.mk (Below.refl w.heap.size w)
 have H : (if a1 < 0 then (quoinref01_Next.j0 k a0 a1 true) else (quoinref01_Next.j0 k a0 a1 (decide (a1 ≥ (a0.size : Int))))) = some (r1, r2, r3) := h
 clear h
 have HC3 := Aside0.mk H
 clear H
 go_enter Try.func32, Try.ntmps32
 go_upto_region 1 with (fail)
 go_cut [17] (fun v17 wc => ∃ (kq : Nat) (x17_2 : Bool), v17 = .bool x17_2 ∧ Aside0 (quoinref01_Next.j0 kq a0 a1 x17_2 = some (r1, r2, r3)) ∧ Aside0 (kq ≤ k) ∧ Aside0 (Below w.heap.size w wc))
 case first =>
  have H := HC3.out
  clear HC3
  by_cases c4 : a1 < 0
  ·rw [if_pos c4] at H
   have c4b0 := decide_eq_true c4
   clear c4
   (first | rw [c4b0] | (simp only [i64_w, i32_w]; rw [c4b0]) | skip)
   have H' := Aside0.mk H
   clear H
   go_wp2
   go_meet
   case rel => exact ⟨_, (true), Z1, H', ⟨Z26⟩, ⟨Z0⟩⟩
  ·rw [if_neg c4] at H
   have c4b0 := decide_eq_false c4
   clear c4
   (first | rw [c4b0] | (simp only [i64_w, i32_w]; rw [c4b0]) | skip)
   have H' := Aside0.mk H
   clear H
   go_wp2
   go_meet
   case rel => exact ⟨_, (decide (a1 ≥ (a0.size : Int))), Z1, H', ⟨Z26⟩, ⟨Z0⟩⟩
 case rest =>
  clear HC3
  try clear p2
  try clear c3
  try clear c4
  try clear c4b0
  obtain ⟨kq, x17_2, rfl, HA, HJ2, HB⟩ := hcut
  cases kq with
  | zero => exact absurd HA.out (by simp [quoinref01_Next.j0])
  | succ kj2 =>
   have H := HA.out
   clear HA
   simp only [quoinref01_Next.j0] at H
   by_cases c5 : x17_2 = true
   ·subst c5
    have H1 : (some (0, 0, false)) = some (r1, r2, r3) := by rw [if_pos rfl] at H; exact H
    clear H
    have H := H1
    clear H1
    simp only [Option.some.injEq, Prod.mk.injEq] at H
    obtain ⟨rfl, rfl, rfl⟩ := H
    go_wp2
    go_ret3
    exact ⟨Z2, Z0⟩
   ·replace c5 := Bool.eq_false_iff.mpr c5
    subst c5
    have H1 : (quoinref01_Next.l0 kj2 a0 a1 1) = some (r1, r2, r3) := by rw [if_neg (show ¬ (false = true) by decide)] at H; exact H
    clear H
    have H := H1
    clear H1
    have H' := Aside0.mk H
    clear H
    go_wp2
    go_loopg [7] kj2 (fun kq v7 w' => ∃ (x7_2 : Int), v7 = .int .i64 x7_2 ∧ Aside0 (quoinref01_Next.l0 kq a0 a1 x7_2 = some (r1, r2, r3)) ∧ Aside0 (kq ≤ kj2) ∧ Aside0 (Below w.heap.size w w'))
    case atStart => exact ⟨(1), Z1, H', ⟨Nat.le_refl _⟩, ⟨Z0⟩⟩
    case round =>
     clear H'
     try clear p2
     try clear c3
     try clear c4
     try clear c4b0
     try clear c5
     try clear p2
     obtain ⟨x7_2, rfl, HA, HK2, HB⟩ := hrel
     cases gk with
     | zero => exact absurd HA.out (by simp [quoinref01_Next.l0])
     | succ k2 =>
      have H := HA.out
      clear HA
      simp only [quoinref01_Next.l0] at H
      have HC6 := Aside0.mk H
      clear H
      go_upto_region 4 with (fail)
      go_cut [27] (fun v27 wc => ∃ (kq : Nat) (x27_5 : Bool), v27 = .bool x27_5 ∧ Aside0 (quoinref01_Next.j2 kq a0 a1 x7_2 x27_5 = some (r1, r2, r3)) ∧ Aside0 (kq ≤ k2) ∧ Aside0 (Below w.heap.size w wc))
      case first =>
       have H := HC6.out
       clear HC6
       by_cases c7 : x7_2 ≤ 4
       ·rw [if_pos c7] at H
        have c7b0 := decide_eq_true c7
        clear c7
        (first | rw [c7b0] | (simp only [i64_w, i32_w]; rw [c7b0]) | skip)
        have H' := Aside0.mk H
        clear H
        go_wp2
        go_meet
        case rel => exact ⟨_, (decide (x7_2 ≤ (wrap64 ((a0.size : Int) - a1)))), Z1, H', ⟨by have := HJ2.out; have := HK2.out; first | omega | exact Nat.le_refl _⟩, ⟨Z0⟩⟩
       ·rw [if_neg c7] at H
        have c7b0 := decide_eq_false c7
        clear c7
        (first | rw [c7b0] | (simp only [i64_w, i32_w]; rw [c7b0]) | skip)
        have H' := Aside0.mk H
        clear H
        go_wp2
        go_meet
        case rel => exact ⟨_, (false), Z1, H', ⟨by have := HJ2.out; have := HK2.out; first | omega | exact Nat.le_refl _⟩, ⟨Z0⟩⟩
      case rest =>
       clear HC6
       try clear p2
       try clear c3
       try clear c4
       try clear c4b0
       try clear c5
       try clear p6
       try clear c7
       try clear c7b0
       try clear p2
       obtain ⟨kq, x27_5, rfl, HA, HJ5, HB⟩ := hcut
       cases kq with
       | zero => exact absurd HA.out (by simp [quoinref01_Next.j2])
       | succ kj5 =>
        have H := HA.out
        clear HA
        simp only [quoinref01_Next.j2] at H
        by_cases c8 : x27_5 = true
        ·subst c8
         have H1 : (if 0 ≤ a1 then (if a1 < (a0.size : Int) then (if x7_2 > 1 then (if 0 ≤ (wrap64 (7 - x7_2)) then (if (shl .u32 1 (wrap64 (7 - x7_2))) = 0 then (none) else (quoinref01_Next.j3 kj5 a0 a1 x7_2 (((bt a0 a1) % 4294967296) % (shl .u32 1 (wrap64 (7 - x7_2)))))) else (none)) else (quoinref01_Next.j3 kj5 a0 a1 x7_2 ((bt a0 a1) % 4294967296))) else (none)) else (none)) = some (r1, r2, r3) := by rw [if_pos rfl] at H; exact H
         clear H
         have H := H1
         clear H1
         by_cases c9 : 0 ≤ a1
         ·rw [if_pos c9] at H
          have c9b0 := decide_eq_true c9
          clear c9
          by_cases c10 : a1 < (a0.size : Int)
          ·rw [if_pos c10] at H
           have c10b0 := decide_eq_true c10
           clear c10
           have HC12 := Aside0.mk H
           clear H
           have p11 : 0 ≤ (a1 : Int) := of_decide_eq_true Z3
           have q11 : a1 < (a0.size : Int) := of_decide_eq_true Z3
           have hx11 := bt_at a0 a1
           replace p11 := eq_true p11
           replace q11 := eq_true q11
           go_upto_if 35 with (fail)
           go_cut [8] (fun v8 wc => ∃ (kq : Nat) (x8_11 : Int), v8 = .int .u32 x8_11 ∧ Aside0 (quoinref01_Next.j3 kq a0 a1 x7_2 x8_11 = some (r1, r2, r3)) ∧ Aside0 (kq ≤ kj5) ∧ Aside0 (Below w.heap.size w wc))
           case first =>
            have H := HC12.out
            clear HC12
            by_cases c13 : x7_2 > 1
            ·rw [if_pos c13] at H
             have c13b0 : decide (1 < x7_2) = true := decide_eq_true c13
             clear c13
             (first | rw [c13b0] | (simp only [i64_w, i32_w]; rw [c13b0]) | skip)
             obtain ⟨ji15, hji15⟩ : ∃ j_ : Int, (wrap64 (7 - x7_2)) = j_ := ⟨_, rfl⟩
             replace H : (if 0 ≤ (ji15) then (if (shl .u32 1 (ji15)) = 0 then (none) else (quoinref01_Next.j3 kj5 a0 a1 x7_2 (((bt a0 a1) % 4294967296) % (shl .u32 1 (ji15))))) else (none)) = some (r1, r2, r3) := by first | (rw [hji15] at H; exact H) | (simp only [hji15] at H ⊢; exact H)
             have hji15w : (IntKind.i64.wrap (7 - x7_2)) = ji15 := (i64_w _).trans hji15
             by_cases c16 : 0 ≤ (ji15)
             ·rw [if_pos c16] at H
              have c16b0 := eq_true c16
              have c16b1 := decide_eq_true c16
              clear c16
              obtain ⟨ji17, hji17⟩ : ∃ j_ : Int, (shl .u32 1 (ji15)) = j_ := ⟨_, rfl⟩
              replace H : (if (ji17) = 0 then (none) else (quoinref01_Next.j3 kj5 a0 a1 x7_2 (((bt a0 a1) % 4294967296) % (ji17)))) = some (r1, r2, r3) := by first | (rw [hji17] at H; exact H) | (simp only [hji17] at H ⊢; exact H)
              have hji17_ : (IntKind.u32.wrap (1 * 2 ^ min (ji15).toNat 32)) = ji17 := hji17
              have hji17z : (ji15) ≤ 32 → (IntKind.u32.wrap (1 * 2 ^ (ji15).toNat)) = ji17 := shl_small hji17
              have hji17u : (IntKind.u32.wrap (2 ^ min (ji15).toNat 32)) = ji17 := by have h_ := hji17_; rw [Int.one_mul] at h_; exact h_
              have hji17v : (ji15) ≤ 32 → (IntKind.u32.wrap (2 ^ (ji15).toNat)) = ji17 := fun hle_ => by have h_ := hji17z hle_; rw [Int.one_mul] at h_; exact h_
              by_cases c18 : (ji17) = 0
              ·rw [if_pos c18] at H
               exact absurd H Z61
              ·rw [if_neg c18] at H
               have c18b0 := e3 c18
               have c18b1 := e4 c18
               have H' := Aside0.mk H
               clear H
               try go_wp2
               replace HB := Aside0.mk (below_drew1 HB.out)
               have p14 : 0 ≤ (a1 : Int) := of_decide_eq_true Z3
               have q14 : a1 < (a0.size : Int) := of_decide_eq_true Z3
               have hx14 := bt_at a0 a1
               replace p14 := eq_true p14
               replace q14 := eq_true q14
               refine start_ (n := 9) (S := fun w' => True) (ds := []) #[false, false, false, false, false, false, false, false, false] Z5 rfl rfl trivial (fun hHeld => ?_); refine with_tabW quoinref01_Next.tab8 quoinref01_Next.bits8 (fun HT_ HW_ => ?_)
               generalize wc.drew = w19 at HB hHeld ⊢
               refine pU 0 36 (hc := (any_of HT_.out Z5)) (h := ?_)
               refine pU 1 37 (hc := (any_of HT_.out Z5)) (h := ?_)
               refine pU 4 40 (hc := (any_of HT_.out Z5)) (h := ?_)
               refine pU 5 41 (hc := (any_of HT_.out Z5)) (h := ?_)
               refine pU 6 42 (hc := (any_of HT_.out Z5)) (h := ?_)
               refine take_ (i := 2) (N := some 38) (v := ?_) (a' := ?_) #[true, true, true, false, true, true, true, false, false] rfl rfl (take_ofW HT_.out HW_.out Z5) (fun _ _ _ h => h) (Or.inl ⟨Z67, ?_⟩) hHeld ?_ ?_
               rotate_left
               ·intro w' _
                go_simp
                with_reducible rfl
               rotate_left
               ·simp only [Act.put, List.setIfInBounds_toArray, List.set_cons_zero, List.set_cons_succ, i64_w, i32_w]
                rfl
               refine pU 3 39 (hc := (any_of HT_.out Z5)) (h := ?_)
               refine pU 7 43 (hc := (any_of HT_.out Z5)) (h := ?_)
               refine pU 8 8 (hc := (any_of HT_.out Z5)) (h := ?_)
               refine done_ (done_of HT_.out Z5) ?_
               try go_wp2
               go_meet
               case rel => exact ⟨_, (((bt a0 a1) % 4294967296) % (ji17)), Z52, H', ⟨by have := HJ2.out; have := HK2.out; have := HJ5.out; first | omega | exact Nat.le_refl _⟩, ⟨Z0⟩⟩
             ·rw [if_neg c16] at H
              exact absurd H Z61
            ·rw [if_neg c13] at H
             have c13b0 : decide (1 < x7_2) = false := decide_eq_false c13
             clear c13
             (first | rw [c13b0] | (simp only [i64_w, i32_w]; rw [c13b0]) | skip)
             have H' := Aside0.mk H
             clear H
             go_wp2
             go_meet
             case rel => exact ⟨_, ((bt a0 a1) % 4294967296), Z1, H', ⟨by have := HJ2.out; have := HK2.out; have := HJ5.out; first | omega | exact Nat.le_refl _⟩, ⟨Z0⟩⟩
           case rest =>
            clear HC12
            try clear c1
            try clear p1
            try clear q1
            try clear hx1
            try clear p2
            try clear c3
            try clear c4
            try clear c4b0
            try clear c5
            try clear p6
            try clear c7
            try clear c7b0
            try clear c8
            try clear c9
            try clear c9b0
            try clear c10
            try clear c10b0
            try clear p11
            try clear q11
            try clear hx11
            try clear c13
            try clear c13b0
            try clear p14
            try clear q14
            try clear hx14
            try clear c16
            try clear c16b0
            try clear c16b1
            try clear c18
            try clear c18b0
            try clear c18b1
            try clear p11
            try clear p14
            try clear p2
            try clear p6
            try clear q11
            try clear q14
            obtain ⟨kq, x8_11, rfl, HA, HJ11, HB⟩ := hcut
            cases kq with
            | zero => exact absurd HA.out (by simp [quoinref01_Next.j3])
            | succ kj11 =>
             have H := HA.out
             clear HA
             simp only [quoinref01_Next.j3] at H
             have H' := Aside0.mk H
             clear H
             go_wp2
             go_loopg [8, 9] kj11 (fun kq v8 v9 w' => ∃ (x8_5 : Int) (x9_5 : Int), v8 = .int .u32 x8_5 ∧ v9 = .int .i64 x9_5 ∧ Aside0 (quoinref01_Next.l1 kq a0 a1 x7_2 x8_5 x9_5 = some (r1, r2, r3)) ∧ Aside0 (kq ≤ kj11) ∧ Aside0 (Below w.heap.size w w'))
             case atStart => exact ⟨(x8_11), (1), Z1, Z1, H', ⟨Nat.le_refl _⟩, ⟨Z0⟩⟩
             case round =>
              clear H'
              try clear c1
              try clear p1
              try clear q1
              try clear hx1
              try clear p2
              try clear c3
              try clear c4
              try clear c4b0
              try clear c5
              try clear p6
              try clear c7
              try clear c7b0
              try clear c8
              try clear c9
              try clear c9b0
              try clear c10
              try clear c10b0
              try clear p11
              try clear q11
              try clear hx11
              try clear c13
              try clear c13b0
              try clear p14
              try clear q14
              try clear hx14
              try clear c16
              try clear c16b0
              try clear c16b1
              try clear c18
              try clear c18b0
              try clear c18b1
              try clear p1
              try clear p11
              try clear p14
              try clear p2
              try clear p6
              try clear q1
              try clear q11
              try clear q14
              obtain ⟨x8_5, x9_5, rfl, rfl, HA, HK5, HB⟩ := hrel
              cases gk with
              | zero => exact absurd HA.out (by simp [quoinref01_Next.l1])
              | succ k5 =>
               have H := HA.out
               clear HA
               simp only [quoinref01_Next.l1] at H
               by_cases c20 : x9_5 < x7_2
               ·rw [if_pos c20] at H
                have c20b0 := decide_eq_true c20
                clear c20
                obtain ⟨ji21, hji21⟩ : ∃ j_ : Int, (wrap64 (a1 + x9_5)) = j_ := ⟨_, rfl⟩
                replace H : (if 0 ≤ (ji21) then (if (ji21) < (a0.size : Int) then (quoinref01_Next.l1 k5 a0 a1 x7_2 ((((x8_5 * 64) % 4294967296) + (((bt a0 (ji21)) % 4294967296) % 64)) % 4294967296) (wrap64 (x9_5 + 1))) else (none)) else (none)) = some (r1, r2, r3) := by first | (rw [hji21] at H; exact H) | (simp only [hji21] at H ⊢; exact H)
                have hji21w : (IntKind.i64.wrap (a1 + x9_5)) = ji21 := (i64_w _).trans hji21
                by_cases c22 : 0 ≤ (ji21)
                ·rw [if_pos c22] at H
                 have c22b0 := decide_eq_true c22
                 clear c22
                 by_cases c23 : (ji21) < (a0.size : Int)
                 ·rw [if_pos c23] at H
                  have c23b0 := decide_eq_true c23
                  clear c23
                  have H' := Aside0.mk H
                  clear H
                  have p24 : 0 ≤ ((ji21) : Int) := of_decide_eq_true Z3
                  have q24 : (ji21) < (a0.size : Int) := of_decide_eq_true Z3
                  have hx24 := bt_at a0 (ji21)
                  replace p24 := eq_true p24
                  replace q24 := eq_true q24
                  go_wp2
                  go_roundg k5
                  case measure => have := HJ2.out; have := HK2.out; have := HJ5.out; have := HJ11.out; have := HK5.out; omega
                  case rel => exact ⟨((((x8_5 * 64) % 4294967296) + (((bt a0 (ji21)) % 4294967296) % 64)) % 4294967296), (wrap64 (x9_5 + 1)), (by first | rfl | (simp; done) | (simp only [← hji21] <;> (first | rfl | (simp; done))) | (simp only [← hji21] <;> rw [u32_tmod]) | (simp only [← hji21] <;> simp <;> omega) | (simp [*]; done) | (simp <;> omega) | rw [u32_tmod]), Z1, H', ⟨Z72⟩, ⟨Z0⟩⟩
                 ·rw [if_neg c23] at H
                  exact absurd H Z61
                ·rw [if_neg c22] at H
                 exact absurd H Z61
               ·rw [if_neg c20] at H
                have c20b0 := decide_eq_false c20
                clear c20
                by_cases c25 : x8_5 ≤ 1114111
                ·rw [if_pos c25] at H
                 have c25b0 := decide_eq_true c25
                 clear c25
                 replace H := bS H
                 obtain ⟨t251, A26, H⟩ := H
                 try dsimp only at H
                 by_cases c27 : t251 = true
                 ·subst c27
                  have H1 : ((quoinref01_bytes.f (wrap32 (x8_5))).bind fun t252 => (if 0 ≤ a1 then (if a1 ≤ (wrap64 (a1 + x7_2)) then (if (wrap64 (a1 + x7_2)) ≤ (a0.size : Int) then (if (strOfNums t252).toList = (a0.extract (a1 : Int).toNat ((wrap64 (a1 + x7_2)) : Int).toNat).toList then (some (wrap32 (x8_5), x7_2, true)) else (quoinref01_Next.l0 k5 a0 a1 (wrap64 (x7_2 + 1)))) else (none)) else (none)) else (none))) = some (r1, r2, r3) := by rw [if_pos rfl] at H; exact H
                  clear H
                  have H := H1
                  clear H1
                  replace H := bS H
                  obtain ⟨t252, A28, H⟩ := H
                  try dsimp only at H
                  by_cases c29 : 0 ≤ a1
                  ·rw [if_pos c29] at H
                   have c29b0 := eq_true c29
                   have c29b1 := decide_eq_true c29
                   clear c29
                   by_cases c30 : a1 ≤ (wrap64 (a1 + x7_2))
                   ·rw [if_pos c30] at H
                    have c30b0 := eq_true c30
                    have c30b1 := decide_eq_true c30
                    by_cases c31 : (wrap64 (a1 + x7_2)) ≤ (a0.size : Int)
                    ·rw [if_pos c31] at H
                     have c31b0 := eq_true c31
                     have c31b1 := decide_eq_true c31
                     by_cases c32 : (strOfNums t252).toList = (a0.extract (a1 : Int).toNat ((wrap64 (a1 + x7_2)) : Int).toNat).toList
                     ·rw [if_pos c32] at H
                      have c32b0 := e1 c32
                      have c32b1 := e2 c32
                      clear c32
                      simp only [Option.some.injEq, Prod.mk.injEq] at H
                      obtain ⟨rfl, rfl, rfl⟩ := H
                      try go_wp2
                      replace HB := Aside0.mk (below_drew1 HB.out)
                      refine start_ (n := 20) (S := fun w' => True) (ds := []) #[false, false, false, false, false, false, false, false, false, false, false, false, false, false, false, false, false, false, false, false] Z5 rfl rfl trivial (fun hHeld => ?_); refine with_tabW quoinref01_Next.tab13 quoinref01_Next.bits13 (fun HT_ HW_ => ?_)
                      generalize wr.drew = w33 at HB hHeld ⊢
                      refine pU 0 59 (hc := (any_of HT_.out Z5)) (h := ?_)
                      refine pU 1 60 (hc := (any_of HT_.out Z5)) (h := ?_)
                      refine pU 2 61 (hc := (any_of HT_.out Z5)) (h := ?_)
                      refine pU 3 62 (hc := (any_of HT_.out Z5)) (h := ?_)
                      refine pU 4 63 (hc := (any_of HT_.out Z5)) (h := ?_)
                      refine oN 5 (some 64) (hc := (one_of HT_.out Z5)) (h := fun K hK => ?_)
                      refine gS Try.func60 (quoinref01_Rune.calls A26.out) (h := ?_)
                      rintro _ ⟨nd, rfl⟩
                      refine hK.out _ _ trivial (fun hHeld => ?_)
                      clear hK K
                      refine nO 64 (h := ?_)
                      refine pU 6 65 (hc := (any_of HT_.out Z5)) (h := ?_)
                      refine pU 7 66 (hc := (any_of HT_.out Z5)) (h := ?_)
                      refine pU 8 67 (hc := (any_of HT_.out Z5)) (h := ?_)
                      refine pU 9 68 (hc := (any_of HT_.out Z5)) (h := ?_)
                      refine pU 12 71 (hc := (any_of HT_.out Z5)) (h := ?_)
                      refine pU 13 72 (hc := (any_of HT_.out Z5)) (h := ?_)
                      refine pU 14 73 (hc := (any_of HT_.out Z5)) (h := ?_)
                      refine pU 15 74 (hc := (any_of HT_.out Z5)) (h := ?_)
                      refine pU 16 75 (hc := (any_of HT_.out Z5)) (h := ?_)
                      refine pU 17 76 (hc := (any_of HT_.out Z5)) (h := ?_)
                      refine oN 10 (some 69) (hc := (one_of HT_.out Z5)) (h := fun K hK => ?_)
                      refine gT Try.func61 (quoinref01_bytes.calls A28.out) (h := ?_)
                      rintro v253 w34 ⟨ho0, hb⟩
                      have HO254 := Aside0.mk (Kd.R_lower ho0 (below_size zB))
                      replace HB := Aside0.mk (below_step zB hb)
                      (try clear hb)
                      (try clear hb2)
                      (try clear hk)
                      (try clear hi)
                      (try clear ho0)
                      refine hK.out _ _ trivial (fun hHeld => ?_)
                      clear hK K
                      refine nO 69 (h := ?_)
                      refine oN 11 (some 70) (hc := (one_of HT_.out Z5)) (h := fun K hK => ?_)
                      have hcv35 := own_string (P := Try.prog) Try.underlying77 Try.underlying5 Try.underlying9 (Kd.own_of_R HO254.out)
                      refine value_ (w1 := ?_) (v := ?_) Z67 rfl ?_ ?_
                      rotate_left 2
                      ·go_simp
                       constructor
                       ·rfl
                       ·rfl
                      clear hcv35
                      refine hK.out _ _ trivial (fun hHeld => ?_)
                      clear hK K
                      refine nO 70 (h := ?_)
                      refine pU 18 77 (hc := (any_of HT_.out Z5)) (h := ?_)
                      refine pU 19 78 (hc := (any_of HT_.out Z5)) (h := ?_)
                      refine done_ (done_of HT_.out Z5) ?_
                      try go_wp2
                      go_ret3
                      exact ⟨Z2, Z0⟩
                     ·rw [if_neg c32] at H
                      have c32b0 := e3 c32
                      have c32b1 := e4 c32
                      have H' := Aside0.mk H
                      clear H
                      try go_wp2
                      replace HB := Aside0.mk (below_drew1 HB.out)
                      refine start_ (n := 20) (S := fun w' => True) (ds := []) #[false, false, false, false, false, false, false, false, false, false, false, false, false, false, false, false, false, false, false, false] Z5 rfl rfl trivial (fun hHeld => ?_); refine with_tabW quoinref01_Next.tab13 quoinref01_Next.bits13 (fun HT_ HW_ => ?_)
                      generalize wr.drew = w36 at HB hHeld ⊢
                      refine pU 0 59 (hc := (any_of HT_.out Z5)) (h := ?_)
                      refine pU 1 60 (hc := (any_of HT_.out Z5)) (h := ?_)
                      refine pU 2 61 (hc := (any_of HT_.out Z5)) (h := ?_)
                      refine pU 3 62 (hc := (any_of HT_.out Z5)) (h := ?_)
                      refine pU 4 63 (hc := (any_of HT_.out Z5)) (h := ?_)
                      refine oN 5 (some 64) (hc := (one_of HT_.out Z5)) (h := fun K hK => ?_)
                      refine gS Try.func60 (quoinref01_Rune.calls A26.out) (h := ?_)
                      rintro _ ⟨nd, rfl⟩
                      refine hK.out _ _ trivial (fun hHeld => ?_)
                      clear hK K
                      refine nO 64 (h := ?_)
                      refine pU 6 65 (hc := (any_of HT_.out Z5)) (h := ?_)
                      refine pU 7 66 (hc := (any_of HT_.out Z5)) (h := ?_)
                      refine pU 8 67 (hc := (any_of HT_.out Z5)) (h := ?_)
                      refine pU 9 68 (hc := (any_of HT_.out Z5)) (h := ?_)
                      refine pU 12 71 (hc := (any_of HT_.out Z5)) (h := ?_)
                      refine pU 13 72 (hc := (any_of HT_.out Z5)) (h := ?_)
                      refine pU 14 73 (hc := (any_of HT_.out Z5)) (h := ?_)
                      refine pU 15 74 (hc := (any_of HT_.out Z5)) (h := ?_)
                      refine pU 16 75 (hc := (any_of HT_.out Z5)) (h := ?_)
                      refine pU 17 76 (hc := (any_of HT_.out Z5)) (h := ?_)
                      refine oN 10 (some 69) (hc := (one_of HT_.out Z5)) (h := fun K hK => ?_)
                      refine gT Try.func61 (quoinref01_bytes.calls A28.out) (h := ?_)
                      rintro v253 w37 ⟨ho0, hb⟩
                      have HO254 := Aside0.mk (Kd.R_lower ho0 (below_size zB))
                      replace HB := Aside0.mk (below_step zB hb)
                      (try clear hb)
                      (try clear hb2)
                      (try clear hk)
                      (try clear hi)
                      (try clear ho0)
                      refine hK.out _ _ trivial (fun hHeld => ?_)
                      clear hK K
                      refine nO 69 (h := ?_)
                      refine oN 11 (some 70) (hc := (one_of HT_.out Z5)) (h := fun K hK => ?_)
                      have hcv38 := own_string (P := Try.prog) Try.underlying77 Try.underlying5 Try.underlying9 (Kd.own_of_R HO254.out)
                      refine value_ (w1 := ?_) (v := ?_) Z67 rfl ?_ ?_
                      rotate_left 2
                      ·go_simp
                       constructor
                       ·rfl
                       ·rfl
                      clear hcv38
                      refine hK.out _ _ trivial (fun hHeld => ?_)
                      clear hK K
                      refine nO 70 (h := ?_)
                      refine pU 18 77 (hc := (any_of HT_.out Z5)) (h := ?_)
                      refine pU 19 78 (hc := (any_of HT_.out Z5)) (h := ?_)
                      refine done_ (done_of HT_.out Z5) ?_
                      try go_wp2
                      go_roundg k5
                      case measure => have := HJ2.out; have := HK2.out; have := HJ5.out; have := HJ11.out; have := HK5.out; omega
                      case rel => exact ⟨(wrap64 (x7_2 + 1)), Z1, H', ⟨Z72⟩, ⟨Z0⟩⟩
                    ·rw [if_neg c31] at H
                     exact absurd H Z61
                   ·rw [if_neg c30] at H
                    exact absurd H Z61
                  ·rw [if_neg c29] at H
                   exact absurd H Z61
                 ·replace c27 := Bool.eq_false_iff.mpr c27
                  subst c27
                  have H1 : (quoinref01_Next.l0 k5 a0 a1 (wrap64 (x7_2 + 1))) = some (r1, r2, r3) := by rw [if_neg (show ¬ (false = true) by decide)] at H; exact H
                  clear H
                  have H := H1
                  clear H1
                  have H' := Aside0.mk H
                  clear H
                  try go_wp2
                  replace HB := Aside0.mk (below_drew1 HB.out)
                  refine start_ (n := 20) (S := fun w' => True) (ds := []) #[false, false, false, false, false, false, false, false, false, false, false, false, false, false, false, false, false, false, false, false] Z5 rfl rfl trivial (fun hHeld => ?_); refine with_tabW quoinref01_Next.tab13 quoinref01_Next.bits13 (fun HT_ HW_ => ?_)
                  generalize wr.drew = w39 at HB hHeld ⊢
                  refine pU 0 59 (hc := (any_of HT_.out Z5)) (h := ?_)
                  refine pU 1 60 (hc := (any_of HT_.out Z5)) (h := ?_)
                  refine pU 2 61 (hc := (any_of HT_.out Z5)) (h := ?_)
                  refine pU 3 62 (hc := (any_of HT_.out Z5)) (h := ?_)
                  refine pU 4 63 (hc := (any_of HT_.out Z5)) (h := ?_)
                  refine oN 5 (some 64) (hc := (one_of HT_.out Z5)) (h := fun K hK => ?_)
                  refine gS Try.func60 (quoinref01_Rune.calls A26.out) (h := ?_)
                  rintro _ ⟨nd, rfl⟩
                  refine hK.out _ _ trivial (fun hHeld => ?_)
                  clear hK K
                  refine nO 64 (h := ?_)
                  refine pU 6 65 (hc := (any_of HT_.out Z5)) (h := ?_)
                  refine pU 7 66 (hc := (any_of HT_.out Z5)) (h := ?_)
                  refine pV 8 67 (hc := (any_of HT_.out Z5)) (h := ?_)
                  refine pV 9 68 (hc := (any_of HT_.out Z5)) (h := ?_)
                  refine pV 10 69 (hc := (any_of HT_.out Z5)) (h := ?_)
                  refine pV 11 70 (hc := (any_of HT_.out Z5)) (h := ?_)
                  refine pV 12 71 (hc := (any_of HT_.out Z5)) (h := ?_)
                  refine pV 13 72 (hc := (any_of HT_.out Z5)) (h := ?_)
                  refine pV 14 73 (hc := (any_of HT_.out Z5)) (h := ?_)
                  refine pV 15 74 (hc := (any_of HT_.out Z5)) (h := ?_)
                  refine pV 16 75 (hc := (any_of HT_.out Z5)) (h := ?_)
                  refine pV 17 76 (hc := (any_of HT_.out Z5)) (h := ?_)
                  refine pV 18 77 (hc := (any_of HT_.out Z5)) (h := ?_)
                  refine pU 19 78 (hc := (any_of HT_.out Z5)) (h := ?_)
                  refine done_ (done_of HT_.out Z5) ?_
                  try go_wp2
                  go_roundg k5
                  case measure => have := HJ2.out; have := HK2.out; have := HJ5.out; have := HJ11.out; have := HK5.out; omega
                  case rel => exact ⟨(wrap64 (x7_2 + 1)), Z1, H', ⟨Z72⟩, ⟨Z0⟩⟩
                ·rw [if_neg c25] at H
                 have c25b0 := decide_eq_false c25
                 clear c25
                 have H' := Aside0.mk H
                 clear H
                 try go_wp2
                 replace HB := Aside0.mk (below_drew1 HB.out)
                 refine start_ (n := 20) (S := fun w' => True) (ds := []) #[false, false, false, false, false, false, false, false, false, false, false, false, false, false, false, false, false, false, false, false] Z5 rfl rfl trivial (fun hHeld => ?_); refine with_tabW quoinref01_Next.tab13 quoinref01_Next.bits13 (fun HT_ HW_ => ?_)
                 generalize wr.drew = w40 at HB hHeld ⊢
                 refine pU 0 59 (hc := (any_of HT_.out Z5)) (h := ?_)
                 refine pU 1 60 (hc := (any_of HT_.out Z5)) (h := ?_)
                 refine pU 2 61 (hc := (any_of HT_.out Z5)) (h := ?_)
                 refine pV 3 62 (hc := (any_of HT_.out Z5)) (h := ?_)
                 refine pV 4 63 (hc := (any_of HT_.out Z5)) (h := ?_)
                 refine pV 5 64 (hc := (any_of HT_.out Z5)) (h := ?_)
                 refine pU 6 65 (hc := (any_of HT_.out Z5)) (h := ?_)
                 refine pU 7 66 (hc := (any_of HT_.out Z5)) (h := ?_)
                 refine pV 8 67 (hc := (any_of HT_.out Z5)) (h := ?_)
                 refine pV 9 68 (hc := (any_of HT_.out Z5)) (h := ?_)
                 refine pV 10 69 (hc := (any_of HT_.out Z5)) (h := ?_)
                 refine pV 11 70 (hc := (any_of HT_.out Z5)) (h := ?_)
                 refine pV 12 71 (hc := (any_of HT_.out Z5)) (h := ?_)
                 refine pV 13 72 (hc := (any_of HT_.out Z5)) (h := ?_)
                 refine pV 14 73 (hc := (any_of HT_.out Z5)) (h := ?_)
                 refine pV 15 74 (hc := (any_of HT_.out Z5)) (h := ?_)
                 refine pV 16 75 (hc := (any_of HT_.out Z5)) (h := ?_)
                 refine pV 17 76 (hc := (any_of HT_.out Z5)) (h := ?_)
                 refine pV 18 77 (hc := (any_of HT_.out Z5)) (h := ?_)
                 refine pU 19 78 (hc := (any_of HT_.out Z5)) (h := ?_)
                 refine done_ (done_of HT_.out Z5) ?_
                 try go_wp2
                 go_roundg k5
                 case measure => have := HJ2.out; have := HK2.out; have := HJ5.out; have := HJ11.out; have := HK5.out; omega
                 case rel => exact ⟨(wrap64 (x7_2 + 1)), Z1, H', ⟨Z72⟩, ⟨Z0⟩⟩
          ·rw [if_neg c10] at H
           exact absurd H Z61
         ·rw [if_neg c9] at H
          exact absurd H Z61
        ·replace c8 := Bool.eq_false_iff.mpr c8
         subst c8
         have H1 : (some (0, 1, false)) = some (r1, r2, r3) := by rw [if_neg (show ¬ (false = true) by decide)] at H; exact H
         clear H
         have H := H1
         clear H1
         simp only [Option.some.injEq, Prod.mk.injEq] at H
         obtain ⟨rfl, rfl, rfl⟩ := H
         go_wp2
         go_ret3
         exact ⟨Z2, Z0⟩
def quoinref26_piece.f (k : Nat) (a0 : ByteArray) (a1 : Int) : Option (Int × Int) := (quoinref01_Next.f k a0 a1).bind fun bt255 => (if bt255.2.2 = true then (if bt255.1 = 0 then (some (0, 0)) else (if bt255.1 = 65279 then (some (0, 0)) else (some (bt255.1, bt255.2.1)))) else (some (0, 0)))
set_option maxHeartbeats 8000000 in
set_option maxRecDepth 100000 in
theorem quoinref26_piece.calls {k : Nat} {a0 : ByteArray} {a1 : Int} {r1 : Int} {r2 : Int} {w : World} (h : quoinref26_piece.f k a0 a1 = some (r1, r2)) :
  Calls Try.prog 77 #[.string a0, .int .i64 a1] w fun e w' => e = .returned (.tuple #[.int .i32 r1, .int .i64 r2]) ∧ Below w.heap.size w w' := by
 have HB := Aside0.mk (Below.refl w.heap.size w)
 have H : ((quoinref01_Next.f k a0 a1).bind fun bt255 => (if bt255.2.2 = true then (if bt255.1 = 0 then (some (0, 0)) else (if bt255.1 = 65279 then (some (0, 0)) else (some (bt255.1, bt255.2.1)))) else (some (0, 0)))) = some (r1, r2) := h
 clear h
 replace H := bS H
 obtain ⟨⟨t255, t256, t257⟩, A3, H⟩ := H
 try dsimp only at H
 by_cases c4 : t257 = true
 ·subst c4
  have H1 : (if t255 = 0 then (some (0, 0)) else (if t255 = 65279 then (some (0, 0)) else (some (t255, t256)))) = some (r1, r2) := by rw [if_pos rfl] at H; exact H
  clear H
  have H := H1
  clear H1
  by_cases c5 : t255 = 0
  ·rw [if_pos c5] at H
   have c5b0 := e1 c5
   have c5b1 := e2 c5
   clear c5
   simp only [Option.some.injEq, Prod.mk.injEq] at H
   obtain ⟨rfl, rfl⟩ := H
   go_enter Try.func77, Try.ntmps77
   go_wp2_with (first | (refine gR (some 12) Try.func32 (quoinref01_Next.calls A3.out) (h := ?_); rintro w6 hb; replace HB := Aside0.mk (below_step zB hb); (try clear hb); (try clear hb2); (try clear hk); (try clear hi)))
   go_ret2
   exact ⟨Z2, Z0⟩
  ·rw [if_neg c5] at H
   have c5b0 := e3 c5
   have c5b1 := e4 c5
   by_cases c7 : t255 = 65279
   ·rw [if_pos c7] at H
    have c7b0 := e1 c7
    have c7b1 := e2 c7
    clear c7
    simp only [Option.some.injEq, Prod.mk.injEq] at H
    obtain ⟨rfl, rfl⟩ := H
    go_enter Try.func77, Try.ntmps77
    go_wp2_with (first | (refine gR (some 12) Try.func32 (quoinref01_Next.calls A3.out) (h := ?_); rintro w8 hb; replace HB := Aside0.mk (below_step zB hb); (try clear hb); (try clear hb2); (try clear hk); (try clear hi)))
    go_ret2
    exact ⟨Z2, Z0⟩
   ·rw [if_neg c7] at H
    have c7b0 := e3 c7
    have c7b1 := e4 c7
    simp only [Option.some.injEq, Prod.mk.injEq] at H
    obtain ⟨rfl, rfl⟩ := H
    go_enter Try.func77, Try.ntmps77
    go_wp2_with (first | (refine gR (some 12) Try.func32 (quoinref01_Next.calls A3.out) (h := ?_); rintro w9 hb; replace HB := Aside0.mk (below_step zB hb); (try clear hb); (try clear hb2); (try clear hk); (try clear hi)))
    go_ret2
    exact ⟨Z2, Z0⟩
 ·replace c4 := Bool.eq_false_iff.mpr c4
  subst c4
  have H1 : (some (0, 0)) = some (r1, r2) := by rw [if_neg (show ¬ (false = true) by decide)] at H; exact H
  clear H
  have H := H1
  clear H1
  simp only [Option.some.injEq, Prod.mk.injEq] at H
  obtain ⟨rfl, rfl⟩ := H
  go_enter Try.func77, Try.ntmps77
  go_wp2_with (first | (refine gR (some 12) Try.func32 (quoinref01_Next.calls A3.out) (h := ?_); rintro w10 hb; replace HB := Aside0.mk (below_step zB hb); (try clear hb); (try clear hb2); (try clear hk); (try clear hi)))
  go_ret2
  exact ⟨Z2, Z0⟩
end Go.Proofs.Ytcajiapjdlphmaa.H
